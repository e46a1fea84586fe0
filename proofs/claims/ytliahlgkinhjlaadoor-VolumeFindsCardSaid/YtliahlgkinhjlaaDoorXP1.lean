import Derived.Test.YtliahlgkinhjlaaDoorXFn
import Derived.Test.YtliahlgkinhjlaaDoorXS
import Derived.Test.YtliahlgkinhjlaaDoorAmK0
import Derived.Test.YtliahlgkinhjlaaDoorSh
import Derived.Test.YtliahlgkinhjlaaDoorXP0
/- That they do. -/
namespace Go.Proofs.YtliahlgkinhjlaaDoor
open Go.AM Go.AX
set_option linter.unusedVariables false
set_option maxRecDepth 20000

/-- cartridge/cartridgeref10.RightHead -/
theorem ok_cartridgeref10_RightHead (h1 : Head_api) (r : Bool) (hX : X.cartridgeref10_RightHead h1 = some r) : Fun Tryd.prog 44 [Enc.v (h1 : Head_api)] (· = Enc.v (r : Bool)) := by
  refine Fun.of b44 (Nat.le_of_ble_eq_true rfl) (allVal.mem ⟨(by exact (v_val _)), trivial⟩) ?_
  unfold k44
  have nd : Nd [] := Nd_nil
  unfold X.cartridgeref10_RightHead at hX
  refine SR fun K2 hK2 => ?_
  refine TLc.boxV (lu := [Enc.v h1.Path, Enc.v h1.Version, Enc.v h1.Size, Enc.v h1.From, Enc.v h1.Len, Enc.v h1.Serial, Enc.v h1.Sum, Enc.v h1.Gone]) nd rfl (Cells_v (h1 : Head_api)) rfl ?_
  refine M rfl rfl (TL.nil (hK2 _ _ ?_))
  refine TK.seq_k fun K3 hK3 => ?_
  refine SR fun K4 hK4 => P1 (p_faR fs23_0 (by decide) rfl) rfl rfl (P1 (p_ldR (v := Enc.v h1.Path) ty9 rfl rfl rfl rfl rfl rfl) rfl rfl ?_)
  obtain ⟨r5, hr5, hX⟩ := bind_some hX
  refine TL.cvX rfl rfl rfl (fun _ => ⟨rfl, ⟨rfl, trivial⟩⟩) (fun e => ok_cartridgeref1_RightPath h1.Path _ hr5) ?_
  refine P1 (p_not rfl) rfl rfl (M rfl rfl ?_)
  refine TLc.p (gc := (!((!r5)))) (p_faR fs23_1 (by decide) rfl (hg := fun e => rfl)) (gcF1 rfl) rfl ?_
  refine TLc.p (gc := (!((!r5)))) (p_ldR (v := Enc.v h1.Version) ty3 rfl rfl rfl rfl rfl rfl (hg := fun e => e)) (gcF1 rfl) rfl ?_
  refine TLc.p (gc := (!((!r5)))) (p_lss rfl rfl (hg := fun e => ⟨e, rfl⟩)) (gcF1 rfl) rfl ?_
  refine P1 (p_or rfl rfl (fun e => ⟨rfl, fun h => (not_t h)⟩)) rfl rfl (M rfl rfl ?_)
  refine TLc.p (gc := (!(((!r5) || (decide (h1.Version < (1 : Int))))))) (p_faR fs23_1 (by decide) rfl (hg := fun e => rfl)) (gcF1 rfl) rfl ?_
  refine TLc.p (gc := (!(((!r5) || (decide (h1.Version < (1 : Int))))))) (p_ldR (v := Enc.v h1.Version) ty3 rfl rfl rfl rfl rfl rfl (hg := fun e => e)) (gcF1 rfl) rfl ?_
  refine TLc.p (gc := (!(((!r5) || (decide (h1.Version < (1 : Int))))))) (p_gtr rfl rfl (hg := fun e => ⟨e, rfl⟩)) (gcF1 rfl) rfl ?_
  refine P1 (p_or rfl rfl (fun e => ⟨rfl, fun h => (not_t h)⟩)) rfl rfl (M rfl rfl ?_)
  refine TLc.p (gc := (!((((!r5) || (decide (h1.Version < (1 : Int)))) || (decide (h1.Version > (1073741824 : Int))))))) (p_faR fs23_5 (by decide) rfl (hg := fun e => rfl)) (gcF1 rfl) rfl ?_
  refine TLc.p (gc := (!((((!r5) || (decide (h1.Version < (1 : Int)))) || (decide (h1.Version > (1073741824 : Int))))))) (p_ldR (v := Enc.v h1.Serial) ty3 rfl rfl rfl rfl rfl rfl (hg := fun e => e)) (gcF1 rfl) rfl ?_
  refine TLc.p (gc := (!((((!r5) || (decide (h1.Version < (1 : Int)))) || (decide (h1.Version > (1073741824 : Int))))))) (p_lss rfl rfl (hg := fun e => ⟨e, rfl⟩)) (gcF1 rfl) rfl ?_
  refine P1 (p_or rfl rfl (fun e => ⟨rfl, fun h => (not_t h)⟩)) rfl rfl (M rfl rfl ?_)
  refine TLc.p (gc := (!(((((!r5) || (decide (h1.Version < (1 : Int)))) || (decide (h1.Version > (1073741824 : Int)))) || (decide (h1.Serial < (1 : Int))))))) (p_faR fs23_5 (by decide) rfl (hg := fun e => rfl)) (gcF1 rfl) rfl ?_
  refine TLc.p (gc := (!(((((!r5) || (decide (h1.Version < (1 : Int)))) || (decide (h1.Version > (1073741824 : Int)))) || (decide (h1.Serial < (1 : Int))))))) (p_ldR (v := Enc.v h1.Serial) ty3 rfl rfl rfl rfl rfl rfl (hg := fun e => e)) (gcF1 rfl) rfl ?_
  refine TLc.p (gc := (!(((((!r5) || (decide (h1.Version < (1 : Int)))) || (decide (h1.Version > (1073741824 : Int)))) || (decide (h1.Serial < (1 : Int))))))) (p_gtr rfl rfl (hg := fun e => ⟨e, rfl⟩)) (gcF1 rfl) rfl ?_
  refine P1 (p_or rfl rfl (fun e => ⟨rfl, fun h => (not_t h)⟩)) rfl rfl (M rfl rfl ?_)
  refine TLc.p (gc := (!((((((!r5) || (decide (h1.Version < (1 : Int)))) || (decide (h1.Version > (1073741824 : Int)))) || (decide (h1.Serial < (1 : Int)))) || (decide (h1.Serial > (1073741824 : Int))))))) (p_faR fs23_2 (by decide) rfl (hg := fun e => rfl)) (gcF1 rfl) rfl ?_
  refine TLc.p (gc := (!((((((!r5) || (decide (h1.Version < (1 : Int)))) || (decide (h1.Version > (1073741824 : Int)))) || (decide (h1.Serial < (1 : Int)))) || (decide (h1.Serial > (1073741824 : Int))))))) (p_ldR (v := Enc.v h1.Size) ty3 rfl rfl rfl rfl rfl rfl (hg := fun e => e)) (gcF1 rfl) rfl ?_
  refine TLc.p (gc := (!((((((!r5) || (decide (h1.Version < (1 : Int)))) || (decide (h1.Version > (1073741824 : Int)))) || (decide (h1.Serial < (1 : Int)))) || (decide (h1.Serial > (1073741824 : Int))))))) (p_lss rfl rfl (hg := fun e => ⟨e, rfl⟩)) (gcF1 rfl) rfl ?_
  refine P1 (p_or rfl rfl (fun e => ⟨rfl, fun h => (not_t h)⟩)) rfl rfl (M rfl rfl ?_)
  refine TLc.p (gc := (!(((((((!r5) || (decide (h1.Version < (1 : Int)))) || (decide (h1.Version > (1073741824 : Int)))) || (decide (h1.Serial < (1 : Int)))) || (decide (h1.Serial > (1073741824 : Int)))) || (decide (h1.Size < (0 : Int))))))) (p_faR fs23_2 (by decide) rfl (hg := fun e => rfl)) (gcF1 rfl) rfl ?_
  refine TLc.p (gc := (!(((((((!r5) || (decide (h1.Version < (1 : Int)))) || (decide (h1.Version > (1073741824 : Int)))) || (decide (h1.Serial < (1 : Int)))) || (decide (h1.Serial > (1073741824 : Int)))) || (decide (h1.Size < (0 : Int))))))) (p_ldR (v := Enc.v h1.Size) ty3 rfl rfl rfl rfl rfl rfl (hg := fun e => e)) (gcF1 rfl) rfl ?_
  refine TLc.p (gc := (!(((((((!r5) || (decide (h1.Version < (1 : Int)))) || (decide (h1.Version > (1073741824 : Int)))) || (decide (h1.Serial < (1 : Int)))) || (decide (h1.Serial > (1073741824 : Int)))) || (decide (h1.Size < (0 : Int))))))) (p_gtr rfl rfl (hg := fun e => ⟨e, rfl⟩)) (gcF1 rfl) rfl ?_
  refine P1 (p_or rfl rfl (fun e => ⟨rfl, fun h => (not_t h)⟩)) rfl rfl (M rfl rfl ?_)
  refine TLc.p (gc := (!((((((((!r5) || (decide (h1.Version < (1 : Int)))) || (decide (h1.Version > (1073741824 : Int)))) || (decide (h1.Serial < (1 : Int)))) || (decide (h1.Serial > (1073741824 : Int)))) || (decide (h1.Size < (0 : Int)))) || (decide (h1.Size > (4000 : Int))))))) (p_faR fs23_3 (by decide) rfl (hg := fun e => rfl)) (gcF1 rfl) rfl ?_
  refine TLc.p (gc := (!((((((((!r5) || (decide (h1.Version < (1 : Int)))) || (decide (h1.Version > (1073741824 : Int)))) || (decide (h1.Serial < (1 : Int)))) || (decide (h1.Serial > (1073741824 : Int)))) || (decide (h1.Size < (0 : Int)))) || (decide (h1.Size > (4000 : Int))))))) (p_ldR (v := Enc.v h1.From) ty3 rfl rfl rfl rfl rfl rfl (hg := fun e => e)) (gcF1 rfl) rfl ?_
  refine TLc.p (gc := (!((((((((!r5) || (decide (h1.Version < (1 : Int)))) || (decide (h1.Version > (1073741824 : Int)))) || (decide (h1.Serial < (1 : Int)))) || (decide (h1.Serial > (1073741824 : Int)))) || (decide (h1.Size < (0 : Int)))) || (decide (h1.Size > (4000 : Int))))))) (p_lss rfl rfl (hg := fun e => ⟨e, rfl⟩)) (gcF1 rfl) rfl ?_
  refine P1 (p_or rfl rfl (fun e => ⟨rfl, fun h => (not_t h)⟩)) rfl rfl (M rfl rfl ?_)
  refine TLc.p (gc := (!(((((((((!r5) || (decide (h1.Version < (1 : Int)))) || (decide (h1.Version > (1073741824 : Int)))) || (decide (h1.Serial < (1 : Int)))) || (decide (h1.Serial > (1073741824 : Int)))) || (decide (h1.Size < (0 : Int)))) || (decide (h1.Size > (4000 : Int)))) || (decide (h1.From < (0 : Int))))))) (p_faR fs23_4 (by decide) rfl (hg := fun e => rfl)) (gcF1 rfl) rfl ?_
  refine TLc.p (gc := (!(((((((((!r5) || (decide (h1.Version < (1 : Int)))) || (decide (h1.Version > (1073741824 : Int)))) || (decide (h1.Serial < (1 : Int)))) || (decide (h1.Serial > (1073741824 : Int)))) || (decide (h1.Size < (0 : Int)))) || (decide (h1.Size > (4000 : Int)))) || (decide (h1.From < (0 : Int))))))) (p_ldR (v := Enc.v h1.Len) ty3 rfl rfl rfl rfl rfl rfl (hg := fun e => e)) (gcF1 rfl) rfl ?_
  refine TLc.p (gc := (!(((((((((!r5) || (decide (h1.Version < (1 : Int)))) || (decide (h1.Version > (1073741824 : Int)))) || (decide (h1.Serial < (1 : Int)))) || (decide (h1.Serial > (1073741824 : Int)))) || (decide (h1.Size < (0 : Int)))) || (decide (h1.Size > (4000 : Int)))) || (decide (h1.From < (0 : Int))))))) (p_lss rfl rfl (hg := fun e => ⟨e, rfl⟩)) (gcF1 rfl) rfl ?_
  refine P1 (p_or rfl rfl (fun e => ⟨rfl, fun h => (not_t h)⟩)) rfl rfl (M rfl rfl ?_)
  refine TLc.p (gc := (!((((((((((!r5) || (decide (h1.Version < (1 : Int)))) || (decide (h1.Version > (1073741824 : Int)))) || (decide (h1.Serial < (1 : Int)))) || (decide (h1.Serial > (1073741824 : Int)))) || (decide (h1.Size < (0 : Int)))) || (decide (h1.Size > (4000 : Int)))) || (decide (h1.From < (0 : Int)))) || (decide (h1.Len < (0 : Int))))))) (p_faR fs23_3 (by decide) rfl (hg := fun e => rfl)) (gcF1 rfl) rfl ?_
  refine TLc.p (gc := (!((((((((((!r5) || (decide (h1.Version < (1 : Int)))) || (decide (h1.Version > (1073741824 : Int)))) || (decide (h1.Serial < (1 : Int)))) || (decide (h1.Serial > (1073741824 : Int)))) || (decide (h1.Size < (0 : Int)))) || (decide (h1.Size > (4000 : Int)))) || (decide (h1.From < (0 : Int)))) || (decide (h1.Len < (0 : Int))))))) (p_ldR (v := Enc.v h1.From) ty3 rfl rfl rfl rfl rfl rfl (hg := fun e => e)) (gcF1 rfl) rfl ?_
  refine TLc.p (gc := (!((((((((((!r5) || (decide (h1.Version < (1 : Int)))) || (decide (h1.Version > (1073741824 : Int)))) || (decide (h1.Serial < (1 : Int)))) || (decide (h1.Serial > (1073741824 : Int)))) || (decide (h1.Size < (0 : Int)))) || (decide (h1.Size > (4000 : Int)))) || (decide (h1.From < (0 : Int)))) || (decide (h1.Len < (0 : Int))))))) (p_faR fs23_2 (by decide) rfl (hg := fun e => rfl)) (gcF1 rfl) rfl ?_
  refine TLc.p (gc := (!((((((((((!r5) || (decide (h1.Version < (1 : Int)))) || (decide (h1.Version > (1073741824 : Int)))) || (decide (h1.Serial < (1 : Int)))) || (decide (h1.Serial > (1073741824 : Int)))) || (decide (h1.Size < (0 : Int)))) || (decide (h1.Size > (4000 : Int)))) || (decide (h1.From < (0 : Int)))) || (decide (h1.Len < (0 : Int))))))) (p_ldR (v := Enc.v h1.Size) ty3 rfl rfl rfl rfl rfl rfl (hg := fun e => e)) (gcF1 rfl) rfl ?_
  refine TLc.p (gc := (!((((((((((!r5) || (decide (h1.Version < (1 : Int)))) || (decide (h1.Version > (1073741824 : Int)))) || (decide (h1.Serial < (1 : Int)))) || (decide (h1.Serial > (1073741824 : Int)))) || (decide (h1.Size < (0 : Int)))) || (decide (h1.Size > (4000 : Int)))) || (decide (h1.From < (0 : Int)))) || (decide (h1.Len < (0 : Int))))))) (p_gtr rfl rfl (hg := fun e => ⟨e, e⟩)) (gcF1 rfl) rfl ?_
  refine P1 (p_or rfl rfl (fun e => ⟨rfl, fun h => (not_t h)⟩)) rfl rfl (M rfl rfl ?_)
  refine TLc.p (gc := (!(((((((((((!r5) || (decide (h1.Version < (1 : Int)))) || (decide (h1.Version > (1073741824 : Int)))) || (decide (h1.Serial < (1 : Int)))) || (decide (h1.Serial > (1073741824 : Int)))) || (decide (h1.Size < (0 : Int)))) || (decide (h1.Size > (4000 : Int)))) || (decide (h1.From < (0 : Int)))) || (decide (h1.Len < (0 : Int)))) || (decide (h1.From > h1.Size)))))) (p_faR fs23_4 (by decide) rfl (hg := fun e => rfl)) (gcF1 rfl) rfl ?_
  refine TLc.p (gc := (!(((((((((((!r5) || (decide (h1.Version < (1 : Int)))) || (decide (h1.Version > (1073741824 : Int)))) || (decide (h1.Serial < (1 : Int)))) || (decide (h1.Serial > (1073741824 : Int)))) || (decide (h1.Size < (0 : Int)))) || (decide (h1.Size > (4000 : Int)))) || (decide (h1.From < (0 : Int)))) || (decide (h1.Len < (0 : Int)))) || (decide (h1.From > h1.Size)))))) (p_ldR (v := Enc.v h1.Len) ty3 rfl rfl rfl rfl rfl rfl (hg := fun e => e)) (gcF1 rfl) rfl ?_
  refine TLc.p (gc := (!(((((((((((!r5) || (decide (h1.Version < (1 : Int)))) || (decide (h1.Version > (1073741824 : Int)))) || (decide (h1.Serial < (1 : Int)))) || (decide (h1.Serial > (1073741824 : Int)))) || (decide (h1.Size < (0 : Int)))) || (decide (h1.Size > (4000 : Int)))) || (decide (h1.From < (0 : Int)))) || (decide (h1.Len < (0 : Int)))) || (decide (h1.From > h1.Size)))))) (p_faR fs23_2 (by decide) rfl (hg := fun e => rfl)) (gcF1 rfl) rfl ?_
  refine TLc.p (gc := (!(((((((((((!r5) || (decide (h1.Version < (1 : Int)))) || (decide (h1.Version > (1073741824 : Int)))) || (decide (h1.Serial < (1 : Int)))) || (decide (h1.Serial > (1073741824 : Int)))) || (decide (h1.Size < (0 : Int)))) || (decide (h1.Size > (4000 : Int)))) || (decide (h1.From < (0 : Int)))) || (decide (h1.Len < (0 : Int)))) || (decide (h1.From > h1.Size)))))) (p_ldR (v := Enc.v h1.Size) ty3 rfl rfl rfl rfl rfl rfl (hg := fun e => e)) (gcF1 rfl) rfl ?_
  refine TLc.p (gc := (!(((((((((((!r5) || (decide (h1.Version < (1 : Int)))) || (decide (h1.Version > (1073741824 : Int)))) || (decide (h1.Serial < (1 : Int)))) || (decide (h1.Serial > (1073741824 : Int)))) || (decide (h1.Size < (0 : Int)))) || (decide (h1.Size > (4000 : Int)))) || (decide (h1.From < (0 : Int)))) || (decide (h1.Len < (0 : Int)))) || (decide (h1.From > h1.Size)))))) (p_faR fs23_3 (by decide) rfl (hg := fun e => rfl)) (gcF1 rfl) rfl ?_
  refine TLc.p (gc := (!(((((((((((!r5) || (decide (h1.Version < (1 : Int)))) || (decide (h1.Version > (1073741824 : Int)))) || (decide (h1.Serial < (1 : Int)))) || (decide (h1.Serial > (1073741824 : Int)))) || (decide (h1.Size < (0 : Int)))) || (decide (h1.Size > (4000 : Int)))) || (decide (h1.From < (0 : Int)))) || (decide (h1.Len < (0 : Int)))) || (decide (h1.From > h1.Size)))))) (p_ldR (v := Enc.v h1.From) ty3 rfl rfl rfl rfl rfl rfl (hg := fun e => e)) (gcF1 rfl) rfl ?_
  refine TLc.p (gc := (!(((((((((((!r5) || (decide (h1.Version < (1 : Int)))) || (decide (h1.Version > (1073741824 : Int)))) || (decide (h1.Serial < (1 : Int)))) || (decide (h1.Serial > (1073741824 : Int)))) || (decide (h1.Size < (0 : Int)))) || (decide (h1.Size > (4000 : Int)))) || (decide (h1.From < (0 : Int)))) || (decide (h1.Len < (0 : Int)))) || (decide (h1.From > h1.Size)))))) (p_sub rfl rfl (hg := fun e => ⟨e, e⟩)) (gcF1 rfl) rfl ?_
  refine TLc.p (gc := (!(((((((((((!r5) || (decide (h1.Version < (1 : Int)))) || (decide (h1.Version > (1073741824 : Int)))) || (decide (h1.Serial < (1 : Int)))) || (decide (h1.Serial > (1073741824 : Int)))) || (decide (h1.Size < (0 : Int)))) || (decide (h1.Size > (4000 : Int)))) || (decide (h1.From < (0 : Int)))) || (decide (h1.Len < (0 : Int)))) || (decide (h1.From > h1.Size)))))) (p_gtr rfl rfl (hg := fun e => ⟨e, e⟩)) (gcF1 rfl) rfl ?_
  refine P1 (p_or rfl rfl (fun e => ⟨rfl, fun h => (not_t h)⟩)) rfl rfl (M rfl rfl ?_)
  refine TLc.p (gc := (!((((((((((((!r5) || (decide (h1.Version < (1 : Int)))) || (decide (h1.Version > (1073741824 : Int)))) || (decide (h1.Serial < (1 : Int)))) || (decide (h1.Serial > (1073741824 : Int)))) || (decide (h1.Size < (0 : Int)))) || (decide (h1.Size > (4000 : Int)))) || (decide (h1.From < (0 : Int)))) || (decide (h1.Len < (0 : Int)))) || (decide (h1.From > h1.Size))) || (decide (h1.Len > (wr (h1.Size - h1.From)))))))) (p_faR fs23_4 (by decide) rfl (hg := fun e => rfl)) (gcF1 rfl) rfl ?_
  refine TLc.p (gc := (!((((((((((((!r5) || (decide (h1.Version < (1 : Int)))) || (decide (h1.Version > (1073741824 : Int)))) || (decide (h1.Serial < (1 : Int)))) || (decide (h1.Serial > (1073741824 : Int)))) || (decide (h1.Size < (0 : Int)))) || (decide (h1.Size > (4000 : Int)))) || (decide (h1.From < (0 : Int)))) || (decide (h1.Len < (0 : Int)))) || (decide (h1.From > h1.Size))) || (decide (h1.Len > (wr (h1.Size - h1.From)))))))) (p_ldR (v := Enc.v h1.Len) ty3 rfl rfl rfl rfl rfl rfl (hg := fun e => e)) (gcF1 rfl) rfl ?_
  refine TLc.p (gc := (!((((((((((((!r5) || (decide (h1.Version < (1 : Int)))) || (decide (h1.Version > (1073741824 : Int)))) || (decide (h1.Serial < (1 : Int)))) || (decide (h1.Serial > (1073741824 : Int)))) || (decide (h1.Size < (0 : Int)))) || (decide (h1.Size > (4000 : Int)))) || (decide (h1.From < (0 : Int)))) || (decide (h1.Len < (0 : Int)))) || (decide (h1.From > h1.Size))) || (decide (h1.Len > (wr (h1.Size - h1.From)))))))) (p_eql rfl rfl (hg := fun e => ⟨e, rfl⟩)) (gcF1 rfl) rfl ?_
  refine TLc.p (gc := (!((((((((((((!r5) || (decide (h1.Version < (1 : Int)))) || (decide (h1.Version > (1073741824 : Int)))) || (decide (h1.Serial < (1 : Int)))) || (decide (h1.Serial > (1073741824 : Int)))) || (decide (h1.Size < (0 : Int)))) || (decide (h1.Size > (4000 : Int)))) || (decide (h1.From < (0 : Int)))) || (decide (h1.Len < (0 : Int)))) || (decide (h1.From > h1.Size))) || (decide (h1.Len > (wr (h1.Size - h1.From)))))))) (p_mv rfl (hg := fun e => e)) (gcF1 rfl) rfl ?_
  refine TLc.p (gc := ((!((((((((((((!r5) || (decide (h1.Version < (1 : Int)))) || (decide (h1.Version > (1073741824 : Int)))) || (decide (h1.Serial < (1 : Int)))) || (decide (h1.Serial > (1073741824 : Int)))) || (decide (h1.Size < (0 : Int)))) || (decide (h1.Size > (4000 : Int)))) || (decide (h1.From < (0 : Int)))) || (decide (h1.Len < (0 : Int)))) || (decide (h1.From > h1.Size))) || (decide (h1.Len > (wr (h1.Size - h1.From))))))) && ((h1.Len == (0 : Int))))) (p_faR fs23_2 (by decide) rfl (hg := fun e => rfl)) (gcT rfl) rfl ?_
  refine TLc.p (gc := ((!((((((((((((!r5) || (decide (h1.Version < (1 : Int)))) || (decide (h1.Version > (1073741824 : Int)))) || (decide (h1.Serial < (1 : Int)))) || (decide (h1.Serial > (1073741824 : Int)))) || (decide (h1.Size < (0 : Int)))) || (decide (h1.Size > (4000 : Int)))) || (decide (h1.From < (0 : Int)))) || (decide (h1.Len < (0 : Int)))) || (decide (h1.From > h1.Size))) || (decide (h1.Len > (wr (h1.Size - h1.From))))))) && ((h1.Len == (0 : Int))))) (p_ldR (v := Enc.v h1.Size) ty3 rfl rfl rfl rfl rfl rfl (hg := fun e => e)) (gcT rfl) rfl ?_
  refine TLc.p (gc := ((!((((((((((((!r5) || (decide (h1.Version < (1 : Int)))) || (decide (h1.Version > (1073741824 : Int)))) || (decide (h1.Serial < (1 : Int)))) || (decide (h1.Serial > (1073741824 : Int)))) || (decide (h1.Size < (0 : Int)))) || (decide (h1.Size > (4000 : Int)))) || (decide (h1.From < (0 : Int)))) || (decide (h1.Len < (0 : Int)))) || (decide (h1.From > h1.Size))) || (decide (h1.Len > (wr (h1.Size - h1.From))))))) && ((h1.Len == (0 : Int))))) (p_gtr rfl rfl (hg := fun e => ⟨e, rfl⟩)) (gcT rfl) rfl ?_
  refine TLc.p (gc := (!((((((((((((!r5) || (decide (h1.Version < (1 : Int)))) || (decide (h1.Version > (1073741824 : Int)))) || (decide (h1.Serial < (1 : Int)))) || (decide (h1.Serial > (1073741824 : Int)))) || (decide (h1.Size < (0 : Int)))) || (decide (h1.Size > (4000 : Int)))) || (decide (h1.From < (0 : Int)))) || (decide (h1.Len < (0 : Int)))) || (decide (h1.From > h1.Size))) || (decide (h1.Len > (wr (h1.Size - h1.From)))))))) (p_and rfl rfl (fun e => ⟨e, fun h => (and_i e h)⟩)) (gcF1 rfl) rfl ?_
  refine P1 (p_or rfl rfl (fun e => ⟨rfl, fun h => (not_t h)⟩)) rfl rfl (M rfl rfl ?_)
  refine TLc.p (gc := (!(((((((((((((!r5) || (decide (h1.Version < (1 : Int)))) || (decide (h1.Version > (1073741824 : Int)))) || (decide (h1.Serial < (1 : Int)))) || (decide (h1.Serial > (1073741824 : Int)))) || (decide (h1.Size < (0 : Int)))) || (decide (h1.Size > (4000 : Int)))) || (decide (h1.From < (0 : Int)))) || (decide (h1.Len < (0 : Int)))) || (decide (h1.From > h1.Size))) || (decide (h1.Len > (wr (h1.Size - h1.From))))) || ((h1.Len == (0 : Int)) && (decide (h1.Size > (0 : Int)))))))) (p_faR fs23_6 (by decide) rfl (hg := fun e => rfl)) (gcF1 rfl) rfl ?_
  refine TLc.p (gc := (!(((((((((((((!r5) || (decide (h1.Version < (1 : Int)))) || (decide (h1.Version > (1073741824 : Int)))) || (decide (h1.Serial < (1 : Int)))) || (decide (h1.Serial > (1073741824 : Int)))) || (decide (h1.Size < (0 : Int)))) || (decide (h1.Size > (4000 : Int)))) || (decide (h1.From < (0 : Int)))) || (decide (h1.Len < (0 : Int)))) || (decide (h1.From > h1.Size))) || (decide (h1.Len > (wr (h1.Size - h1.From))))) || ((h1.Len == (0 : Int)) && (decide (h1.Size > (0 : Int)))))))) (p_ldR (v := Enc.v h1.Sum) ty3 rfl rfl rfl rfl rfl rfl (hg := fun e => e)) (gcF1 rfl) rfl ?_
  refine TLc.p (gc := (!(((((((((((((!r5) || (decide (h1.Version < (1 : Int)))) || (decide (h1.Version > (1073741824 : Int)))) || (decide (h1.Serial < (1 : Int)))) || (decide (h1.Serial > (1073741824 : Int)))) || (decide (h1.Size < (0 : Int)))) || (decide (h1.Size > (4000 : Int)))) || (decide (h1.From < (0 : Int)))) || (decide (h1.Len < (0 : Int)))) || (decide (h1.From > h1.Size))) || (decide (h1.Len > (wr (h1.Size - h1.From))))) || ((h1.Len == (0 : Int)) && (decide (h1.Size > (0 : Int)))))))) (p_lss rfl rfl (hg := fun e => ⟨e, rfl⟩)) (gcF1 rfl) rfl ?_
  refine P1 (p_or rfl rfl (fun e => ⟨rfl, fun h => (not_t h)⟩)) rfl rfl (M rfl rfl ?_)
  refine TLc.p (gc := (!((((((((((((((!r5) || (decide (h1.Version < (1 : Int)))) || (decide (h1.Version > (1073741824 : Int)))) || (decide (h1.Serial < (1 : Int)))) || (decide (h1.Serial > (1073741824 : Int)))) || (decide (h1.Size < (0 : Int)))) || (decide (h1.Size > (4000 : Int)))) || (decide (h1.From < (0 : Int)))) || (decide (h1.Len < (0 : Int)))) || (decide (h1.From > h1.Size))) || (decide (h1.Len > (wr (h1.Size - h1.From))))) || ((h1.Len == (0 : Int)) && (decide (h1.Size > (0 : Int))))) || (decide (h1.Sum < (0 : Int))))))) (p_faR fs23_6 (by decide) rfl (hg := fun e => rfl)) (gcF1 rfl) rfl ?_
  refine TLc.p (gc := (!((((((((((((((!r5) || (decide (h1.Version < (1 : Int)))) || (decide (h1.Version > (1073741824 : Int)))) || (decide (h1.Serial < (1 : Int)))) || (decide (h1.Serial > (1073741824 : Int)))) || (decide (h1.Size < (0 : Int)))) || (decide (h1.Size > (4000 : Int)))) || (decide (h1.From < (0 : Int)))) || (decide (h1.Len < (0 : Int)))) || (decide (h1.From > h1.Size))) || (decide (h1.Len > (wr (h1.Size - h1.From))))) || ((h1.Len == (0 : Int)) && (decide (h1.Size > (0 : Int))))) || (decide (h1.Sum < (0 : Int))))))) (p_ldR (v := Enc.v h1.Sum) ty3 rfl rfl rfl rfl rfl rfl (hg := fun e => e)) (gcF1 rfl) rfl ?_
  refine TLc.p (gc := (!((((((((((((((!r5) || (decide (h1.Version < (1 : Int)))) || (decide (h1.Version > (1073741824 : Int)))) || (decide (h1.Serial < (1 : Int)))) || (decide (h1.Serial > (1073741824 : Int)))) || (decide (h1.Size < (0 : Int)))) || (decide (h1.Size > (4000 : Int)))) || (decide (h1.From < (0 : Int)))) || (decide (h1.Len < (0 : Int)))) || (decide (h1.From > h1.Size))) || (decide (h1.Len > (wr (h1.Size - h1.From))))) || ((h1.Len == (0 : Int)) && (decide (h1.Size > (0 : Int))))) || (decide (h1.Sum < (0 : Int))))))) (p_gtr rfl rfl (hg := fun e => ⟨e, rfl⟩)) (gcF1 rfl) rfl ?_
  refine P1 (p_or rfl rfl (fun e => ⟨rfl, fun h => (not_t h)⟩)) rfl rfl (TL.nil (hK4 _ _ ?_))
  refine TK.cond (b := ((((((((((((((!r5) || (decide (h1.Version < (1 : Int)))) || (decide (h1.Version > (1073741824 : Int)))) || (decide (h1.Serial < (1 : Int)))) || (decide (h1.Serial > (1073741824 : Int)))) || (decide (h1.Size < (0 : Int)))) || (decide (h1.Size > (4000 : Int)))) || (decide (h1.From < (0 : Int)))) || (decide (h1.Len < (0 : Int)))) || (decide (h1.From > h1.Size))) || (decide (h1.Len > (wr (h1.Size - h1.From))))) || ((h1.Len == (0 : Int)) && (decide (h1.Size > (0 : Int))))) || (decide (h1.Sum < (0 : Int)))) || (decide (h1.Sum > (4294967295 : Int))))) rfl (fun hc => ?_) (fun hc => ?_)
  · have hX := ite_t hc hX
    refine SR fun K6 hK6 => M rfl rfl (TL.nil (hK6 _ _ ?_))
    refine TK.ret ?_
    try dsimp only [thenQ]
    exact R1 rfl hX
  · have hX := ite_f hc hX
    refine TK.skip ?_
    refine hK3 _ _ (SR fun K7 hK7 => P1 (p_faR fs23_7 (by decide) rfl) rfl rfl (P1 (p_ldR (v := Enc.v h1.Gone) ty4 rfl rfl rfl rfl rfl rfl) rfl rfl (P1 (p_not rfl) rfl rfl (M rfl rfl ?_))))
    refine TLc.p (gc := (!((!h1.Gone)))) (p_faR fs23_2 (by decide) rfl (hg := fun e => rfl)) (gcF1 rfl) rfl ?_
    refine TLc.p (gc := (!((!h1.Gone)))) (p_ldR (v := Enc.v h1.Size) ty3 rfl rfl rfl rfl rfl rfl (hg := fun e => e)) (gcF1 rfl) rfl ?_
    refine TLc.p (gc := (!((!h1.Gone)))) (p_eql rfl rfl (hg := fun e => ⟨e, rfl⟩)) (gcF1 rfl) rfl ?_
    refine TLc.p (gc := (!((!h1.Gone)))) (p_mv rfl (hg := fun e => e)) (gcF1 rfl) rfl ?_
    refine TLc.p (gc := ((!((!h1.Gone))) && ((h1.Size == (0 : Int))))) (p_faR fs23_3 (by decide) rfl (hg := fun e => rfl)) (gcT rfl) rfl ?_
    refine TLc.p (gc := ((!((!h1.Gone))) && ((h1.Size == (0 : Int))))) (p_ldR (v := Enc.v h1.From) ty3 rfl rfl rfl rfl rfl rfl (hg := fun e => e)) (gcT rfl) rfl ?_
    refine TLc.p (gc := ((!((!h1.Gone))) && ((h1.Size == (0 : Int))))) (p_eql rfl rfl (hg := fun e => ⟨e, rfl⟩)) (gcT rfl) rfl ?_
    refine TLc.p (gc := (!((!h1.Gone)))) (p_and rfl rfl (fun e => ⟨e, fun h => (and_i e h)⟩)) (gcF1 rfl) rfl ?_
    refine TLc.p (gc := (!((!h1.Gone)))) (p_mv rfl (hg := fun e => e)) (gcF1 rfl) rfl ?_
    refine TLc.p (gc := ((!((!h1.Gone))) && (((h1.Size == (0 : Int)) && (h1.From == (0 : Int)))))) (p_faR fs23_4 (by decide) rfl (hg := fun e => rfl)) (gcT rfl) rfl ?_
    refine TLc.p (gc := ((!((!h1.Gone))) && (((h1.Size == (0 : Int)) && (h1.From == (0 : Int)))))) (p_ldR (v := Enc.v h1.Len) ty3 rfl rfl rfl rfl rfl rfl (hg := fun e => e)) (gcT rfl) rfl ?_
    refine TLc.p (gc := ((!((!h1.Gone))) && (((h1.Size == (0 : Int)) && (h1.From == (0 : Int)))))) (p_eql rfl rfl (hg := fun e => ⟨e, rfl⟩)) (gcT rfl) rfl ?_
    refine TLc.p (gc := (!((!h1.Gone)))) (p_and rfl rfl (fun e => ⟨e, fun h => (and_i e h)⟩)) (gcF1 rfl) rfl ?_
    refine TLc.p (gc := (!((!h1.Gone)))) (p_mv rfl (hg := fun e => e)) (gcF1 rfl) rfl ?_
    refine TLc.p (gc := ((!((!h1.Gone))) && ((((h1.Size == (0 : Int)) && (h1.From == (0 : Int))) && (h1.Len == (0 : Int)))))) (p_faR fs23_6 (by decide) rfl (hg := fun e => rfl)) (gcT rfl) rfl ?_
    refine TLc.p (gc := ((!((!h1.Gone))) && ((((h1.Size == (0 : Int)) && (h1.From == (0 : Int))) && (h1.Len == (0 : Int)))))) (p_ldR (v := Enc.v h1.Sum) ty3 rfl rfl rfl rfl rfl rfl (hg := fun e => e)) (gcT rfl) rfl ?_
    refine TLc.p (gc := ((!((!h1.Gone))) && ((((h1.Size == (0 : Int)) && (h1.From == (0 : Int))) && (h1.Len == (0 : Int)))))) (p_eql rfl rfl (hg := fun e => ⟨e, rfl⟩)) (gcT rfl) rfl ?_
    refine TLc.p (gc := (!((!h1.Gone)))) (p_and rfl rfl (fun e => ⟨e, fun h => (and_i e h)⟩)) (gcF1 rfl) rfl ?_
    refine P1 (p_or rfl rfl (fun e => ⟨rfl, fun h => (not_t h)⟩)) rfl rfl (M rfl rfl (TL.nil (hK7 _ _ ?_)))
    refine TK.ret ?_
    try dsimp only [thenQ]
    exact R1 rfl hX

/-- (*cartridge/cartridgeref1.Writer).Text -/
theorem ok_cartridgeref1_Writer_Text (s4 : Str) (B1 : (List UInt8)) (b2 : Nat) (b3 : Nat) (nd : Nd [(b2, RV 102 [OL (α := UInt8) b3 B1]), (b3, RL (α := UInt8) 5 B1)]) (r : (List UInt8)) (hX : X.cartridgeref1_Writer_Text s4 B1 = some r) : TCX Tryd.prog 87 [.ref b2 0 1, Enc.v (s4 : Str)] [(b2, RV 102 [OL (α := UInt8) b3 B1]), (b3, RL (α := UInt8) 5 B1)] (fun rv h' => ∃ b15, rv = .tup 0 (ofL []) ∧ h' = [(b2, RV 102 [OL (α := UInt8) b15 r]), (b15, RL (α := UInt8) 5 r)]) := by
  refine TCX.of b87 (Nat.le_of_ble_eq_true rfl) ?_
  unfold k87
  unfold X.cartridgeref1_Writer_Text at hX
  refine TK.endK fun KE hKE => ?_
  refine TK.seq_k fun K5 hK5 => ?_
  have J5 : ∀ (s8 : Str) (env : Env) (h : Hp), (∃ _u : Unit, keepE [0, 1] env = [(0, true, .ref b2 0 1), (1, true, Enc.v s8)] ∧ Nd [(b3, RL (α := UInt8) 5 B1), (b2, RV 102 [OL b3 B1])] ∧ HSub [(b3, RL (α := UInt8) 5 B1), (b2, RV 102 [OL b3 B1])] h) → X.cartridgeref1_Writer_Text_j5 B1 s8 = some r → K5 env h := by
    intro s8 env h hE hX
    obtain ⟨_u, henv, nd, hs⟩ := hE
    unfold X.cartridgeref1_Writer_Text_j5 at hX
    refine hK5 _ _ (TK.keep [0, 1] ?_)
    rw [henv]
    refine TK.subH hs ?_
    refine SR fun K9 hK9 => M rfl rfl (M rfl rfl (P1 (p_ncR rfl (fun _ => refOK_of nd (j := 1) rfl rfl)) rfl rfl (P1 (p_faV fs102_0 (by decide) rfl nd (j := 1) rfl rfl) rfl rfl (P1 (p_ldV (v := OL b3 B1) ty24 rfl rfl nd (j := 1) rfl rfl rfl rfl rfl) rfl rfl (M rfl rfl (P1 (p_lenS (s := s8) kd9 rfl) rfl rfl (P1 (p_cvt src3 kd5 rfl (cv_u8 _)) rfl rfl ?_)))))))
    refine TLc.lit ([(u8 (s8.l.length : Int))] : List UInt8) kd24 ty5 rfl ⟨⟨rfl, rfl⟩, trivial⟩ rfl rfl rfl ?_
    obtain ⟨u10, hu10, hX⟩ := bind_some hX
    refine TLc.appO nd kd24 bo24 ty5 rfl rfl (j := 0) rfl rfl (Src_L _) (by decide) (need_t hu10) rfl fun nd => ?_
    refine P1 (p_ncR rfl (fun _ => refOK_of nd (j := 1) rfl rfl)) rfl rfl (P1 (p_faV fs102_0 (by decide) rfl nd (j := 1) rfl rfl) rfl rfl ?_)
    refine TLc.stV (lu := [OL (α := UInt8) b3 (B1 ++ ([(u8 (s8.l.length : Int))] : List UInt8))]) nd ty24 rfl (j := 1) rfl rfl rfl (Cells_rs (refOK_of nd (j := 0) rfl rfl)) rfl rfl [OL (α := UInt8) b3 (B1 ++ ([(u8 (s8.l.length : Int))] : List UInt8))] rfl fun nd => ?_
    refine TL.nil (hK9 _ _ ?_)
    refine TK.reg ?_
    refine M rfl rfl (M rfl rfl (P1 (p_ncR rfl (fun _ => refOK_of nd (j := 1) rfl rfl)) rfl rfl (P1 (p_faV fs102_0 (by decide) rfl nd (j := 1) rfl rfl) rfl rfl (P1 (p_ldV (v := OL (α := UInt8) b3 (B1 ++ ([(u8 (s8.l.length : Int))] : List UInt8))) ty24 rfl rfl nd (j := 1) rfl rfl rfl rfl rfl) rfl rfl (M rfl rfl ?_)))))
    obtain ⟨u11, hu11, hX⟩ := bind_some hX
    refine TLc.appO nd kd24 bo9 ty5 rfl rfl (j := 0) rfl rfl (Src_str s8) (by decide) (need_t hu11) rfl fun nd => ?_
    refine P1 (p_ncR rfl (fun _ => refOK_of nd (j := 1) rfl rfl)) rfl rfl (P1 (p_faV fs102_0 (by decide) rfl nd (j := 1) rfl rfl) rfl rfl ?_)
    refine TLc.stV (lu := [OL (α := UInt8) b3 ((B1 ++ ([(u8 (s8.l.length : Int))] : List UInt8)) ++ s8.l)]) nd ty24 rfl (j := 1) rfl rfl rfl (Cells_rs (refOK_of nd (j := 0) rfl rfl)) rfl rfl [OL (α := UInt8) b3 ((B1 ++ ([(u8 (s8.l.length : Int))] : List UInt8)) ++ s8.l)] rfl fun nd => ?_
    refine TL.nil (hKE _ _ ?_)
    refine TL.pick [1, 0] nd (by decide) fun nd => ?_
    refine TL.nil ?_
    try dsimp only [thenQ]
    refine RetQ_end ?_
    exact retX (v := .tup 0 (ofL [])) res0 (by obtain rfl := some_in hX; exact ⟨b3, rfl, rfl⟩) nd (inH_tup (l := []) trivial) ⟨rowIn_RV ⟨inH_rs nd (j := 1) rfl, trivial⟩, rowIn_RL, trivial⟩
  refine SR fun K12 hK12 => M rfl rfl (P1 (p_lenS (s := s4) kd9 rfl) rfl rfl (P1 (p_gtr rfl rfl) rfl rfl (TL.nil (hK12 _ _ ?_))))
  refine TK.cond (b := (decide ((s4.l.length : Int) > (255 : Int)))) rfl (fun hc => ?_) (fun hc => ?_)
  · have hX := ite_t hc hX
    refine TK.reg ?_
    refine M rfl rfl ?_
    obtain ⟨u13, hu13, hX⟩ := bind_some hX
    refine P1 (p_sliS (s := s4) (l := (0 : Int)) (k := (255 : Int)) kd9 rfl rfl (fun n hn => rfl) (fun e => need_t hu13)) rfl rfl (M rfl rfl (TL.nil ?_))
    exact J5 (Str.mk (slc s4.l (0 : Int) (255 : Int))) _ _ ⟨(), rfl, (Nd.pick nd (is := [1, 0]) (by decide)), (HSub.pick nd (is := [1, 0]) (by decide))⟩ hX
  · have hX := ite_f hc hX
    refine TK.skip ?_
    exact J5 s4 _ _ ⟨(), rfl, (Nd.pick nd (is := [1, 0]) (by decide)), (HSub.pick nd (is := [1, 0]) (by decide))⟩ hX

/-- cartridge/cartridgeref10.HeadBytes -/
theorem ok_cartridgeref10_HeadBytes (h1 : Head_api) (r : (List UInt8)) (hX : X.cartridgeref10_HeadBytes h1 = some r) : Fun Tryd.prog 45 [Enc.v (h1 : Head_api)] (· = Enc.v (r : (List UInt8))) := by
  refine Fun.of b45 (Nat.le_of_ble_eq_true rfl) (allVal.mem ⟨(by exact (v_val _)), trivial⟩) ?_
  unfold k45
  have nd : Nd [] := Nd_nil
  unfold X.cartridgeref10_HeadBytes at hX
  refine SR fun K2 hK2 => ?_
  refine TLc.boxV (lu := [Enc.v h1.Path, Enc.v h1.Version, Enc.v h1.Size, Enc.v h1.From, Enc.v h1.Len, Enc.v h1.Serial, Enc.v h1.Sum, Enc.v h1.Gone]) nd rfl (Cells_v (h1 : Head_api)) rfl ?_
  refine M rfl rfl (TL.nil (hK2 _ _ ?_))
  refine TK.seq_k fun K3 hK3 => ?_
  refine SR fun K4 hK4 => P1 (p_ldRa (l' := Enc.cl (h1 : Head_api)) ty23 rfl rfl rfl rfl rfl (Nat.le_of_ble_eq_true rfl)) rfl rfl ?_
  obtain ⟨r5, hr5, hX⟩ := bind_some hX
  refine TL.cvX rfl rfl rfl (fun _ => ⟨rfl, ⟨rfl, trivial⟩⟩) (fun e => ok_cartridgeref10_RightHead h1 _ hr5) ?_
  refine P1 (p_not rfl) rfl rfl (TL.nil (hK4 _ _ ?_))
  refine TK.cond (b := (!r5)) rfl (fun hc => ?_) (fun hc => ?_)
  · have hX := ite_t hc hX
    refine SR fun K6 hK6 => M rfl rfl (TL.nil (hK6 _ _ ?_))
    refine TK.wk 2 (L ([] : (List UInt8))) rfl Wk_nil ?_
    refine TK.ret ?_
    try dsimp only [thenQ]
    exact R1 rfl hX
  · have hX := ite_f hc hX
    refine TK.skip ?_
    refine hK3 _ _ (SR fun K7 hK7 => P1 (p_bld (l := [.nils]) ty102 rfl all102 rfl (fun _ => trivial)) rfl rfl ?_)
    refine TLc.boxO (lu := [.nils]) nd rfl (Cells_agg rfl (allA.mem ⟨trivial, trivial⟩)) rfl fun b8 nd => ?_
    refine M rfl rfl (TL.nil (hK7 _ _ ?_))
    refine TK.ownC (α := UInt8) nd (j := 0) rfl 0 5 (.inl rfl) fun b9 nd => ?_
    refine SR fun K10 hK10 => M rfl rfl (P1 (p_faR fs23_0 (by decide) rfl) rfl rfl (P1 (p_ldR (v := Enc.v h1.Path) ty9 rfl rfl rfl rfl rfl rfl) rfl rfl ?_))
    obtain ⟨r11, hr11, hX⟩ := bind_some hX
    refine TL.pick [1, 0] nd (by decide) fun nd => ?_
    refine TL.tcX [(b8, RV 102 [OL (α := UInt8) b9 ([] : List UInt8)]), (b9, RL (α := UInt8) 5 ([] : List UInt8))] [] rfl nd (dlt rfl) rfl ⟨rfl, ⟨rfl, ⟨rfl, trivial⟩⟩⟩ (ok_cartridgeref1_Writer_Text h1.Path ([] : List UInt8) b8 b9 (Nd.take nd 2 rfl) _ hr11) ?_
    rintro _ _ hQ nd
    obtain ⟨b13, rfl, rfl⟩ := hQ
    refine TL.nil (hK10 _ _ (SR fun K14 hK14 => M rfl rfl (P1 (p_faR fs23_1 (by decide) rfl) rfl rfl (P1 (p_ldR (v := Enc.v h1.Version) ty3 rfl rfl rfl rfl rfl rfl) rfl rfl ?_))))
    obtain ⟨r15, hr15, hX⟩ := bind_some hX
    refine TL.tcX [(b8, RV 102 [OL b13 r11]), (b13, RL (α := UInt8) 5 r11)] [] rfl nd (dlt rfl) rfl ⟨rfl, ⟨rfl, ⟨rfl, trivial⟩⟩⟩ (ok_cartridgeref1_Writer_Int h1.Version r11 b8 b13 (Nd.take nd 2 rfl) _ hr15) ?_
    rintro _ _ hQ nd
    obtain ⟨b17, rfl, rfl⟩ := hQ
    refine TL.nil (hK14 _ _ (SR fun K18 hK18 => M rfl rfl (P1 (p_faR fs23_2 (by decide) rfl) rfl rfl (P1 (p_ldR (v := Enc.v h1.Size) ty3 rfl rfl rfl rfl rfl rfl) rfl rfl ?_))))
    obtain ⟨r19, hr19, hX⟩ := bind_some hX
    refine TL.tcX [(b8, RV 102 [OL b17 r15]), (b17, RL (α := UInt8) 5 r15)] [] rfl nd (dlt rfl) rfl ⟨rfl, ⟨rfl, ⟨rfl, trivial⟩⟩⟩ (ok_cartridgeref1_Writer_Int h1.Size r15 b8 b17 (Nd.take nd 2 rfl) _ hr19) ?_
    rintro _ _ hQ nd
    obtain ⟨b21, rfl, rfl⟩ := hQ
    refine TL.nil (hK18 _ _ (SR fun K22 hK22 => M rfl rfl (P1 (p_faR fs23_3 (by decide) rfl) rfl rfl (P1 (p_ldR (v := Enc.v h1.From) ty3 rfl rfl rfl rfl rfl rfl) rfl rfl ?_))))
    obtain ⟨r23, hr23, hX⟩ := bind_some hX
    refine TL.tcX [(b8, RV 102 [OL b21 r19]), (b21, RL (α := UInt8) 5 r19)] [] rfl nd (dlt rfl) rfl ⟨rfl, ⟨rfl, ⟨rfl, trivial⟩⟩⟩ (ok_cartridgeref1_Writer_Int h1.From r19 b8 b21 (Nd.take nd 2 rfl) _ hr23) ?_
    rintro _ _ hQ nd
    obtain ⟨b25, rfl, rfl⟩ := hQ
    refine TL.nil (hK22 _ _ (SR fun K26 hK26 => M rfl rfl (P1 (p_faR fs23_4 (by decide) rfl) rfl rfl (P1 (p_ldR (v := Enc.v h1.Len) ty3 rfl rfl rfl rfl rfl rfl) rfl rfl ?_))))
    obtain ⟨r27, hr27, hX⟩ := bind_some hX
    refine TL.tcX [(b8, RV 102 [OL b25 r23]), (b25, RL (α := UInt8) 5 r23)] [] rfl nd (dlt rfl) rfl ⟨rfl, ⟨rfl, ⟨rfl, trivial⟩⟩⟩ (ok_cartridgeref1_Writer_Int h1.Len r23 b8 b25 (Nd.take nd 2 rfl) _ hr27) ?_
    rintro _ _ hQ nd
    obtain ⟨b29, rfl, rfl⟩ := hQ
    refine TL.nil (hK26 _ _ (SR fun K30 hK30 => M rfl rfl (P1 (p_faR fs23_5 (by decide) rfl) rfl rfl (P1 (p_ldR (v := Enc.v h1.Serial) ty3 rfl rfl rfl rfl rfl rfl) rfl rfl ?_))))
    obtain ⟨r31, hr31, hX⟩ := bind_some hX
    refine TL.tcX [(b8, RV 102 [OL b29 r27]), (b29, RL (α := UInt8) 5 r27)] [] rfl nd (dlt rfl) rfl ⟨rfl, ⟨rfl, ⟨rfl, trivial⟩⟩⟩ (ok_cartridgeref1_Writer_Int h1.Serial r27 b8 b29 (Nd.take nd 2 rfl) _ hr31) ?_
    rintro _ _ hQ nd
    obtain ⟨b33, rfl, rfl⟩ := hQ
    refine TL.nil (hK30 _ _ (SR fun K34 hK34 => M rfl rfl (P1 (p_faR fs23_6 (by decide) rfl) rfl rfl (P1 (p_ldR (v := Enc.v h1.Sum) ty3 rfl rfl rfl rfl rfl rfl) rfl rfl ?_))))
    obtain ⟨r35, hr35, hX⟩ := bind_some hX
    refine TL.tcX [(b8, RV 102 [OL b33 r31]), (b33, RL (α := UInt8) 5 r31)] [] rfl nd (dlt rfl) rfl ⟨rfl, ⟨rfl, ⟨rfl, trivial⟩⟩⟩ (ok_cartridgeref1_Writer_Int h1.Sum r31 b8 b33 (Nd.take nd 2 rfl) _ hr35) ?_
    rintro _ _ hQ nd
    obtain ⟨b37, rfl, rfl⟩ := hQ
    refine TL.nil (hK34 _ _ (SR fun K38 hK38 => M rfl rfl (TL.nil (hK38 _ _ ?_))))
    refine TK.seq_k fun K39 hK39 => ?_
    have J39 : ∀ (c42 : UInt8) (env : Env) (h : Hp), (∃ b41 b40, keepE [3, 4] env = [(3, true, .ref b40 0 1), (4, true, Enc.v c42)] ∧ Nd [(b41, RL (α := UInt8) 5 r35), (b40, RV 102 [OL b41 r35])] ∧ HSub [(b41, RL (α := UInt8) 5 r35), (b40, RV 102 [OL b41 r35])] h) → X.cartridgeref10_HeadBytes_j39 r35 c42 = some r → K39 env h := by
      intro c42 env h hE hX
      obtain ⟨b41, b40, henv, nd, hs⟩ := hE
      unfold X.cartridgeref10_HeadBytes_j39 at hX
      refine hK39 _ _ (TK.keep [3, 4] ?_)
      rw [henv]
      refine TK.subH hs ?_
      refine SR fun K43 hK43 => M rfl rfl (M rfl rfl ?_)
      obtain ⟨r44, hr44, hX⟩ := bind_some hX
      refine TL.pick [1, 0] nd (by decide) fun nd => ?_
      refine TL.tcX [(b40, RV 102 [OL b41 r35]), (b41, RL (α := UInt8) 5 r35)] [] rfl nd (dlt rfl) rfl ⟨rfl, ⟨rfl, ⟨rfl, trivial⟩⟩⟩ (ok_cartridgeref1_Writer_Byte c42 r35 b40 b41 (Nd.take nd 2 rfl) _ hr44) ?_
      rintro _ _ hQ nd
      obtain ⟨b46, rfl, rfl⟩ := hQ
      refine TL.nil (hK43 _ _ (SR fun K47 hK47 => M rfl rfl (P1 (p_ncR rfl (fun _ => refOK_of nd (j := 0) rfl rfl)) rfl rfl (P1 (p_faV fs102_0 (by decide) rfl nd (j := 0) rfl rfl) rfl rfl (P1 (p_ldV (v := OL b46 r44) ty24 rfl rfl nd (j := 0) rfl rfl rfl rfl rfl) rfl rfl (M rfl rfl (TL.nil (hK47 _ _ ?_))))))))
      refine TK.layR (l2' := [Enc.v r44]) [(2, L r44)] nd (j := 1) rfl 0 rfl rfl ⟨fix_OL nd (j := 1) rfl, trivial⟩ ⟨⟨_, rfl, fix_OL nd (j := 1) rfl, rfl⟩, trivial⟩ fun nd => ?_
      refine TK.ret ?_
      try dsimp only [thenQ]
      exact R1 rfl hX
    refine SR fun K48 hK48 => P1 (p_faR fs23_7 (by decide) rfl) rfl rfl (P1 (p_ldR (v := Enc.v h1.Gone) ty4 rfl rfl rfl rfl rfl rfl) rfl rfl (TL.nil (hK48 _ _ ?_)))
    refine TK.cond (b := h1.Gone) rfl (fun hc => ?_) (fun hc => ?_)
    · have hX := ite_t hc hX
      refine TK.reg ?_
      refine M rfl rfl (TL.nil ?_)
      exact J39 (1 : UInt8) _ _ ⟨b37, b8, rfl, (Nd.pick nd (is := [1, 0]) (by decide)), (HSub.pick nd (is := [1, 0]) (by decide))⟩ hX
    · have hX := ite_f hc hX
      refine TK.skip ?_
      exact J39 (0 : UInt8) _ _ ⟨b37, b8, rfl, (Nd.pick nd (is := [1, 0]) (by decide)), (HSub.pick nd (is := [1, 0]) (by decide))⟩ hX

/-- cartridge/cartridgeref10.Blocks -/
theorem ok_cartridgeref10_Blocks_or (label1 : Int) (at2 : Int) (h3 : Head_api) (b4 : (List UInt8)) (nd : Nd []) (r : ((List (List UInt8)) × Int)) (hX : X.cartridgeref10_Blocks_or label1 at2 h3 b4 = some r) : TCX Tryd.prog 14 [Enc.v (label1 : Int), Enc.v (at2 : Int), Enc.v (h3 : Head_api), Enc.v (b4 : (List UInt8))] [] (fun rv h' => ∃ b69, rv = .tup 2 (ofL [OL (α := (List UInt8)) b69 r.1, Enc.v (r.2 : Int)]) ∧ h' = [(b69, RD (β := UInt8) 24 5 b69 r.1)]) := by
  refine TCX.of b14 (Nat.le_of_ble_eq_true rfl) ?_
  unfold k14
  unfold X.cartridgeref10_Blocks_or at hX
  refine SR fun K5 hK5 => ?_
  refine TLc.boxV (lu := [Enc.v h3.Path, Enc.v h3.Version, Enc.v h3.Size, Enc.v h3.From, Enc.v h3.Len, Enc.v h3.Serial, Enc.v h3.Sum, Enc.v h3.Gone]) nd rfl (Cells_v (h3 : Head_api)) rfl ?_
  refine M rfl rfl (M rfl rfl (TL.nil (hK5 _ _ ?_)))
  refine TK.seq_k fun K6 hK6 => ?_
  refine SR fun K7 hK7 => P1 (p_ldRa (l' := Enc.cl (h3 : Head_api)) ty23 rfl rfl rfl rfl rfl (Nat.le_of_ble_eq_true rfl)) rfl rfl ?_
  obtain ⟨r8, hr8, hX⟩ := bind_some hX
  refine TL.cvX rfl rfl rfl (fun _ => ⟨rfl, ⟨rfl, trivial⟩⟩) (fun e => ok_cartridgeref10_RightHead h3 _ hr8) ?_
  refine P1 (p_not rfl) rfl rfl (M rfl rfl ?_)
  refine TLc.p (gc := (!((!r8)))) (p_mv rfl (hg := fun e => rfl)) (gcF1 rfl) rfl ?_
  refine TLc.p (gc := (!((!r8)))) (p_lenL (xs := b4) kd24 rfl (hg := fun e => e)) (gcF1 rfl) rfl ?_
  refine TLc.p (gc := (!((!r8)))) (p_faR fs23_4 (by decide) rfl (hg := fun e => rfl)) (gcF1 rfl) rfl ?_
  refine TLc.p (gc := (!((!r8)))) (p_ldR (v := Enc.v h3.Len) ty3 rfl rfl rfl rfl rfl rfl (hg := fun e => e)) (gcF1 rfl) rfl ?_
  refine TLc.p (gc := (!((!r8)))) (p_neq rfl rfl (hg := fun e => ⟨e, e⟩)) (gcF1 rfl) rfl ?_
  refine P1 (p_or rfl rfl (fun e => ⟨rfl, fun h => (not_t h)⟩)) rfl rfl (TL.nil (hK7 _ _ ?_))
  refine TK.cond (b := ((!r8) || ((b4.length : Int) != h3.Len))) rfl (fun hc => ?_) (fun hc => ?_)
  · have hX := ite_t hc hX
    refine SR fun K9 hK9 => M rfl rfl (M rfl rfl (TL.nil (hK9 _ _ ?_)))
    refine TK.ownL (α := (List UInt8)) 8 24 nd rfl (.inl rfl) fun b10 nd => ?_
    refine TK.toD (β := UInt8) 5 nd (j := 0) rfl fun nd => ?_
    refine TK.ret ?_
    try dsimp only [thenQ]
    exact retX (v := .tup 2 (ofL [OL (α := (List UInt8)) b10 ([] : List (List UInt8)), Enc.v ((1 : Int) : Int)])) (resN (vs := [OL (α := (List UInt8)) b10 ([] : List (List UInt8)), Enc.v ((1 : Int) : Int)]) ⟨rfl, rfl, trivial⟩) (by obtain rfl := some_in hX; exact ⟨b10, rfl, rfl⟩) nd (inH_tup (l := [OL (α := (List UInt8)) b10 ([] : List (List UInt8)), Enc.v ((1 : Int) : Int)]) ⟨inH_rs nd (j := 0) rfl, inH_val (v_val _), trivial⟩) ⟨rowIn_RD, trivial⟩
  · have hX := ite_f hc hX
    refine TK.skip ?_
    refine hK6 _ _ (SR fun K11 hK11 => P1 (p_ldRa (l' := Enc.cl (h3 : Head_api)) ty23 rfl rfl rfl rfl rfl (Nat.le_of_ble_eq_true rfl)) rfl rfl ?_)
    obtain ⟨r12, hr12, hX⟩ := bind_some hX
    refine TL.cvX rfl rfl rfl (fun _ => ⟨rfl, ⟨rfl, trivial⟩⟩) (fun e => ok_cartridgeref10_HeadBytes h3 _ hr12) ?_
    refine P1 (p_bld (l := Enc.cl ((Unit_api.mk (2 : Int) (0 : Int) (0 : Int) r12) : Unit_api)) ty42 rfl all42 rfl (fun _ => ⟨⟨rfl, trivial, rfl⟩, ⟨rfl, trivial, rfl⟩, trivial⟩)) rfl rfl ?_
    refine TLc.litO nd ([(Unit_api.mk (2 : Int) (0 : Int) (0 : Int) r12)] : List Unit_api) kd97 ty42 rfl ⟨⟨rfl, rfl⟩, trivial⟩ rfl rfl rfl fun b13 nd => ?_
    refine M rfl rfl (TL.nil (hK11 _ _ ?_))
    refine TK.seq_k fun K14 hK14 => ?_
    refine SR fun K15 hK15 => M rfl rfl (TL.nil (hK15 _ _ ?_))
    refine TK.block ?_
    obtain ⟨o16, hO16, hA16⟩ := bind_some hX
    have E16 : ∀ (l21 : List Unit_api) (env : Env) (h : Hp), (∃ b20, keepE [0, 1, 10] env = [(0, true, Enc.v label1), (1, true, Enc.v at2), (10, true, OL b20 l21)] ∧ Nd [(b20, RL (α := Unit_api) 42 l21)] ∧ HSub [(b20, RL (α := Unit_api) 42 l21)] h) → X.cartridgeref10_Blocks_or_e16 label1 at2 l21 = some r → K14 env h := by
      intro l21 env h hE hX
      obtain ⟨b20, henv, nd, hs⟩ := hE
      unfold X.cartridgeref10_Blocks_or_e16 at hX
      refine hK14 _ _ (TK.keep [0, 1, 10] ?_)
      rw [henv]
      refine TK.subH hs ?_
      refine SR fun K22 hK22 => M rfl rfl ?_
      refine TLc.p (gc := true) (p_bld (l := [Enc.v ((4 : Int) : Int), Enc.v ((0 : Int) : Int), Enc.v ((0 : Int) : Int), .nils]) ty42 rfl all42 rfl (fun _ => ⟨⟨rfl, trivial, rfl⟩, trivial⟩)) rfl rfl (TL.wk (v' := Enc.v ((Unit_api.mk (4 : Int) (0 : Int) (0 : Int) ([] : (List UInt8))) : Unit_api)) (Wk_agg ⟨Wk.refl _, Wk.refl _, Wk.refl _, Wk_nil, trivial⟩) ?_)
      refine TLc.lit ([(Unit_api.mk (4 : Int) (0 : Int) (0 : Int) ([] : (List UInt8)))] : List Unit_api) kd97 ty42 rfl ⟨⟨rfl, rfl⟩, trivial⟩ rfl rfl rfl ?_
      obtain ⟨u23, hu23, hX⟩ := bind_some hX
      refine TLc.appO nd kd97 bo97 ty42 rfl rfl (j := 0) rfl rfl (Src_L _) (by decide) (need_t hu23) rfl fun nd => ?_
      refine M rfl rfl (TL.nil (hK22 _ _ (SR fun K24 hK24 => M rfl rfl (TL.nil (hK24 _ _ ?_)))))
      refine TK.ownL (α := (List UInt8)) 13 24 nd rfl (.inl rfl) fun b25 nd => ?_
      refine TK.toD (β := UInt8) 5 nd (j := 0) rfl fun nd => ?_
      refine TK.seq_k fun K26 hK26 => ?_
      refine SR fun K27 hK27 => M rfl rfl (TL.nil (hK27 _ _ ?_))
      refine TK.block ?_
      obtain ⟨o28, hO28, hA28⟩ := bind_some hX
      have E28 : ∀ (l35 : List (List UInt8)) (env : Env) (h : Hp), (∃ b34, keepE [13] env = [(13, true, OL b34 l35)] ∧ Nd [(b34, RD (β := UInt8) 24 5 b34 l35)] ∧ HSub [(b34, RD (β := UInt8) 24 5 b34 l35)] h) → X.cartridgeref10_Blocks_or_e28 l35 = some r → K26 env h := by
        intro l35 env h hE hX
        obtain ⟨b34, henv, nd, hs⟩ := hE
        unfold X.cartridgeref10_Blocks_or_e28 at hX
        refine hK26 _ _ (TK.keep [13] ?_)
        rw [henv]
        refine TK.subH hs ?_
        refine SR fun K36 hK36 => M rfl rfl (M rfl rfl (M rfl rfl (TL.nil (hK36 _ _ ?_))))
        refine TK.ret ?_
        try dsimp only [thenQ]
        exact retX (v := .tup 2 (ofL [OL b34 l35, Enc.v ((0 : Int) : Int)])) (resN (vs := [OL b34 l35, Enc.v ((0 : Int) : Int)]) ⟨rfl, rfl, trivial⟩) (by obtain rfl := some_in hX; exact ⟨b34, rfl, rfl⟩) nd (inH_tup (l := [OL b34 l35, Enc.v ((0 : Int) : Int)]) ⟨inH_rs nd (j := 0) rfl, inH_val (v_val _), trivial⟩) ⟨rowIn_RD, trivial⟩
      refine TK.iter [0, 1, 10, 13, 14] (fun s env h => match s with | (l30, out32, i33) => ∃ b29 b31, env = [(0, true, Enc.v label1), (1, true, Enc.v at2), (10, true, OL b29 l30), (13, true, OL b31 out32), (14, true, Enc.v i33)] ∧ Nd [(b29, RL (α := Unit_api) 42 l30), (b31, RD (β := UInt8) 24 5 b31 out32)] ∧ HSub [(b29, RL (α := Unit_api) 42 l30), (b31, RD (β := UInt8) 24 5 b31 out32)] h) hO28 ⟨b20, b25, rfl, (Nd.pick nd (is := [1, 0]) (by decide)), (HSub.pick nd (is := [1, 0]) (by decide))⟩ ?_
      rintro ⟨l30, out32, i33⟩ env h x28x ⟨b29, b31, rfl, nd, hs⟩ hX hR28
      refine TK.subH hs ?_
      unfold X.cartridgeref10_Blocks_or_s28 at hX
      try dsimp only at hX
      refine TK.seq_k fun K37 hK37 => ?_
      refine SR fun K38 hK38 => M rfl rfl (M rfl rfl (P1 (p_lenR kd97 rfl (fun _ => refOK_of nd (j := 0) rfl rfl)) rfl rfl (P1 (p_lss rfl rfl) rfl rfl (TL.nil (hK38 _ _ ?_)))))
      refine TK.cond (b := (decide (i33 < (l30.length : Int)))) rfl (fun hc => ?_) (fun hc => ?_)
      · have hX := ite_t hc hX
        refine TK.skip ?_
        refine hK37 _ _ ?_
        refine TK.seq_k fun K39 hK39 => ?_
        refine TK.block ?_
        refine SR fun K40 hK40 => M rfl rfl (M rfl rfl (M rfl rfl ?_))
        obtain ⟨e41, he41, hX⟩ := bind_some hX
        refine P1 (p_iaO (xs := l30) kd97 ty42 rfl rfl rfl nd (j := 0) rfl (fun _ => he41)) rfl rfl (P1 (p_faO (xs := l30) fs42_1 (by decide) rfl nd (j := 0) rfl) rfl rfl ?_)
        refine TLc.stL (lu := Enc.cl (label1 : Int)) (a' := (Unit_api.mk e41.Kind label1 e41.Number e41.Load)) nd ty3 rfl (j := 0) rfl he41 rfl (Cells_v (label1 : Int)) rfl rfl rfl fun nd => ?_
        refine TL.cv 10 (OL b29 (l30.set i33.toNat (Unit_api.mk e41.Kind label1 e41.Number e41.Load))) rfl (Wk_eq (OL_len (by simp))) ?_
        refine TL.nil (hK40 _ _ (SR fun K42 hK42 => M rfl rfl (M rfl rfl (M rfl rfl (M rfl rfl (P1 (p_add rfl rfl) rfl rfl ?_))))))
        obtain ⟨e43, he43, hX⟩ := bind_some hX
        refine P1 (p_iaO (xs := (l30.set i33.toNat (Unit_api.mk e41.Kind label1 e41.Number e41.Load))) kd97 ty42 rfl rfl rfl nd (j := 0) rfl (fun _ => he43)) rfl rfl (P1 (p_faO (xs := (l30.set i33.toNat (Unit_api.mk e41.Kind label1 e41.Number e41.Load))) fs42_2 (by decide) rfl nd (j := 0) rfl) rfl rfl ?_)
        refine TLc.stL (lu := Enc.cl ((wr (at2 + i33)) : Int)) (a' := (Unit_api.mk e43.Kind e43.Label (wr (at2 + i33)) e43.Load)) nd ty3 rfl (j := 0) rfl he43 rfl (Cells_v ((wr (at2 + i33)) : Int)) rfl rfl rfl fun nd => ?_
        refine TL.cv 10 (OL b29 ((l30.set i33.toNat (Unit_api.mk e41.Kind label1 e41.Number e41.Load)).set i33.toNat (Unit_api.mk e43.Kind e43.Label (wr (at2 + i33)) e43.Load))) rfl (Wk_eq (OL_len (by simp))) ?_
        refine TL.nil (hK42 _ _ ?_)
        refine TK.seq_k fun K44 hK44 => ?_
        have J44 : ∀ (l46 : List Unit_api) (env : Env) (h : Hp), (∃ b45 b47, keepE [0, 1, 10, 13, 14] env = [(0, true, Enc.v label1), (1, true, Enc.v at2), (10, true, OL b45 l46), (13, true, OL b47 out32), (14, true, Enc.v i33)] ∧ Nd [(b45, RL (α := Unit_api) 42 l46), (b47, RD (β := UInt8) 24 5 b47 out32)] ∧ HSub [(b45, RL (α := Unit_api) 42 l46), (b47, RD (β := UInt8) 24 5 b47 out32)] h) → X.cartridgeref10_Blocks_or_j44 i33 out32 l46 = some x28x → K44 env h := by
          intro l46 env h hE hX
          obtain ⟨b45, b47, henv, nd, hs⟩ := hE
          unfold X.cartridgeref10_Blocks_or_j44 at hX
          refine hK44 _ _ (TK.keep [0, 1, 10, 13, 14] ?_)
          rw [henv]
          refine TK.subH hs ?_
          refine SR fun K48 hK48 => M rfl rfl (M rfl rfl ?_)
          obtain ⟨e49, he49, hX⟩ := bind_some hX
          refine P1 (p_iaO (xs := l46) kd97 ty42 rfl rfl rfl nd (j := 0) rfl (fun _ => he49)) rfl rfl (P1 (p_ldO (xs := l46) (a := e49) (e49 : Unit_api) ty42 rfl rfl nd (j := 0) rfl (fun _ => he49) rfl rfl rfl) rfl rfl ?_)
          obtain ⟨r50, hr50, hX⟩ := bind_some hX
          refine TL.tcX [] [(b45, RL (α := Unit_api) 42 l46), (b47, RD (β := UInt8) 24 5 b47 out32)] rfl nd (dlt rfl) rfl ⟨rfl, ⟨rfl, trivial⟩⟩ (ok_cartridgeref1_PutFrame_or e49 (Nd.take nd 0 rfl) _ hr50) ?_
          rintro _ _ hQ nd
          obtain ⟨b51, rfl, rfl⟩ := hQ
          refine M rfl rfl (P1 (p_ex rfl rfl (by decide)) rfl rfl (P1 (p_ex rfl rfl (by decide)) rfl rfl (M rfl rfl (M rfl rfl (TL.nil (hK48 _ _ ?_))))))
          refine TK.seq_k fun K52 hK52 => ?_
          refine SR fun K53 hK53 => M rfl rfl (P1 (p_neq rfl rfl) rfl rfl (TL.nil (hK53 _ _ ?_)))
          refine TK.cond (b := (r50.2 != (0 : Int))) rfl (fun hc => ?_) (fun hc => ?_)
          · have hX := ite_t hc hX
            refine SR fun K54 hK54 => M rfl rfl (M rfl rfl (M rfl rfl (TL.nil (hK54 _ _ ?_))))
            refine TK.ownL (α := (List UInt8)) 8 24 nd rfl (.inl rfl) fun b55 nd => ?_
            refine TK.toD (β := UInt8) 5 nd (j := 0) rfl fun nd => ?_
            refine TK.pick [0] nd (by decide) fun nd => ?_
            refine TK.ret ?_
            obtain rfl := hR28 _ (some_in hX).symm
            replace hX := hA28
            try dsimp only [thenQ]
            exact retX (v := .tup 2 (ofL [OL (α := (List UInt8)) b55 ([] : List (List UInt8)), Enc.v r50.2])) (resN (vs := [OL (α := (List UInt8)) b55 ([] : List (List UInt8)), Enc.v r50.2]) ⟨rfl, rfl, trivial⟩) (by obtain rfl := some_in hX; exact ⟨b55, rfl, rfl⟩) nd (inH_tup (l := [OL (α := (List UInt8)) b55 ([] : List (List UInt8)), Enc.v r50.2]) ⟨inH_rs nd (j := 0) rfl, inH_val (v_val _), trivial⟩) ⟨rowIn_RD, trivial⟩
          · have hX := ite_f hc hX
            refine TK.skip ?_
            refine hK52 _ _ ?_
            refine TK.reg ?_
            refine M rfl rfl (M rfl rfl ?_)
            refine TLc.litP nd kd26 ty24 rfl rfl (j := 0) rfl rfl ?_
            obtain ⟨u56, hu56, hX⟩ := bind_some hX
            refine TLc.appD nd kd26 bo26 ty24 rfl rfl (j := 2) rfl (j2 := 0) rfl rfl (by decide) (need_t hu56) rfl fun nd => ?_
            refine M rfl rfl (TL.nil (hK39 _ _ ?_))
            refine TK.pushA (h := [(b51, RL (α := UInt8) 5 r50.1), (b45, RL (α := Unit_api) 42 l46), (b47, rowC (RD (β := UInt8) 24 5 b47 (out32 ++ ([r50.1] : List (List UInt8)))) out32.length (OL b51 r50.1))]) (he := by repeat first | refine NoE.c ?_ | refine NoE.p ?_ | infer_instance) nd (j := 2) rfl (j2 := 0) rfl rfl fun nd => ?_
            refine TK.reg ?_
            refine M rfl rfl (P1 (p_add rfl rfl) rfl rfl (M rfl rfl (TL.nil ?_)))
            exact ⟨_, (some_in hX).symm, b45, b47, rfl, (Nd.pick nd (is := [0, 1]) (by decide)), (HSub.pick nd (is := [0, 1]) (by decide))⟩
        refine SR fun K57 hK57 => M rfl rfl (P1 (p_gtr rfl rfl) rfl rfl (TL.nil (hK57 _ _ ?_)))
        refine TK.cond (b := (decide (at2 > (2147483648 : Int)))) rfl (fun hc => ?_) (fun hc => ?_)
        · have hX := ite_t hc hX
          refine TK.reg ?_
          refine M rfl rfl (M rfl rfl ?_)
          obtain ⟨e58, he58, hX⟩ := bind_some hX
          refine P1 (p_iaO (xs := ((l30.set i33.toNat (Unit_api.mk e41.Kind label1 e41.Number e41.Load)).set i33.toNat (Unit_api.mk e43.Kind e43.Label (wr (at2 + i33)) e43.Load))) kd97 ty42 rfl rfl rfl nd (j := 0) rfl (fun _ => he58)) rfl rfl ?_
          refine P1 (p_faO (xs := ((l30.set i33.toNat (Unit_api.mk e41.Kind label1 e41.Number e41.Load)).set i33.toNat (Unit_api.mk e43.Kind e43.Label (wr (at2 + i33)) e43.Load))) fs42_2 (by decide) rfl nd (j := 0) rfl) rfl rfl ?_
          refine TLc.stL (lu := Enc.cl ((2147483648 : Int) : Int)) (a' := (Unit_api.mk e58.Kind e58.Label (2147483648 : Int) e58.Load)) nd ty3 rfl (j := 0) rfl he58 rfl (Cells_v ((2147483648 : Int) : Int)) rfl rfl rfl fun nd => ?_
          refine TL.cv 10 (OL b29 (((l30.set i33.toNat (Unit_api.mk e41.Kind label1 e41.Number e41.Load)).set i33.toNat (Unit_api.mk e43.Kind e43.Label (wr (at2 + i33)) e43.Load)).set i33.toNat (Unit_api.mk e58.Kind e58.Label (2147483648 : Int) e58.Load))) rfl (Wk_eq (OL_len (by simp))) ?_
          refine TL.nil ?_
          exact J44 (((l30.set i33.toNat (Unit_api.mk e41.Kind label1 e41.Number e41.Load)).set i33.toNat (Unit_api.mk e43.Kind e43.Label (wr (at2 + i33)) e43.Load)).set i33.toNat (Unit_api.mk e58.Kind e58.Label (2147483648 : Int) e58.Load)) _ _ ⟨b29, b31, rfl, (Nd.pick nd (is := [0, 1]) (by decide)), (HSub.pick nd (is := [0, 1]) (by decide))⟩ hX
        · have hX := ite_f hc hX
          refine TK.skip ?_
          exact J44 ((l30.set i33.toNat (Unit_api.mk e41.Kind label1 e41.Number e41.Load)).set i33.toNat (Unit_api.mk e43.Kind e43.Label (wr (at2 + i33)) e43.Load)) _ _ ⟨b29, b31, rfl, (Nd.pick nd (is := [0, 1]) (by decide)), (HSub.pick nd (is := [0, 1]) (by decide))⟩ hX
      · have hX := ite_f hc hX
        refine TK.exit ?_
        obtain rfl := hR28 _ (some_in hX).symm
        exact E28 out32 _ _ ⟨b31, rfl, (Nd.pick nd (is := [1]) (by decide)), (HSub.pick nd (is := [1]) (by decide))⟩ hA28
    refine TK.iter [0, 1, 3, 10, 11] (fun s env h => match s with | (l18, i19) => ∃ b17, env = [(0, true, Enc.v label1), (1, true, Enc.v at2), (3, true, Enc.v b4), (10, true, OL b17 l18), (11, true, Enc.v i19)] ∧ Nd [(b17, RL (α := Unit_api) 42 l18)] ∧ HSub [(b17, RL (α := Unit_api) 42 l18)] h) hO16 ⟨b13, rfl, (Nd.pick nd (is := [0]) (by decide)), (HSub.pick nd (is := [0]) (by decide))⟩ ?_
    rintro ⟨l18, i19⟩ env h x16x ⟨b17, rfl, nd, hs⟩ hX hR16
    refine TK.subH hs ?_
    unfold X.cartridgeref10_Blocks_or_s16 at hX
    try dsimp only at hX
    refine TK.seq_k fun K59 hK59 => ?_
    refine SR fun K60 hK60 => M rfl rfl (M rfl rfl (P1 (p_lenL (xs := b4) kd24 rfl) rfl rfl (P1 (p_lss rfl rfl) rfl rfl (TL.nil (hK60 _ _ ?_)))))
    refine TK.cond (b := (decide (i19 < (b4.length : Int)))) rfl (fun hc => ?_) (fun hc => ?_)
    · have hX := ite_t hc hX
      refine TK.skip ?_
      refine hK59 _ _ ?_
      refine TK.seq_k fun K61 hK61 => ?_
      refine TK.block ?_
      refine SR fun K62 hK62 => M rfl rfl (P1 (p_add rfl rfl) rfl rfl (M rfl rfl (TL.nil (hK62 _ _ ?_))))
      refine TK.seq_k fun K63 hK63 => ?_
      have J63 : ∀ (to65 : Int) (env : Env) (h : Hp), (∃ b64, keepE [0, 1, 3, 10, 11, 12] env = [(0, true, Enc.v label1), (1, true, Enc.v at2), (3, true, Enc.v b4), (10, true, OL b64 l18), (11, true, Enc.v i19), (12, true, Enc.v to65)] ∧ Nd [(b64, RL (α := Unit_api) 42 l18)] ∧ HSub [(b64, RL (α := Unit_api) 42 l18)] h) → X.cartridgeref10_Blocks_or_j63 i19 b4 l18 to65 = some x16x → K63 env h := by
        intro to65 env h hE hX
        obtain ⟨b64, henv, nd, hs⟩ := hE
        unfold X.cartridgeref10_Blocks_or_j63 at hX
        refine hK63 _ _ (TK.keep [0, 1, 3, 10, 11, 12] ?_)
        rw [henv]
        refine TK.subH hs ?_
        refine TK.reg ?_
        refine M rfl rfl (M rfl rfl (M rfl rfl (M rfl rfl ?_)))
        obtain ⟨u66, hu66, hX⟩ := bind_some hX
        refine P1 (p_sliL (xs := b4) (l := i19) (k := to65) kd24 ty5 rfl rfl rfl rfl (fun e => need_t hu66)) rfl rfl (P1 (p_bld (l := Enc.cl ((Unit_api.mk (3 : Int) (0 : Int) (0 : Int) (slc b4 i19 to65)) : Unit_api)) ty42 rfl all42 rfl (fun _ => ⟨⟨rfl, trivial, rfl⟩, ⟨rfl, trivial, rfl⟩, trivial⟩)) rfl rfl ?_)
        refine TLc.lit ([(Unit_api.mk (3 : Int) (0 : Int) (0 : Int) (slc b4 i19 to65))] : List Unit_api) kd97 ty42 rfl ⟨⟨rfl, rfl⟩, trivial⟩ rfl rfl rfl ?_
        obtain ⟨u67, hu67, hX⟩ := bind_some hX
        refine TLc.appO nd kd97 bo97 ty42 rfl rfl (j := 0) rfl rfl (Src_L _) (by decide) (need_t hu67) rfl fun nd => ?_
        refine M rfl rfl (TL.nil (hK61 _ _ ?_))
        refine TK.reg ?_
        refine M rfl rfl (P1 (p_add rfl rfl) rfl rfl (M rfl rfl (TL.nil ?_)))
        exact ⟨_, (some_in hX).symm, b64, rfl, (Nd.pick nd (is := [0]) (by decide)), (HSub.pick nd (is := [0]) (by decide))⟩
      refine SR fun K68 hK68 => M rfl rfl (M rfl rfl (P1 (p_lenL (xs := b4) kd24 rfl) rfl rfl (P1 (p_gtr rfl rfl) rfl rfl (TL.nil (hK68 _ _ ?_)))))
      refine TK.cond (b := (decide ((wr (i19 + (64 : Int))) > (b4.length : Int)))) rfl (fun hc => ?_) (fun hc => ?_)
      · have hX := ite_t hc hX
        refine TK.reg ?_
        refine M rfl rfl (P1 (p_lenL (xs := b4) kd24 rfl) rfl rfl (M rfl rfl (TL.nil ?_)))
        exact J63 (b4.length : Int) _ _ ⟨b17, rfl, (Nd.pick nd (is := [0]) (by decide)), (HSub.pick nd (is := [0]) (by decide))⟩ hX
      · have hX := ite_f hc hX
        refine TK.skip ?_
        exact J63 (wr (i19 + (64 : Int))) _ _ ⟨b17, rfl, (Nd.pick nd (is := [0]) (by decide)), (HSub.pick nd (is := [0]) (by decide))⟩ hX
    · have hX := ite_f hc hX
      refine TK.exit ?_
      obtain rfl := hR16 _ (some_in hX).symm
      exact E16 l18 _ _ ⟨b17, rfl, (Nd.pick nd (is := [0]) (by decide)), (HSub.pick nd (is := [0]) (by decide))⟩ hA16

/-- cartridge/cartridgeref1.NewReader -/
theorem ok_cartridgeref1_NewReader (b1 : (List UInt8)) (nd : Nd []) (r : ((List UInt8) × Bool)) (hX : X.cartridgeref1_NewReader b1 = some r) : TCX Tryd.prog 54 [Enc.v (b1 : (List UInt8))] [] (fun rv h' => ∃ b5, rv = .ref b5 0 2 ∧ h' = [(b5, RV 159 [Enc.v (r.1 : (List UInt8)), Enc.v (r.2 : Bool)])]) := by
  refine TCX.of b54 (Nat.le_of_ble_eq_true rfl) ?_
  unfold k54
  unfold X.cartridgeref1_NewReader at hX
  refine SR fun K2 hK2 => M rfl rfl (TL.nil (hK2 _ _ (SR fun K3 hK3 => M rfl rfl (P1 (p_bld (l := Enc.cl ((Reader_ref1.mk b1 false) : Reader_ref1)) ty159 rfl all159 rfl (fun _ => ⟨⟨rfl, trivial, rfl⟩, trivial⟩)) rfl rfl ?_))))
  refine TLc.boxO (lu := [Enc.v ((Reader_ref1.mk b1 false).b_ : (List UInt8)), Enc.v ((Reader_ref1.mk b1 false).bad_ : Bool)]) nd rfl (Cells_v ((Reader_ref1.mk b1 false) : Reader_ref1)) rfl fun b4 nd => ?_
  refine M rfl rfl (TL.nil (hK3 _ _ ?_))
  refine TK.ret ?_
  try dsimp only [thenQ]
  exact retX (v := .ref b4 0 2) (res1 rfl) (by obtain rfl := some_in hX; exact ⟨b4, rfl, rfl⟩) nd (inH_ref nd (j := 0) rfl) ⟨rowIn_RV ⟨inH_val (v_val _), inH_val (v_val _), trivial⟩, trivial⟩

/-- (*cartridge/cartridgeref1.Reader).take -/
theorem ok_cartridgeref1_Reader_take (n4 : Int) (b1 : (List UInt8)) (bad2 : Bool) (b3 : Nat) (nd : Nd [(b3, RV 159 [Enc.v (b1 : (List UInt8)), Enc.v (bad2 : Bool)])]) (r : ((List UInt8) × ((List UInt8) × Bool))) (hX : X.cartridgeref1_Reader_take n4 b1 bad2 = some r) : TCX Tryd.prog 59 [.ref b3 0 2, Enc.v (n4 : Int)] [(b3, RV 159 [Enc.v (b1 : (List UInt8)), Enc.v (bad2 : Bool)])] (fun rv h' => rv = Enc.v (r.1 : (List UInt8)) ∧ h' = [(b3, RV 159 [Enc.v (r.2.1 : (List UInt8)), Enc.v (r.2.2 : Bool)])]) := by
  refine TCX.of b59 (Nat.le_of_ble_eq_true rfl) ?_
  unfold k59
  unfold X.cartridgeref1_Reader_take at hX
  refine SR fun K5 hK5 => M rfl rfl (TL.nil (hK5 _ _ ?_))
  refine TK.seq_k fun K6 hK6 => ?_
  refine SR fun K7 hK7 => M rfl rfl (P1 (p_ncR rfl (fun _ => refOK_of nd (j := 0) rfl rfl)) rfl rfl (P1 (p_faV fs159_1 (by decide) rfl nd (j := 0) rfl rfl) rfl rfl (P1 (p_ldV (v := Enc.v bad2) ty4 rfl rfl nd (j := 0) rfl rfl rfl rfl rfl) rfl rfl (M rfl rfl ?_))))
  refine TLc.p (gc := (!bad2)) (p_mv rfl (hg := fun e => rfl)) (gcF1 rfl) rfl ?_
  refine TLc.p (gc := (!bad2)) (p_ncR rfl (fun _ => refOK_of nd (j := 0) rfl rfl) (hg := fun e => e)) (gcF1 rfl) rfl ?_
  refine TLc.p (gc := (!bad2)) (p_faV fs159_0 (by decide) rfl nd (j := 0) rfl rfl (hg := fun e => e)) (gcF1 rfl) rfl ?_
  refine TLc.p (gc := (!bad2)) (p_ldV (v := Enc.v b1) ty24 rfl rfl nd (j := 0) rfl rfl rfl rfl rfl (hg := fun e => e)) (gcF1 rfl) rfl ?_
  refine TLc.p (gc := (!bad2)) (p_lenL (xs := b1) kd24 rfl (hg := fun e => e)) (gcF1 rfl) rfl ?_
  refine TLc.p (gc := (!bad2)) (p_mv rfl (hg := fun e => rfl)) (gcF1 rfl) rfl ?_
  refine TLc.p (gc := (!bad2)) (p_lss rfl rfl (hg := fun e => ⟨e, e⟩)) (gcF1 rfl) rfl ?_
  refine P1 (p_or rfl rfl (fun e => ⟨rfl, fun h => (not_t h)⟩)) rfl rfl (TL.nil (hK7 _ _ ?_))
  refine TK.cond (b := (bad2 || (decide ((b1.length : Int) < n4)))) rfl (fun hc => ?_) (fun hc => ?_)
  · have hX := ite_t hc hX
    refine SR fun K8 hK8 => M rfl rfl (P1 (p_ncR rfl (fun _ => refOK_of nd (j := 0) rfl rfl)) rfl rfl (P1 (p_faV fs159_1 (by decide) rfl nd (j := 0) rfl rfl) rfl rfl ?_))
    refine TLc.stV (lu := Enc.cl (true : Bool)) nd ty4 rfl (j := 0) rfl rfl rfl (Cells_v (true : Bool)) rfl rfl [Enc.v b1, Enc.v true] rfl fun nd => ?_
    refine TL.nil (hK8 _ _ (SR fun K9 hK9 => M rfl rfl (TL.nil (hK9 _ _ ?_))))
    refine TK.wk 4 (L ([] : (List UInt8))) rfl Wk_nil ?_
    refine TK.ret ?_
    try dsimp only [thenQ]
    exact retX (v := Enc.v (([] : (List UInt8)) : (List UInt8))) (res1 rfl) (by obtain rfl := some_in hX; exact ⟨rfl, rfl⟩) nd (inH_val (v_val _)) ⟨rowIn_RV ⟨inH_val (v_val _), inH_val (v_val _), trivial⟩, trivial⟩
  · have hX := ite_f hc hX
    refine TK.skip ?_
    refine hK6 _ _ (SR fun K10 hK10 => M rfl rfl (P1 (p_ncR rfl (fun _ => refOK_of nd (j := 0) rfl rfl)) rfl rfl (P1 (p_faV fs159_0 (by decide) rfl nd (j := 0) rfl rfl) rfl rfl (P1 (p_ldV (v := Enc.v b1) ty24 rfl rfl nd (j := 0) rfl rfl rfl rfl rfl) rfl rfl (M rfl rfl ?_)))))
    obtain ⟨u11, hu11, hX⟩ := bind_some hX
    refine P1 (p_sliL (xs := b1) (l := (0 : Int)) (k := n4) kd24 ty5 rfl rfl rfl rfl (fun e => need_t hu11)) rfl rfl (M rfl rfl (TL.nil (hK10 _ _ (SR fun K12 hK12 => M rfl rfl (M rfl rfl (P1 (p_ncR rfl (fun _ => refOK_of nd (j := 0) rfl rfl)) rfl rfl (P1 (p_faV fs159_0 (by decide) rfl nd (j := 0) rfl rfl) rfl rfl (P1 (p_ldV (v := Enc.v b1) ty24 rfl rfl nd (j := 0) rfl rfl rfl rfl rfl) rfl rfl (M rfl rfl ?_)))))))))
    obtain ⟨u13, hu13, hX⟩ := bind_some hX
    refine P1 (p_sliL (xs := b1) (l := n4) (k := (b1.length : Int)) kd24 ty5 rfl rfl rfl rfl (fun e => need_t hu13)) rfl rfl (P1 (p_ncR rfl (fun _ => refOK_of nd (j := 0) rfl rfl)) rfl rfl (P1 (p_faV fs159_0 (by decide) rfl nd (j := 0) rfl rfl) rfl rfl ?_))
    refine TLc.stV (lu := Enc.cl ((slc b1 n4 (b1.length : Int)) : (List UInt8))) nd ty24 rfl (j := 0) rfl rfl rfl (Cells_v ((slc b1 n4 (b1.length : Int)) : (List UInt8))) rfl rfl [Enc.v ((slc b1 n4 (b1.length : Int)) : (List UInt8)), Enc.v bad2] rfl fun nd => ?_
    refine TL.nil (hK12 _ _ (SR fun K14 hK14 => M rfl rfl (M rfl rfl (TL.nil (hK14 _ _ ?_)))))
    refine TK.ret ?_
    try dsimp only [thenQ]
    exact retX (v := Enc.v ((slc b1 (0 : Int) n4) : (List UInt8))) (res1 rfl) (by obtain rfl := some_in hX; exact ⟨rfl, rfl⟩) nd (inH_val (v_val _)) ⟨rowIn_RV ⟨inH_val (v_val _), inH_val (v_val _), trivial⟩, trivial⟩

/-- (*cartridge/cartridgeref1.Reader).Byte -/
theorem ok_cartridgeref1_Reader_Byte (b1 : (List UInt8)) (bad2 : Bool) (b3 : Nat) (nd : Nd [(b3, RV 159 [Enc.v (b1 : (List UInt8)), Enc.v (bad2 : Bool)])]) (r : (UInt8 × ((List UInt8) × Bool))) (hX : X.cartridgeref1_Reader_Byte b1 bad2 = some r) : TCX Tryd.prog 55 [.ref b3 0 2] [(b3, RV 159 [Enc.v (b1 : (List UInt8)), Enc.v (bad2 : Bool)])] (fun rv h' => rv = Enc.v (r.1 : UInt8) ∧ h' = [(b3, RV 159 [Enc.v (r.2.1 : (List UInt8)), Enc.v (r.2.2 : Bool)])]) := by
  refine TCX.of b55 (Nat.le_of_ble_eq_true rfl) ?_
  unfold k55
  unfold X.cartridgeref1_Reader_Byte at hX
  refine SR fun K4 hK4 => M rfl rfl (TL.nil (hK4 _ _ (SR fun K5 hK5 => M rfl rfl ?_)))
  obtain ⟨r6, hr6, hX⟩ := bind_some hX
  refine TL.tcX [(b3, RV 159 [Enc.v b1, Enc.v bad2])] [] rfl nd (dlt rfl) rfl ⟨rfl, ⟨rfl, ⟨rfl, trivial⟩⟩⟩ (ok_cartridgeref1_Reader_take (1 : Int) b1 bad2 b3 (Nd.take nd 1 rfl) _ hr6) ?_
  rintro _ _ hQ nd
  obtain ⟨rfl, rfl⟩ := hQ
  refine M rfl rfl (TL.nil (hK5 _ _ ?_))
  refine TK.seq_k fun K8 hK8 => ?_
  refine SR fun K9 hK9 => M rfl rfl (P1 (p_lenL (xs := r6.1) kd24 rfl) rfl rfl (P1 (p_eql rfl rfl) rfl rfl (TL.nil (hK9 _ _ ?_))))
  refine TK.cond (b := ((r6.1.length : Int) == (0 : Int))) rfl (fun hc => ?_) (fun hc => ?_)
  · have hX := ite_t hc hX
    refine SR fun K10 hK10 => M rfl rfl (TL.nil (hK10 _ _ ?_))
    refine TK.ret ?_
    try dsimp only [thenQ]
    exact retX (v := Enc.v ((0 : UInt8) : UInt8)) (res1 rfl) (by obtain rfl := some_in hX; exact ⟨rfl, rfl⟩) nd (inH_val (v_val _)) ⟨rowIn_RV ⟨inH_val (v_val _), inH_val (v_val _), trivial⟩, trivial⟩
  · have hX := ite_f hc hX
    refine TK.skip ?_
    refine hK8 _ _ (SR fun K11 hK11 => M rfl rfl ?_)
    obtain ⟨e12, he12, hX⟩ := bind_some hX
    refine P1 (p_iaL (xs := r6.1) kd24 ty5 rfl rfl rfl (fun _ => he12)) rfl rfl (P1 (p_ldE (xs := r6.1) (a := e12) (e12 : UInt8) ty5 rfl rfl (fun _ => he12) rfl rfl rfl) rfl rfl (M rfl rfl (TL.nil (hK11 _ _ ?_))))
    refine TK.ret ?_
    try dsimp only [thenQ]
    exact retX (v := Enc.v e12) (res1 rfl) (by obtain rfl := some_in hX; exact ⟨rfl, rfl⟩) nd (inH_val (v_val _)) ⟨rowIn_RV ⟨inH_val (v_val _), inH_val (v_val _), trivial⟩, trivial⟩

/-- (*cartridge/cartridgeref1.Reader).Int -/
theorem ok_cartridgeref1_Reader_Int (b1 : (List UInt8)) (bad2 : Bool) (b3 : Nat) (nd : Nd [(b3, RV 159 [Enc.v (b1 : (List UInt8)), Enc.v (bad2 : Bool)])]) (r : (Int × ((List UInt8) × Bool))) (hX : X.cartridgeref1_Reader_Int b1 bad2 = some r) : TCX Tryd.prog 56 [.ref b3 0 2] [(b3, RV 159 [Enc.v (b1 : (List UInt8)), Enc.v (bad2 : Bool)])] (fun rv h' => rv = Enc.v (r.1 : Int) ∧ h' = [(b3, RV 159 [Enc.v (r.2.1 : (List UInt8)), Enc.v (r.2.2 : Bool)])]) := by
  refine TCX.of b56 (Nat.le_of_ble_eq_true rfl) ?_
  unfold k56
  unfold X.cartridgeref1_Reader_Int at hX
  refine SR fun K4 hK4 => M rfl rfl (TL.nil (hK4 _ _ (SR fun K5 hK5 => M rfl rfl ?_)))
  obtain ⟨r6, hr6, hX⟩ := bind_some hX
  refine TL.tcX [(b3, RV 159 [Enc.v b1, Enc.v bad2])] [] rfl nd (dlt rfl) rfl ⟨rfl, ⟨rfl, ⟨rfl, trivial⟩⟩⟩ (ok_cartridgeref1_Reader_take (4 : Int) b1 bad2 b3 (Nd.take nd 1 rfl) _ hr6) ?_
  rintro _ _ hQ nd
  obtain ⟨rfl, rfl⟩ := hQ
  refine M rfl rfl (TL.nil (hK5 _ _ (SR fun K8 hK8 => M rfl rfl (TL.nil (hK8 _ _ ?_)))))
  refine TK.seq_k fun K9 hK9 => ?_
  refine SR fun K10 hK10 => M rfl rfl (TL.nil (hK10 _ _ ?_))
  refine TK.block ?_
  obtain ⟨o11, hO11, hA11⟩ := bind_some hX
  have E11 : ∀ (n16 : Int) (env : Env) (h : Hp), (∃ _u : Unit, keepE [0, 4] env = [(0, true, .ref b3 0 2), (4, true, Enc.v n16)] ∧ Nd [(b3, RV 159 [Enc.v r6.2.1, Enc.v r6.2.2])] ∧ HSub [(b3, RV 159 [Enc.v r6.2.1, Enc.v r6.2.2])] h) → X.cartridgeref1_Reader_Int_e11 r6 n16 = some r → K9 env h := by
    intro n16 env h hE hX
    obtain ⟨_u, henv, nd, hs⟩ := hE
    unfold X.cartridgeref1_Reader_Int_e11 at hX
    refine hK9 _ _ (TK.keep [0, 4] ?_)
    rw [henv]
    refine TK.subH hs ?_
    refine SR fun K17 hK17 => M rfl rfl (M rfl rfl (TL.nil (hK17 _ _ ?_)))
    refine TK.ret ?_
    try dsimp only [thenQ]
    exact retX (v := Enc.v n16) (res1 rfl) (by obtain rfl := some_in hX; exact ⟨rfl, rfl⟩) nd (inH_val (v_val _)) ⟨rowIn_RV ⟨inH_val (v_val _), inH_val (v_val _), trivial⟩, trivial⟩
  refine TK.iter [0, 3, 4, 5] (fun s env h => match s with | (n13, i14) => ∃ _u : Unit, env = [(0, true, .ref b3 0 2), (3, true, Enc.v r6.1), (4, true, Enc.v n13), (5, true, Enc.v i14)] ∧ Nd [(b3, RV 159 [Enc.v r6.2.1, Enc.v r6.2.2])] ∧ HSub [(b3, RV 159 [Enc.v r6.2.1, Enc.v r6.2.2])] h) hO11 ⟨(), rfl, (Nd.pick nd (is := [0]) (by decide)), (HSub.pick nd (is := [0]) (by decide))⟩ ?_
  rintro ⟨n13, i14⟩ env h x11x ⟨_u, rfl, nd, hs⟩ hX hR11
  refine TK.subH hs ?_
  unfold X.cartridgeref1_Reader_Int_s11 at hX
  try dsimp only at hX
  refine TK.seq_k fun K18 hK18 => ?_
  refine SR fun K19 hK19 => M rfl rfl (M rfl rfl (P1 (p_lenL (xs := r6.1) kd24 rfl) rfl rfl (P1 (p_lss rfl rfl) rfl rfl (TL.nil (hK19 _ _ ?_)))))
  refine TK.cond (b := (decide (i14 < (r6.1.length : Int)))) rfl (fun hc => ?_) (fun hc => ?_)
  · have hX := ite_t hc hX
    refine TK.skip ?_
    refine hK18 _ _ ?_
    refine TK.seq_k fun K20 hK20 => ?_
    refine TK.block ?_
    refine TK.reg ?_
    refine M rfl rfl (P1 (p_shl rfl rfl (fun _ => by omega)) rfl rfl (M rfl rfl (M rfl rfl ?_)))
    obtain ⟨e21, he21, hX⟩ := bind_some hX
    refine P1 (p_iaL (xs := r6.1) kd24 ty5 rfl rfl rfl (fun _ => he21)) rfl rfl (P1 (p_ldE (xs := r6.1) (a := e21) (e21 : UInt8) ty5 rfl rfl (fun _ => he21) rfl rfl rfl) rfl rfl (P1 (p_cvt src5 kd3 rfl (cv_8 e21)) rfl rfl (P1 (p_or64 rfl rfl) rfl rfl (M rfl rfl (TL.nil (hK20 _ _ ?_))))))
    refine TK.reg ?_
    refine M rfl rfl (P1 (p_add rfl rfl) rfl rfl (M rfl rfl (TL.nil ?_)))
    exact ⟨_, (some_in hX).symm, (), rfl, (Nd.pick nd (is := [0]) (by decide)), (HSub.pick nd (is := [0]) (by decide))⟩
  · have hX := ite_f hc hX
    refine TK.exit ?_
    obtain rfl := hR11 _ (some_in hX).symm
    exact E11 n13 _ _ ⟨(), rfl, (Nd.pick nd (is := [0]) (by decide)), (HSub.pick nd (is := [0]) (by decide))⟩ hA11

/-- (*cartridge/cartridgeref1.Reader).Bad -/
theorem ok_cartridgeref1_Reader_Bad (b1 : (List UInt8)) (bad2 : Bool) (r : Bool) (hX : X.cartridgeref1_Reader_Bad b1 bad2 = some r) : Fun Tryd.prog 57 [.vref (ofL [Enc.v (b1 : (List UInt8)), Enc.v (bad2 : Bool)]) 2 0] (· = Enc.v (r : Bool)) := by
  refine Fun.of b57 (Nat.le_of_ble_eq_true rfl) (allVal.mem ⟨(by exact (vref_val (l := [Enc.v (b1 : (List UInt8)), Enc.v (bad2 : Bool)]) rfl ⟨(v_val _), (v_val _), trivial⟩)), trivial⟩) ?_
  unfold k57
  have nd : Nd [] := Nd_nil
  unfold X.cartridgeref1_Reader_Bad at hX
  refine SR fun K3 hK3 => M rfl rfl (TL.nil (hK3 _ _ (SR fun K4 hK4 => M rfl rfl (P1 (p_ncV rfl) rfl rfl (P1 (p_faR fs159_1 (by decide) rfl) rfl rfl (P1 (p_ldR (v := Enc.v bad2) ty4 rfl rfl rfl rfl rfl rfl) rfl rfl (M rfl rfl (TL.nil (hK4 _ _ ?_)))))))))
  refine TK.ret ?_
  try dsimp only [thenQ]
  exact R1 rfl hX

/-- (*cartridge/cartridgeref1.Reader).Left -/
theorem ok_cartridgeref1_Reader_Left (b1 : (List UInt8)) (bad2 : Bool) (r : Int) (hX : X.cartridgeref1_Reader_Left b1 bad2 = some r) : Fun Tryd.prog 58 [.vref (ofL [Enc.v (b1 : (List UInt8)), Enc.v (bad2 : Bool)]) 2 0] (· = Enc.v (r : Int)) := by
  refine Fun.of b58 (Nat.le_of_ble_eq_true rfl) (allVal.mem ⟨(by exact (vref_val (l := [Enc.v (b1 : (List UInt8)), Enc.v (bad2 : Bool)]) rfl ⟨(v_val _), (v_val _), trivial⟩)), trivial⟩) ?_
  unfold k58
  have nd : Nd [] := Nd_nil
  unfold X.cartridgeref1_Reader_Left at hX
  refine SR fun K3 hK3 => M rfl rfl (TL.nil (hK3 _ _ ?_))
  refine TK.seq_k fun K4 hK4 => ?_
  refine SR fun K5 hK5 => M rfl rfl (P1 (p_ncV rfl) rfl rfl (P1 (p_faR fs159_1 (by decide) rfl) rfl rfl (P1 (p_ldR (v := Enc.v bad2) ty4 rfl rfl rfl rfl rfl rfl) rfl rfl (TL.nil (hK5 _ _ ?_)))))
  refine TK.cond (b := bad2) rfl (fun hc => ?_) (fun hc => ?_)
  · have hX := ite_t hc hX
    refine SR fun K6 hK6 => M rfl rfl (TL.nil (hK6 _ _ ?_))
    refine TK.ret ?_
    try dsimp only [thenQ]
    exact R1 rfl hX
  · have hX := ite_f hc hX
    refine TK.skip ?_
    refine hK4 _ _ (SR fun K7 hK7 => M rfl rfl (P1 (p_ncV rfl) rfl rfl (P1 (p_faR fs159_0 (by decide) rfl) rfl rfl (P1 (p_ldR (v := Enc.v b1) ty24 rfl rfl rfl rfl rfl rfl) rfl rfl (P1 (p_lenL (xs := b1) kd24 rfl) rfl rfl (M rfl rfl (TL.nil (hK7 _ _ ?_))))))))
    refine TK.ret ?_
    try dsimp only [thenQ]
    exact R1 rfl hX

/-- cartridge/cartridgeref1.PutFrame -/
theorem ok_cartridgeref1_PutFrame (u1 : Unit_api) (r : ((List UInt8) × Int)) (hX : X.cartridgeref1_PutFrame u1 = some r) : Fun Tryd.prog 19 [Enc.v (u1 : Unit_api)] (· = .tup 2 (ofL [Enc.v r.1, Enc.v r.2])) := by
  refine Fun.of b19 (Nat.le_of_ble_eq_true rfl) (allVal.mem ⟨(by exact (v_val _)), trivial⟩) ?_
  unfold k19
  have nd : Nd [] := Nd_nil
  unfold X.cartridgeref1_PutFrame at hX
  refine SR fun K2 hK2 => ?_
  refine TLc.boxV (lu := [Enc.v u1.Kind, Enc.v u1.Label, Enc.v u1.Number, Enc.v u1.Load]) nd rfl (Cells_v (u1 : Unit_api)) rfl ?_
  refine M rfl rfl (M rfl rfl (TL.nil (hK2 _ _ (SR fun K3 hK3 => M rfl rfl (TL.nil (hK3 _ _ ?_))))))
  refine TK.seq_k fun K4 hK4 => ?_
  have J4 : ∀ (most5 : Int) (env : Env) (h : Hp), (∃ _u : Unit, keepE [1, 4] env = [(1, true, .vref (ofL [Enc.v u1.Kind, Enc.v u1.Label, Enc.v u1.Number, Enc.v u1.Load]) 4 0), (4, true, Enc.v most5)] ∧ Nd [] ∧ HSub [] h) → X.cartridgeref1_PutFrame_j4 u1 most5 = some r → K4 env h := by
    intro most5 env h hE hX
    obtain ⟨_u, henv, nd, hs⟩ := hE
    unfold X.cartridgeref1_PutFrame_j4 at hX
    refine hK4 _ _ (TK.keep [1, 4] ?_)
    rw [henv]
    refine TK.subH hs ?_
    refine TK.seq_k fun K6 hK6 => ?_
    refine TK.block ?_
    refine SR fun K7 hK7 => P1 (p_faR fs42_0 (by decide) rfl) rfl rfl (P1 (p_ldR (v := Enc.v u1.Kind) ty3 rfl rfl rfl rfl rfl rfl) rfl rfl (P1 (p_lss rfl rfl) rfl rfl (M rfl rfl ?_)))
    refine TLc.p (gc := (!((decide (u1.Kind < (1 : Int)))))) (p_faR fs42_0 (by decide) rfl (hg := fun e => rfl)) (gcF1 rfl) rfl ?_
    refine TLc.p (gc := (!((decide (u1.Kind < (1 : Int)))))) (p_ldR (v := Enc.v u1.Kind) ty3 rfl rfl rfl rfl rfl rfl (hg := fun e => e)) (gcF1 rfl) rfl ?_
    refine TLc.p (gc := (!((decide (u1.Kind < (1 : Int)))))) (p_gtr rfl rfl (hg := fun e => ⟨e, rfl⟩)) (gcF1 rfl) rfl ?_
    refine P1 (p_or rfl rfl (fun e => ⟨rfl, fun h => (not_t h)⟩)) rfl rfl (M rfl rfl ?_)
    refine TLc.p (gc := (!(((decide (u1.Kind < (1 : Int))) || (decide (u1.Kind > (6 : Int))))))) (p_faR fs42_1 (by decide) rfl (hg := fun e => rfl)) (gcF1 rfl) rfl ?_
    refine TLc.p (gc := (!(((decide (u1.Kind < (1 : Int))) || (decide (u1.Kind > (6 : Int))))))) (p_ldR (v := Enc.v u1.Label) ty3 rfl rfl rfl rfl rfl rfl (hg := fun e => e)) (gcF1 rfl) rfl ?_
    refine TLc.p (gc := (!(((decide (u1.Kind < (1 : Int))) || (decide (u1.Kind > (6 : Int))))))) (p_lss rfl rfl (hg := fun e => ⟨e, rfl⟩)) (gcF1 rfl) rfl ?_
    refine P1 (p_or rfl rfl (fun e => ⟨rfl, fun h => (not_t h)⟩)) rfl rfl (M rfl rfl ?_)
    refine TLc.p (gc := (!((((decide (u1.Kind < (1 : Int))) || (decide (u1.Kind > (6 : Int)))) || (decide (u1.Label < (1 : Int))))))) (p_faR fs42_1 (by decide) rfl (hg := fun e => rfl)) (gcF1 rfl) rfl ?_
    refine TLc.p (gc := (!((((decide (u1.Kind < (1 : Int))) || (decide (u1.Kind > (6 : Int)))) || (decide (u1.Label < (1 : Int))))))) (p_ldR (v := Enc.v u1.Label) ty3 rfl rfl rfl rfl rfl rfl (hg := fun e => e)) (gcF1 rfl) rfl ?_
    refine TLc.p (gc := (!((((decide (u1.Kind < (1 : Int))) || (decide (u1.Kind > (6 : Int)))) || (decide (u1.Label < (1 : Int))))))) (p_gtr rfl rfl (hg := fun e => ⟨e, rfl⟩)) (gcF1 rfl) rfl ?_
    refine P1 (p_or rfl rfl (fun e => ⟨rfl, fun h => (not_t h)⟩)) rfl rfl (M rfl rfl ?_)
    refine TLc.p (gc := (!(((((decide (u1.Kind < (1 : Int))) || (decide (u1.Kind > (6 : Int)))) || (decide (u1.Label < (1 : Int)))) || (decide (u1.Label > (2147483647 : Int))))))) (p_faR fs42_2 (by decide) rfl (hg := fun e => rfl)) (gcF1 rfl) rfl ?_
    refine TLc.p (gc := (!(((((decide (u1.Kind < (1 : Int))) || (decide (u1.Kind > (6 : Int)))) || (decide (u1.Label < (1 : Int)))) || (decide (u1.Label > (2147483647 : Int))))))) (p_ldR (v := Enc.v u1.Number) ty3 rfl rfl rfl rfl rfl rfl (hg := fun e => e)) (gcF1 rfl) rfl ?_
    refine TLc.p (gc := (!(((((decide (u1.Kind < (1 : Int))) || (decide (u1.Kind > (6 : Int)))) || (decide (u1.Label < (1 : Int)))) || (decide (u1.Label > (2147483647 : Int))))))) (p_lss rfl rfl (hg := fun e => ⟨e, rfl⟩)) (gcF1 rfl) rfl ?_
    refine P1 (p_or rfl rfl (fun e => ⟨rfl, fun h => (not_t h)⟩)) rfl rfl (M rfl rfl ?_)
    refine TLc.p (gc := (!((((((decide (u1.Kind < (1 : Int))) || (decide (u1.Kind > (6 : Int)))) || (decide (u1.Label < (1 : Int)))) || (decide (u1.Label > (2147483647 : Int)))) || (decide (u1.Number < (0 : Int))))))) (p_faR fs42_2 (by decide) rfl (hg := fun e => rfl)) (gcF1 rfl) rfl ?_
    refine TLc.p (gc := (!((((((decide (u1.Kind < (1 : Int))) || (decide (u1.Kind > (6 : Int)))) || (decide (u1.Label < (1 : Int)))) || (decide (u1.Label > (2147483647 : Int)))) || (decide (u1.Number < (0 : Int))))))) (p_ldR (v := Enc.v u1.Number) ty3 rfl rfl rfl rfl rfl rfl (hg := fun e => e)) (gcF1 rfl) rfl ?_
    refine TLc.p (gc := (!((((((decide (u1.Kind < (1 : Int))) || (decide (u1.Kind > (6 : Int)))) || (decide (u1.Label < (1 : Int)))) || (decide (u1.Label > (2147483647 : Int)))) || (decide (u1.Number < (0 : Int))))))) (p_gtr rfl rfl (hg := fun e => ⟨e, rfl⟩)) (gcF1 rfl) rfl ?_
    refine P1 (p_or rfl rfl (fun e => ⟨rfl, fun h => (not_t h)⟩)) rfl rfl (M rfl rfl (TL.nil (hK7 _ _ ?_)))
    refine TK.cond (b := ((((((decide (u1.Kind < (1 : Int))) || (decide (u1.Kind > (6 : Int)))) || (decide (u1.Label < (1 : Int)))) || (decide (u1.Label > (2147483647 : Int)))) || (decide (u1.Number < (0 : Int)))) || (decide (u1.Number > (2147483647 : Int))))) rfl (fun hc => ?_) (fun hc => ?_)
    · have hX := ite_t hc hX
      refine SR fun K8 hK8 => M rfl rfl (M rfl rfl (TL.nil (hK8 _ _ ?_)))
      refine TK.wk 2 (L ([] : (List UInt8))) rfl Wk_nil ?_
      refine TK.ret ?_
      try dsimp only [thenQ]
      exact retN (vs := [Enc.v (([] : (List UInt8)) : (List UInt8)), Enc.v ((1 : Int) : Int)]) ⟨rfl, rfl, trivial⟩ (by obtain rfl := some_in hX; rfl) (allVal.mem ⟨v_val _, v_val _, trivial⟩)
    · have hX := ite_f hc hX
      refine SR fun K9 hK9 => P1 (p_faR fs42_3 (by decide) rfl) rfl rfl (P1 (p_ldR (v := Enc.v u1.Load) ty24 rfl rfl rfl rfl rfl rfl) rfl rfl (P1 (p_lenL (xs := u1.Load) kd24 rfl) rfl rfl (M rfl rfl (P1 (p_gtr rfl rfl) rfl rfl (M rfl rfl (TL.nil (hK9 _ _ ?_)))))))
      refine TK.cond (b := (decide ((u1.Load.length : Int) > most5))) rfl (fun hc => ?_) (fun hc => ?_)
      · have hX := ite_t hc hX
        refine SR fun K10 hK10 => M rfl rfl (M rfl rfl (TL.nil (hK10 _ _ ?_)))
        refine TK.wk 2 (L ([] : (List UInt8))) rfl Wk_nil ?_
        refine TK.ret ?_
        try dsimp only [thenQ]
        exact retN (vs := [Enc.v (([] : (List UInt8)) : (List UInt8)), Enc.v ((4 : Int) : Int)]) ⟨rfl, rfl, trivial⟩ (by obtain rfl := some_in hX; rfl) (allVal.mem ⟨v_val _, v_val _, trivial⟩)
      · have hX := ite_f hc hX
        refine TK.skip ?_
        refine hK6 _ _ (SR fun K11 hK11 => P1 (p_bld (l := [.nils]) ty102 rfl all102 rfl (fun _ => trivial)) rfl rfl ?_)
        refine TLc.boxO (lu := [.nils]) nd rfl (Cells_agg rfl (allA.mem ⟨trivial, trivial⟩)) rfl fun b12 nd => ?_
        refine M rfl rfl (TL.nil (hK11 _ _ ?_))
        refine TK.ownC (α := UInt8) nd (j := 0) rfl 0 5 (.inl rfl) fun b13 nd => ?_
        refine SR fun K14 hK14 => M rfl rfl (P1 (p_faR fs42_0 (by decide) rfl) rfl rfl (P1 (p_ldR (v := Enc.v u1.Kind) ty3 rfl rfl rfl rfl rfl rfl) rfl rfl (P1 (p_cvt src3 kd5 rfl (cv_u8 _)) rfl rfl ?_)))
        obtain ⟨r15, hr15, hX⟩ := bind_some hX
        refine TL.pick [1, 0] nd (by decide) fun nd => ?_
        refine TL.tcX [(b12, RV 102 [OL (α := UInt8) b13 ([] : List UInt8)]), (b13, RL (α := UInt8) 5 ([] : List UInt8))] [] rfl nd (dlt rfl) rfl ⟨rfl, ⟨rfl, ⟨rfl, trivial⟩⟩⟩ (ok_cartridgeref1_Writer_Byte (u8 u1.Kind) ([] : List UInt8) b12 b13 (Nd.take nd 2 rfl) _ hr15) ?_
        rintro _ _ hQ nd
        obtain ⟨b17, rfl, rfl⟩ := hQ
        refine TL.nil (hK14 _ _ (SR fun K18 hK18 => M rfl rfl (P1 (p_faR fs42_1 (by decide) rfl) rfl rfl (P1 (p_ldR (v := Enc.v u1.Label) ty3 rfl rfl rfl rfl rfl rfl) rfl rfl ?_))))
        obtain ⟨r19, hr19, hX⟩ := bind_some hX
        refine TL.tcX [(b12, RV 102 [OL b17 r15]), (b17, RL (α := UInt8) 5 r15)] [] rfl nd (dlt rfl) rfl ⟨rfl, ⟨rfl, ⟨rfl, trivial⟩⟩⟩ (ok_cartridgeref1_Writer_Int u1.Label r15 b12 b17 (Nd.take nd 2 rfl) _ hr19) ?_
        rintro _ _ hQ nd
        obtain ⟨b21, rfl, rfl⟩ := hQ
        refine TL.nil (hK18 _ _ (SR fun K22 hK22 => M rfl rfl (P1 (p_faR fs42_2 (by decide) rfl) rfl rfl (P1 (p_ldR (v := Enc.v u1.Number) ty3 rfl rfl rfl rfl rfl rfl) rfl rfl ?_))))
        obtain ⟨r23, hr23, hX⟩ := bind_some hX
        refine TL.tcX [(b12, RV 102 [OL b21 r19]), (b21, RL (α := UInt8) 5 r19)] [] rfl nd (dlt rfl) rfl ⟨rfl, ⟨rfl, ⟨rfl, trivial⟩⟩⟩ (ok_cartridgeref1_Writer_Int u1.Number r19 b12 b21 (Nd.take nd 2 rfl) _ hr23) ?_
        rintro _ _ hQ nd
        obtain ⟨b25, rfl, rfl⟩ := hQ
        refine TL.nil (hK22 _ _ ?_)
        refine TK.seq_k fun K26 hK26 => ?_
        have ndS : Nd [] := Nd.pick nd (is := []) (by decide)
        refine TK.drwX (h := [(b12, RV 102 [OL b25 r23]), (b25, RL (α := UInt8) 5 r23)]) (hS := []) [(0, 0), (0, 1), (1, 2), (1, 3), (1, 4), (0, 5), (0, 6), (0, 7), (0, 8), (0, 9), (0, 10), (0, 11), (0, 12), (0, 13), (0, 14), (0, 15), (2, 16), (1, 17), (1, 18), (2, 19)] mixed (by kernel_rfl) (HSub_app nd) ?_
        refine DM rfl rfl rfl ?_
        refine DM rfl rfl rfl ?_
        refine DR1 (gc := true) rfl (vok_p (C := cx) (p_ncR rfl (fun _ => refOK_of nd (j := 0) rfl rfl))) rfl rfl ?_
        refine DR1 (gc := true) rfl (vok_p (C := cx) (p_faV fs102_0 (by decide) rfl nd (j := 0) rfl rfl)) rfl rfl ?_
        refine DR1 (gc := true) rfl (vok_p (C := cx) (p_ldV (v := OL b25 r23) ty24 rfl rfl nd (j := 0) rfl rfl rfl rfl rfl)) rfl rfl ?_
        refine D0 rfl (p_faR fs42_3 (by decide) rfl) rfl rfl ?_
        refine D0 rfl (p_ldR (v := Enc.v u1.Load) ty24 rfl rfl rfl rfl rfl rfl) rfl rfl ?_
        refine D0 rfl (p_lenL (xs := u1.Load) kd24 rfl) rfl rfl ?_
        refine D0 rfl (p_shr rfl rfl (fun _ => by omega)) rfl rfl ?_
        refine D0 rfl (p_cvt src3 kd5 rfl (cv_u8 _)) rfl rfl ?_
        refine D0 rfl (p_faR fs42_3 (by decide) rfl) rfl rfl ?_
        refine D0 rfl (p_ldR (v := Enc.v u1.Load) ty24 rfl rfl rfl rfl rfl rfl) rfl rfl ?_
        refine D0 rfl (p_lenL (xs := u1.Load) kd24 rfl) rfl rfl ?_
        refine D0 rfl (p_and64 rfl rfl) rfl rfl ?_
        refine D0 rfl (p_cvt src3 kd5 rfl (cv_u8 _)) rfl rfl ?_
        refine DR0 (gc := true) rfl (vok_lit (C := cx) ([(u8 (shr64 (u1.Load.length : Int) ((8 : UInt64).toNat : Int))), (u8 (and64 (u1.Load.length : Int) (255 : Int)))] : List UInt8) kd24 ty5 rfl ⟨⟨rfl, rfl⟩, ⟨rfl, rfl⟩, trivial⟩ rfl rfl) rfl rfl ?_
        obtain ⟨u27, hu27, hX⟩ := bind_some hX
        refine DR2 rfl rfl ?_
        refine TLc.appO nd kd24 bo24 ty5 rfl rfl (j := 1) rfl rfl (Src_L _) (by decide) (need_t hu27) rfl fun nd => ?_
        refine TL.nil ⟨_, [(b12, RV 102 [OL b25 r23]), (b25, RL (α := UInt8) 5 (r23 ++ ([(u8 (shr64 (u1.Load.length : Int) ((8 : UInt64).toNat : Int))), (u8 (and64 (u1.Load.length : Int) (255 : Int)))] : List UInt8)))], rfl, rfl, HSub_app nd, ?_⟩
        refine DR1 (gc := true) rfl (vok_p (C := cx) (p_ncR rfl (fun _ => refOK_of nd (j := 0) rfl rfl))) rfl rfl ?_
        refine DR1 (gc := true) rfl (vok_p (C := cx) (p_faV fs102_0 (by decide) rfl nd (j := 0) rfl rfl)) rfl rfl ?_
        refine DR2n rfl ?_
        refine TLc.stV (lu := [OL (α := UInt8) b25 (r23 ++ ([(u8 (shr64 (u1.Load.length : Int) ((8 : UInt64).toNat : Int))), (u8 (and64 (u1.Load.length : Int) (255 : Int)))] : List UInt8))]) nd ty24 rfl (j := 0) rfl rfl rfl (Cells_rs (refOK_of nd (j := 1) rfl rfl)) rfl rfl [OL (α := UInt8) b25 (r23 ++ ([(u8 (shr64 (u1.Load.length : Int) ((8 : UInt64).toNat : Int))), (u8 (and64 (u1.Load.length : Int) (255 : Int)))] : List UInt8))] rfl fun nd => ?_
        refine TL.nil ⟨.nilp, [(b12, RV 102 [OL (α := UInt8) b25 (r23 ++ ([(u8 (shr64 (u1.Load.length : Int) ((8 : UInt64).toNat : Int))), (u8 (and64 (u1.Load.length : Int) (255 : Int)))] : List UInt8))]), (b25, RL (α := UInt8) 5 (r23 ++ ([(u8 (shr64 (u1.Load.length : Int) ((8 : UInt64).toNat : Int))), (u8 (and64 (u1.Load.length : Int) (255 : Int)))] : List UInt8)))], rfl, rfl, HSub_app nd, ?_⟩
        refine DRend ?_
        refine hK26 _ _ ?_
        refine TK.seq_k fun K28 hK28 => ?_
        have ndS : Nd [] := Nd.pick nd (is := []) (by decide)
        refine TK.drwX (h := [(b12, RV 102 [OL (α := UInt8) b25 (r23 ++ ([(u8 (shr64 (u1.Load.length : Int) ((8 : UInt64).toNat : Int))), (u8 (and64 (u1.Load.length : Int) (255 : Int)))] : List UInt8))]), (b25, RL (α := UInt8) 5 (r23 ++ ([(u8 (shr64 (u1.Load.length : Int) ((8 : UInt64).toNat : Int))), (u8 (and64 (u1.Load.length : Int) (255 : Int)))] : List UInt8)))]) (hS := []) [(0, 0), (0, 1), (1, 2), (1, 3), (1, 4), (0, 5), (0, 6), (2, 7), (1, 8), (1, 9), (2, 10)] mixed (by kernel_rfl) (HSub_app nd) ?_
        refine DM rfl rfl rfl ?_
        refine DM rfl rfl rfl ?_
        refine DR1 (gc := true) rfl (vok_p (C := cx) (p_ncR rfl (fun _ => refOK_of nd (j := 0) rfl rfl))) rfl rfl ?_
        refine DR1 (gc := true) rfl (vok_p (C := cx) (p_faV fs102_0 (by decide) rfl nd (j := 0) rfl rfl)) rfl rfl ?_
        refine DR1 (gc := true) rfl (vok_p (C := cx) (p_ldV (v := OL (α := UInt8) b25 (r23 ++ ([(u8 (shr64 (u1.Load.length : Int) ((8 : UInt64).toNat : Int))), (u8 (and64 (u1.Load.length : Int) (255 : Int)))] : List UInt8))) ty24 rfl rfl nd (j := 0) rfl rfl rfl rfl rfl)) rfl rfl ?_
        refine D0 rfl (p_faR fs42_3 (by decide) rfl) rfl rfl ?_
        refine D0 rfl (p_ldR (v := Enc.v u1.Load) ty24 rfl rfl rfl rfl rfl rfl) rfl rfl ?_
        obtain ⟨u29, hu29, hX⟩ := bind_some hX
        refine DR2 rfl rfl ?_
        refine TLc.appO nd kd24 bo24 ty5 rfl rfl (j := 1) rfl rfl (Src_L _) (by decide) (need_t hu29) rfl fun nd => ?_
        refine TL.nil ⟨_, [(b12, RV 102 [OL (α := UInt8) b25 (r23 ++ ([(u8 (shr64 (u1.Load.length : Int) ((8 : UInt64).toNat : Int))), (u8 (and64 (u1.Load.length : Int) (255 : Int)))] : List UInt8))]), (b25, RL (α := UInt8) 5 ((r23 ++ ([(u8 (shr64 (u1.Load.length : Int) ((8 : UInt64).toNat : Int))), (u8 (and64 (u1.Load.length : Int) (255 : Int)))] : List UInt8)) ++ u1.Load))], rfl, rfl, HSub_app nd, ?_⟩
        refine DR1 (gc := true) rfl (vok_p (C := cx) (p_ncR rfl (fun _ => refOK_of nd (j := 0) rfl rfl))) rfl rfl ?_
        refine DR1 (gc := true) rfl (vok_p (C := cx) (p_faV fs102_0 (by decide) rfl nd (j := 0) rfl rfl)) rfl rfl ?_
        refine DR2n rfl ?_
        refine TLc.stV (lu := [OL (α := UInt8) b25 ((r23 ++ ([(u8 (shr64 (u1.Load.length : Int) ((8 : UInt64).toNat : Int))), (u8 (and64 (u1.Load.length : Int) (255 : Int)))] : List UInt8)) ++ u1.Load)]) nd ty24 rfl (j := 0) rfl rfl rfl (Cells_rs (refOK_of nd (j := 1) rfl rfl)) rfl rfl [OL (α := UInt8) b25 ((r23 ++ ([(u8 (shr64 (u1.Load.length : Int) ((8 : UInt64).toNat : Int))), (u8 (and64 (u1.Load.length : Int) (255 : Int)))] : List UInt8)) ++ u1.Load)] rfl fun nd => ?_
        refine TL.nil ⟨.nilp, [(b12, RV 102 [OL (α := UInt8) b25 ((r23 ++ ([(u8 (shr64 (u1.Load.length : Int) ((8 : UInt64).toNat : Int))), (u8 (and64 (u1.Load.length : Int) (255 : Int)))] : List UInt8)) ++ u1.Load)]), (b25, RL (α := UInt8) 5 ((r23 ++ ([(u8 (shr64 (u1.Load.length : Int) ((8 : UInt64).toNat : Int))), (u8 (and64 (u1.Load.length : Int) (255 : Int)))] : List UInt8)) ++ u1.Load))], rfl, rfl, HSub_app nd, ?_⟩
        refine DRend ?_
        refine hK28 _ _ ?_
        refine TK.seq_k fun K30 hK30 => ?_
        have ndS : Nd [] := Nd.pick nd (is := []) (by decide)
        refine TK.drwX (h := [(b12, RV 102 [OL (α := UInt8) b25 ((r23 ++ ([(u8 (shr64 (u1.Load.length : Int) ((8 : UInt64).toNat : Int))), (u8 (and64 (u1.Load.length : Int) (255 : Int)))] : List UInt8)) ++ u1.Load)]), (b25, RL (α := UInt8) 5 ((r23 ++ ([(u8 (shr64 (u1.Load.length : Int) ((8 : UInt64).toNat : Int))), (u8 (and64 (u1.Load.length : Int) (255 : Int)))] : List UInt8)) ++ u1.Load))]) (hS := []) [(0, 0), (0, 1), (1, 2), (1, 3), (1, 4), (0, 5), (0, 6), (0, 7), (0, 8), (0, 9), (2, 10), (1, 11), (1, 12), (2, 13)] mixed (by kernel_rfl) (HSub_app nd) ?_
        refine DM rfl rfl rfl ?_
        refine DM rfl rfl rfl ?_
        refine DR1 (gc := true) rfl (vok_p (C := cx) (p_ncR rfl (fun _ => refOK_of nd (j := 0) rfl rfl))) rfl rfl ?_
        refine DR1 (gc := true) rfl (vok_p (C := cx) (p_faV fs102_0 (by decide) rfl nd (j := 0) rfl rfl)) rfl rfl ?_
        refine DR1 (gc := true) rfl (vok_p (C := cx) (p_ldV (v := OL (α := UInt8) b25 ((r23 ++ ([(u8 (shr64 (u1.Load.length : Int) ((8 : UInt64).toNat : Int))), (u8 (and64 (u1.Load.length : Int) (255 : Int)))] : List UInt8)) ++ u1.Load)) ty24 rfl rfl nd (j := 0) rfl rfl rfl rfl rfl)) rfl rfl ?_
        refine DM rfl rfl rfl ?_
        refine D0 rfl (p_faR fs42_3 (by decide) rfl) rfl rfl ?_
        refine D0 rfl (p_ldR (v := Enc.v u1.Load) ty24 rfl rfl rfl rfl rfl rfl) rfl rfl ?_
        refine D0 rfl (p_lenL (xs := u1.Load) kd24 rfl) rfl rfl ?_
        refine D0 rfl (p_sub rfl rfl) rfl rfl ?_
        obtain ⟨u31, hu31, hX⟩ := bind_some hX
        refine DR2 rfl rfl ?_
        refine TLc.appOZ nd (0 : UInt8) kd24 kd3 ty5 rfl (fun j hj => by (have : j = 0 := by simpa [Enc.sz] using hj); subst this; rfl) rfl (j := 1) rfl rfl (need_t hu31).1 (by decide) (need_t hu31).2 rfl fun nd => ?_
        refine TL.nil ⟨_, [(b12, RV 102 [OL (α := UInt8) b25 ((r23 ++ ([(u8 (shr64 (u1.Load.length : Int) ((8 : UInt64).toNat : Int))), (u8 (and64 (u1.Load.length : Int) (255 : Int)))] : List UInt8)) ++ u1.Load)]), (b25, RL (α := UInt8) 5 (((r23 ++ ([(u8 (shr64 (u1.Load.length : Int) ((8 : UInt64).toNat : Int))), (u8 (and64 (u1.Load.length : Int) (255 : Int)))] : List UInt8)) ++ u1.Load) ++ (List.replicate (wr (most5 - (u1.Load.length : Int))).toNat (0 : UInt8))))], rfl, rfl, HSub_app nd, ?_⟩
        refine DR1 (gc := true) rfl (vok_p (C := cx) (p_ncR rfl (fun _ => refOK_of nd (j := 0) rfl rfl))) rfl rfl ?_
        refine DR1 (gc := true) rfl (vok_p (C := cx) (p_faV fs102_0 (by decide) rfl nd (j := 0) rfl rfl)) rfl rfl ?_
        refine DR2n rfl ?_
        refine TLc.stV (lu := [OL (α := UInt8) b25 (((r23 ++ ([(u8 (shr64 (u1.Load.length : Int) ((8 : UInt64).toNat : Int))), (u8 (and64 (u1.Load.length : Int) (255 : Int)))] : List UInt8)) ++ u1.Load) ++ (List.replicate (wr (most5 - (u1.Load.length : Int))).toNat (0 : UInt8)))]) nd ty24 rfl (j := 0) rfl rfl rfl (Cells_rs (refOK_of nd (j := 1) rfl rfl)) rfl rfl [OL (α := UInt8) b25 (((r23 ++ ([(u8 (shr64 (u1.Load.length : Int) ((8 : UInt64).toNat : Int))), (u8 (and64 (u1.Load.length : Int) (255 : Int)))] : List UInt8)) ++ u1.Load) ++ (List.replicate (wr (most5 - (u1.Load.length : Int))).toNat (0 : UInt8)))] rfl fun nd => ?_
        refine TL.nil ⟨.nilp, [(b12, RV 102 [OL (α := UInt8) b25 (((r23 ++ ([(u8 (shr64 (u1.Load.length : Int) ((8 : UInt64).toNat : Int))), (u8 (and64 (u1.Load.length : Int) (255 : Int)))] : List UInt8)) ++ u1.Load) ++ (List.replicate (wr (most5 - (u1.Load.length : Int))).toNat (0 : UInt8)))]), (b25, RL (α := UInt8) 5 (((r23 ++ ([(u8 (shr64 (u1.Load.length : Int) ((8 : UInt64).toNat : Int))), (u8 (and64 (u1.Load.length : Int) (255 : Int)))] : List UInt8)) ++ u1.Load) ++ (List.replicate (wr (most5 - (u1.Load.length : Int))).toNat (0 : UInt8))))], rfl, rfl, HSub_app nd, ?_⟩
        refine DRend ?_
        refine hK30 _ _ (SR fun K32 hK32 => M rfl rfl (M rfl rfl (P1 (p_ncR rfl (fun _ => refOK_of nd (j := 0) rfl rfl)) rfl rfl (P1 (p_faV fs102_0 (by decide) rfl nd (j := 0) rfl rfl) rfl rfl ?_))))
        refine P1 (p_ldV (v := OL (α := UInt8) b25 (((r23 ++ ([(u8 (shr64 (u1.Load.length : Int) ((8 : UInt64).toNat : Int))), (u8 (and64 (u1.Load.length : Int) (255 : Int)))] : List UInt8)) ++ u1.Load) ++ (List.replicate (wr (most5 - (u1.Load.length : Int))).toNat (0 : UInt8)))) ty24 rfl rfl nd (j := 0) rfl rfl rfl rfl rfl) rfl rfl ?_
        obtain ⟨r33, hr33, hX⟩ := bind_some hX
        refine TL.lookX [L (((r23 ++ ([(u8 (shr64 (u1.Load.length : Int) ((8 : UInt64).toNat : Int))), (u8 (and64 (u1.Load.length : Int) (255 : Int)))] : List UInt8)) ++ u1.Load) ++ (List.replicate (wr (most5 - (u1.Load.length : Int))).toNat (0 : UInt8)))] rfl rfl rfl (fun _ => ⟨rfl, ⟨rfl, trivial⟩⟩) ⟨look_OL nd (j := 1) rfl, trivial⟩ (fun e => ok_cartridgeref1_Crc (((r23 ++ ([(u8 (shr64 (u1.Load.length : Int) ((8 : UInt64).toNat : Int))), (u8 (and64 (u1.Load.length : Int) (255 : Int)))] : List UInt8)) ++ u1.Load) ++ (List.replicate (wr (most5 - (u1.Load.length : Int))).toNat (0 : UInt8))) _ hr33) (trivial) ?_
        refine P1 (p_cvt src106 kd3 rfl (cv_32 r33)) rfl rfl ?_
        obtain ⟨r34, hr34, hX⟩ := bind_some hX
        refine TL.tcX [(b12, RV 102 [OL (α := UInt8) b25 (((r23 ++ ([(u8 (shr64 (u1.Load.length : Int) ((8 : UInt64).toNat : Int))), (u8 (and64 (u1.Load.length : Int) (255 : Int)))] : List UInt8)) ++ u1.Load) ++ (List.replicate (wr (most5 - (u1.Load.length : Int))).toNat (0 : UInt8)))]), (b25, RL (α := UInt8) 5 (((r23 ++ ([(u8 (shr64 (u1.Load.length : Int) ((8 : UInt64).toNat : Int))), (u8 (and64 (u1.Load.length : Int) (255 : Int)))] : List UInt8)) ++ u1.Load) ++ (List.replicate (wr (most5 - (u1.Load.length : Int))).toNat (0 : UInt8))))] [] rfl nd (dlt rfl) rfl ⟨rfl, ⟨rfl, ⟨rfl, trivial⟩⟩⟩ (ok_cartridgeref1_Writer_Int (r33.toNat : Int) (((r23 ++ ([(u8 (shr64 (u1.Load.length : Int) ((8 : UInt64).toNat : Int))), (u8 (and64 (u1.Load.length : Int) (255 : Int)))] : List UInt8)) ++ u1.Load) ++ (List.replicate (wr (most5 - (u1.Load.length : Int))).toNat (0 : UInt8))) b12 b25 (Nd.take nd 2 rfl) _ hr34) ?_
        rintro _ _ hQ nd
        obtain ⟨b36, rfl, rfl⟩ := hQ
        refine TL.nil (hK32 _ _ (SR fun K37 hK37 => M rfl rfl (P1 (p_ncR rfl (fun _ => refOK_of nd (j := 0) rfl rfl)) rfl rfl (P1 (p_faV fs102_0 (by decide) rfl nd (j := 0) rfl rfl) rfl rfl (P1 (p_ldV (v := OL b36 r34) ty24 rfl rfl nd (j := 0) rfl rfl rfl rfl rfl) rfl rfl (M rfl rfl (M rfl rfl (TL.nil (hK37 _ _ ?_)))))))))
        refine TK.layR (l2' := [Enc.v r34]) [(2, L r34)] nd (j := 1) rfl 0 rfl rfl ⟨fix_OL nd (j := 1) rfl, trivial⟩ ⟨⟨_, rfl, fix_OL nd (j := 1) rfl, rfl⟩, trivial⟩ fun nd => ?_
        refine TK.ret ?_
        try dsimp only [thenQ]
        exact retN (vs := [Enc.v r34, Enc.v ((0 : Int) : Int)]) ⟨rfl, rfl, trivial⟩ (by obtain rfl := some_in hX; rfl) (allVal.mem ⟨v_val _, v_val _, trivial⟩)
  refine SR fun K38 hK38 => P1 (p_faR fs42_0 (by decide) rfl) rfl rfl (P1 (p_ldR (v := Enc.v u1.Kind) ty3 rfl rfl rfl rfl rfl rfl) rfl rfl (P1 (p_eql rfl rfl) rfl rfl (TL.nil (hK38 _ _ ?_))))
  refine TK.cond (b := (u1.Kind == (6 : Int))) rfl (fun hc => ?_) (fun hc => ?_)
  · have hX := ite_t hc hX
    refine TK.reg ?_
    refine M rfl rfl (TL.nil ?_)
    exact J4 (79 : Int) _ _ ⟨(), rfl, Nd_nil, HSub.refl _⟩ hX
  · have hX := ite_f hc hX
    refine TK.skip ?_
    exact J4 (64 : Int) _ _ ⟨(), rfl, Nd_nil, HSub.refl _⟩ hX

/-- cartridge/cartridgeref1.GetFrame -/
theorem bc_cartridgeref1_GetFrame : BodyC cx 22 57 [.c 2 42, .t 3] k22 := ⟨Enters.of Tryd.func22 (by kernel_rfl) (by kernel_rfl), _, _, Tryd.func22, rfl, by kernel_rfl, rfl, rfl⟩
theorem ok_cartridgeref1_GetFrame (b1 : (List UInt8)) (r : (Unit_api × Int)) (hX : X.cartridgeref1_GetFrame b1 = some r) : Fun Tryd.prog 22 [Enc.v (b1 : (List UInt8))] (· = .tup 2 (ofL [Enc.v r.1, Enc.v r.2])) := by
  refine Fun.ofC (C := cx) bc_cartridgeref1_GetFrame (Nat.le_of_ble_eq_true rfl) (allVal.mem ⟨(by exact (v_val _)), trivial⟩) ?_
  unfold k22
  have nd : Nd [] := Nd_nil
  unfold X.cartridgeref1_GetFrame at hX
  refine SR fun K2 hK2 => ?_
  refine TLc.alO (l := [Enc.v ((0 : Int) : Int), Enc.v ((0 : Int) : Int), Enc.v ((0 : Int) : Int), .nils]) nd ty42 ti42_z rfl rfl fun b3 nd => ?_
  refine M rfl rfl (TL.nil (hK2 _ _ ?_))
  refine TK.ownC (α := UInt8) nd (j := 0) rfl 3 5 (.inl rfl) fun b4 nd => ?_
  refine SR fun K5 hK5 => M rfl rfl ?_
  obtain ⟨r6, hr6, hX⟩ := bind_some hX
  refine TL.tcX [] [(b4, RL (α := UInt8) 5 ([] : List UInt8)), (b3, RV 42 [Enc.v ((0 : Int) : Int), Enc.v ((0 : Int) : Int), Enc.v ((0 : Int) : Int), OL (α := UInt8) b4 ([] : List UInt8)])] rfl nd (dlt rfl) rfl ⟨rfl, ⟨rfl, trivial⟩⟩ (ok_cartridgeref1_NewReader b1 (Nd.take nd 0 rfl) _ hr6) ?_
  rintro _ _ hQ nd
  obtain ⟨b7, rfl, rfl⟩ := hQ
  refine M rfl rfl (TL.nil (hK5 _ _ (SR fun K8 hK8 => M rfl rfl ?_)))
  obtain ⟨r9, hr9, hX⟩ := bind_some hX
  refine TL.tcX [(b7, RV 159 [Enc.v r6.1, Enc.v r6.2])] [(b4, RL (α := UInt8) 5 ([] : List UInt8)), (b3, RV 42 [Enc.v ((0 : Int) : Int), Enc.v ((0 : Int) : Int), Enc.v ((0 : Int) : Int), OL (α := UInt8) b4 ([] : List UInt8)])] rfl nd (dlt rfl) rfl ⟨rfl, ⟨rfl, trivial⟩⟩ (ok_cartridgeref1_Reader_Byte r6.1 r6.2 b7 (Nd.take nd 1 rfl) _ hr9) ?_
  rintro _ _ hQ nd
  obtain ⟨rfl, rfl⟩ := hQ
  refine P1 (p_cvt src5 kd3 rfl (cv_8 r9.1)) rfl rfl (M rfl rfl ?_)
  obtain ⟨r11, hr11, hX⟩ := bind_some hX
  refine TL.tcX [(b7, RV 159 [Enc.v r9.2.1, Enc.v r9.2.2])] [(b4, RL (α := UInt8) 5 ([] : List UInt8)), (b3, RV 42 [Enc.v ((0 : Int) : Int), Enc.v ((0 : Int) : Int), Enc.v ((0 : Int) : Int), OL (α := UInt8) b4 ([] : List UInt8)])] rfl nd (dlt rfl) rfl ⟨rfl, ⟨rfl, trivial⟩⟩ (ok_cartridgeref1_Reader_Int r9.2.1 r9.2.2 b7 (Nd.take nd 1 rfl) _ hr11) ?_
  rintro _ _ hQ nd
  obtain ⟨rfl, rfl⟩ := hQ
  refine M rfl rfl ?_
  obtain ⟨r13, hr13, hX⟩ := bind_some hX
  refine TL.tcX [(b7, RV 159 [Enc.v r11.2.1, Enc.v r11.2.2])] [(b4, RL (α := UInt8) 5 ([] : List UInt8)), (b3, RV 42 [Enc.v ((0 : Int) : Int), Enc.v ((0 : Int) : Int), Enc.v ((0 : Int) : Int), OL (α := UInt8) b4 ([] : List UInt8)])] rfl nd (dlt rfl) rfl ⟨rfl, ⟨rfl, trivial⟩⟩ (ok_cartridgeref1_Reader_Int r11.2.1 r11.2.2 b7 (Nd.take nd 1 rfl) _ hr13) ?_
  rintro _ _ hQ nd
  obtain ⟨rfl, rfl⟩ := hQ
  refine P1 (p_bld (l := [Enc.v ((r9.1.toNat : Int) : Int), Enc.v r11.1, Enc.v r13.1, .nils]) ty42 rfl all42 rfl (fun _ => ⟨⟨rfl, trivial, rfl⟩, ⟨rfl, trivial, rfl⟩, ⟨rfl, trivial, rfl⟩, trivial⟩)) rfl rfl ?_
  refine TLc.alO (l := [Enc.v ((0 : Int) : Int), Enc.v ((0 : Int) : Int), Enc.v ((0 : Int) : Int), .nils]) nd ty42 ti42_z rfl rfl fun b15 nd => ?_
  refine TLc.stV (lu := [Enc.v ((r9.1.toNat : Int) : Int), Enc.v r11.1, Enc.v r13.1, .nils]) nd ty42 rfl (j := 0) rfl rfl rfl (Cells_agg rfl (allA.mem ⟨trivial, trivial, trivial, trivial, trivial⟩)) rfl rfl [Enc.v ((r9.1.toNat : Int) : Int), Enc.v r11.1, Enc.v r13.1, .nils] rfl fun nd => ?_
  refine TL.nil (hK8 _ _ ?_)
  refine TK.ownC (α := UInt8) nd (j := 0) rfl 3 5 (.inl rfl) fun b16 nd => ?_
  refine SR fun K17 hK17 => M rfl rfl ?_
  obtain ⟨r18, hr18, hX⟩ := bind_some hX
  refine TL.pick [2, 0, 1, 3, 4] nd (by decide) fun nd => ?_
  refine TL.tcX [(b7, RV 159 [Enc.v r13.2.1, Enc.v r13.2.2])] [(b16, RL (α := UInt8) 5 ([] : List UInt8)), (b15, RV 42 [Enc.v ((r9.1.toNat : Int) : Int), Enc.v r11.1, Enc.v r13.1, OL (α := UInt8) b16 ([] : List UInt8)]), (b4, RL (α := UInt8) 5 ([] : List UInt8)), (b3, RV 42 [Enc.v ((0 : Int) : Int), Enc.v ((0 : Int) : Int), Enc.v ((0 : Int) : Int), OL (α := UInt8) b4 ([] : List UInt8)])] rfl nd (dlt rfl) rfl ⟨rfl, ⟨rfl, trivial⟩⟩ (ok_cartridgeref1_Reader_Byte r13.2.1 r13.2.2 b7 (Nd.take nd 1 rfl) _ hr18) ?_
  rintro _ _ hQ nd
  obtain ⟨rfl, rfl⟩ := hQ
  refine P1 (p_cvt src5 kd3 rfl (cv_8 r18.1)) rfl rfl (P1 (p_mul rfl rfl) rfl rfl (M rfl rfl ?_))
  obtain ⟨r20, hr20, hX⟩ := bind_some hX
  refine TL.tcX [(b7, RV 159 [Enc.v r18.2.1, Enc.v r18.2.2])] [(b16, RL (α := UInt8) 5 ([] : List UInt8)), (b15, RV 42 [Enc.v ((r9.1.toNat : Int) : Int), Enc.v r11.1, Enc.v r13.1, OL (α := UInt8) b16 ([] : List UInt8)]), (b4, RL (α := UInt8) 5 ([] : List UInt8)), (b3, RV 42 [Enc.v ((0 : Int) : Int), Enc.v ((0 : Int) : Int), Enc.v ((0 : Int) : Int), OL (α := UInt8) b4 ([] : List UInt8)])] rfl nd (dlt rfl) rfl ⟨rfl, ⟨rfl, trivial⟩⟩ (ok_cartridgeref1_Reader_Byte r18.2.1 r18.2.2 b7 (Nd.take nd 1 rfl) _ hr20) ?_
  rintro _ _ hQ nd
  obtain ⟨rfl, rfl⟩ := hQ
  refine P1 (p_cvt src5 kd3 rfl (cv_8 r20.1)) rfl rfl (P1 (p_add rfl rfl) rfl rfl (M rfl rfl (TL.nil (hK17 _ _ ?_))))
  refine TK.seq_k fun K22 hK22 => ?_
  refine SR fun K23 hK23 => M rfl rfl ?_
  obtain ⟨r24, hr24, hX⟩ := bind_some hX
  refine TL.lookX [.vref (ofL [Enc.v r20.2.1, Enc.v r20.2.2]) 2 0] rfl rfl rfl (fun _ => ⟨rfl, ⟨rfl, trivial⟩⟩) ⟨look_ref (l := [Enc.v r20.2.1, Enc.v r20.2.2]) nd (j := 0) rfl ⟨look_v (v := Enc.v r20.2.1) (v_val _), look_v (v := Enc.v r20.2.2) (v_val _), trivial⟩, trivial⟩ (fun e => ok_cartridgeref1_Reader_Bad r20.2.1 r20.2.2 _ hr24) (trivial) ?_
  refine M rfl rfl ?_
  refine TLc.p (gc := (!r24)) (p_mv rfl (hg := fun e => rfl)) (gcF1 rfl) rfl ?_
  refine TLc.p (gc := (!r24)) (p_mv rfl (hg := fun e => rfl)) (gcF1 rfl) rfl ?_
  obtain ⟨r25, hr25, hX⟩ := bind_some hX
  refine TL.lookX [.vref (ofL [Enc.v r20.2.1, Enc.v r20.2.2]) 2 0] (gcF1 rfl) rfl rfl (fun e => ⟨rfl, ⟨e, trivial⟩⟩) ⟨look_ref (l := [Enc.v r20.2.1, Enc.v r20.2.2]) nd (j := 0) rfl ⟨look_v (v := Enc.v r20.2.1) (v_val _), look_v (v := Enc.v r20.2.2) (v_val _), trivial⟩, trivial⟩ (fun e => ok_cartridgeref1_Reader_Left r20.2.1 r20.2.2 _ (optG_t hr25 e)) (trivial) ?_
  refine TLc.p (gc := (!r24)) (p_gtr rfl rfl (hg := fun e => ⟨e, e⟩)) (gcF1 rfl) rfl ?_
  refine P1 (p_or rfl rfl (fun e => ⟨rfl, fun h => (not_t h)⟩)) rfl rfl (TL.nil (hK23 _ _ ?_))
  refine TK.cond (b := (r24 || (decide ((wr ((wr ((256 : Int) * (r18.1.toNat : Int))) + (r20.1.toNat : Int))) > r25)))) rfl (fun hc => ?_) (fun hc => ?_)
  · have hX := ite_t hc hX
    refine SR fun K26 hK26 => P1 (p_bld (l := [Enc.v ((0 : Int) : Int), Enc.v ((0 : Int) : Int), Enc.v ((0 : Int) : Int), .nils]) ty42 rfl all42 rfl (fun _ => trivial)) rfl rfl ?_
    refine TLc.stV (lu := [Enc.v ((0 : Int) : Int), Enc.v ((0 : Int) : Int), Enc.v ((0 : Int) : Int), .nils]) nd ty42 rfl (j := 4) rfl rfl rfl (Cells_agg rfl (allA.mem ⟨trivial, trivial, trivial, trivial, trivial⟩)) rfl rfl [Enc.v ((0 : Int) : Int), Enc.v ((0 : Int) : Int), Enc.v ((0 : Int) : Int), .nils] rfl fun nd => ?_
    refine M rfl rfl (TL.nil (hK26 _ _ ?_))
    refine TK.ownC (α := UInt8) nd (j := 4) rfl 3 5 (.inl rfl) fun b27 nd => ?_
    refine TK.layR (l2' := [Enc.v ((0 : Int) : Int), Enc.v ((0 : Int) : Int), Enc.v ((0 : Int) : Int), Enc.v (([] : List UInt8) : (List UInt8))]) [] nd (j := 0) rfl 5 rfl rfl ⟨fix_id _, fix_id _, fix_id _, fix_OL nd (j := 0) rfl, trivial⟩ trivial fun nd => ?_
    refine TK.ret ?_
    try dsimp only [thenQ]
    exact retC [Enc.v ((Unit_api.mk (0 : Int) (0 : Int) (0 : Int) ([] : List UInt8)) : Unit_api), Enc.v ((2 : Int) : Int)] ⟨p_ldVa (l' := Enc.cl ((Unit_api.mk (0 : Int) (0 : Int) (0 : Int) ([] : List UInt8)) : Unit_api)) ty42 rfl rfl nd (j := 4) rfl rfl rfl rfl (Nat.le_of_ble_eq_true rfl), p_mv rfl, trivial⟩ (by obtain rfl := some_in hX; rfl) (tup_val (allVal.mem ⟨v_val _, v_val _, trivial⟩))
  · have hX := ite_f hc hX
    refine TK.skip ?_
    refine hK22 _ _ (SR fun K28 hK28 => M rfl rfl (M rfl rfl ?_))
    obtain ⟨r29, hr29, hX⟩ := bind_some hX
    refine TL.tcX [(b7, RV 159 [Enc.v r20.2.1, Enc.v r20.2.2])] [(b16, RL (α := UInt8) 5 ([] : List UInt8)), (b15, RV 42 [Enc.v ((r9.1.toNat : Int) : Int), Enc.v r11.1, Enc.v r13.1, OL (α := UInt8) b16 ([] : List UInt8)]), (b4, RL (α := UInt8) 5 ([] : List UInt8)), (b3, RV 42 [Enc.v ((0 : Int) : Int), Enc.v ((0 : Int) : Int), Enc.v ((0 : Int) : Int), OL (α := UInt8) b4 ([] : List UInt8)])] rfl nd (dlt rfl) rfl ⟨rfl, ⟨rfl, ⟨rfl, trivial⟩⟩⟩ (ok_cartridgeref1_Reader_take (wr ((wr ((256 : Int) * (r18.1.toNat : Int))) + (r20.1.toNat : Int))) r20.2.1 r20.2.2 b7 (Nd.take nd 1 rfl) _ hr29) ?_
    rintro _ _ hQ nd
    obtain ⟨rfl, rfl⟩ := hQ
    obtain ⟨u31, hu31, hX⟩ := bind_some hX
    refine TLc.appN nd kd24 bo24 ty5 rfl rfl (.inl rfl) rfl (Src_L _) (by decide) (need_t hu31) rfl fun b32 nd => ?_
    refine P1 (p_faV fs42_3 (by decide) rfl nd (j := 3) rfl rfl) rfl rfl ?_
    refine TLc.stV (lu := [OL (α := UInt8) b32 r29.1]) nd ty24 rfl (j := 3) rfl rfl rfl (Cells_rs (refOK_of nd (j := 0) rfl rfl)) rfl rfl [Enc.v ((r9.1.toNat : Int) : Int), Enc.v r11.1, Enc.v r13.1, OL (α := UInt8) b32 r29.1] rfl fun nd => ?_
    refine TL.nil (hK28 _ _ (SR fun K33 hK33 => ?_))
    refine TL.layR (l2' := [Enc.v ((r9.1.toNat : Int) : Int), Enc.v r11.1, Enc.v r13.1, Enc.v r29.1]) [] nd (j := 0) rfl 3 rfl rfl ⟨fix_id _, fix_id _, fix_id _, fix_OL nd (j := 0) rfl, trivial⟩ trivial fun nd => ?_
    refine P1 (p_ldVa (l' := Enc.cl ((Unit_api.mk (r9.1.toNat : Int) r11.1 r13.1 r29.1) : Unit_api)) ty42 rfl rfl nd (j := 2) rfl rfl rfl rfl (Nat.le_of_ble_eq_true rfl)) rfl rfl ?_
    obtain ⟨r34, hr34, hX⟩ := bind_some hX
    refine TL.cvX rfl rfl rfl (fun _ => ⟨rfl, ⟨rfl, trivial⟩⟩) (fun e => ok_cartridgeref1_PutFrame (Unit_api.mk (r9.1.toNat : Int) r11.1 r13.1 r29.1) _ hr34) ?_
    refine M rfl rfl (P1 (p_ex rfl rfl (by decide)) rfl rfl (P1 (p_ex rfl rfl (by decide)) rfl rfl (M rfl rfl (M rfl rfl (TL.nil (hK33 _ _ ?_))))))
    refine TK.seq_k fun K35 hK35 => ?_
    refine SR fun K36 hK36 => M rfl rfl (P1 (p_neq rfl rfl) rfl rfl (M rfl rfl ?_))
    refine TLc.p (gc := (!((r34.2 != (0 : Int))))) (p_mv rfl (hg := fun e => rfl)) (gcF1 rfl) rfl ?_
    refine TL.ofV (gc := (!((r34.2 != (0 : Int))))) (vok_cvtBS (C := cx) (gc := (!((r34.2 != (0 : Int))))) (xs := r34.1) kd24 kd5 kd9 rfl (look_v (v := Enc.v r34.1) (v_val _)) (hg := fun e => e)) (gcF1 rfl) rfl ?_
    refine TLc.p (gc := (!((r34.2 != (0 : Int))))) (p_mv rfl (hg := fun e => rfl)) (gcF1 rfl) rfl ?_
    refine TL.ofV (gc := (!((r34.2 != (0 : Int))))) (vok_cvtBS (C := cx) (gc := (!((r34.2 != (0 : Int))))) (xs := b1) kd24 kd5 kd9 rfl (look_v (v := Enc.v b1) (v_val _)) (hg := fun e => e)) (gcF1 rfl) rfl ?_
    refine TLc.p (gc := (!((r34.2 != (0 : Int))))) (ps_neq (s := (Str.mk r34.1)) (r := (Str.mk b1)) rfl rfl (hg := fun e => ⟨e, e⟩)) (gcF1 rfl) rfl ?_
    refine P1 (p_or rfl rfl (fun e => ⟨rfl, fun h => (not_t h)⟩)) rfl rfl (TL.nil (hK36 _ _ ?_))
    refine TK.cond (b := ((r34.2 != (0 : Int)) || (!((Str.mk r34.1).l == (Str.mk b1).l)))) rfl (fun hc => ?_) (fun hc => ?_)
    · have hX := ite_t hc hX
      refine SR fun K37 hK37 => P1 (p_bld (l := [Enc.v ((0 : Int) : Int), Enc.v ((0 : Int) : Int), Enc.v ((0 : Int) : Int), .nils]) ty42 rfl all42 rfl (fun _ => trivial)) rfl rfl ?_
      refine TLc.stV (lu := [Enc.v ((0 : Int) : Int), Enc.v ((0 : Int) : Int), Enc.v ((0 : Int) : Int), .nils]) nd ty42 rfl (j := 4) rfl rfl rfl (Cells_agg rfl (allA.mem ⟨trivial, trivial, trivial, trivial, trivial⟩)) rfl rfl [Enc.v ((0 : Int) : Int), Enc.v ((0 : Int) : Int), Enc.v ((0 : Int) : Int), .nils] rfl fun nd => ?_
      refine M rfl rfl (TL.nil (hK37 _ _ ?_))
      refine TK.ownC (α := UInt8) nd (j := 4) rfl 3 5 (.inl rfl) fun b38 nd => ?_
      refine TK.layR (l2' := [Enc.v ((0 : Int) : Int), Enc.v ((0 : Int) : Int), Enc.v ((0 : Int) : Int), Enc.v (([] : List UInt8) : (List UInt8))]) [] nd (j := 0) rfl 5 rfl rfl ⟨fix_id _, fix_id _, fix_id _, fix_OL nd (j := 0) rfl, trivial⟩ trivial fun nd => ?_
      refine TK.ret ?_
      try dsimp only [thenQ]
      exact retC [Enc.v ((Unit_api.mk (0 : Int) (0 : Int) (0 : Int) ([] : List UInt8)) : Unit_api), Enc.v ((2 : Int) : Int)] ⟨p_ldVa (l' := Enc.cl ((Unit_api.mk (0 : Int) (0 : Int) (0 : Int) ([] : List UInt8)) : Unit_api)) ty42 rfl rfl nd (j := 4) rfl rfl rfl rfl (Nat.le_of_ble_eq_true rfl), p_mv rfl, trivial⟩ (by obtain rfl := some_in hX; rfl) (tup_val (allVal.mem ⟨v_val _, v_val _, trivial⟩))
    · have hX := ite_f hc hX
      refine TK.skip ?_
      refine hK35 _ _ (SR fun K39 hK39 => P1 (p_ldVa (l' := Enc.cl ((Unit_api.mk (r9.1.toNat : Int) r11.1 r13.1 r29.1) : Unit_api)) ty42 rfl rfl nd (j := 2) rfl rfl rfl rfl (Nat.le_of_ble_eq_true rfl)) rfl rfl ?_)
      refine TLc.stV (lu := Enc.cl ((Unit_api.mk (r9.1.toNat : Int) r11.1 r13.1 r29.1) : Unit_api)) nd ty42 rfl (j := 4) rfl rfl rfl (Cells_v ((Unit_api.mk (r9.1.toNat : Int) r11.1 r13.1 r29.1) : Unit_api)) rfl rfl [Enc.v ((Unit_api.mk (r9.1.toNat : Int) r11.1 r13.1 r29.1).Kind : Int), Enc.v ((Unit_api.mk (r9.1.toNat : Int) r11.1 r13.1 r29.1).Label : Int), Enc.v ((Unit_api.mk (r9.1.toNat : Int) r11.1 r13.1 r29.1).Number : Int), Enc.v ((Unit_api.mk (r9.1.toNat : Int) r11.1 r13.1 r29.1).Load : (List UInt8))] rfl fun nd => ?_
      refine M rfl rfl (TL.nil (hK39 _ _ ?_))
      refine TK.ret ?_
      try dsimp only [thenQ]
      exact retC [Enc.v ((Unit_api.mk (r9.1.toNat : Int) r11.1 r13.1 r29.1) : Unit_api), Enc.v ((0 : Int) : Int)] ⟨p_ldVa (l' := Enc.cl ((Unit_api.mk (r9.1.toNat : Int) r11.1 r13.1 r29.1) : Unit_api)) ty42 rfl rfl nd (j := 4) rfl rfl rfl rfl (Nat.le_of_ble_eq_true rfl), p_mv rfl, trivial⟩ (by obtain rfl := some_in hX; rfl) (tup_val (allVal.mem ⟨v_val _, v_val _, trivial⟩))

/-- cartridge/cartridgelaw11.SameParts -/
theorem ok_cartridgelaw11_SameParts (a1 : (List Part_api)) (b2 : (List Part_api)) (r : Bool) (hX : X.cartridgelaw11_SameParts a1 b2 = some r) : Fun Tryd.prog 23 [Enc.v (a1 : (List Part_api)), Enc.v (b2 : (List Part_api))] (· = Enc.v (r : Bool)) := by
  refine Fun.of b23 (Nat.le_of_ble_eq_true rfl) (allVal.mem ⟨(by exact (v_val _)), (by exact (v_val _)), trivial⟩) ?_
  unfold k23
  have nd : Nd [] := Nd_nil
  unfold X.cartridgelaw11_SameParts at hX
  refine SR fun K3 hK3 => M rfl rfl (TL.nil (hK3 _ _ ?_))
  refine TK.seq_k fun K4 hK4 => ?_
  refine SR fun K5 hK5 => M rfl rfl (P1 (p_lenL (xs := a1) kd44 rfl) rfl rfl (M rfl rfl (P1 (p_lenL (xs := b2) kd44 rfl) rfl rfl (P1 (p_neq rfl rfl) rfl rfl (TL.nil (hK5 _ _ ?_))))))
  refine TK.cond (b := ((a1.length : Int) != (b2.length : Int))) rfl (fun hc => ?_) (fun hc => ?_)
  · have hX := ite_t hc hX
    refine SR fun K6 hK6 => M rfl rfl (TL.nil (hK6 _ _ ?_))
    refine TK.ret ?_
    try dsimp only [thenQ]
    exact R1 rfl hX
  · have hX := ite_f hc hX
    refine TK.skip ?_
    refine hK4 _ _ ?_
    refine TK.seq_k fun K7 hK7 => ?_
    refine SR fun K8 hK8 => M rfl rfl (TL.nil (hK8 _ _ ?_))
    refine TK.block ?_
    obtain ⟨o9, hO9, hA9⟩ := bind_some hX
    have E9 : ∀ (env : Env) (h : Hp), (∃ _u : Unit, keepE [] env = [] ∧ Nd [] ∧ HSub [] h) → X.cartridgelaw11_SameParts_e9 = some r → K7 env h := by
      intro  env h hE hX
      obtain ⟨_u, henv, nd, hs⟩ := hE
      unfold X.cartridgelaw11_SameParts_e9 at hX
      refine hK7 _ _ (TK.keep [] ?_)
      rw [henv]
      refine TK.subH hs ?_
      refine SR fun K11 hK11 => M rfl rfl (TL.nil (hK11 _ _ ?_))
      refine TK.ret ?_
      try dsimp only [thenQ]
      exact R1 rfl hX
    refine TK.iter [0, 1, 5] (fun s env h => match s with | i10 => ∃ _u : Unit, env = [(0, true, Enc.v a1), (1, true, Enc.v b2), (5, true, Enc.v i10)] ∧ Nd [] ∧ HSub [] h) hO9 ⟨(), rfl, Nd_nil, HSub.refl _⟩ ?_
    rintro i10 env h x9x ⟨_u, rfl, nd, hs⟩ hX hR9
    refine TK.subH hs ?_
    unfold X.cartridgelaw11_SameParts_s9 at hX
    try dsimp only at hX
    refine TK.seq_k fun K12 hK12 => ?_
    refine SR fun K13 hK13 => M rfl rfl (M rfl rfl (P1 (p_lenL (xs := a1) kd44 rfl) rfl rfl (P1 (p_lss rfl rfl) rfl rfl (TL.nil (hK13 _ _ ?_)))))
    refine TK.cond (b := (decide (i10 < (a1.length : Int)))) rfl (fun hc => ?_) (fun hc => ?_)
    · have hX := ite_t hc hX
      refine TK.skip ?_
      refine hK12 _ _ ?_
      refine TK.seq_k fun K14 hK14 => ?_
      refine TK.block ?_
      refine TK.seq_k fun K15 hK15 => ?_
      have ndS : Nd [] := Nd.pick nd (is := []) (by decide)
      refine TK.drwX (h := []) (hS := []) [(0, 0), (0, 1), (0, 2), (0, 3), (0, 4), (0, 5), (0, 6), (0, 7), (0, 8)] mixed (by kernel_rfl) (HSub_app nd) ?_
      refine DM rfl rfl rfl ?_
      refine DM rfl rfl rfl ?_
      obtain ⟨e16, he16, hX⟩ := bind_some hX
      refine D0 rfl (p_iaL (xs := a1) kd44 ty48 rfl rfl rfl (fun _ => he16)) rfl rfl ?_
      refine D0 rfl (p_ldE (xs := a1) (a := e16) (e16 : Part_api) ty48 rfl rfl (fun _ => he16) rfl rfl rfl) rfl rfl ?_
      refine DM rfl rfl rfl ?_
      refine DM rfl rfl rfl ?_
      obtain ⟨e17, he17, hX⟩ := bind_some hX
      refine D0 rfl (p_iaL (xs := b2) kd44 ty48 rfl rfl rfl (fun _ => he17)) rfl rfl ?_
      refine D0 rfl (p_ldE (xs := b2) (a := e17) (e17 : Part_api) ty48 rfl rfl (fun _ => he17) rfl rfl rfl) rfl rfl ?_
      refine DR0 (gc := true) rfl (vok_eqG (C := cx) (gc := true) (op := .neq) (.inr rfl) kd48 rfl rfl (eqN48 e16 e17)) rfl rfl ?_
      refine DRend ?_
      refine hK15 _ _ ?_
      refine TK.cond (b := (!(e16 == e17))) rfl (fun hc => ?_) (fun hc => ?_)
      · have hX := ite_t hc hX
        refine SR fun K18 hK18 => M rfl rfl (TL.nil (hK18 _ _ ?_))
        refine TK.ret ?_
        obtain rfl := hR9 _ (some_in hX).symm
        replace hX := hA9
        try dsimp only [thenQ]
        exact R1 rfl hX
      · have hX := ite_f hc hX
        refine TK.skip ?_
        refine hK14 _ _ ?_
        refine TK.reg ?_
        refine M rfl rfl (P1 (p_add rfl rfl) rfl rfl (M rfl rfl (TL.nil ?_)))
        exact ⟨_, (some_in hX).symm, (), rfl, Nd_nil, HSub.refl _⟩
    · have hX := ite_f hc hX
      refine TK.exit ?_
      obtain rfl := hR9 _ (some_in hX).symm
      exact E9 _ _ ⟨(), rfl, Nd_nil, HSub.refl _⟩ hA9

/-- cartridge/cartridgelaw11.VolumeFinds -/
theorem ok_cartridgelaw11_VolumeFinds (sizes1 : (List Int)) (spots2 : (List Int)) (r : Bool) (hX : X.cartridgelaw11_VolumeFinds sizes1 spots2 = some r) : Fun Tryd.prog 5 [Enc.v (sizes1 : (List Int)), Enc.v (spots2 : (List Int))] (· = Enc.v (r : Bool)) := by
  refine Fun.of b5 (Nat.le_of_ble_eq_true rfl) (allVal.mem ⟨(by exact (v_val _)), (by exact (v_val _)), trivial⟩) ?_
  unfold k5
  have nd : Nd [] := Nd_nil
  unfold X.cartridgelaw11_VolumeFinds at hX
  refine SR fun K3 hK3 => M rfl rfl (TL.nil (hK3 _ _ (SR fun K4 hK4 => ?_)))
  obtain ⟨r5, hr5, hX⟩ := bind_some hX
  refine TL.cvX rfl rfl rfl (fun _ => ⟨rfl, trivial⟩) (fun e => ok_cartridgelaw11_alive  _ hr5) ?_
  refine M rfl rfl (TL.nil (hK4 _ _ ?_))
  refine TK.seq_k fun K6 hK6 => ?_
  refine SR fun K7 hK7 => M rfl rfl (P1 (p_not rfl) rfl rfl (M rfl rfl ?_))
  refine TLc.p (gc := (!((!r5)))) (p_mv rfl (hg := fun e => rfl)) (gcF1 rfl) rfl ?_
  refine TLc.p (gc := (!((!r5)))) (p_lenL (xs := sizes1) kd36 rfl (hg := fun e => e)) (gcF1 rfl) rfl ?_
  refine TLc.p (gc := (!((!r5)))) (p_gtr rfl rfl (hg := fun e => ⟨e, rfl⟩)) (gcF1 rfl) rfl ?_
  refine P1 (p_or rfl rfl (fun e => ⟨rfl, fun h => (not_t h)⟩)) rfl rfl (M rfl rfl ?_)
  refine TLc.p (gc := (!(((!r5) || (decide ((sizes1.length : Int) > (8 : Int))))))) (p_mv rfl (hg := fun e => rfl)) (gcF1 rfl) rfl ?_
  refine TLc.p (gc := (!(((!r5) || (decide ((sizes1.length : Int) > (8 : Int))))))) (p_lenL (xs := spots2) kd36 rfl (hg := fun e => e)) (gcF1 rfl) rfl ?_
  refine TLc.p (gc := (!(((!r5) || (decide ((sizes1.length : Int) > (8 : Int))))))) (p_gtr rfl rfl (hg := fun e => ⟨e, rfl⟩)) (gcF1 rfl) rfl ?_
  refine P1 (p_or rfl rfl (fun e => ⟨rfl, fun h => (not_t h)⟩)) rfl rfl (TL.nil (hK7 _ _ ?_))
  refine TK.cond (b := (((!r5) || (decide ((sizes1.length : Int) > (8 : Int)))) || (decide ((spots2.length : Int) > (10 : Int))))) rfl (fun hc => ?_) (fun hc => ?_)
  · have hX := ite_t hc hX
    refine SR fun K8 hK8 => M rfl rfl (M rfl rfl (TL.nil (hK8 _ _ ?_)))
    refine TK.ret ?_
    try dsimp only [thenQ]
    exact R1 rfl hX
  · have hX := ite_f hc hX
    refine TK.skip ?_
    refine hK6 _ _ (SR fun K9 hK9 => P1 (p_bld (l := [Enc.v ((7 : Int) : Int), Enc.v ((64 : Int) : Int), .nils, Enc.v false]) ty38 rfl all38 rfl (fun _ => ⟨⟨rfl, trivial, rfl⟩, ⟨rfl, trivial, rfl⟩, trivial⟩)) rfl rfl ?_)
    refine TLc.alO (l := [Enc.v ((0 : Int) : Int), Enc.v ((0 : Int) : Int), .nils, Enc.v false]) nd ty38 ti38_z rfl rfl fun b10 nd => ?_
    refine TLc.stV (lu := [Enc.v ((7 : Int) : Int), Enc.v ((64 : Int) : Int), .nils, Enc.v false]) nd ty38 rfl (j := 0) rfl rfl rfl (Cells_agg rfl (allA.mem ⟨trivial, trivial, trivial, trivial, trivial⟩)) rfl rfl [Enc.v ((7 : Int) : Int), Enc.v ((64 : Int) : Int), .nils, Enc.v false] rfl fun nd => ?_
    refine TL.nil (hK9 _ _ ?_)
    refine TK.ownC (α := (List UInt8)) nd (j := 0) rfl 2 24 (.inl rfl) fun b11 nd => ?_
    refine TK.toD (β := UInt8) 5 nd (j := 0) rfl fun nd => ?_
    refine SR fun K12 hK12 => ?_
    refine TLc.litO nd ([(68 : UInt8)] : List UInt8) kd24 ty5 rfl ⟨⟨rfl, rfl⟩, trivial⟩ rfl rfl rfl fun b13 nd => ?_
    refine TLc.cvtF (xs := ([(68 : UInt8)] : List UInt8)) nd kd24 kd5 rfl (j := 0) rfl (by simp) rfl fun nd => ?_
    refine P1 (p_bld (l := Enc.cl ((Unit_api.mk (1 : Int) (7 : Int) (0 : Int) ([(68 : UInt8)] : List UInt8)) : Unit_api)) ty42 rfl all42 rfl (fun _ => ⟨⟨rfl, trivial, rfl⟩, ⟨rfl, trivial, rfl⟩, ⟨rfl, trivial, rfl⟩, trivial⟩)) rfl rfl ?_
    obtain ⟨r14, hr14, hX⟩ := bind_some hX
    refine TL.tcX [] [(b11, RD (β := UInt8) 24 5 b11 ([] : List (List UInt8))), (b10, RV 38 [Enc.v ((7 : Int) : Int), Enc.v ((64 : Int) : Int), OL (α := (List UInt8)) b11 ([] : List (List UInt8)), Enc.v false])] rfl nd (dlt rfl) rfl ⟨rfl, ⟨rfl, trivial⟩⟩ (ok_cartridgeref1_PutFrame_or (Unit_api.mk (1 : Int) (7 : Int) (0 : Int) ([(68 : UInt8)] : List UInt8)) (Nd.take nd 0 rfl) _ hr14) ?_
    rintro _ _ hQ nd
    obtain ⟨b15, rfl, rfl⟩ := hQ
    refine M rfl rfl (P1 (p_ex rfl rfl (by decide)) rfl rfl (P1 (p_ex rfl rfl (by decide)) rfl rfl (M rfl rfl (M rfl rfl (TL.nil (hK12 _ _ (SR fun K16 hK16 => P1 (p_faV fs38_2 (by decide) rfl nd (j := 2) rfl rfl) rfl rfl (P1 (p_ldV (v := OL (α := (List UInt8)) b11 ([] : List (List UInt8))) ty26 rfl rfl nd (j := 2) rfl rfl rfl rfl rfl) rfl rfl (M rfl rfl ?_)))))))))
    refine TLc.litP nd kd26 ty24 rfl rfl (j := 0) rfl rfl ?_
    obtain ⟨u17, hu17, hX⟩ := bind_some hX
    refine TLc.appD nd kd26 bo26 ty24 rfl rfl (j := 1) rfl (j2 := 0) rfl rfl (by decide) (need_t hu17) rfl fun nd => ?_
    refine P1 (p_faV fs38_2 (by decide) rfl nd (j := 2) rfl rfl) rfl rfl ?_
    refine TLc.stV (lu := [OL (α := (List UInt8)) b11 (([] : List (List UInt8)) ++ ([r14.1] : List (List UInt8)))]) nd ty26 rfl (j := 2) rfl rfl rfl (Cells_rs (refOK_of nd (j := 1) rfl rfl)) rfl rfl [Enc.v ((7 : Int) : Int), Enc.v ((64 : Int) : Int), OL (α := (List UInt8)) b11 (([] : List (List UInt8)) ++ ([r14.1] : List (List UInt8))), Enc.v false] rfl fun nd => ?_
    refine TL.nil (hK16 _ _ ?_)
    refine TK.pushA (h := [(b15, RL (α := UInt8) 5 r14.1), (b11, rowC (RD (β := UInt8) 24 5 b11 (([] : List (List UInt8)) ++ ([r14.1] : List (List UInt8)))) (([] : List (List UInt8)).length) (OL b15 r14.1)), (b10, RV 38 [Enc.v ((7 : Int) : Int), Enc.v ((64 : Int) : Int), OL (α := (List UInt8)) b11 (([] : List (List UInt8)) ++ ([r14.1] : List (List UInt8))), Enc.v false])]) (he := by repeat first | refine NoE.c ?_ | refine NoE.p ?_ | infer_instance) nd (j := 1) rfl (j2 := 0) rfl rfl fun nd => ?_
    refine SR fun K18 hK18 => M rfl rfl (TL.nil (hK18 _ _ ?_))
    refine TK.ownL (α := Part_api) 9 48 nd rfl (.inl rfl) fun b19 nd => ?_
    refine TK.seq_k fun K20 hK20 => ?_
    refine SR fun K21 hK21 => M rfl rfl (TL.nil (hK21 _ _ ?_))
    refine TK.block ?_
    obtain ⟨o22, hO22, hA22⟩ := bind_some hX
    have E22 : ∀ (c33 : Int) (c34 : Int) (l36 : List (List UInt8)) (c37 : Bool) (l39 : List Part_api) (env : Env) (h : Hp), (∃ b35 b32 b38, keepE [1, 6, 9] env = [(1, true, Enc.v spots2), (6, true, .ref b32 0 4), (9, true, OL b38 l39)] ∧ Nd [(b35, RD (β := UInt8) 24 5 b35 l36), (b32, RV 38 [Enc.v c33, Enc.v c34, OL b35 l36, Enc.v c37]), (b38, RL (α := Part_api) 48 l39)] ∧ HSub [(b35, RD (β := UInt8) 24 5 b35 l36), (b32, RV 38 [Enc.v c33, Enc.v c34, OL b35 l36, Enc.v c37]), (b38, RL (α := Part_api) 48 l39)] h) → X.cartridgelaw11_VolumeFinds_e22 spots2 c33 c34 l36 c37 l39 = some r → K20 env h := by
      intro c33 c34 l36 c37 l39 env h hE hX
      obtain ⟨b35, b32, b38, henv, nd, hs⟩ := hE
      unfold X.cartridgelaw11_VolumeFinds_e22 at hX
      refine hK20 _ _ (TK.keep [1, 6, 9] ?_)
      rw [henv]
      refine TK.subH hs ?_
      refine TK.seq_k fun K40 hK40 => ?_
      refine SR fun K41 hK41 => M rfl rfl (TL.nil (hK41 _ _ ?_))
      refine TK.block ?_
      obtain ⟨o42, hO42, hA42⟩ := bind_some hX
      have E42 : ∀ (c52 : Int) (c53 : Int) (l55 : List (List UInt8)) (c56 : Bool) (env : Env) (h : Hp), (∃ b54 b51 b57, keepE [6, 9] env = [(6, true, .ref b51 0 4), (9, true, OL b57 l39)] ∧ Nd [(b54, RD (β := UInt8) 24 5 b54 l55), (b51, RV 38 [Enc.v c52, Enc.v c53, OL b54 l55, Enc.v c56]), (b57, RL (α := Part_api) 48 l39)] ∧ HSub [(b54, RD (β := UInt8) 24 5 b54 l55), (b51, RV 38 [Enc.v c52, Enc.v c53, OL b54 l55, Enc.v c56]), (b57, RL (α := Part_api) 48 l39)] h) → X.cartridgelaw11_VolumeFinds_e42 l39 c52 c53 l55 c56 = some r → K40 env h := by
        intro c52 c53 l55 c56 env h hE hX
        obtain ⟨b54, b51, b57, henv, nd, hs⟩ := hE
        unfold X.cartridgelaw11_VolumeFinds_e42 at hX
        refine hK40 _ _ (TK.keep [6, 9] ?_)
        rw [henv]
        refine TK.subH hs ?_
        refine TK.seq_k fun K58 hK58 => ?_
        refine TK.layRD (h := [(b54, RD (β := UInt8) 24 5 b54 l55), (b51, RV 38 [Enc.v c52, Enc.v c53, OL b54 l55, Enc.v c56]), (b57, RL (α := Part_api) 48 l39)]) (he := by repeat first | refine NoE.c ?_ | refine NoE.p ?_ | infer_instance) [] nd (j := 0) rfl trivial 1 2 rfl rfl rfl fun nd => ?_
        refine TK.reg ?_
        refine P1 (p_ldVa (l' := Enc.cl ((Tape_api.mk c52 c53 l55 c56) : Tape_api)) ty38 rfl rfl nd (j := 0) rfl rfl rfl rfl (Nat.le_of_ble_eq_true rfl)) rfl rfl ?_
        obtain ⟨r59, hr59, hX⟩ := bind_some hX
        refine TL.cvX rfl rfl rfl (fun _ => ⟨rfl, ⟨rfl, trivial⟩⟩) (fun e => ok_volume_Parts (Tape_api.mk c52 c53 l55 c56) _ hr59) ?_
        refine M rfl rfl ?_
        obtain ⟨r60, hr60, hX⟩ := bind_some hX
        refine TL.lookX [Enc.v r59, L l39] rfl rfl rfl (fun _ => ⟨rfl, ⟨rfl, ⟨rfl, trivial⟩⟩⟩) ⟨look_v (v := Enc.v r59) (v_val _), look_OL nd (j := 1) rfl, trivial⟩ (fun e => ok_cartridgelaw11_SameParts r59 l39 _ hr60) (trivial) ?_
        refine M rfl rfl (TL.nil (hK58 _ _ ?_))
        refine TK.ret ?_
        try dsimp only [thenQ]
        exact R1 rfl hX
      refine TK.iter [1, 6, 9, 15] (fun s env h => match s with | (c44, c45, l47, c48, i50) => ∃ b46 b43 b49, env = [(1, true, Enc.v spots2), (6, true, .ref b43 0 4), (9, true, OL b49 l39), (15, true, Enc.v i50)] ∧ Nd [(b46, RD (β := UInt8) 24 5 b46 l47), (b43, RV 38 [Enc.v c44, Enc.v c45, OL b46 l47, Enc.v c48]), (b49, RL (α := Part_api) 48 l39)] ∧ HSub [(b46, RD (β := UInt8) 24 5 b46 l47), (b43, RV 38 [Enc.v c44, Enc.v c45, OL b46 l47, Enc.v c48]), (b49, RL (α := Part_api) 48 l39)] h) hO42 ⟨b35, b32, b38, rfl, (Nd.pick nd (is := [0, 1, 2]) (by decide)), (HSub.pick nd (is := [0, 1, 2]) (by decide))⟩ ?_
      rintro ⟨c44, c45, l47, c48, i50⟩ env h x42x ⟨b46, b43, b49, rfl, nd, hs⟩ hX hR42
      refine TK.subH hs ?_
      unfold X.cartridgelaw11_VolumeFinds_s42 at hX
      try dsimp only at hX
      refine TK.seq_k fun K61 hK61 => ?_
      refine SR fun K62 hK62 => M rfl rfl (M rfl rfl (P1 (p_lenL (xs := spots2) kd36 rfl) rfl rfl (P1 (p_lss rfl rfl) rfl rfl (TL.nil (hK62 _ _ ?_)))))
      refine TK.cond (b := (decide (i50 < (spots2.length : Int)))) rfl (fun hc => ?_) (fun hc => ?_)
      · have hX := ite_t hc hX
        refine TK.skip ?_
        refine hK61 _ _ ?_
        refine TK.seq_k fun K63 hK63 => ?_
        have J63 : ∀ (l66 : List (List UInt8)) (env : Env) (h : Hp), (∃ b65 b64 b67, keepE [1, 6, 9, 15] env = [(1, true, Enc.v spots2), (6, true, .ref b64 0 4), (9, true, OL b67 l39), (15, true, Enc.v i50)] ∧ Nd [(b65, RD (β := UInt8) 24 5 b65 l66), (b64, RV 38 [Enc.v c44, Enc.v c45, OL b65 l66, Enc.v c48]), (b67, RL (α := Part_api) 48 l39)] ∧ HSub [(b65, RD (β := UInt8) 24 5 b65 l66), (b64, RV 38 [Enc.v c44, Enc.v c45, OL b65 l66, Enc.v c48]), (b67, RL (α := Part_api) 48 l39)] h) → X.cartridgelaw11_VolumeFinds_j63 c44 c45 c48 i50 l66 = some x42x → K63 env h := by
          intro l66 env h hE hX
          obtain ⟨b65, b64, b67, henv, nd, hs⟩ := hE
          unfold X.cartridgelaw11_VolumeFinds_j63 at hX
          refine hK63 _ _ (TK.keep [1, 6, 9, 15] ?_)
          rw [henv]
          refine TK.subH hs ?_
          refine TK.reg ?_
          refine M rfl rfl (P1 (p_add rfl rfl) rfl rfl (M rfl rfl (TL.nil ?_)))
          exact ⟨_, (some_in hX).symm, b65, b64, b67, rfl, (Nd.pick nd (is := [0, 1, 2]) (by decide)), (HSub.pick nd (is := [0, 1, 2]) (by decide))⟩
        refine TK.block ?_
        refine TK.seq_k fun K68 hK68 => ?_
        have ndS : Nd [(b46, RD (β := UInt8) 24 5 b46 l47), (b43, RV 38 [Enc.v c44, Enc.v c45, OL b46 l47, Enc.v c48]), (b49, RL (α := Part_api) 48 l39)] := Nd.pick nd (is := [0, 1, 2]) (by decide)
        refine TK.drwX (h := []) (hS := [(b46, RD (β := UInt8) 24 5 b46 l47), (b43, RV 38 [Enc.v c44, Enc.v c45, OL b46 l47, Enc.v c48]), (b49, RL (α := Part_api) 48 l39)]) [(0, 0), (0, 1), (0, 2), (0, 3), (0, 4), (0, 5), (0, 6), (0, 7), (0, 8), (0, 9)] mixed (by kernel_rfl) (HSub_app nd) ?_
        refine DM rfl rfl rfl ?_
        refine DM rfl rfl rfl ?_
        obtain ⟨e69, he69, hX⟩ := bind_some hX
        refine D0 rfl (p_iaL (xs := spots2) kd36 ty3 rfl rfl rfl (fun _ => he69)) rfl rfl ?_
        refine D0 rfl (p_ldE (xs := spots2) (a := e69) (e69 : Int) ty3 rfl rfl (fun _ => he69) rfl rfl rfl) rfl rfl ?_
        refine D0 rfl (p_and64 rfl rfl) rfl rfl ?_
        refine D0 rfl (p_faV fs38_2 (by decide) rfl ndS (j := 1) rfl rfl) rfl rfl ?_
        refine D0 rfl (p_ldV (v := OL b46 l47) ty26 rfl rfl ndS (j := 1) rfl rfl rfl rfl rfl) rfl rfl ?_
        refine D0 rfl (p_lenR kd26 rfl (fun _ => refOK_of ndS (j := 0) rfl rfl)) rfl rfl ?_
        obtain ⟨u70, hu70, hX⟩ := bind_some hX
        refine D0 rfl (p_rem rfl rfl (fun _ => need_t hu70)) rfl rfl ?_
        refine DM rfl rfl rfl ?_
        refine DRend ?_
        refine hK68 _ _ ?_
        refine TK.seq_k fun K71 hK71 => ?_
        obtain ⟨e72, he72, hX⟩ := bind_some hX
        refine TK.pullD (h := [(b46, RD (β := UInt8) 24 5 b46 l47), (b43, RV 38 [Enc.v c44, Enc.v c45, OL b46 l47, Enc.v c48]), (b49, RL (α := Part_api) 48 l39)]) (he := by repeat first | refine NoE.c ?_ | refine NoE.p ?_ | infer_instance) nd ((and64 e69 (1023 : Int)).tmod (l47.length : Int)).toNat (j := 0) rfl (getI_in he72).2.2 fun b73 nd => ?_
        refine TK.reg ?_
        refine P1 (p_faV fs38_2 (by decide) rfl nd (j := 2) rfl rfl) rfl rfl (P1 (p_ldV (v := OL b46 l47) ty26 rfl rfl nd (j := 2) rfl rfl rfl rfl rfl) rfl rfl (M rfl rfl ?_))
        obtain ⟨e74, he74, hX⟩ := bind_some hX
        refine P1 (p_iaD (xs := l47) kd26 ty24 rfl rfl rfl nd (j := 1) rfl rfl (fun _ => he74)) rfl rfl (P1 (p_ldC (xs := l47) (i := ((and64 e69 (1023 : Int)).tmod (l47.length : Int))) ty24 rfl rfl nd (j := 1) rfl rfl (fun _ => he74) rfl rfl) rfl rfl ?_)
        obtain ⟨r75, hr75, hX⟩ := bind_some hX
        refine TL.lookX [L e72] rfl rfl rfl (fun _ => ⟨rfl, ⟨rfl, trivial⟩⟩) ⟨look_OL nd (j := 0) rfl, trivial⟩ (fun e => Fun.wkR (r' := (.tup 2 (ofL [.agg 4 (ofL [Enc.v r75.1.Kind, Enc.v r75.1.Label, Enc.v r75.1.Number, (.sl (ofL []) 0 r75.1.Load.length)]), Enc.v r75.2]))) (ok_cartridgeref1_GetFrame e72 _ hr75) (Wk_tup ⟨Wk_agg ⟨Wk.refl _, Wk.refl _, Wk.refl _, Wk_less _, trivial⟩, Wk.refl _, trivial⟩) (tup_valX rfl ⟨agg_val rfl ⟨v_val _, v_val _, v_val _, (fun _ h => by cases h), trivial⟩, v_val _, trivial⟩)) (tup_closed rfl ⟨agg_closed rfl ⟨trivial, trivial, trivial, rfl, trivial⟩, trivial, trivial⟩) ?_
        refine M rfl rfl (P1 (p_ex rfl rfl (by decide)) rfl rfl (P1 (p_ex rfl rfl (by decide)) rfl rfl ?_))
        refine TLc.alO (l := [Enc.v ((0 : Int) : Int), Enc.v ((0 : Int) : Int), Enc.v ((0 : Int) : Int), .nils]) nd ty42 ti42_z rfl rfl fun b76 nd => ?_
        refine TLc.stV (lu := [Enc.v r75.1.Kind, Enc.v r75.1.Label, Enc.v r75.1.Number, (.sl (ofL []) 0 r75.1.Load.length)]) nd ty42 rfl (j := 0) rfl rfl rfl (Cells_agg rfl (allA.mem ⟨trivial, trivial, trivial, trivial, trivial⟩)) rfl rfl [Enc.v r75.1.Kind, Enc.v r75.1.Label, Enc.v r75.1.Number, (.sl (ofL []) 0 r75.1.Load.length)] rfl fun nd => ?_
        refine M rfl rfl (TL.nil (hK71 _ _ ?_))
        refine TK.pushD (h := [(b76, RV 42 [Enc.v r75.1.Kind, Enc.v r75.1.Label, Enc.v r75.1.Number, (.sl (ofL []) 0 r75.1.Load.length)]), (b73, RL (α := UInt8) 5 e72), (b46, rowC (RD (β := UInt8) 24 5 b46 l47) (((and64 e69 (1023 : Int)).tmod (l47.length : Int)).toNat) (OL b73 e72)), (b43, RV 38 [Enc.v c44, Enc.v c45, OL b46 l47, Enc.v c48]), (b49, RL (α := Part_api) 48 l39)]) (he := by repeat first | refine NoE.c ?_ | refine NoE.p ?_ | infer_instance) nd (((and64 e69 (1023 : Int)).tmod (l47.length : Int)).toNat) (j := 2) rfl (j2 := 1) rfl rfl (by simp) (by have := getI_in he72; omega) fun nd => ?_
        refine TK.cv 98 (OL b46 (l47.set (((and64 e69 (1023 : Int)).tmod (l47.length : Int)).toNat) e72)) rfl (Wk_eq (OL_len (by simp))) ?_
        refine TK.cv 103 (OL b46 (l47.set (((and64 e69 (1023 : Int)).tmod (l47.length : Int)).toNat) e72)) rfl (Wk_eq (OL_len (by simp))) ?_
        refine TK.cvR nd (j := 2) rfl (l' := [Enc.v c44, Enc.v c45, OL (α := (List UInt8)) b46 (l47.set (((and64 e69 (1023 : Int)).tmod (l47.length : Int)).toNat) e72), Enc.v c48]) ⟨Wk.refl _, Wk.refl _, Wk_eq (OL_len (by simp)), Wk.refl _, trivial⟩ fun nd => ?_
        refine SR fun K77 hK77 => M rfl rfl (P1 (p_eql rfl rfl) rfl rfl (M rfl rfl ?_))
        refine TLc.p (gc := ((r75.2 == (0 : Int)))) (p_faV fs42_0 (by decide) rfl nd (j := 0) rfl rfl (hg := fun e => rfl)) (gcT1 rfl) rfl ?_
        refine TLc.p (gc := ((r75.2 == (0 : Int)))) (p_ldV (v := Enc.v r75.1.Kind) ty3 rfl rfl nd (j := 0) rfl rfl rfl rfl rfl (hg := fun e => e)) (gcT1 rfl) rfl ?_
        refine TLc.p (gc := ((r75.2 == (0 : Int)))) (p_neq rfl rfl (hg := fun e => ⟨e, rfl⟩)) (gcT1 rfl) rfl ?_
        refine P1 (p_and rfl rfl (fun e => ⟨rfl, fun h => h⟩)) rfl rfl (TL.nil (hK77 _ _ ?_))
        refine TK.cond (b := ((r75.2 == (0 : Int)) && (r75.1.Kind != (2 : Int)))) rfl (fun hc => ?_) (fun hc => ?_)
        · have hX := ite_t hc hX
          obtain ⟨e78, he78, hX⟩ := bind_some hX
          refine TK.pullD (h := [(b76, RV 42 [Enc.v r75.1.Kind, Enc.v r75.1.Label, Enc.v r75.1.Number, (.sl (ofL []) 0 r75.1.Load.length)]), (b46, RD (β := UInt8) 24 5 b46 (l47.set (((and64 e69 (1023 : Int)).tmod (l47.length : Int)).toNat) e72)), (b43, RV 38 [Enc.v c44, Enc.v c45, OL (α := (List UInt8)) b46 (l47.set (((and64 e69 (1023 : Int)).tmod (l47.length : Int)).toNat) e72), Enc.v c48]), (b49, RL (α := Part_api) 48 l39)]) (he := by repeat first | refine NoE.c ?_ | refine NoE.p ?_ | infer_instance) nd ((and64 e69 (1023 : Int)).tmod (l47.length : Int)).toNat (j := 1) rfl (getI_in he78).2.2 fun b79 nd => ?_
          refine TK.last fun K80 hK80 => ?_
          refine TK.reg ?_
          refine P1 (p_faV fs38_2 (by decide) rfl nd (j := 3) rfl rfl) rfl rfl (P1 (p_ldV (v := OL (α := (List UInt8)) b46 (l47.set (((and64 e69 (1023 : Int)).tmod (l47.length : Int)).toNat) e72)) ty26 rfl rfl nd (j := 3) rfl rfl rfl rfl rfl) rfl rfl (M rfl rfl ?_))
          obtain ⟨e81, he81, hX⟩ := bind_some hX
          refine P1 (p_iaD (xs := (l47.set (((and64 e69 (1023 : Int)).tmod (l47.length : Int)).toNat) e72)) kd26 ty24 rfl rfl rfl nd (j := 2) rfl rfl (fun _ => he81)) rfl rfl (P1 (p_ldC (xs := (l47.set (((and64 e69 (1023 : Int)).tmod (l47.length : Int)).toNat) e72)) (i := ((and64 e69 (1023 : Int)).tmod (l47.length : Int))) ty24 rfl rfl nd (j := 2) rfl rfl (fun _ => he81) rfl rfl) rfl rfl ?_)
          obtain ⟨e82, he82, hX⟩ := bind_some hX
          refine P1 (p_iaO (xs := e78) kd24 ty5 rfl rfl rfl nd (j := 0) rfl (fun _ => he82)) rfl rfl ?_
          refine TLc.stW (xs := e78) (i := (0 : Int)) (lu := Enc.cl ((0 : UInt8) : UInt8)) (a' := (0 : UInt8)) nd ty5 rfl (j := 0) rfl (by simp [Enc.sz]) (inb_of he82 (by simp)) rfl (Cells_v ((0 : UInt8) : UInt8)) rfl (WkL_refl _) fun nd => ?_
          refine TL.nil (hK80 _ _ ?_)
          refine TK.pushD (h := [(b79, RL (α := UInt8) 5 (e78.set (0 : Int).toNat (0 : UInt8))), (b76, RV 42 [Enc.v r75.1.Kind, Enc.v r75.1.Label, Enc.v r75.1.Number, (.sl (ofL []) 0 r75.1.Load.length)]), (b46, rowC (RD (β := UInt8) 24 5 b46 (l47.set (((and64 e69 (1023 : Int)).tmod (l47.length : Int)).toNat) e72)) (((and64 e69 (1023 : Int)).tmod (l47.length : Int)).toNat) (OL b79 e78)), (b43, RV 38 [Enc.v c44, Enc.v c45, OL (α := (List UInt8)) b46 (l47.set (((and64 e69 (1023 : Int)).tmod (l47.length : Int)).toNat) e72), Enc.v c48]), (b49, RL (α := Part_api) 48 l39)]) (he := by repeat first | refine NoE.c ?_ | refine NoE.p ?_ | infer_instance) nd (((and64 e69 (1023 : Int)).tmod (l47.length : Int)).toNat) (j := 2) rfl (j2 := 0) rfl rfl (by simp) (by have := getI_in he78; omega) fun nd => ?_
          refine TK.cv 98 (OL b46 ((l47.set (((and64 e69 (1023 : Int)).tmod (l47.length : Int)).toNat) e72).set (((and64 e69 (1023 : Int)).tmod (l47.length : Int)).toNat) (e78.set (0 : Int).toNat (0 : UInt8)))) rfl (Wk_eq (OL_len (by simp))) ?_
          refine TK.cv 103 (OL b46 ((l47.set (((and64 e69 (1023 : Int)).tmod (l47.length : Int)).toNat) e72).set (((and64 e69 (1023 : Int)).tmod (l47.length : Int)).toNat) (e78.set (0 : Int).toNat (0 : UInt8)))) rfl (Wk_eq (OL_len (by simp))) ?_
          refine TK.cv 118 (OL b46 ((l47.set (((and64 e69 (1023 : Int)).tmod (l47.length : Int)).toNat) e72).set (((and64 e69 (1023 : Int)).tmod (l47.length : Int)).toNat) (e78.set (0 : Int).toNat (0 : UInt8)))) rfl (Wk_eq (OL_len (by simp))) ?_
          refine TK.cvR nd (j := 2) rfl (l' := [Enc.v c44, Enc.v c45, OL (α := (List UInt8)) b46 ((l47.set (((and64 e69 (1023 : Int)).tmod (l47.length : Int)).toNat) e72).set (((and64 e69 (1023 : Int)).tmod (l47.length : Int)).toNat) (e78.set (0 : Int).toNat (0 : UInt8))), Enc.v c48]) ⟨Wk.refl _, Wk.refl _, Wk_eq (OL_len (by simp)), Wk.refl _, trivial⟩ fun nd => ?_
          refine TK.skip ?_
          exact J63 ((l47.set (((and64 e69 (1023 : Int)).tmod (l47.length : Int)).toNat) e72).set (((and64 e69 (1023 : Int)).tmod (l47.length : Int)).toNat) (e78.set (0 : Int).toNat (0 : UInt8))) _ _ ⟨b46, b43, b49, rfl, (Nd.pick nd (is := [1, 2, 3]) (by decide)), (HSub.pick nd (is := [1, 2, 3]) (by decide))⟩ hX
        · have hX := ite_f hc hX
          refine TK.skip ?_
          exact J63 (l47.set (((and64 e69 (1023 : Int)).tmod (l47.length : Int)).toNat) e72) _ _ ⟨b46, b43, b49, rfl, (Nd.pick nd (is := [1, 2, 3]) (by decide)), (HSub.pick nd (is := [1, 2, 3]) (by decide))⟩ hX
      · have hX := ite_f hc hX
        refine TK.exit ?_
        obtain rfl := hR42 _ (some_in hX).symm
        exact E42 c44 c45 l47 c48 _ _ ⟨b46, b43, b49, rfl, (Nd.pick nd (is := [0, 1, 2]) (by decide)), (HSub.pick nd (is := [0, 1, 2]) (by decide))⟩ hA42
    refine TK.iter [0, 1, 6, 9, 10] (fun s env h => match s with | (c24, c25, l27, c28, want30, i31) => ∃ b26 b23 b29, env = [(0, true, Enc.v sizes1), (1, true, Enc.v spots2), (6, true, .ref b23 0 4), (9, true, OL b29 want30), (10, true, Enc.v i31)] ∧ Nd [(b26, RD (β := UInt8) 24 5 b26 l27), (b23, RV 38 [Enc.v c24, Enc.v c25, OL b26 l27, Enc.v c28]), (b29, RL (α := Part_api) 48 want30)] ∧ HSub [(b26, RD (β := UInt8) 24 5 b26 l27), (b23, RV 38 [Enc.v c24, Enc.v c25, OL b26 l27, Enc.v c28]), (b29, RL (α := Part_api) 48 want30)] h) hO22 ⟨b11, b10, b19, rfl, (Nd.pick nd (is := [1, 2, 0]) (by decide)), (HSub.pick nd (is := [1, 2, 0]) (by decide))⟩ ?_
    rintro ⟨c24, c25, l27, c28, want30, i31⟩ env h x22x ⟨b26, b23, b29, rfl, nd, hs⟩ hX hR22
    refine TK.subH hs ?_
    unfold X.cartridgelaw11_VolumeFinds_s22 at hX
    try dsimp only at hX
    refine TK.seq_k fun K83 hK83 => ?_
    refine SR fun K84 hK84 => M rfl rfl (M rfl rfl (P1 (p_lenL (xs := sizes1) kd36 rfl) rfl rfl (P1 (p_lss rfl rfl) rfl rfl (TL.nil (hK84 _ _ ?_)))))
    refine TK.cond (b := (decide (i31 < (sizes1.length : Int)))) rfl (fun hc => ?_) (fun hc => ?_)
    · have hX := ite_t hc hX
      refine TK.skip ?_
      refine hK83 _ _ ?_
      refine TK.seq_k fun K85 hK85 => ?_
      refine TK.block ?_
      refine SR fun K86 hK86 => M rfl rfl (M rfl rfl ?_)
      obtain ⟨e87, he87, hX⟩ := bind_some hX
      refine P1 (p_iaL (xs := sizes1) kd36 ty3 rfl rfl rfl (fun _ => he87)) rfl rfl (P1 (p_ldE (xs := sizes1) (a := e87) (e87 : Int) ty3 rfl rfl (fun _ => he87) rfl rfl rfl) rfl rfl (P1 (p_and64 rfl rfl) rfl rfl (M rfl rfl (TL.nil (hK86 _ _ (SR fun K88 hK88 => M rfl rfl (P1 (p_add rfl rfl) rfl rfl (M rfl rfl (M rfl rfl ?_)))))))))
      refine P1 (p_bld (l := Enc.cl ((Head_api.mk (Str.mk [97]) (wr (i31 + (1 : Int))) (and64 e87 (127 : Int)) (0 : Int) (and64 e87 (127 : Int)) (1 : Int) (0 : Int) false) : Head_api)) ty23 rfl all23 rfl (fun _ => ⟨⟨rfl, trivial, rfl⟩, ⟨rfl, trivial, rfl⟩, ⟨rfl, trivial, rfl⟩, ⟨rfl, trivial, rfl⟩, ⟨rfl, trivial, rfl⟩, trivial⟩)) rfl rfl ?_
      refine TLc.alO (l := [Enc.v ((Str.mk []) : Str), Enc.v ((0 : Int) : Int), Enc.v ((0 : Int) : Int), Enc.v ((0 : Int) : Int), Enc.v ((0 : Int) : Int), Enc.v ((0 : Int) : Int), Enc.v ((0 : Int) : Int), Enc.v false]) nd ty23 ti23_z rfl rfl fun b89 nd => ?_
      refine TLc.stV (lu := Enc.cl ((Head_api.mk (Str.mk [97]) (wr (i31 + (1 : Int))) (and64 e87 (127 : Int)) (0 : Int) (and64 e87 (127 : Int)) (1 : Int) (0 : Int) false) : Head_api)) nd ty23 rfl (j := 0) rfl rfl rfl (Cells_v ((Head_api.mk (Str.mk [97]) (wr (i31 + (1 : Int))) (and64 e87 (127 : Int)) (0 : Int) (and64 e87 (127 : Int)) (1 : Int) (0 : Int) false) : Head_api)) rfl rfl [Enc.v ((Head_api.mk (Str.mk [97]) (wr (i31 + (1 : Int))) (and64 e87 (127 : Int)) (0 : Int) (and64 e87 (127 : Int)) (1 : Int) (0 : Int) false).Path : Str), Enc.v ((Head_api.mk (Str.mk [97]) (wr (i31 + (1 : Int))) (and64 e87 (127 : Int)) (0 : Int) (and64 e87 (127 : Int)) (1 : Int) (0 : Int) false).Version : Int), Enc.v ((Head_api.mk (Str.mk [97]) (wr (i31 + (1 : Int))) (and64 e87 (127 : Int)) (0 : Int) (and64 e87 (127 : Int)) (1 : Int) (0 : Int) false).Size : Int), Enc.v ((Head_api.mk (Str.mk [97]) (wr (i31 + (1 : Int))) (and64 e87 (127 : Int)) (0 : Int) (and64 e87 (127 : Int)) (1 : Int) (0 : Int) false).From : Int), Enc.v ((Head_api.mk (Str.mk [97]) (wr (i31 + (1 : Int))) (and64 e87 (127 : Int)) (0 : Int) (and64 e87 (127 : Int)) (1 : Int) (0 : Int) false).Len : Int), Enc.v ((Head_api.mk (Str.mk [97]) (wr (i31 + (1 : Int))) (and64 e87 (127 : Int)) (0 : Int) (and64 e87 (127 : Int)) (1 : Int) (0 : Int) false).Serial : Int), Enc.v ((Head_api.mk (Str.mk [97]) (wr (i31 + (1 : Int))) (and64 e87 (127 : Int)) (0 : Int) (and64 e87 (127 : Int)) (1 : Int) (0 : Int) false).Sum : Int), Enc.v ((Head_api.mk (Str.mk [97]) (wr (i31 + (1 : Int))) (and64 e87 (127 : Int)) (0 : Int) (and64 e87 (127 : Int)) (1 : Int) (0 : Int) false).Gone : Bool)] rfl fun nd => ?_
      refine TL.nil (hK88 _ _ ?_)
      refine TK.seq_k fun K90 hK90 => ?_
      have ndS : Nd [(b89, RV 23 [Enc.v ((Head_api.mk (Str.mk [97]) (wr (i31 + (1 : Int))) (and64 e87 (127 : Int)) (0 : Int) (and64 e87 (127 : Int)) (1 : Int) (0 : Int) false).Path : Str), Enc.v ((Head_api.mk (Str.mk [97]) (wr (i31 + (1 : Int))) (and64 e87 (127 : Int)) (0 : Int) (and64 e87 (127 : Int)) (1 : Int) (0 : Int) false).Version : Int), Enc.v ((Head_api.mk (Str.mk [97]) (wr (i31 + (1 : Int))) (and64 e87 (127 : Int)) (0 : Int) (and64 e87 (127 : Int)) (1 : Int) (0 : Int) false).Size : Int), Enc.v ((Head_api.mk (Str.mk [97]) (wr (i31 + (1 : Int))) (and64 e87 (127 : Int)) (0 : Int) (and64 e87 (127 : Int)) (1 : Int) (0 : Int) false).From : Int), Enc.v ((Head_api.mk (Str.mk [97]) (wr (i31 + (1 : Int))) (and64 e87 (127 : Int)) (0 : Int) (and64 e87 (127 : Int)) (1 : Int) (0 : Int) false).Len : Int), Enc.v ((Head_api.mk (Str.mk [97]) (wr (i31 + (1 : Int))) (and64 e87 (127 : Int)) (0 : Int) (and64 e87 (127 : Int)) (1 : Int) (0 : Int) false).Serial : Int), Enc.v ((Head_api.mk (Str.mk [97]) (wr (i31 + (1 : Int))) (and64 e87 (127 : Int)) (0 : Int) (and64 e87 (127 : Int)) (1 : Int) (0 : Int) false).Sum : Int), Enc.v ((Head_api.mk (Str.mk [97]) (wr (i31 + (1 : Int))) (and64 e87 (127 : Int)) (0 : Int) (and64 e87 (127 : Int)) (1 : Int) (0 : Int) false).Gone : Bool)]), (b26, RD (β := UInt8) 24 5 b26 l27), (b23, RV 38 [Enc.v c24, Enc.v c25, OL b26 l27, Enc.v c28]), (b29, RL (α := Part_api) 48 want30)] := Nd.pick nd (is := [0, 1, 2, 3]) (by decide)
      refine TK.drwX (h := []) (hS := [(b89, RV 23 [Enc.v ((Head_api.mk (Str.mk [97]) (wr (i31 + (1 : Int))) (and64 e87 (127 : Int)) (0 : Int) (and64 e87 (127 : Int)) (1 : Int) (0 : Int) false).Path : Str), Enc.v ((Head_api.mk (Str.mk [97]) (wr (i31 + (1 : Int))) (and64 e87 (127 : Int)) (0 : Int) (and64 e87 (127 : Int)) (1 : Int) (0 : Int) false).Version : Int), Enc.v ((Head_api.mk (Str.mk [97]) (wr (i31 + (1 : Int))) (and64 e87 (127 : Int)) (0 : Int) (and64 e87 (127 : Int)) (1 : Int) (0 : Int) false).Size : Int), Enc.v ((Head_api.mk (Str.mk [97]) (wr (i31 + (1 : Int))) (and64 e87 (127 : Int)) (0 : Int) (and64 e87 (127 : Int)) (1 : Int) (0 : Int) false).From : Int), Enc.v ((Head_api.mk (Str.mk [97]) (wr (i31 + (1 : Int))) (and64 e87 (127 : Int)) (0 : Int) (and64 e87 (127 : Int)) (1 : Int) (0 : Int) false).Len : Int), Enc.v ((Head_api.mk (Str.mk [97]) (wr (i31 + (1 : Int))) (and64 e87 (127 : Int)) (0 : Int) (and64 e87 (127 : Int)) (1 : Int) (0 : Int) false).Serial : Int), Enc.v ((Head_api.mk (Str.mk [97]) (wr (i31 + (1 : Int))) (and64 e87 (127 : Int)) (0 : Int) (and64 e87 (127 : Int)) (1 : Int) (0 : Int) false).Sum : Int), Enc.v ((Head_api.mk (Str.mk [97]) (wr (i31 + (1 : Int))) (and64 e87 (127 : Int)) (0 : Int) (and64 e87 (127 : Int)) (1 : Int) (0 : Int) false).Gone : Bool)]), (b26, RD (β := UInt8) 24 5 b26 l27), (b23, RV 38 [Enc.v c24, Enc.v c25, OL b26 l27, Enc.v c28]), (b29, RL (α := Part_api) 48 want30)]) [(0, 0), (0, 1), (0, 2), (0, 3), (0, 4), (2, 5), (2, 6), (0, 7), (0, 8), (0, 9), (0, 10), (0, 11)] mixed (by kernel_rfl) (HSub_app nd) ?_
      refine D0 rfl (p_faV fs38_2 (by decide) rfl ndS (j := 2) rfl rfl) rfl rfl ?_
      refine D0 rfl (p_ldV (v := OL b26 l27) ty26 rfl rfl ndS (j := 2) rfl rfl rfl rfl rfl) rfl rfl ?_
      refine D0 rfl (p_lenR kd26 rfl (fun _ => refOK_of ndS (j := 1) rfl rfl)) rfl rfl ?_
      refine D0 rfl (p_ldVa (l' := Enc.cl ((Head_api.mk (Str.mk [97]) (wr (i31 + (1 : Int))) (and64 e87 (127 : Int)) (0 : Int) (and64 e87 (127 : Int)) (1 : Int) (0 : Int) false) : Head_api)) ty23 rfl rfl ndS (j := 0) rfl rfl rfl rfl (Nat.le_of_ble_eq_true rfl)) rfl rfl ?_
      refine DM rfl rfl rfl ?_
      obtain ⟨u91, hu91, hX⟩ := bind_some hX
      refine DR2 rfl rfl ?_
      refine TLc.mkV nd (0 : UInt8) kd24 ty5 rfl (fun j hj => by (have : j = 0 := by simpa [Enc.sz] using hj); subst this; rfl) rfl rfl (by decide) (need_t hu91) rfl ?_
      refine TL.nil ⟨_, [], rfl, rfl, HSub_app nd, ?_⟩
      obtain ⟨r92, hr92, hX⟩ := bind_some hX
      refine DR2 rfl rfl ?_
      refine TL.tcX [] [(b89, RV 23 [Enc.v ((Head_api.mk (Str.mk [97]) (wr (i31 + (1 : Int))) (and64 e87 (127 : Int)) (0 : Int) (and64 e87 (127 : Int)) (1 : Int) (0 : Int) false).Path : Str), Enc.v ((Head_api.mk (Str.mk [97]) (wr (i31 + (1 : Int))) (and64 e87 (127 : Int)) (0 : Int) (and64 e87 (127 : Int)) (1 : Int) (0 : Int) false).Version : Int), Enc.v ((Head_api.mk (Str.mk [97]) (wr (i31 + (1 : Int))) (and64 e87 (127 : Int)) (0 : Int) (and64 e87 (127 : Int)) (1 : Int) (0 : Int) false).Size : Int), Enc.v ((Head_api.mk (Str.mk [97]) (wr (i31 + (1 : Int))) (and64 e87 (127 : Int)) (0 : Int) (and64 e87 (127 : Int)) (1 : Int) (0 : Int) false).From : Int), Enc.v ((Head_api.mk (Str.mk [97]) (wr (i31 + (1 : Int))) (and64 e87 (127 : Int)) (0 : Int) (and64 e87 (127 : Int)) (1 : Int) (0 : Int) false).Len : Int), Enc.v ((Head_api.mk (Str.mk [97]) (wr (i31 + (1 : Int))) (and64 e87 (127 : Int)) (0 : Int) (and64 e87 (127 : Int)) (1 : Int) (0 : Int) false).Serial : Int), Enc.v ((Head_api.mk (Str.mk [97]) (wr (i31 + (1 : Int))) (and64 e87 (127 : Int)) (0 : Int) (and64 e87 (127 : Int)) (1 : Int) (0 : Int) false).Sum : Int), Enc.v ((Head_api.mk (Str.mk [97]) (wr (i31 + (1 : Int))) (and64 e87 (127 : Int)) (0 : Int) (and64 e87 (127 : Int)) (1 : Int) (0 : Int) false).Gone : Bool)]), (b26, RD (β := UInt8) 24 5 b26 l27), (b23, RV 38 [Enc.v c24, Enc.v c25, OL b26 l27, Enc.v c28]), (b29, RL (α := Part_api) 48 want30)] rfl nd (dlt rfl) rfl ⟨rfl, ⟨rfl, ⟨rfl, ⟨rfl, ⟨rfl, trivial⟩⟩⟩⟩⟩ (ok_cartridgeref10_Blocks_or (7 : Int) (l27.length : Int) (Head_api.mk (Str.mk [97]) (wr (i31 + (1 : Int))) (and64 e87 (127 : Int)) (0 : Int) (and64 e87 (127 : Int)) (1 : Int) (0 : Int) false) (List.replicate (and64 e87 (127 : Int)).toNat (0 : UInt8)) (Nd.take nd 0 rfl) _ hr92) ?_
      rintro _ _ hQ nd
      obtain ⟨b93, rfl, rfl⟩ := hQ
      refine TL.nil ⟨_, [(b93, RD (β := UInt8) 24 5 b93 r92.1)], rfl, rfl, HSub_app nd, ?_⟩
      refine DM rfl rfl rfl ?_
      refine D0 rfl (p_ex rfl rfl (by decide)) rfl rfl ?_
      refine D0 rfl (p_ex rfl rfl (by decide)) rfl rfl ?_
      refine DM rfl rfl rfl ?_
      refine DM rfl rfl rfl ?_
      refine DRend ?_
      refine hK90 _ _ (SR fun K94 hK94 => M rfl rfl (P1 (p_ldVa (l' := Enc.cl ((Head_api.mk (Str.mk [97]) (wr (i31 + (1 : Int))) (and64 e87 (127 : Int)) (0 : Int) (and64 e87 (127 : Int)) (1 : Int) (0 : Int) false) : Head_api)) ty23 rfl rfl nd (j := 1) rfl rfl rfl rfl (Nat.le_of_ble_eq_true rfl)) rfl rfl (P1 (p_faV fs38_2 (by decide) rfl nd (j := 3) rfl rfl) rfl rfl ?_)))
      refine P1 (p_ldV (v := OL b26 l27) ty26 rfl rfl nd (j := 3) rfl rfl rfl rfl rfl) rfl rfl (P1 (p_lenR kd26 rfl (fun _ => refOK_of nd (j := 2) rfl rfl)) rfl rfl ?_)
      refine P1 (p_bld (l := Enc.cl ((Part_api.mk (Head_api.mk (Str.mk [97]) (wr (i31 + (1 : Int))) (and64 e87 (127 : Int)) (0 : Int) (and64 e87 (127 : Int)) (1 : Int) (0 : Int) false) (7 : Int) (l27.length : Int)) : Part_api)) ty48 rfl all48 rfl (fun _ => ⟨⟨rfl, trivial, rfl⟩, ⟨rfl, trivial, rfl⟩, ⟨rfl, trivial, rfl⟩, trivial⟩)) rfl rfl ?_
      refine TLc.lit ([(Part_api.mk (Head_api.mk (Str.mk [97]) (wr (i31 + (1 : Int))) (and64 e87 (127 : Int)) (0 : Int) (and64 e87 (127 : Int)) (1 : Int) (0 : Int) false) (7 : Int) (l27.length : Int))] : List Part_api) kd44 ty48 rfl ⟨⟨rfl, rfl⟩, trivial⟩ rfl rfl rfl ?_
      obtain ⟨u95, hu95, hX⟩ := bind_some hX
      refine TLc.appO nd kd44 bo44 ty48 rfl rfl (j := 4) rfl rfl (Src_L _) (by decide) (need_t hu95) rfl fun nd => ?_
      refine M rfl rfl (TL.nil (hK94 _ _ ?_))
      refine TK.reg ?_
      refine P1 (p_faV fs38_2 (by decide) rfl nd (j := 3) rfl rfl) rfl rfl (P1 (p_ldV (v := OL b26 l27) ty26 rfl rfl nd (j := 3) rfl rfl rfl rfl rfl) rfl rfl (M rfl rfl ?_))
      obtain ⟨u96, hu96, hX⟩ := bind_some hX
      refine TLc.appJ nd kd26 bo26 ty24 rfl rfl (j := 2) rfl (j2 := 0) rfl rfl (by decide) (need_t hu96) rfl fun nd => ?_
      refine P1 (p_faV fs38_2 (by decide) rfl nd (j := 3) rfl rfl) rfl rfl ?_
      refine TLc.stV (lu := [OL (α := (List UInt8)) b26 (l27 ++ r92.1)]) nd ty26 rfl (j := 3) rfl rfl rfl (Cells_rs (refOK_of nd (j := 2) rfl rfl)) rfl rfl [Enc.v c24, Enc.v c25, OL (α := (List UInt8)) b26 (l27 ++ r92.1), Enc.v c28] rfl fun nd => ?_
      refine TL.nil (hK85 _ _ ?_)
      refine TK.join (h := [(b93, RD (β := UInt8) 24 5 b93 r92.1), (b89, RV 23 [Enc.v ((Head_api.mk (Str.mk [97]) (wr (i31 + (1 : Int))) (and64 e87 (127 : Int)) (0 : Int) (and64 e87 (127 : Int)) (1 : Int) (0 : Int) false).Path : Str), Enc.v ((Head_api.mk (Str.mk [97]) (wr (i31 + (1 : Int))) (and64 e87 (127 : Int)) (0 : Int) (and64 e87 (127 : Int)) (1 : Int) (0 : Int) false).Version : Int), Enc.v ((Head_api.mk (Str.mk [97]) (wr (i31 + (1 : Int))) (and64 e87 (127 : Int)) (0 : Int) (and64 e87 (127 : Int)) (1 : Int) (0 : Int) false).Size : Int), Enc.v ((Head_api.mk (Str.mk [97]) (wr (i31 + (1 : Int))) (and64 e87 (127 : Int)) (0 : Int) (and64 e87 (127 : Int)) (1 : Int) (0 : Int) false).From : Int), Enc.v ((Head_api.mk (Str.mk [97]) (wr (i31 + (1 : Int))) (and64 e87 (127 : Int)) (0 : Int) (and64 e87 (127 : Int)) (1 : Int) (0 : Int) false).Len : Int), Enc.v ((Head_api.mk (Str.mk [97]) (wr (i31 + (1 : Int))) (and64 e87 (127 : Int)) (0 : Int) (and64 e87 (127 : Int)) (1 : Int) (0 : Int) false).Serial : Int), Enc.v ((Head_api.mk (Str.mk [97]) (wr (i31 + (1 : Int))) (and64 e87 (127 : Int)) (0 : Int) (and64 e87 (127 : Int)) (1 : Int) (0 : Int) false).Sum : Int), Enc.v ((Head_api.mk (Str.mk [97]) (wr (i31 + (1 : Int))) (and64 e87 (127 : Int)) (0 : Int) (and64 e87 (127 : Int)) (1 : Int) (0 : Int) false).Gone : Bool)]), (b26, RJ (β := UInt8) 24 5 b26 l27 b93 r92.1), (b23, RV 38 [Enc.v c24, Enc.v c25, OL (α := (List UInt8)) b26 (l27 ++ r92.1), Enc.v c28]), (b29, RL (α := Part_api) 48 (want30 ++ ([(Part_api.mk (Head_api.mk (Str.mk [97]) (wr (i31 + (1 : Int))) (and64 e87 (127 : Int)) (0 : Int) (and64 e87 (127 : Int)) (1 : Int) (0 : Int) false) (7 : Int) (l27.length : Int))] : List Part_api)))]) (he := by repeat first | refine NoE.c ?_ | refine NoE.p ?_ | infer_instance) nd (j := 2) rfl (j2 := 0) rfl rfl fun nd => ?_
      refine TK.reg ?_
      refine M rfl rfl (P1 (p_add rfl rfl) rfl rfl (M rfl rfl (TL.nil ?_)))
      exact ⟨_, (some_in hX).symm, b26, b23, b29, rfl, (Nd.pick nd (is := [1, 2, 3]) (by decide)), (HSub.pick nd (is := [1, 2, 3]) (by decide))⟩
    · have hX := ite_f hc hX
      refine TK.exit ?_
      obtain rfl := hR22 _ (some_in hX).symm
      exact E22 c24 c25 l27 c28 want30 _ _ ⟨b26, b23, b29, rfl, (Nd.pick nd (is := [0, 1, 2]) (by decide)), (HSub.pick nd (is := [0, 1, 2]) (by decide))⟩ hA22

end Go.Proofs.YtliahlgkinhjlaaDoor
