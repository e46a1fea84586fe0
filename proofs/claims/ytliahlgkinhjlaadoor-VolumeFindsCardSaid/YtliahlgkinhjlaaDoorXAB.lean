import Derived.Test.YtliahlgkinhjlaaDoorLibC
import Derived.Lib.Bytealg
/- Functions of the library without a text: what the model gives for them. -/
namespace Go.AX
open Go.AM
set_option linter.unusedSectionVars false
section
variable {C : Cx} {P : Program} {nt : Nat} {env : Env} {h : Hp} {gc : Bool} {f : X} {xs : List X}

theorem call_runX {μ : Mu} {a : Act} {w : World} (s : SimA nt μ env h a w) {o : Oper} {fid : FuncId} {args : List AV} (ho : cookOp o.op = some (.call f xs))
    (ha : argsA env f xs = some (fid, args)) (hgf : (ev env f).1 = true) (hgx : allG (evs env xs)) :
    ∃ cargs : Array Value, (execOp a.eval o).run P w = (callFunc fid cargs).run P w ∧ cargs.size = args.length ∧ ∀ i, i < args.length → VR μ w (ofL args i) (cargs.getD i undef) := by
  unfold cookOp at ho
  split at ho <;> (try (simp at ho; done)) <;> (try (split at ho <;> simp at ho <;> done))
  case h_22 fo az ts hop =>
    split at ho
    case h_2 => simp at ho
    case h_1 f' xs' h1 h2 =>
      simp only [Option.some.injEq, I.call.injEq] at ho
      obtain ⟨rfl, rfl⟩ := ho
      unfold argsA at ha
      split at ha
      case h_2 => simp at ha
      case h_1 fid' m cs e =>
        simp only [Option.some.injEq, Prod.mk.injEq] at ha
        obtain ⟨rfl, rfl⟩ := ha
        have hv := ev_ok h1 s.env hgf
        rw [e] at hv
        obtain ⟨vs, he1, hm, hc⟩ := hv
        obtain ⟨hl, hx⟩ := evs_ok h2 s.env (allG_ok hgx)
        refine ⟨az.map a.eval ++ vs, ?_, ?_, ?_⟩
        · simp [execOp, hop, resolve, he1, Deferred.ofValue, invoke]
        · simp [evs_length, hm]; simpa using hl
        · intro i hi
          have hlen : az.size = xs'.length := by simpa using hl
          simp only [ofL]
          by_cases hlt : i < xs'.length
          · have := hx i hlt
            simp only [ofL] at this
            have h3 : (az.map a.eval ++ vs).getD i undef = (az.toList.map a.eval).getD i undef := by
              simp [Array.getD_eq_getD_getElem?, List.getD_eq_getElem?_getD, Array.getElem?_append, hlen, hlt]
            rw [h3]
            have h4 : ((evs env xs').map (·.2) ++ (List.range m).map cs).getD i .junk = ((evs env xs').map (·.2)).getD i .junk := by
              simp [List.getD_eq_getElem?_getD, List.getElem?_append, evs_length, hlt]
            rw [h4]
            exact this
          · have hi' : i - xs'.length < m := by
              simp [evs_length] at hi
              omega
            have := hc (i - xs'.length) hi'
            have h3 : (az.map a.eval ++ vs).getD i undef = vs.getD (i - xs'.length) undef := by
              simp [Array.getD_eq_getD_getElem?, Array.getElem?_append, hlen, hlt]
            rw [h3]
            have h4 : ((evs env xs').map (·.2) ++ (List.range m).map cs).getD i .junk = cs (i - xs'.length) := by
              simp [List.getD_eq_getElem?_getD, List.getElem?_append, evs_length, hlt, hi']
            rw [h4]
            exact this

/-- A function without a text, as the model gives it. -/
def Ext (P : Program) (fid : FuncId) (e : Array Value → Sem Value) : Prop :=
  ∃ fn, P.funcs[fid]? = some fn ∧ (fn.name == "runtime.NumGoroutine") = false ∧ fn.body.isNone = true ∧ Extern.findNext fn = none ∧ Extern.find fn = some e
theorem vok_ext2 {fid : FuncId} {e : Array Value → Sem Value} {s : Str} {c : UInt8} {r : Int} (hF : Ext C.P fid e) (hr : ∀ w : World, (e #[.string s.ba, .int .u8 (c.toNat : Int)]).run C.P w = .ok (.int .i64 r) w)
    (ha : argsA env f xs = some (fid, [Enc.v s, Enc.v c])) (hgx : gc = true → (ev env f).1 = true ∧ allG (evs env xs)) : gc = true → VOK C.P nt h env (.call f xs) (Enc.v r) := fun hg => by
  obtain ⟨fn, h1, h2, h3, h4, h5⟩ := hF
  intro o μ a w ho s' N hN
  obtain ⟨cargs, hrun, hsz, hv⟩ := call_runX (P := C.P) s' ho ha (hgx hg).1 (hgx hg).2
  have hsz : cargs.size = 2 := hsz
  have v0 : cargs.getD 0 undef = .string s.ba := hv 0 (by simp)
  have v1 : cargs.getD 1 undef = .int .u8 (c.toNat : Int) := hv 1 (by simp)
  have hc : cargs = #[.string s.ba, .int .u8 (c.toNat : Int)] := by
    apply Array.ext (by simpa using hsz)
    intro i h1 h2
    have hi : i < 2 := by omega
    rcases (by omega : i = 0 ∨ i = 1) with rfl | rfl
    · rw [Array.getD_eq_getD_getElem?, Array.getElem?_eq_getElem h1] at v0
      exact v0
    · rw [Array.getD_eq_getD_getElem?, Array.getElem?_eq_getElem h1] at v1
      exact v1
  rw [run_callFunc_extern h1 h2 h3 h4 h5, hc, hr] at hrun
  unfold Oper.wp
  rw [hrun]
  simp only [Result.andThen_ok, Oper.upon]
  exact hN _ w rfl (RowKit.Below.refl _ _)
theorem ba_bytes (s : Str) : s.ba.data.toList = s.l := by simp [Str.ba]
theorem u8_back (c : UInt8) : ((c.toNat : Int)).toNat.toUInt8 = c := by simp
theorem vok_countS {fid : FuncId} {s : Str} {c : UInt8} (hF : Ext C.P fid Extern.BytealgCount.count) (ha : argsA env f xs = some (fid, [Enc.v s, Enc.v c])) (hgx : gc = true → (ev env f).1 = true ∧ allG (evs env xs)) :
    gc = true → VOK C.P nt h env (.call f xs) (Enc.v ((s.l.count c : Nat) : Int)) :=
  vok_ext2 hF (fun w => by rw [Lib.run_countString, ba_bytes, u8_back]; rfl) ha hgx
theorem vok_indexS {fid : FuncId} {s : Str} {c : UInt8} (hF : Ext C.P fid Extern.BytealgIndexByte.indexByte) (ha : argsA env f xs = some (fid, [Enc.v s, Enc.v c])) (hgx : gc = true → (ev env f).1 = true ∧ allG (evs env xs)) :
    gc = true → VOK C.P nt h env (.call f xs) (Enc.v (Lib.indexByte s.l c)) :=
  vok_ext2 hF (fun w => by rw [Lib.run_indexByteString, ba_bytes, u8_back]) ha hgx
end
end Go.AX
