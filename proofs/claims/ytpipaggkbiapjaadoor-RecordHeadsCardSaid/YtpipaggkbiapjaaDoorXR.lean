import Derived.Test.YtpipaggkbiapjaaDoorXQ
/- Strings and bytes. -/
namespace Go.AX
open Go.AM Go.RowKit

section
variable {C : Cx} {P : Program} {nt : Nat} {env : Env} {h hS : Hp} {K : Env → Hp → Prop} {gc gx gy : Bool} {t : TypeId} {x y : X} {u : AV} {α β : Type} [Enc α] [Enc β]

theorem TL.ofV {d : Nat} {g : Option (Nat × Bool)} {i : I} {v : AV} {ks : List KO} (hv : gc = true → VOK P nt h env i v) (hg : gcOf env g = some gc) (hd : Nat.ble (d + 1) nt = true)
    (rest : TL P nt ks K ((d, gc, v) :: env) h) : TL P nt (⟨some d, g, i⟩ :: ks) K env h := by
  have hd' : ∀ x, some d = some x → x < nt := dlt hd
  refine TL.cons (gc := gc) hg ?_ (fun e => ⟨hd', by subst e; exact TL.under rest⟩)
  intro o μ a w ho hdst s hgc N hN
  refine hv hgc o μ a w ho s N fun c w' h1 hb => ?_
  have st := Step.of_below s.sim.muok hb
  have s' : SimA nt μ env h a w' := ⟨s.sim.below hb, s.env.mono st, s.size, s.defers⟩
  rw [hdst]
  subst hgc
  exact hN μ _ h _ w' (s'.put hd' (fun _ => h1) (fun e => by simp at e)) st rest

theorem cvt_op {o : Oper} {s t : TypeId} {x : X} (ho : cookOp o.op = some (.cvt s t x)) : ∃ ox, o.op = .convert s t ox ∧ cookX ox = some x := by
  unfold cookOp at ho
  split at ho <;> (try (simp at ho; done)) <;> (try (split at ho <;> simp at ho <;> done))
  rename_i s' t' x' e
  obtain ⟨y, hy, e2⟩ := Option.map_eq_some_iff.1 ho
  simp only [I.cvt.injEq] at e2
  obtain ⟨rfl, rfl, rfl⟩ := e2
  exact ⟨_, e, hy⟩

theorem run_bytes {P : Program} {w : World} : ∀ (bs : List UInt8) (s : ByteArray) (f : Value → ByteArray → Sem (ForInStep ByteArray)), (∀ b r, f (.int .u8 (b.toNat : Int)) r = Pure.pure (ForInStep.yield (r.push (UInt8.ofNat (b : UInt8).toNat)))) →
    (forIn (bs.map fun b => Value.int .u8 (b.toNat : Int)) s f : Sem ByteArray).run P w = .ok ⟨s.data ++ bs.toArray⟩ w
  | [], s, f, _ => by simp
  | b :: bs, s, f, hf => by
    simp only [List.map_cons, List.forIn_cons]
    rw [hf, Sem.run_bind]
    simp only [Sem.run_pure, Result.andThen_ok]
    rw [run_bytes bs _ f hf]
    congr 1
    simp [ByteArray.push]

theorem vok_cvtBS {s e : TypeId} {xs : List UInt8} (hs : C.kd s = some (.slc e)) (he : C.kd e = some (.int .u8)) (ht : C.kd t = some .str) (hx : ev env x = (gx, u)) (hl : Look1 h u (L xs)) (hg : gc = true → gx = true := by first | exact fun _ => rfl | simp_all) :
    gc = true → VOK C.P nt h env (.cvt s t x) (.str (Str.mk xs).ba) := fun hgc => by
  intro o μ a w ho sa N hN
  obtain ⟨ox, hop, hcx⟩ := cvt_op ho
  have vx := ev_ok hcx sa.env (by rw [hx]; exact hg hgc)
  rw [hx] at vx
  have vx := hl μ w _ sa.sim vx
  obtain ⟨_, _, _, hKs⟩ := kd_ok hs
  obtain ⟨_, _, _, hKe⟩ := kd_ok he
  obtain ⟨_, _, _, hKt⟩ := kd_ok ht
  have key : (convert s t (a.eval ox)).run C.P w = .ok (.string (Str.mk xs).ba) w := by
    generalize a.eval ox = c at vx
    have vx : VR μ.flat w (.sl (rowL 1 ec xs) (xs.length * 1) xs.length) c := vx
    rcases vx with ⟨h0, h1, rfl⟩ | ⟨ad, cap, rfl, h1, h2, h3⟩
    · obtain rfl : xs = [] := List.length_eq_zero_iff.1 h0
      simp [convert, run_und hKs, run_und hKt, run_und hKe, Conv.bytesToString]
      rfl
    · have hc : ∀ i, i < xs.length → w.cell? (ad.add i) = some (.int .u8 ((xs.getD i 0).toNat : Int)) := by
        intro i hi
        obtain ⟨q, hq, hv⟩ := h3 i (by omega)
        have hsp := (h2 (by omega)).1
        obtain ⟨ab, ao, as⟩ := ad
        have hsp : as = none := hsp
        subst hsp
        rw [add_at, hq]
        have hv : VR μ.flat w (rowL 1 ec xs i) q := hv
        rw [rowL_split (by omega), Nat.div_one, List.getElem?_eq_getElem hi, Nat.mod_one] at hv
        have hv : q = .int .u8 ((xs[i]).toNat : Int) := hv
        rw [hv]
        simp [List.getD_eq_getElem?_getD, hi]
      have hload := run_loadCells (P := C.P) w ad xs.length (fun i => .int .u8 ((xs.getD i 0).toNat : Int)) hc
      have hm : ((List.range xs.length).map fun i => Value.int .u8 ((xs.getD i 0).toNat : Int)) = xs.map fun b => Value.int .u8 (b.toNat : Int) := by
        apply List.ext_getElem
        · simp
        · intro i h1 h2
          simp at h1
          simp [List.getD_eq_getElem?_getD, h1]
      rw [hm] at hload
      simp only [convert, Sem.run_bind, run_und hKs, run_und hKt, run_und hKe, Result.andThen_ok, Conv.bytesToString, hload]
      rw [List.forIn_toArray, run_bytes xs ByteArray.empty _ (fun b r => by simp)]
      simp [Str.ba]
  unfold Oper.wp
  have : (execOp a.eval o).run C.P w = .ok (.value (.string (Str.mk xs).ba)) w := by
    simp [execOp, hop, key]
  rw [this]
  exact hN _ w rfl (Below.refl _ _)
end
end Go.AX
