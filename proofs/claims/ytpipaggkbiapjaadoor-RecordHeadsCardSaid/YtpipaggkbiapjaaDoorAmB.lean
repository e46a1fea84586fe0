import Derived.Test.YtpipaggkbiapjaaDoorAmA
/- The cooked code: what the walk reads; and the triples over it. -/
namespace Go.AM

inductive X where
  | t (n : Nat)
  | i (k : IntKind) (n : Int)
  | b (b : Bool)
  | s (s : ByteArray)
  | np
  | ns
  | nf
  | fn (f : Nat)
  | gl (g : Nat)

def cookX : Operand → Option X
  | .tmp t => some (.t t)
  | .const (.int k n) => some (.i k n)
  | .const (.bool b) => some (.b b)
  | .const (.string s) => some (.s s)
  | .const (.pointer none) => some .np
  | .const (.slice none 0 0) => some .ns
  | .const .nilFunc => some .nf
  | .func f => some (.fn f)
  | .global g => some (.gl g)
  | _ => none

def cookXs : List Operand → Option (List X)
  | [] => some []
  | o :: r => match cookX o, cookXs r with
    | some x, some xs => some (x :: xs)
    | _, _ => none

def cookXo : Option Operand → Option (Option X)
  | none => some none
  | some o => match cookX o with
    | some x => some (some x)
    | none => none

def cookPs : List (Nat × Operand) → Option (List (Nat × X))
  | [] => some []
  | (n, o) :: r => match cookX o, cookPs r with
    | some x, some xs => some ((n, x) :: xs)
    | _, _ => none

inductive I where
  | mv (x : X)
  | pk (c a b : X)
  | al (t : TypeId)
  | box (t : TypeId) (x : X)
  | bld (t : TypeId) (ps : List (Nat × X))
  | bsl (t : TypeId) (n : Nat) (ps : List (Nat × X))
  | ld (t : TypeId) (x : X)
  | st (t : TypeId) (x y : X)
  | nc (x : X)
  | bin (op : BinOp) (t : TypeId) (x y : X)
  | un (op : UnOp) (x : X)
  | cvt (s t : TypeId) (x : X)
  | mf (f : FuncId) (cs : List X)
  | mk (t : TypeId) (x y : X)
  | sli (t : TypeId) (x : X) (lo hi mx : Option X)
  | fa (t : TypeId) (x : X) (i : Nat)
  | fd (t : TypeId) (x : X) (i : Nat)
  | ia (t : TypeId) (x y : X)
  | ix (t : TypeId) (x y : X)
  | ex (x : X) (i : Nat)
  | call (f : X) (xs : List X)
  | bi (b : Builtin) (ts : List TypeId) (xs : List X)
  | unk

def cookOp : Op → Option I
  | .move x => (cookX x).map .mv
  | .assign x => (cookX x).map .mv
  | .pick c a b => match cookX c, cookX a, cookX b with
    | some c, some a, some b => some (.pk c a b)
    | _, _, _ => none
  | .alloc t => some (.al t)
  | .box t x => (cookX x).map (.box t)
  | .build t ps => (cookPs ps.toList).map (.bld t)
  | .buildSlice t n ps => (cookPs ps.toList).map (.bsl t n)
  | .load t x => (cookX x).map (.ld t)
  | .store t x y => match cookX x, cookX y with
    | some x, some y => some (.st t x y)
    | _, _ => none
  | .nilCheck x => (cookX x).map .nc
  | .binOp op t x y _ => match cookX x, cookX y with
    | some x, some y => some (.bin op t x y)
    | _, _ => none
  | .unOp op _ x => (cookX x).map (.un op)
  | .convert s t x => (cookX x).map (.cvt s t)
  | .makeFunc (.func f) ⟨[]⟩ cs => (cookXs cs.toList).map (.mf f)
  | .makeSlice t x y => match cookX x, cookX y with
    | some x, some y => some (.mk t x y)
    | _, _ => none
  | .slice t x lo hi mx => match cookX x, cookXo lo, cookXo hi, cookXo mx with
    | some x, some lo, some hi, some mx => some (.sli t x lo hi mx)
    | _, _, _, _ => none
  | .fieldAddr t x i => (cookX x).map fun x => .fa t x i
  | .field t x i => (cookX x).map fun x => .fd t x i
  | .indexAddr t x y => match cookX x, cookX y with
    | some x, some y => some (.ia t x y)
    | _, _ => none
  | .index t x y => match cookX x, cookX y with
    | some x, some y => some (.ix t x y)
    | _, _ => none
  | .extract x i => (cookX x).map fun x => .ex x i
  | .call { callee := .value f, args := as, argTypes := _ } => match cookX f, cookXs as.toList with
    | some f, some xs => some (.call f xs)
    | _, _ => none
  | .call { callee := .builtin b, args := as, argTypes := ts } => (cookXs as.toList).map (.bi b ts.toList)
  | _ => some .unk

/-- An operation: where its value goes, its test, what it does. -/
structure KO where
  d : Option Nat
  g : Option (Nat × Bool)
  i : I

def cookG (all : Array Oper) : Option (Nat × Bool) → Option (Option (Nat × Bool))
  | none => some none
  | some (j, w) => match (all[j]?).bind (·.dst) with
    | some d => some (some (d, w))
    | none => none

def cookO (all : Array Oper) (o : Oper) : Option KO :=
  match cookG all o.guard, cookOp o.op with
  | some g, some i => some ⟨o.dst, g, i⟩
  | _, _ => none

def cookL (all : Array Oper) : List Oper → Option (List KO)
  | [] => some []
  | o :: r => match cookO all o, cookL all r with
    | some k, some ks => some (k :: ks)
    | _, _ => none

inductive KC where
  | skip
  | reg (ks : List KO)
  | drw (ops : Array Oper) (ks : List KO)
  | seq (a b : KC)
  | cond (c : X) (a b : KC)
  | block (id : Nat) (b : KC)
  | loop (b : KC)
  | exit (id : Nat)
  | ret

def cookC : Code → Option KC
  | .skip => some .skip
  | .region _ ops false => (cookL ops ops.toList).map .reg
  | .region _ ops true => (cookL ops ops.toList).map (.drw ops)
  | .seq a b => match cookC a, cookC b with
    | some a, some b => some (.seq a b)
    | _, _ => none
  | .cond c a b => match cookX c, cookC a, cookC b with
    | some c, some a, some b => some (.cond c a b)
    | _, _, _ => none
  | .block id b => (cookC b).map (.block id)
  | .loop b => (cookC b).map .loop
  | .exit id => some (.exit id)
  | .ret => some .ret
  | _ => none

/-- The regions that draw, in order. -/
def regs : Code → List (Array Oper)
  | .region _ ops true => [ops]
  | .seq a b => regs a ++ regs b
  | .cond _ a b => regs a ++ regs b
  | .block _ b => regs b
  | .loop b => regs b
  | _ => []

section
variable (P : Program) (nt : Nat)

abbrev Post := Exit → Env → Hp → Prop

def T (c : Code) (Q : Post) (env : Env) (h : Hp) : Prop :=
  ∀ μ a w, SimA nt μ env h a w → c.wp P (fun e a' w' => ∃ μ' env' h', Q e env' h' ∧ SimA nt μ' env' h' a' w' ∧ Step μ w μ' w') a w

/-- The cooked code does so. -/
def TK (k : KC) (Q : Post) (env : Env) (h : Hp) : Prop := ∀ c, cookC c = some k → T P nt c Q env h

/-- The list of operations, from one on. -/
def wpK (Q : Act → World → Prop) : List (Oper × KO) → Act → World → Prop
  | [], a, w => Q a w
  | (o, k) :: r, a, w =>
    match k.g with
    | none => o.wp P a w (wpK Q r) (fun _ _ _ => False)
    | some (d, want) => match a.tmps[d]? with
      | some (.bool b) => if b = want then o.wp P a w (wpK Q r) (fun _ _ _ => False) else wpK Q r (a.put o.dst undef) w
      | _ => wpK Q r (a.put o.dst undef) w

def TL (ks : List KO) (K : Env → Hp → Prop) (env : Env) (h : Hp) : Prop :=
  ∀ os : List Oper, os.length = ks.length → (∀ p ∈ os.zip ks, cookOp p.1.op = some p.2.i ∧ p.1.dst = p.2.d) →
    ∀ μ a w, SimA nt μ env h a w → wpK P (fun a' w' => ∃ μ' env' h', K env' h' ∧ SimA nt μ' env' h' a' w' ∧ Step μ w μ' w') (os.zip ks) a w
end

section rules
variable {P : Program} {nt : Nat} {Q : Post} {env : Env} {h : Hp}

theorem T.mono {c : Code} {Q' : Post} (k : T P nt c Q env h) (hq : ∀ e env h, Q e env h → Q' e env h) : T P nt c Q' env h :=
  fun μ a w hs => wp_mono (k μ a w hs) fun _ _ _ ⟨μ', env', h', q, r⟩ => ⟨μ', env', h', hq _ _ _ q, r⟩

theorem TK.mono {c : KC} {Q' : Post} (k : TK P nt c Q env h) (hq : ∀ e env h, Q e env h → Q' e env h) : TK P nt c Q' env h :=
  fun c hc => (k c hc).mono hq

theorem TK.skip (k : Q .normal env h) : TK P nt .skip Q env h := by
  intro c hc μ a w hs
  cases c <;> (try simp [cookC] at hc)
  case skip => exact wp_skip ⟨μ, env, h, k, hs, Step.refl _ _⟩
  case region id ops d => cases d <;> simp [cookC] at hc
  case seq x y => split at hc <;> simp at hc
  case cond x y z => split at hc <;> simp at hc

theorem TK.ret (k : Q .ret env h) : TK P nt .ret Q env h := by
  intro c hc μ a w hs
  cases c <;> (try simp [cookC] at hc)
  case ret => exact wp_ret ⟨μ, env, h, k, hs, Step.refl _ _⟩
  case region id ops d => cases d <;> simp [cookC] at hc
  case seq x y => split at hc <;> simp at hc
  case cond x y z => split at hc <;> simp at hc

theorem TK.exit {id : Nat} (k : Q (.exit id) env h) : TK P nt (.exit id) Q env h := by
  intro c hc μ a w hs
  cases c <;> (try simp [cookC] at hc)
  case exit => subst hc; exact wp_exit ⟨μ, env, h, k, hs, Step.refl _ _⟩
  case region id ops d => cases d <;> simp [cookC] at hc
  case seq x y => split at hc <;> simp at hc
  case cond x y z => split at hc <;> simp at hc

def thenQ (K : Env → Hp → Prop) (Q : Post) : Post
  | .normal, env, h => K env h
  | e, env, h => Q e env h

theorem TK.seq {x y : KC} (k : TK P nt x (thenQ (fun env h => TK P nt y Q env h) Q) env h) : TK P nt (.seq x y) Q env h := by
  intro c hc μ a w hs
  cases c <;> (try simp [cookC] at hc)
  case region id ops d => cases d <;> simp [cookC] at hc
  case cond x y z => split at hc <;> simp at hc
  case seq c1 c2 =>
    split at hc <;> simp at hc
    rename_i k1 k2 h1 h2
    obtain ⟨rfl, rfl⟩ := hc
    refine wp_seq (wp_mono (k c1 h1 μ a w hs) ?_)
    rintro e a1 w1 ⟨μ1, env1, h1', q, hs1, st1⟩
    cases e with
    | normal =>
      refine wp_mono (q c2 h2 μ1 a1 w1 hs1) ?_
      rintro e a2 w2 ⟨μ2, env2, h2', q2, hs2, st2⟩
      exact ⟨μ2, env2, h2', q2, hs2, st1.trans st2⟩
    | _ => exact ⟨μ1, env1, h1', q, hs1, st1⟩

/-- The rest behind a letter: what is ahead is walked without seeing it. -/
theorem TK.seq_k {x y : KC} (k : ∀ K : Env → Hp → Prop, (∀ env h, TK P nt y Q env h → K env h) → TK P nt x (thenQ K Q) env h) : TK P nt (.seq x y) Q env h :=
  TK.seq (k _ fun _ _ h => h)

theorem TK.block {id : Nat} {b : KC} (k : TK P nt b (fun e env h => match e with
    | .exit id' => if id' = id then Q .normal env h else Q (.exit id') env h
    | e => Q e env h) env h) : TK P nt (.block id b) Q env h := by
  intro c hc μ a w hs
  cases c <;> (try simp [cookC] at hc)
  case region id ops d => cases d <;> simp [cookC] at hc
  case seq x y => split at hc <;> simp at hc
  case cond x y z => split at hc <;> simp at hc
  case block id' c1 =>
    obtain ⟨hb, rfl⟩ := hc
    refine wp_block (wp_mono (k c1 hb μ a w hs) ?_)
    rintro e a1 w1 ⟨μ1, env1, h1', q, hs1, st1⟩
    cases e with
    | exit id'' =>
      simp only [Exit.inBlock]
      dsimp only at q
      split
      · rename_i he; rw [if_pos he] at q; exact ⟨μ1, env1, h1', q, hs1, st1⟩
      · rename_i he; rw [if_neg he] at q; exact ⟨μ1, env1, h1', q, hs1, st1⟩
    | _ => exact ⟨μ1, env1, h1', q, hs1, st1⟩

/-- A loop: a family of states, what holds of them, and a measure. -/
theorem TK.loop {b : KC} {σ : Type} (I : σ → Env → Hp → Prop) (m : σ → Nat) (s0 : σ) (h0 : I s0 env h)
    (round : ∀ s env h, I s env h → TK P nt b (thenQ (fun env' h' => ∃ s', I s' env' h' ∧ m s' < m s) Q) env h) : TK P nt (.loop b) Q env h := by
  intro c hc μ a w hs
  cases c <;> (try simp [cookC] at hc)
  case region id ops d => cases d <;> simp [cookC] at hc
  case seq x y => split at hc <;> simp at hc
  case cond x y z => split at hc <;> simp at hc
  case loop c1 =>
    have hb := hc
    have key : ∀ n s env h, m s = n → I s env h → ∀ μ a w, SimA nt μ env h a w → ∀ (fb : Frame) (k : List Item) (cs : List Frame),
        ∃ e a' w', (∃ μ' env' h', Q e env' h' ∧ SimA nt μ' env' h' a' w' ∧ Step μ w μ' w') ∧
          Arrives P (lone (fb.at a (.code c1 :: .inLoop c1 :: k)) cs w) fb k cs e a' w' := by
      intro n
      induction n using Nat.strongRecOn with
      | _ n ih =>
        intro s env h hn hI μ a w hs fb k cs
        obtain ⟨e, a1, w1, ⟨μ1, env1, h1, q, hs1, st1⟩, harr⟩ := round s env h hI c1 hb μ a w hs fb (.inLoop c1 :: k) cs
        cases e with
        | normal =>
          obtain ⟨s', hI', hlt⟩ := q
          obtain ⟨e2, a2, w2, ⟨μ2, env2, h2, q2, hs2, st2⟩, harr2⟩ := ih (m s') (hn ▸ hlt) s' env1 h1 rfl hI' μ1 a1 w1 hs1 fb k cs
          exact ⟨e2, a2, w2, ⟨μ2, env2, h2, q2, hs2, st1.trans st2⟩, .of_steps (Steps.trans harr (.one step_inLoop)) harr2⟩
        | exit id => exact ⟨_, a1, w1, ⟨μ1, env1, h1, q, hs1, st1⟩, .pass (x := .inLoop c1) rfl (fun _ _ => .inl (by simp)) harr⟩
        | goto l => exact ⟨_, a1, w1, ⟨μ1, env1, h1, q, hs1, st1⟩, .pass (x := .inLoop c1) rfl (fun _ _ => .inl (by simp)) harr⟩
        | ret => exact ⟨_, a1, w1, ⟨μ1, env1, h1, q, hs1, st1⟩, .pass (x := .inLoop c1) rfl (fun _ _ => .inl (by simp)) harr⟩
        | panic ch => exact ⟨_, a1, w1, ⟨μ1, env1, h1, q, hs1, st1⟩, .pass (x := .inLoop c1) rfl (fun _ _ => .inl (by simp)) harr⟩
        | outgrown => exact ⟨_, a1, w1, ⟨μ1, env1, h1, q, hs1, st1⟩, .pass (x := .inLoop c1) rfl (fun _ _ => .inl (by simp)) harr⟩
    intro fb k cs
    obtain ⟨e, a', w', hq, harr⟩ := key _ s0 env h rfl h0 μ a w hs fb k cs
    exact ⟨e, a', w', hq, .of_steps (.one step_loop) harr⟩
end rules
end Go.AM
