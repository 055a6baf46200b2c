/- The rules of the walk over the abstract memory: operations, calls, sequences, tests, loops, regions. Conditions: none. -/
import Derived.Test.YtiddnhhjlipebaaAmB
namespace Go.Proofs.Ytiddnhhjlipebaa.Am
open Go
set_option linter.unusedVariables false
set_option linter.unusedSimpArgs false

abbrev Tmps := Nat → Value

def ev (T : Tmps) : Operand → Value
  | .tmp t => T t
  | .const v => v
  | .global g => .pointer (some ⟨g, 0, none⟩)
  | .func f => .func (.func f) #[] #[]

def put (T : Tmps) (d : Option Tmp) (v : Value) : Tmps :=
  match d with
  | some d => fun t => if t = d then v else T t
  | none => T

theorem put_none (T : Tmps) (v : Value) : put T none v = T := rfl
theorem put_some (T : Tmps) (d : Tmp) (v : Value) (t : Nat) : put T (some d) v t = if t = d then v else T t := rfl

def constOk : Value → Bool
  | .bool _ | .int _ _ | .string _ | .nilFunc | .nilIface | .pointer none | .slice none _ _ => true
  | .func _ fs cs => fs.size == 0 && cs.size == 0
  | .tuple vs => vs.size == 0
  | .agg cs => cs.all fun
    | .bool _ | .int _ _ | .string _ | .nilFunc | .nilIface | .pointer none | .slice none _ _ => true
    | _ => false
  | _ => false

theorem VRel.const (n : Nat) (m : Map) {v : Value} (h : constOk v = true) : VRel n m v v := by
  cases v with
  | bool b => exact .bool b
  | int k i => exact .int k i
  | float k b => simp [constOk] at h
  | complex k a b => simp [constOk] at h
  | string s => exact .string s
  | pointer a => cases a with
    | none => exact .ptrNone
    | some a => simp [constOk] at h
  | slice a l c => cases a with
    | none => exact .sliceNone l c
    | some a => simp [constOk] at h
  | map r => simp [constOk] at h
  | chan r => simp [constOk] at h
  | func fn fs cs =>
    simp only [constOk, Bool.and_eq_true, beq_iff_eq] at h
    exact .func fn fs cs fs cs rfl rfl (fun i hi _ => by omega) (fun i hi _ => by omega)
  | nilFunc => exact .nilFunc
  | iface t v => simp [constOk] at h
  | nilIface => exact .nilIface
  | agg cs =>
    refine .agg cs cs rfl fun i hi _ => ?_
    simp only [constOk, Array.all_eq_true] at h
    have h1 := h i hi
    revert h1
    cases cs[i] with
    | bool b => intro _; exact .bool b
    | int k i => intro _; exact .int k i
    | string s => intro _; exact .string s
    | nilFunc => intro _; exact .nilFunc
    | nilIface => intro _; exact .nilIface
    | pointer a => cases a with
      | none => intro _; exact .ptrNone
      | some a => intro h; simp at h
    | slice a l c => cases a with
      | none => intro _; exact .sliceNone l c
      | some a => intro h; simp at h
    | _ => intro h; simp at h
  | tuple vs =>
    simp only [constOk, beq_iff_eq] at h
    exact .tuple vs vs rfl (fun i hi _ => by omega)

theorem VRel.undef (n : Nat) (m : Map) : VRel n m undef undef := VRel.const n m rfl

def opnOk (G : Glo) : Operand → Bool
  | .const v => constOk v
  | .global g => decide (g < G.n)
  | _ => true

/-- What an operation needs of the frame: its operands. -/
def ORel (n : Nat) (m : Map) (T : Tmps) (a : Act) (o : Oper) : Prop := ∀ x, x ∈ o.op.operands → VRel n m (ev T x) (a.eval x)

/-- What an operation comes to, in whatever world. -/
def AOp (P : Program) (G : Glo) (o : Oper) (T : Tmps) (h : Heap) (K : Value → Heap → Prop) : Prop :=
  ∀ m a w, ORel h.length m T a o → WRel G m h w → ∀ Q : Exit → Act → World → Prop,
    o.wp P a w (fun a' w' => ∃ v v' m' h', a' = a.put o.dst v' ∧ VRel h'.length m' v v' ∧ WRel G m' h' w' ∧ Grow m h w m' h' w' ∧ K v h') Q

theorem AOp.mono {P : Program} {G : Glo} {o : Oper} {T : Tmps} {h : Heap} {K K' : Value → Heap → Prop} (hk : ∀ v h', K v h' → K' v h')
    (ha : AOp P G o T h K) : AOp P G o T h K' := fun m a w ho hw Q =>
  Oper.wp_mono (fun _ _ ⟨v, v', m', h', e, hv, hr, hg, k⟩ => ⟨v, v', m', h', e, hv, hr, hg, hk _ _ k⟩) (ha m a w ho hw Q)

/-- What a call comes to, in whatever world. -/
def ACalls (P : Program) (G : Glo) (f : FuncId) (args : Array Value) (h : Heap) (K : Value → Heap → Prop) : Prop :=
  ∀ m (args' : Array Value) w, args.size = args'.size → (∀ (i : Nat) (hi : i < args.size) (hi' : i < args'.size), VRel h.length m args[i] args'[i]) →
    WRel G m h w → Calls P f args' w fun e w' => ∃ v v' m' h', e = .returned v' ∧ VRel h'.length m' v v' ∧ WRel G m' h' w' ∧ Grow m h w m' h' w' ∧ K v h'

theorem ACalls.mono {P : Program} {G : Glo} {f : FuncId} {args : Array Value} {h : Heap} {K K' : Value → Heap → Prop}
    (ha : ACalls P G f args h K) (hk : ∀ v h', K v h' → K' v h') : ACalls P G f args h K' := fun m args' w h1 h2 h3 =>
  Calls.mono (ha m args' w h1 h2 h3) fun _ _ ⟨v, v', m', h', e, hv, hr, hg, k⟩ => ⟨v, v', m', h', e, hv, hr, hg, hk _ _ k⟩

/-- A frame and its abstract one. -/
structure SRel (G : Glo) (N : Nat) (m : Map) (T : Tmps) (h : Heap) (a : Act) (w : World) : Prop where
  defers : a.defers = []
  size : a.tmps.size = N
  tmp : ∀ t, VRel h.length m (T t) (a.tmps.getD t undef)
  wr : WRel G m h w

theorem VRel.of_ev {G : Glo} {N : Nat} {m : Map} {T : Tmps} {h : Heap} {a : Act} {w : World} (s : SRel G N m T h a w) {x : Operand} (hx : opnOk G x = true) :
    VRel h.length m (ev T x) (a.eval x) := by
  cases x with
  | tmp t => exact s.tmp t
  | const v => exact VRel.const _ _ hx
  | global g =>
    simp only [opnOk, decide_eq_true_eq] at hx
    obtain ⟨h1, h2, h3⟩ := s.wr.glob g hx
    simp only [ev, Act.eval]
    have : place m ⟨g, 0, none⟩ = ⟨g, 0, none⟩ := by unfold place; simp only [h2, h3]
    have h4 := VRel.ptr (n := h.length) (m := m) ⟨g, 0, none⟩ rfl h1
    rw [this] at h4; exact h4
  | func f => exact .func _ _ _ _ _ rfl rfl (fun i hi _ => absurd hi (by simp)) (fun i hi _ => absurd hi (by simp))

theorem SRel.orel {G : Glo} {N : Nat} {m : Map} {T : Tmps} {h : Heap} {a : Act} {w : World} (s : SRel G N m T h a w) {o : Oper}
    (ho : o.op.operands.all (opnOk G) = true) : ORel h.length m T a o := fun x hx => by
  rw [Array.all_eq_true] at ho
  obtain ⟨i, hi, rfl⟩ := Array.mem_iff_getElem.1 hx
  exact VRel.of_ev s (ho i hi)

theorem SRel.put {G : Glo} {N : Nat} {m m' : Map} {T : Tmps} {h h' : Heap} {a : Act} {w w' : World} (s : SRel G N m T h a w) (g : Grow m h w m' h' w')
    (r : WRel G m' h' w') {d : Option Tmp} {v v' : Value} (hv : VRel h'.length m' v v') (hd : ∀ t, d = some t → t < N) :
    SRel G N m' (Am.put T d v) h' (a.put d v') w' := by
  cases d with
  | none => exact ⟨s.defers, s.size, fun t => (s.tmp t).mono g.len g.agree, r⟩
  | some d =>
    refine ⟨s.defers, by simp [Act.put, s.size], fun t => ?_, r⟩
    have hdn := hd d rfl
    simp only [Am.put_some, Act.put]
    by_cases ht : t = d
    · subst ht
      rw [if_pos rfl]
      have : (a.tmps.setIfInBounds t v').getD t undef = v' := by
        rw [Array.getD_eq_getD_getElem?, Array.getElem?_setIfInBounds_self_of_lt (by rw [s.size]; exact hdn)]; rfl
      rw [this]; exact hv
    · rw [if_neg ht]
      have : (a.tmps.setIfInBounds d v').getD t undef = a.tmps.getD t undef := by
        rw [Array.getD_eq_getD_getElem?, Array.getD_eq_getD_getElem?, Array.getElem?_setIfInBounds_ne (Ne.symm ht)]
      rw [this]; exact (s.tmp t).mono g.len g.agree

/-- What a piece of code comes to, in whatever world. -/
def AW (P : Program) (G : Glo) (N : Nat) (c : Code) (Q : Exit → Tmps → Heap → Prop) (T : Tmps) (h : Heap) : Prop :=
  ∀ m a w, SRel G N m T h a w → c.wp P (fun e a' w' => ∃ m' T' h', SRel G N m' T' h' a' w' ∧ Grow m h w m' h' w' ∧ Q e T' h') a w

section
variable {P : Program} {G : Glo} {N : Nat} {Q : Exit → Tmps → Heap → Prop} {T : Tmps} {h : Heap}

theorem AW.mono {c : Code} {Q' : Exit → Tmps → Heap → Prop} (hq : ∀ e T h, Q e T h → Q' e T h) (ha : AW P G N c Q T h) : AW P G N c Q' T h :=
  fun m a w s => wp_mono (ha m a w s) fun _ _ _ ⟨m', T', h', s', g, q⟩ => ⟨m', T', h', s', g, hq _ _ _ q⟩

def thenK (K : Tmps → Heap → Prop) (Q : Exit → Tmps → Heap → Prop) : Exit → Tmps → Heap → Prop
  | .normal, T, h => K T h
  | e, T, h => Q e T h

theorem aw_seq {x y : Code} (hx : ∀ K : Tmps → Heap → Prop, (∀ T h, AW P G N y Q T h → K T h) → AW P G N x (thenK K Q) T h) :
    AW P G N (.seq x y) Q T h := by
  intro m a w s
  refine wp_seq (wp_mono (hx _ (fun _ _ k => k) m a w s) ?_)
  rintro e a' w' ⟨m', T', h', s', g, q⟩
  cases e with
  | normal =>
    exact wp_mono (q m' a' w' s') fun e a2 w2 ⟨m2, T2, h2, s2, g2, q2⟩ => ⟨m2, T2, h2, s2, g.trans g2, q2⟩
  | _ => exact ⟨m', T', h', s', g, q⟩

theorem aw_skip (hq : Q .normal T h) : AW P G N .skip Q T h := fun m a w s => wp_skip ⟨m, T, h, s, Grow.refl _ _ _, hq⟩
theorem aw_ret (hq : Q .ret T h) : AW P G N .ret Q T h := fun m a w s => wp_ret ⟨m, T, h, s, Grow.refl _ _ _, hq⟩
theorem aw_exit {id : Nat} (hq : Q (.exit id) T h) : AW P G N (.exit id) Q T h := fun m a w s => wp_exit ⟨m, T, h, s, Grow.refl _ _ _, hq⟩

def blockK (id : Nat) (Q : Exit → Tmps → Heap → Prop) : Exit → Tmps → Heap → Prop
  | .exit id', T, h => if id' = id then Q .normal T h else Q (.exit id') T h
  | e, T, h => Q e T h

theorem aw_block {id : Nat} {c : Code} (hc : AW P G N c (blockK id Q) T h) : AW P G N (.block id c) Q T h := by
  intro m a w s
  refine wp_block (wp_mono (hc m a w s) ?_)
  rintro e a' w' ⟨m', T', h', s', g, q⟩
  cases e with
  | exit id' =>
    simp only [blockK] at q
    simp only [Exit.inBlock]
    split
    · rename_i hid; rw [if_pos hid] at q; exact ⟨m', T', h', s', g, q⟩
    · rename_i hid; rw [if_neg hid] at q; exact ⟨m', T', h', s', g, q⟩
  | _ => exact ⟨m', T', h', s', g, q⟩

theorem inv_bool {n : Nat} {m : Map} {b : Bool} {v : Value} (h : VRel n m (.bool b) v) : v = .bool b := by cases h; rfl

theorem aw_cond {c : Operand} {x y : Code} {b : Bool} (hok : opnOk G c = true) (hc : ev T c = .bool b)
    (ht : b = true → AW P G N x Q T h) (hf : b = false → AW P G N y Q T h) : AW P G N (.cond c x y) Q T h := by
  intro m a w s
  have hv := VRel.of_ev s hok
  rw [hc] at hv
  have he := inv_bool hv
  exact wp_cond_split he (fun h => ht h m a w s) (fun h => hf h m a w s)

theorem upon_monoQ {o : Oper} {a : Act} {w : World} {K : Act → World → Prop} {Q1 Q2 : Exit → Act → World → Prop} (hq : ∀ e a w, Q1 e a w → Q2 e a w)
    (hh : o.wp P a w K Q1) : o.wp P a w K Q2 := by
  unfold Oper.wp at *
  generalize (execOp a.eval o).run P w = r at *
  cases r with
  | ok n w' =>
    cases n <;> simp only [Oper.upon] at hh ⊢ <;>
      first
        | exact hh
        | exact Calls.mono hh (fun e w'' he => by
            cases e with
            | returned v => exact he
            | panicked c => exact hq _ _ _ he
            | outgrown => obtain ⟨a1, w1, h1⟩ := he; exact ⟨a1, w1, hq _ _ _ h1⟩)
        | exact Rows.mono hh (fun _ _ he => he)
  | halt x w' => cases x <;> simp only [Oper.upon] at hh ⊢ <;> first | exact hq _ _ _ hh | exact hh

theorem wpList_mono {ops : Array Oper} {Q1 Q2 : Exit → Act → World → Prop} (hq : ∀ e a w, Q1 e a w → Q2 e a w) {l : List Oper} :
    ∀ {a : Act} {w : World}, wpList P ops Q1 l a w → wpList P ops Q2 l a w := by
  induction l with
  | nil => intro a w h; exact hq _ _ _ h
  | cons o rest ih =>
    intro a w h
    unfold wpList at h ⊢
    split
    · rename_i hw
      rw [if_pos hw] at h
      rcases h with h | ⟨h1, a1, w1, h2⟩
      · exact .inl (upon_monoQ hq (Oper.wp_mono (fun a w h => ih h) h))
      · exact .inr ⟨h1, a1, w1, hq _ _ _ h2⟩
    · rename_i hw
      rw [if_neg hw] at h
      exact ih h

theorem wp_loopI {c : Code} {QQ : Exit → Act → World → Prop} (I : Nat → Act → World → Prop)
    (round : ∀ n a w, I n a w → c.wp P (Exit.then (fun a' w' => ∃ n', n' < n ∧ I n' a' w') QQ) a w) :
    ∀ {n : Nat} {a : Act} {w : World}, I n a w → (Code.loop c).wp P QQ a w := by
  intro n a w h₀ b k cs
  have key : ∀ n a w, I n a w →
      ∃ e a' w', QQ e a' w' ∧ Arrives P (lone (b.at a (.code c :: .inLoop c :: k)) cs w) b k cs e a' w' := by
    intro n
    induction n using Nat.strongRecOn with
    | _ n ih =>
      intro a w hI
      obtain ⟨e, a₁, w₁, hq, harr⟩ := round n a w hI b (.inLoop c :: k) cs
      cases e with
      | normal =>
        obtain ⟨n', hlt, hI₁⟩ := hq
        obtain ⟨e₂, a₂, w₂, hq₂, harr₂⟩ := ih n' hlt a₁ w₁ hI₁
        exact ⟨e₂, a₂, w₂, hq₂, .of_steps (Steps.trans harr (.one step_inLoop)) harr₂⟩
      | exit id => exact ⟨_, a₁, w₁, hq, .pass (x := .inLoop c) rfl (fun _ _ => .inl (by simp)) harr⟩
      | goto l => exact ⟨_, a₁, w₁, hq, .pass (x := .inLoop c) rfl (fun _ _ => .inl (by simp)) harr⟩
      | ret => exact ⟨_, a₁, w₁, hq, .pass (x := .inLoop c) rfl (fun _ _ => .inl (by simp)) harr⟩
      | panic ch => exact ⟨_, a₁, w₁, hq, .pass (x := .inLoop c) rfl (fun _ _ => .inl (by simp)) harr⟩
      | outgrown => exact ⟨_, a₁, w₁, hq, .pass (x := .inLoop c) rfl (fun _ _ => .inl (by simp)) harr⟩
  obtain ⟨e, a', w', hq, harr⟩ := key n a w h₀
  exact ⟨e, a', w', hq, .of_steps (.one step_loop) harr⟩

/-- A loop: what holds at each round's head, and a number that each round lowers. -/
theorem aw_loop {c : Code} (I : Nat → Tmps → Heap → Prop) {n : Nat} (h0 : I n T h)
    (round : ∀ n T h, I n T h → AW P G N c (thenK (fun T' h' => ∃ n', n' < n ∧ I n' T' h') Q) T h) : AW P G N (.loop c) Q T h := by
  intro m a w s
  refine wp_loopI (c := c) (fun n a' w' => ∃ (m' : Map) (T' : Tmps) (h' : Heap), SRel G N m' T' h' a' w' ∧ Grow m h w m' h' w' ∧ I n T' h') ?_
    (n := n) ⟨m, T, h, s, Grow.refl _ _ _, h0⟩
  rintro n a1 w1 ⟨m1, T1, h1, s1, g1, i1⟩
  refine wp_mono (round n T1 h1 i1 m1 a1 w1 s1) ?_
  rintro e a' w' ⟨m', T', h', s', g, q⟩
  cases e with
  | normal => obtain ⟨n', hn, hi⟩ := q; exact ⟨n', hn, m', T', h', s', g1.trans g, hi⟩
  | _ => exact ⟨m', T', h', s', g1.trans g, q⟩

/-! ### a region in the order of its text -/

def yieldedA (ops : Array Oper) (T : Tmps) (j : Nat) : Option Bool :=
  match ((ops[j]?).bind (·.dst)).map T with
  | some (.bool b) => some b
  | _ => none

theorem VRel.bool_iff {n : Nat} {m : Map} {a v : Value} (h : VRel n m a v) (b : Bool) : a = .bool b ↔ v = .bool b := by
  cases h <;> simp

theorem yielded_eq {m : Map} {a : Act} {w : World} (s : SRel G N m T h a w) (ops : Array Oper) (j : Nat)
    (hN : ∀ t, (ops[j]?).bind (·.dst) = some t → t < N) : yielded ops a.tmps j = yieldedA ops T j := by
  unfold yielded yieldedA
  cases ht : (ops[j]?).bind (·.dst) with
  | none => rfl
  | some t =>
    have hl := hN t ht
    have hv := s.tmp t
    have hg : a.tmps[t]? = some (a.tmps.getD t undef) := by
      rw [Array.getD_eq_getD_getElem?, Array.getElem?_eq_getElem (by rw [s.size]; exact hl)]; rfl
    simp only [Option.bind_some, Option.map_some, hg]
    generalize a.tmps.getD t undef = v at hv
    generalize T t = u at hv
    cases hv <;> rfl

def wantedA (ops : Array Oper) (T : Tmps) (o : Oper) : Bool := Region.wanted o (yieldedA ops T)

/-- An operation is well formed: its operands, what it writes, the guard that it looks at. -/
def operOk (G : Glo) (N : Nat) (ops : Array Oper) (o : Oper) : Bool :=
  o.op.operands.all (opnOk G) && (match o.dst with | some d => decide (d < N) | none => true) &&
    (match o.guard with | some (j, _) => (match (ops[j]?).bind (·.dst) with | some d => decide (d < N) | none => true) | none => true)

theorem wanted_eq {m : Map} {a : Act} {w : World} (s : SRel G N m T h a w) {ops : Array Oper} {o : Oper} (hok : operOk G N ops o = true) :
    Region.wanted o (yielded ops a.tmps) = wantedA ops T o := by
  unfold wantedA Region.wanted
  cases hg : o.guard with
  | none => rfl
  | some p =>
    obtain ⟨j, want⟩ := p
    simp only [operOk, hg, Bool.and_eq_true] at hok
    have h3 := hok.2
    simp only
    rw [yielded_eq s ops j]
    intro t ht
    rw [ht] at h3
    simpa using h3

/-- The operations of a region, one after the other. -/
def ARun (P : Program) (G : Glo) (N : Nat) (ops : Array Oper) (Q : Exit → Tmps → Heap → Prop) : List Oper → Tmps → Heap → Prop
  | [], T, h => Q .normal T h
  | o :: rest, T, h => operOk G N ops o = true ∧
      (wantedA ops T o = true → AOp P G o T h fun v h' => ARun P G N ops Q rest (put T o.dst v) h') ∧
      (wantedA ops T o = false → ARun P G N ops Q rest (put T o.dst undef) h)

theorem arun_sound {ops : Array Oper} (l : List Oper) : ∀ {T : Tmps} {h : Heap}, ARun P G N ops Q l T h → ∀ {m : Map} {a : Act} {w : World},
    SRel G N m T h a w →
    wpList P ops (fun e a' w' => ∃ m' T' h', SRel G N m' T' h' a' w' ∧ Grow m h w m' h' w' ∧ Q e T' h') l a w := by
  induction l with
  | nil => intro T h hr m a w s; exact ⟨m, T, h, s, Grow.refl _ _ _, hr⟩
  | cons o rest ih =>
    intro T h hr m a w s
    obtain ⟨hok, hy, hn⟩ := hr
    have hd : ∀ t, o.dst = some t → t < N := by
      intro t ht
      simp only [operOk, ht, Bool.and_eq_true, decide_eq_true_eq] at hok
      exact hok.1.2
    unfold wpList
    rw [wanted_eq s hok]
    split
    · rename_i hw
      left
      have hops : o.op.operands.all (opnOk G) = true := by
        simp only [operOk, Bool.and_eq_true] at hok; exact hok.1.1
      refine Oper.wp_mono ?_ (hy hw m a w (s.orel hops) s.wr _)
      rintro a' w' ⟨v, v', m', h', rfl, hv, hr, hg, k⟩
      have s' := s.put hg hr hv hd
      have := ih k s'
      refine wpList_mono ?_ this
      rintro e a2 w2 ⟨m2, T2, h2, s2, g2, q2⟩
      exact ⟨m2, T2, h2, s2, hg.trans g2, q2⟩
    · rename_i hw
      have hw' : wantedA ops T o = false := by simpa using hw
      have s' := s.put (Grow.refl _ _ _) s.wr (d := o.dst) (VRel.undef _ _) hd
      exact ih (hn hw') s'

theorem aw_region {id : Nat} {l : List Oper} (hr : ARun P G N l.toArray Q l T h) : AW P G N (.region id l.toArray false) Q T h :=
  fun m a w s => wp_region_lit (arun_sound l hr s)

end

end Go.Proofs.Ytiddnhhjlipebaa.Am
