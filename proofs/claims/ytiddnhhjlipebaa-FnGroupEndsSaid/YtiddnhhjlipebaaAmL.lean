/- Calls: how one is made, how a function is entered, what it hands back, and what it leaves behind. Conditions: none. -/
import Derived.Test.YtiddnhhjlipebaaAmK
namespace Go.Proofs.Ytiddnhhjlipebaa.Am
open Go
set_option linter.unusedVariables false
set_option linter.unusedSimpArgs false

def callOk (P : Program) (f : FuncId) : Bool :=
  match P.funcs[f]? with
  | some fn => !(fn.name == "runtime.NumGoroutine") && fn.body.isSome
  | none => false

section
variable {P : Program} {G : Glo} {N : Nat} {m : Map} {h : Heap} {w : World} {T : Tmps}

theorem run_callFunc {f : FuncId} (hc : callOk P f = true) (args : Array Value) : (callFunc f args).run P w = .ok (.enter f args) w := by
  unfold callOk at hc
  cases hf : P.funcs[f]? with
  | none => rw [hf] at hc; cases hc
  | some fn =>
    rw [hf] at hc
    simp only [Bool.and_eq_true, Bool.not_eq_true'] at hc
    obtain ⟨h1, h2⟩ := hc
    have h3 : ¬ (fn.body.isNone = true) := by
      cases hb : fn.body with
      | none => rw [hb] at h2; cases h2
      | some c => simp
    have h4 : ¬ ((fn.name == "runtime.NumGoroutine") = true) := by rw [h1]; simp
    unfold callFunc
    simp only [Sem.run_bind, run_program, Result.andThen_ok, hf]
    rw [if_neg h4, if_neg h3]
    rfl

theorem vr_append {n : Nat} {a b a' b' : Array Value} (ha : a.size = a'.size ∧ ∀ (i : Nat) (h1 : i < a.size) (h2 : i < a'.size), VRel n m a[i] a'[i])
    (hb : b.size = b'.size ∧ ∀ (i : Nat) (h1 : i < b.size) (h2 : i < b'.size), VRel n m b[i] b'[i]) :
    (a ++ b).size = (a' ++ b').size ∧ ∀ (i : Nat) (h1 : i < (a ++ b).size) (h2 : i < (a' ++ b').size), VRel n m (a ++ b)[i] (a' ++ b')[i] := by
  refine ⟨by simp [ha.1, hb.1], fun i h1 h2 => ?_⟩
  by_cases hi : i < a.size
  · rw [Array.getElem_append_left hi, Array.getElem_append_left (ha.1 ▸ hi)]
    exact ha.2 i hi _
  · have hi2 : a'.size ≤ i := by rw [← ha.1]; omega
    rw [Array.getElem_append_right (by omega), Array.getElem_append_right hi2]
    have : ∀ (k k' : Nat) (g : k < b.size) (g' : k' < b'.size), k = k' → VRel n m b[k] b'[k'] := by
      intro k k' g g' e; subst e; exact hb.2 k g g'
    exact this _ _ _ _ (by rw [ha.1])

/-- A call of a function value. -/
theorem aop_call {o : Oper} {c : Call} {fo : Operand} {f : FuncId} {fs cs : Array Value} {K : Value → Heap → Prop} (ho : o.op = .call c) (hf : c.callee = .value fo)
    (hv : ev T fo = .func (.func f) fs cs) (hc : callOk P f = true) (ha : ACalls P G f (fs ++ c.args.map (ev T) ++ cs) h K) : AOp P G o T h K := by
  intro m a w hr r Q
  obtain ⟨dst, op, ty, pos, after, guard⟩ := o
  simp only at ho
  subst ho
  obtain ⟨callee, args, tys⟩ := c
  simp only at hf
  subst hf
  have hfo : VRel h.length m (ev T fo) (a.eval fo) := hr fo (by simp [Op.operands, Call.operands])
  have hargs : ∀ x, x ∈ args → VRel h.length m (ev T x) (a.eval x) := fun x hx => hr x (by simp [Op.operands, Call.operands, hx])
  rw [hv] at hfo
  obtain ⟨fs', cs', hfe, hfs, hcs, hp1, hp2⟩ : ∃ fs' cs', a.eval fo = .func (.func f) fs' cs' ∧ fs.size = fs'.size ∧ cs.size = cs'.size ∧
      (∀ (i : Nat) (h1 : i < fs.size) (h2 : i < fs'.size), VRel h.length m fs[i] fs'[i]) ∧
      (∀ (i : Nat) (h1 : i < cs.size) (h2 : i < cs'.size), VRel h.length m cs[i] cs'[i]) := by
    generalize a.eval fo = u at hfo
    cases hfo
    exact ⟨_, _, rfl, ‹_›, ‹_›, ‹_›, ‹_›⟩
  unfold Oper.wp
  have hrun : (execOp a.eval ⟨dst, .call ⟨.value fo, args, tys⟩, ty, pos, after, guard⟩).run P w = .ok (.enter f (fs' ++ args.map a.eval ++ cs')) w := by
    simp [execOp, resolve, hfe, Deferred.ofValue, invoke, run_callFunc hc]
  rw [hrun]
  simp only [Oper.upon]
  have hR := vr_append (vr_append (a := fs) (a' := fs') ⟨hfs, hp1⟩ (b := args.map (ev T)) (b' := args.map a.eval) ⟨by simp, fun i h1 h2 => by
    simp only [Array.getElem_map]; exact hargs _ (by simp)⟩) (b := cs) (b' := cs') ⟨hcs, hp2⟩
  refine (ha m (fs' ++ args.map a.eval ++ cs') w hR.1 hR.2 r).mono ?_
  rintro e w' ⟨v, v', m', h', rfl, hvv, r', g, k⟩
  exact ⟨v, v', m', h', rfl, hvv, r', g, k⟩

/-! ### entering a function -/

def argT (args : Array Value) : Tmps := fun t => args.getD t undef

def resV (P : Program) (h : Heap) (T : Tmps) : List ResultVar → Option (List Value)
  | [] => some []
  | .tmp t :: rest => (resV P h T rest).map (T t :: ·)
  | .cell a t :: rest => match ldv P t h (T a), resV P h T rest with
    | some v, some l => some (v :: l)
    | _, _ => none

def oneOf (l : List Value) : Value := match l with | [v] => v | l => .tuple l.toArray

def resOf (tmps : Array Value) : ResultVar → Sem Value
  | .tmp t => pure (tmps.getD t undef)
  | .cell a t => do loadVar t (← asAddr (tmps.getD a undef))

theorem results_eq (fn : Func) (tmps : Array Value) : results fn tmps = (do
    let vs ← fn.results.mapM (resOf tmps)
    pure (if h : vs.size = 1 then vs[0] else .tuple vs)) := by
  unfold results
  congr 2

theorem run_results (r : WRel G m h w) {tmps : Array Value} (ht : ∀ t, VRel h.length m (T t) (tmps.getD t undef)) (l : List ResultVar) :
    ∀ {vs : List Value}, resV P h T l = some vs →
    ∃ vs' : List Value, (l.mapM (resOf tmps)).run P w = .ok vs' w ∧
      vs.length = vs'.length ∧ ∀ (i : Nat) (v : Value), vs[i]? = some v → ∃ v', vs'[i]? = some v' ∧ VRel h.length m v v' := by
  induction l with
  | nil => intro vs hv; simp only [resV] at hv; cases hv; exact ⟨[], by simp, rfl, fun i v h => by simp at h⟩
  | cons rv rest ih =>
    intro vs hv
    cases rv with
    | tmp t =>
      simp only [resV] at hv
      obtain ⟨l, h1, h2⟩ := map_some hv
      subst h2
      obtain ⟨vs', q1, q2, q3⟩ := ih h1
      refine ⟨tmps.getD t undef :: vs', by simp [List.mapM_cons, resOf, q1], by simp [q2], fun i v hi => ?_⟩
      cases i with
      | zero => simp at hi; subst hi; exact ⟨_, rfl, ht t⟩
      | succ i => simpa using q3 i v (by simpa using hi)
    | cell a t =>
      simp only [resV] at hv
      split at hv
      · rename_i v l hld hl
        cases hv
        obtain ⟨vs', q1, q2, q3⟩ := ih hl
        obtain ⟨v', p1, p2⟩ := run_ldv (P := P) r (ht a) hld
        have hptr : ∃ ad, tmps.getD a undef = .pointer (some ad) := by
          have := ht a
          unfold ldv at hld
          split at hld
          · rename_i x ad hx; rw [hx] at this; exact ⟨_, (inv_ptr this).2.2⟩
          · cases hld
        obtain ⟨ad, had⟩ := hptr
        rw [had] at p1
        have p1' : (loadVar t ad).run P w = .ok v' w := by simpa [Instr.loadAt, Instr.sureAddr] using p1
        refine ⟨v' :: vs', by simp [List.mapM_cons, resOf, q1, had, asAddr, p1'], by simp [q2], fun i u hi => ?_⟩
        cases i with
        | zero => simp at hi; subst hi; exact ⟨_, rfl, p2⟩
        | succ i => simpa using q3 i u (by simpa using hi)
      · cases hv

def retK (P : Program) (rs : List ResultVar) (K : Value → Heap → Prop) : Exit → Tmps → Heap → Prop
  | .normal, T, h | .ret, T, h => ∃ vs, resV P h T rs = some vs ∧ K (oneOf vs) h
  | _, _, _ => False

theorem results_ok (r : WRel G m h w) {fn : Func} {tmps : Array Value} (ht : ∀ t, VRel h.length m (T t) (tmps.getD t undef)) {vs : List Value}
    (hv : resV P h T fn.results.toList = some vs) : ∃ v', (results fn tmps).run P w = .ok v' w ∧ VRel h.length m (oneOf vs) v' := by
  obtain ⟨vs', q1, q2, q3⟩ := run_results (P := P) r ht fn.results.toList hv
  have q1' : (fn.results.mapM (resOf tmps)).run P w = .ok vs'.toArray w := by
    rw [Array.mapM_eq_mapM_toList]
    simp only [Sem.run_map, q1, Result.andThen_ok]
  refine ⟨if h : vs'.toArray.size = 1 then vs'.toArray[0] else .tuple vs'.toArray, ?_, ?_⟩
  · rw [results_eq, Sem.run_bind, q1']
    rfl
  · by_cases h1 : vs'.toArray.size = 1
    · rw [dif_pos h1]
      simp only [List.size_toArray] at h1
      match vs, q2, q3 with
      | [v], q2, q3 =>
        obtain ⟨v', p1, p2⟩ := q3 0 v rfl
        simp only [oneOf, List.getElem_toArray]
        rw [List.getElem?_eq_getElem (by omega)] at p1
        rw [Option.some.inj p1]; exact p2
      | [], q2, q3 => simp at q2; omega
      | _ :: _ :: _, q2, q3 => simp at q2; omega
    · rw [dif_neg h1]
      simp only [List.size_toArray] at h1
      have : oneOf vs = .tuple vs.toArray := by
        match vs, q2 with
        | [v], q2 => simp at q2; omega
        | [], _ => rfl
        | _ :: _ :: _, _ => rfl
      rw [this]
      refine .tuple _ _ (by simp [q2]) fun i g1 g2 => ?_
      simp only [List.size_toArray] at g1 g2
      obtain ⟨v', p1, p2⟩ := q3 i vs[i] (List.getElem?_eq_getElem g1)
      rw [List.getElem?_eq_getElem g2] at p1
      simp only [List.getElem_toArray]
      rw [Option.some.inj p1]; exact p2

/-- A function is walked: from its parameters to what it hands back. -/
theorem acalls_of {f : FuncId} {fn : Func} {c : Code} {args : Array Value} {K : Value → Heap → Prop} (hf : P.funcs[f]? = some fn) (hb : fn.body = some c)
    (hn : args.size ≤ fn.ntmps) (hw : AW P G fn.ntmps c (retK P fn.results.toList K) (argT args) h) : ACalls P G f args h K := by
  intro m args' w hs ha r
  refine calls_of_wp hf hb ?_
  have hs' : SRel G fn.ntmps m (argT args) h { tmps := args' ++ Array.replicate (fn.ntmps - args'.size) undef, defers := [] } w := by
    refine ⟨rfl, by simp; omega, fun t => ?_, r⟩
    unfold argT
    simp only [Array.getD_eq_getD_getElem?]
    by_cases ht : t < args.size
    · rw [Array.getElem?_eq_getElem ht, Array.getElem?_append_left (by omega), Array.getElem?_eq_getElem (by omega)]
      exact ha t ht (by omega)
    · rw [Array.getElem?_eq_none (by omega), Array.getElem?_append_right (by omega)]
      have : (Array.replicate (fn.ntmps - args'.size) undef)[t - args'.size]?.getD undef = undef := by
        rw [Array.getElem?_replicate]; split <;> rfl
      simp only [Option.getD_none, this]
      exact VRel.undef _ _
  refine wp_mono (hw m _ w hs') ?_
  rintro e a' w' ⟨m', T', h', s', g, q⟩
  cases e with
  | normal =>
    obtain ⟨vs, q1, q2⟩ := q
    obtain ⟨v', p1, p2⟩ := results_ok (P := P) s'.wr s'.tmp q1
    exact ⟨s'.defers, v', p1, _, v', m', h', rfl, p2, s'.wr, g, q2⟩
  | ret =>
    obtain ⟨vs, q1, q2⟩ := q
    obtain ⟨v', p1, p2⟩ := results_ok (P := P) s'.wr s'.tmp q1
    exact ⟨s'.defers, v', p1, _, v', m', h', rfl, p2, s'.wr, g, q2⟩
  | _ => exact q.elim

/-! ### what a call leaves behind is forgotten -/

theorem VRel.lower {n n' : Nat} {m m' : Map} {a v u : Value} (h : VRel n' m' a v) : VRel n m a u → VRel n m' a v := by
  induction h generalizing u with
  | bool b => intro _; exact .bool b
  | int k i => intro _; exact .int k i
  | string s => intro _; exact .string s
  | nilFunc => intro _; exact .nilFunc
  | nilIface => intro _; exact .nilIface
  | ptrNone => intro _; exact .ptrNone
  | ptr a h1 h2 => intro h; exact .ptr a h1 (inv_ptr h).2.1
  | sliceNone l c => intro _; exact .sliceNone l c
  | slice a l c h1 h2 => intro h; obtain ⟨_, _, _, sr⟩ := inv_slice h; exact .slice a l c h1 sr.lt
  | sliceIn a y l c c' h1 h2 h3 h4 h5 h6 h7 h8 => intro h; obtain ⟨_, _, _, sr⟩ := inv_slice h; exact .sliceIn a y l c c' h1 sr.lt h3 h4 h5 h6 h7 h8
  | func fn fs cs fs' cs' hf hc _ _ i1 i2 =>
    intro h
    cases h with
    | func _ _ _ fs2 cs2 hf2 hc2 g1 g2 =>
      exact .func fn fs cs fs' cs' hf hc (fun i q1 q2 => i1 i q1 q2 (g1 i q1 (by omega))) (fun i q1 q2 => i2 i q1 q2 (g2 i q1 (by omega)))
  | iface t v v' _ ih => intro h; cases h with | iface _ _ u' hu => exact .iface t v v' (ih hu)
  | agg cs cs' hs _ ih => intro h; cases h with | agg _ cs2 hs2 g => exact .agg cs cs' hs (fun i q1 q2 => ih i q1 q2 (g i q1 (by omega)))
  | tuple cs cs' hs _ ih => intro h; cases h with | tuple _ cs2 hs2 g => exact .tuple cs cs' hs (fun i q1 q2 => ih i q1 q2 (g i q1 (by omega)))

/-- The blocks behind the first ones are forgotten. -/
theorem WRel.cutBack {m m' : Map} {h e : Heap} {w w' : World} (r : WRel G m h w) (r' : WRel G m' (h ++ e) w') : WRel G m' h w' := by
  have up : ∀ {i : Nat} {x : Blk}, h[i]? = some x → (h ++ e)[i]? = some x := fun hx => by
    rw [List.getElem?_append_left (lt_of_get hx)]; exact hx
  refine ⟨?_, fun i x hx => r'.room i x (up hx), fun i x hx => r'.iter i x (up hx), fun i x hx => r'.live i x (up hx),
    fun i i' x x' hx hx' => r'.apart i i' x x' (up hx) (up hx'), fun g hg => ⟨(r.glob g hg).1, (r'.glob g hg).2⟩, fun g o hg => ⟨(r'.tab g o hg).1, fun i x hx ho => (r'.tab g o hg).2 i x (up hx) ho⟩⟩
  intro i x hx hk j v hj
  obtain ⟨v', q1, q2, q3⟩ := r'.cell i x (up hx) hk j v hj
  obtain ⟨u, _, p2, _⟩ := r.cell i x hx hk j v hj
  exact ⟨v', q1, q2.lower p2, q3⟩

theorem Grow.cutBack {m m' : Map} {h e : Heap} {w w' : World} (g : Grow m h w m' (h ++ e) w') : Grow m h w m' h w' := by
  refine ⟨g.agree, Nat.le_refl _, g.size, g.io, g.keeps, fun i x hx hl => ?_⟩
  exact g.owned i x (by rw [List.getElem?_append_left (lt_of_get hx)]; exact hx) hl

/-- A call whose result has no address leaves the memory as it was. -/
theorem acalls_pure {f : FuncId} {args : Array Value} {v0 : Value} (haf : af v0 = true ∨ ∃ vs : Array Value, v0 = .tuple vs ∧ ∀ v, v ∈ vs → af v = true)
    (ha : ACalls P G f args h fun v h' => v = v0 ∧ ∃ e, h' = h ++ e) : ACalls P G f args h fun v h' => v = v0 ∧ h' = h := by
  intro m args' w hs hp r
  refine (ha m args' w hs hp r).mono ?_
  rintro e w' ⟨v, v', m', h', rfl, hv, r', g, rfl, ext, rfl⟩
  have hv0 : VRel h.length m' v v := by
    rcases haf with haf | ⟨vs, rfl, haf⟩
    · exact VRel.of_af haf
    · have := vtuple (n := h.length) (m := m') (l := vs.toList) (fun v hv => haf v (by simpa using hv))
      simpa using this
  exact ⟨v, v', m', h, rfl, hv.lower hv0, r.cutBack r', g.cutBack, rfl, rfl⟩

end
end Go.Proofs.Ytiddnhhjlipebaa.Am
