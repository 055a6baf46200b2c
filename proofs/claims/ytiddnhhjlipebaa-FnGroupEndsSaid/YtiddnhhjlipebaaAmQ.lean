/- The walk's rules in the form in which they are used, and from a walk to a law. Conditions: none. -/
import Derived.Test.YtiddnhhjlipebaaAmP
import Derived.Below
namespace Go.Proofs.Ytiddnhhjlipebaa.Am
open Go
set_option linter.unusedVariables false
set_option linter.unusedSimpArgs false

section
variable {P : Program} {G : Glo} {N : Nat} {Q : Exit → Tmps → Heap → Prop} {ops : Array Oper} {T : Tmps} {h : Heap} {o : Oper} {rest : List Oper}

/-- A region's operations, all well formed. -/
def AR (P : Program) (G : Glo) (ops : Array Oper) (Q : Exit → Tmps → Heap → Prop) : List Oper → Tmps → Heap → Prop
  | [], T, h => Q .normal T h
  | o :: rest, T, h =>
      (wantedA ops T o = true → AOp P G o T h fun v h' => AR P G ops Q rest (put T o.dst v) h') ∧
      (wantedA ops T o = false → AR P G ops Q rest (put T o.dst undef) h)

theorem arun_of (l : List Oper) : ∀ {T : Tmps} {h : Heap}, (l.all fun o => operOk G N ops o) = true → AR P G ops Q l T h → ARun P G N ops Q l T h := by
  induction l with
  | nil => intro T h _ hr; exact hr
  | cons o rest ih =>
    intro T h hall hr
    simp only [List.all_cons, Bool.and_eq_true] at hall
    exact ⟨hall.1, fun hw => AOp.mono (fun v h' k => ih hall.2 k) (hr.1 hw), fun hw => ih hall.2 (hr.2 hw)⟩

theorem aw_reg {id : Nat} {l : List Oper} (hall : (l.all fun o => operOk G N l.toArray o) = true) (hr : AR P G l.toArray Q l T h) :
    AW P G N (.region id l.toArray false) Q T h := aw_region (arun_of l hall hr)

theorem ar_nil (hq : Q .normal T h) : AR P G ops Q [] T h := hq

theorem beq_eq_decide' (a b : Int) : (a == b) = decide (a = b) := by
  by_cases h : a = b <;> simp [h]

theorem ar_op {v : Value} {h' : Heap} (hw : wantedA ops T o = true) (hs : stp P h (ev T) o.op = some (v, h')) (hk : AR P G ops Q rest (put T o.dst v) h') :
    AR P G ops Q (o :: rest) T h :=
  ⟨fun _ => aop_stp hs hk, fun hn => absurd (hw.symm.trans hn) (by simp)⟩

theorem ar_off (hw : wantedA ops T o = false) (hk : AR P G ops Q rest (put T o.dst undef) h) : AR P G ops Q (o :: rest) T h :=
  ⟨fun hy => absurd (hw.symm.trans hy) (by simp), fun _ => hk⟩

theorem ar_call {c : Call} {fo : Operand} {f : FuncId} {fs cs : Array Value} {K : Value → Heap → Prop} (hw : wantedA ops T o = true)
    (ho : o.op = .call c) (hf : c.callee = .value fo) (hv : ev T fo = .func (.func f) fs cs) (hc : callOk P f = true)
    (ha : ACalls P G f (fs ++ c.args.map (ev T) ++ cs) h K) (hk : ∀ v h', K v h' → AR P G ops Q rest (put T o.dst v) h') : AR P G ops Q (o :: rest) T h :=
  ⟨fun _ => (aop_call ho hf hv hc ha).mono hk, fun hn => absurd (hw.symm.trans hn) (by simp)⟩

theorem acalls_fn {f : FuncId} {fn : Func} {c : Code} {args : Array Value} {K : Value → Heap → Prop} (hf : P.funcs[f]? = some fn) (hb : fn.body = some c) (hN : fn.ntmps = N)
    (hn : args.size ≤ N) {rs : List ResultVar} (hr : fn.results.toList = rs) (hw : AW P G N c (retK P rs K) (argT args) h) : ACalls P G f args h K := by
  subst hN; subst hr; exact acalls_of hf hb hn hw

theorem aw_then {x y : Code} (hx : AW P G N x (thenK (fun T h => AW P G N y Q T h) Q) T h) : AW P G N (.seq x y) Q T h :=
  aw_seq fun K hK => AW.mono (fun e T h q => by cases e <;> first | exact hK _ _ q | exact q) hx

theorem k_norm {K : Tmps → Heap → Prop} (hk : K T h) : thenK K Q .normal T h := hk
theorem k_ret {K : Tmps → Heap → Prop} (hk : Q .ret T h) : thenK K Q .ret T h := hk
theorem k_exit {K : Tmps → Heap → Prop} {id : Nat} (hk : Q (.exit id) T h) : thenK K Q (.exit id) T h := hk
theorem b_norm {id : Nat} (hk : Q .normal T h) : blockK id Q .normal T h := hk
theorem b_ret {id : Nat} (hk : Q .ret T h) : blockK id Q .ret T h := hk
theorem b_exit {id : Nat} (hk : Q .normal T h) : blockK id Q (.exit id) T h := by
  simpa only [blockK, if_true] using hk
theorem b_past {id id' : Nat} (hne : id' ≠ id) (hk : Q (.exit id') T h) : blockK id Q (.exit id') T h := by
  simp only [blockK]; rw [if_neg hne]; exact hk
theorem r_norm {rs : List ResultVar} {K : Value → Heap → Prop} {vs : List Value} (hr : resV P h T rs = some vs) (hk : K (oneOf vs) h) : retK P rs K .normal T h := ⟨vs, hr, hk⟩
theorem r_ret {rs : List ResultVar} {K : Value → Heap → Prop} {vs : List Value} (hr : resV P h T rs = some vs) (hk : K (oneOf vs) h) : retK P rs K .ret T h := ⟨vs, hr, hk⟩

theorem wanted_none (hg : o.guard = none) : wantedA ops T o = true := by unfold wantedA Region.wanted; rw [hg]
theorem wanted_some {g t : Nat} {want b : Bool} (hg : o.guard = some (g, want)) (hd : ((ops[g]?).bind (·.dst)) = some t) (hb : ev T (.tmp t) = .bool b) :
    wantedA ops T o = (b == want) := by
  unfold wantedA Region.wanted
  rw [hg]
  simp only [yieldedA, hd, Option.map_some]
  simp only [ev] at hb
  rw [hb]
  cases b <;> cases want <;> rfl

/-- An operation that is done. -/
theorem ar_do {v : Value} {h' : Heap} (hg : o.guard = none) (hs : stp P h (ev T) o.op = some (v, h')) (hk : AR P G ops Q rest (put T o.dst v) h') :
    AR P G ops Q (o :: rest) T h := ar_op (wanted_none hg) hs hk

theorem ar_gdo {g t : Nat} {want : Bool} {v : Value} {h' : Heap} (hg : o.guard = some (g, want)) (hd : ((ops[g]?).bind (·.dst)) = some t) (hb : ev T (.tmp t) = .bool want)
    (hs : stp P h (ev T) o.op = some (v, h')) (hk : AR P G ops Q rest (put T o.dst v) h') : AR P G ops Q (o :: rest) T h :=
  ar_op (by rw [wanted_some hg hd hb]; simp) hs hk

theorem ar_goff {g t : Nat} {want : Bool} (hg : o.guard = some (g, want)) (hd : ((ops[g]?).bind (·.dst)) = some t) (hb : ev T (.tmp t) = .bool (!want))
    (hk : AR P G ops Q rest (put T o.dst undef) h) : AR P G ops Q (o :: rest) T h :=
  ar_off (by rw [wanted_some hg hd hb]; cases want <;> rfl) hk

theorem ar_gif {g t : Nat} {want b : Bool} (hg : o.guard = some (g, want)) (hd : ((ops[g]?).bind (·.dst)) = some t) (hb : ev T (.tmp t) = .bool b)
    (ht : b = true → AR P G ops Q (o :: rest) T h) (hf : b = false → AR P G ops Q (o :: rest) T h) : AR P G ops Q (o :: rest) T h := by
  cases hq : b with
  | true => exact ht hq
  | false => exact hf hq

theorem ar_cl {c : Call} {fo : Operand} {f : FuncId} {fs cs args : Array Value} {K : Value → Heap → Prop} (hg : o.guard = none)
    (ho : o.op = .call c) (hf : c.callee = .value fo) (hv : ev T fo = .func (.func f) fs cs) (hc : callOk P f = true) (hargs : fs ++ c.args.map (ev T) ++ cs = args)
    (ha : ACalls P G f args h K) (hk : ∀ v h', K v h' → AR P G ops Q rest (put T o.dst v) h') : AR P G ops Q (o :: rest) T h :=
  ar_call (wanted_none hg) ho hf hv hc (by rw [hargs]; exact ha) hk

theorem ar_gcl {g t : Nat} {want : Bool} {c : Call} {fo : Operand} {f : FuncId} {fs cs args : Array Value} {K : Value → Heap → Prop} (hg : o.guard = some (g, want))
    (hd : ((ops[g]?).bind (·.dst)) = some t) (hb : ev T (.tmp t) = .bool want)
    (ho : o.op = .call c) (hf : c.callee = .value fo) (hv : ev T fo = .func (.func f) fs cs) (hc : callOk P f = true) (hargs : fs ++ c.args.map (ev T) ++ cs = args)
    (ha : ACalls P G f args h K) (hk : ∀ v h', K v h' → AR P G ops Q rest (put T o.dst v) h') : AR P G ops Q (o :: rest) T h :=
  ar_call (by rw [wanted_some hg hd hb]; simp) ho hf hv hc (by rw [hargs]; exact ha) hk

theorem aw_if {c : Operand} {x y : Code} {b : Bool} (hok : opnOk G c = true) (hc : ev T c = .bool b)
    (ht : b = true → AW P G N x Q T h) (hf : b = false → AW P G N y Q T h) : AW P G N (.cond c x y) Q T h := aw_cond hok hc ht hf
theorem aw_ift {c : Operand} {x y : Code} (hok : opnOk G c = true) (hc : ev T c = .bool true) (ht : AW P G N x Q T h) : AW P G N (.cond c x y) Q T h :=
  aw_cond hok hc (fun _ => ht) (fun h => absurd h (by simp))
theorem aw_iff {c : Operand} {x y : Code} (hok : opnOk G c = true) (hc : ev T c = .bool false) (hf : AW P G N y Q T h) : AW P G N (.cond c x y) Q T h :=
  aw_cond hok hc (fun h => absurd h (by simp)) (fun _ => hf)

/-- A guarded operation: its two ways. -/
theorem ar_if (hy : wantedA ops T o = true → AR P G ops Q (o :: rest) T h) (hn : wantedA ops T o = false → AR P G ops Q (o :: rest) T h) : AR P G ops Q (o :: rest) T h := by
  by_cases hw : wantedA ops T o = true
  · exact hy hw
  · exact hn (by simpa using hw)

theorem argT_list (l : List Value) (t : Nat) : argT l.toArray t = l.getD t undef := by
  simp [argT, Array.getD_eq_getD_getElem?, List.getD_eq_getElem?_getD]

/-! ### memories that are an old one and some blocks -/

theorem get_at (l : Heap) (k : Nat) : (h ++ l)[h.length + k]? = l[k]? := by
  rw [List.getElem?_append_right (by omega)]; congr 1; omega
theorem get_at0 (l : Heap) : (h ++ l)[h.length]? = l[0]? := by have := get_at (h := h) l 0; rw [Nat.add_zero] at this; exact this
theorem get_old {l : Heap} {id : Nat} {b : Blk} (hb : h[id]? = some b) : (h ++ l)[id]? = some b := by
  rw [List.getElem?_append_left (lt_of_get hb)]; exact hb
theorem set_at (l : Heap) (k : Nat) (b : Blk) : (h ++ l).set (h.length + k) b = h ++ l.set k b := by
  rw [List.set_append_right _ _ (by omega)]; congr 2; omega
theorem set_at0 (l : Heap) (b : Blk) : (h ++ l).set h.length b = h ++ l.set 0 b := by have := set_at (h := h) l 0 b; rw [Nat.add_zero] at this; exact this

theorem wrap_id {n : Int} (h : -9223372036854775808 ≤ n ∧ n ≤ 9223372036854775807) : IntKind.i64.wrap n = n := by
  rw [IntKind.wrap_i64]; omega

/-! ### numbers and tests as the machine has them -/

section
variable (xo yo : Operand) (t : TypeId) (a b : Int) (k : IntKind)
theorem binV_add : binV P .add t xo yo (.int k a) (.int k b) = some (.int k (k.wrap (a + b))) := by
  simp [binV, af1, ckd, af, eqGuard, binOp, Op.intArith, pureRun_bind, pureRun_pure]
theorem binV_sub : binV P .sub t xo yo (.int k a) (.int k b) = some (.int k (k.wrap (a - b))) := by
  simp [binV, af1, ckd, af, eqGuard, binOp, Op.intArith, pureRun_bind, pureRun_pure]
theorem binV_mul : binV P .mul t xo yo (.int k a) (.int k b) = some (.int k (k.wrap (a * b))) := by
  simp [binV, af1, ckd, af, eqGuard, binOp, Op.intArith, pureRun_bind, pureRun_pure]
theorem binV_quo (hb : b ≠ 0) : binV P .quo t xo yo (.int k a) (.int k b) = some (.int k (k.wrap (a.tdiv b))) := by
  simp [binV, af1, ckd, af, eqGuard, binOp, Op.intDiv, pureRun_bind, pureRun_pure, hb]
theorem binV_rem (hb : b ≠ 0) : binV P .rem t xo yo (.int k a) (.int k b) = some (.int k (a.tmod b)) := by
  simp [binV, af1, ckd, af, eqGuard, binOp, Op.intDiv, pureRun_bind, pureRun_pure, hb]
theorem binV_and : binV P .and t xo yo (.int k a) (.int k b) = some (.int k (bits .and k a b)) := by
  simp [binV, af1, ckd, af, eqGuard, binOp, intBits_and, pureRun_bind, pureRun_pure]
theorem binV_shr (k' : IntKind) (hb : 0 ≤ b) : binV P .shr t xo yo (.int k a) (.int k' b) = some (.int k (a.fdiv (2 ^ min b.toNat k.bits))) := by
  have hn : ¬ b < 0 := by omega
  simp [binV, af1, ckd, af, eqGuard, binOp, Op.shift, pureRun_bind, pureRun_pure, hn]
theorem binV_shl (k' : IntKind) (hb : 0 ≤ b) : binV P .shl t xo yo (.int k a) (.int k' b) = some (.int k (k.wrap (a * 2 ^ min b.toNat k.bits))) := by
  have hn : ¬ b < 0 := by omega
  simp [binV, af1, ckd, af, eqGuard, binOp, Op.shift, pureRun_bind, pureRun_pure, hn]
theorem binV_eql : binV P .eql t xo yo (.int k a) (.int k b) = some (.bool (decide (a = b))) := by
  simp [binV, af1, ckd, af, eqGuard, binOp, Op.intCmp, pureRun_bind, pureRun_pure, beq_eq_decide']
theorem binV_neq : binV P .neq t xo yo (.int k a) (.int k b) = some (.bool (!decide (a = b))) := by
  simp [binV, af1, ckd, af, eqGuard, binOp, Op.intCmp, pureRun_bind, pureRun_pure, bne, beq_eq_decide']
theorem binV_lss : binV P .lss t xo yo (.int k a) (.int k b) = some (.bool (decide (a < b))) := by
  simp [binV, af1, ckd, af, eqGuard, binOp, Op.intCmp, pureRun_bind, pureRun_pure]
theorem binV_leq : binV P .leq t xo yo (.int k a) (.int k b) = some (.bool (decide (a ≤ b))) := by
  simp [binV, af1, ckd, af, eqGuard, binOp, Op.intCmp, pureRun_bind, pureRun_pure]
theorem binV_gtr : binV P .gtr t xo yo (.int k a) (.int k b) = some (.bool (decide (b < a))) := by
  simp [binV, af1, ckd, af, eqGuard, binOp, Op.intCmp, pureRun_bind, pureRun_pure]
theorem binV_geq : binV P .geq t xo yo (.int k a) (.int k b) = some (.bool (decide (b ≤ a))) := by
  simp [binV, af1, ckd, af, eqGuard, binOp, Op.intCmp, pureRun_bind, pureRun_pure]
theorem unV_not (c : Bool) : unV P .not (.bool c) = some (.bool !c) := by
  simp [unV, af1, ckd, af, Op.unary, pureRun_pure]
theorem binV_str_eql (s u : ByteArray) : binV P .eql t xo yo (.string s) (.string u) = some (.bool (decide (s = u))) := by
  have : (s.toList == u.toList) = decide (s = u) := by
    rw [ByteArray.toList_eq, ByteArray.toList_eq]
    rw [Bool.eq_iff_iff, beq_iff_eq, decide_eq_true_eq]
    constructor
    · intro h
      obtain ⟨⟨x⟩⟩ := s
      obtain ⟨⟨y⟩⟩ := u
      simp at h; subst h; rfl
    · intro h; rw [h]
  simp [binV, af1, ckd, af, eqGuard, binOp, Op.stringOp, pureRun_bind, pureRun_pure, this]
theorem binV_str_neq (s u : ByteArray) : binV P .neq t xo yo (.string s) (.string u) = some (.bool (!decide (s = u))) := by
  have : (s.toList == u.toList) = decide (s = u) := by
    rw [ByteArray.toList_eq, ByteArray.toList_eq]
    rw [Bool.eq_iff_iff, beq_iff_eq, decide_eq_true_eq]
    constructor
    · intro h
      obtain ⟨⟨x⟩⟩ := s
      obtain ⟨⟨y⟩⟩ := u
      simp at h; subst h; rfl
    · intro h; rw [h]
  simp [binV, af1, ckd, af, eqGuard, binOp, Op.stringOp, pureRun_bind, pureRun_pure, this]
theorem binV_str_add (s u : ByteArray) (hs : ((s.size + u.size : Nat) : Int) ≤ 9223372036854775807) : binV P .add t xo yo (.string s) (.string u) = some (.string (s ++ u)) := by
  have hn : ¬ ((9223372036854775807 : Int) < (s.size : Int) + u.size) := by omega
  simp [binV, af1, ckd, af, eqGuard, binOp, Op.stringOp, pureRun_bind, pureRun_pure, pureRun_ite, hn]
theorem binV_bool_eql (hu : P.underlying t = some .bool) (c d : Bool) : binV P .eql t xo yo (.bool c) (.bool d) = some (.bool (c == d)) := by
  have he : pureRun P (Op.equalIn (9999 + 1) t (.bool c) (.bool d)) = some (c == d) := by
    have gen : ∀ n, pureRun P (Op.equalIn (n + 1) t (.bool c) (.bool d)) = some (c == d) := by
      intro n
      simp [Op.equalIn, pureRun_bind, underlying, program, pureRun, hu]
      rfl
    exact gen 9999
  have e1 : (do eqGuard .eql t xo yo (.bool c) (.bool d); binOp .eql t (.bool c) (.bool d) : Sem Value) = (do pure (.bool (← Op.equalIn (9999 + 1) t (.bool c) (.bool d)))) := rfl
  simp only [binV, af1, Bool.and_self, if_true]
  rw [e1, pureRun_bind, he]
  rfl
theorem binV_bool_neq (hu : P.underlying t = some .bool) (c d : Bool) : binV P .neq t xo yo (.bool c) (.bool d) = some (.bool (!(c == d))) := by
  have he : pureRun P (Op.equalIn (9999 + 1) t (.bool c) (.bool d)) = some (c == d) := by
    have gen : ∀ n, pureRun P (Op.equalIn (n + 1) t (.bool c) (.bool d)) = some (c == d) := by
      intro n
      simp [Op.equalIn, pureRun_bind, underlying, program, pureRun, hu]
      rfl
    exact gen 9999
  have e1 : (do eqGuard .neq t xo yo (.bool c) (.bool d); binOp .neq t (.bool c) (.bool d) : Sem Value) = (do pure (.bool (!(← Op.equalIn (9999 + 1) t (.bool c) (.bool d))))) := rfl
  simp only [binV, af1, Bool.and_self, if_true]
  rw [e1, pureRun_bind, he]
  rfl
end

/-! ### from a walk to a law -/

theorem calls_of_acalls {f : FuncId} {args args' : Array Value} {m : Map} {h0 : Heap} {W : World} (hc : ACalls P G f args h0 fun v _ => v = .bool true)
    (hs : args.size = args'.size) (hr : ∀ (i : Nat) (h1 : i < args.size) (h2 : i < args'.size), VRel h0.length m args[i] args'[i]) (r : WRel G m h0 W)
    (hno : ∀ (id : Nat) (b : Blk), h0[id]? = some b → ¬ b.own) : Calls P f args' W fun e W' => e = .returned (.bool true) ∧ Go.RowKit.Below W.heap.size W W' := by
  refine (hc m args' W hs hr r).mono ?_
  rintro e W' ⟨v, v', m', h', rfl, hv, r', g, rfl⟩
  rw [inv_bool hv]
  exact ⟨rfl, g.io.1, g.io.2.1, g.io.2.2, g.size, fun k hk => g.keeps k hk fun id b hb ho => absurd ho (hno id b hb)⟩

theorem wrel_nil (m : Map) (W : World) : WRel 0 m [] W :=
  ⟨fun id b h => by simp at h, fun id b h => by simp at h, fun id b h => by simp at h, fun id b h => by simp at h, fun id id' b b' h => by simp at h, fun g hg => (Nat.not_lt_zero g hg).elim, fun g o hg => by cases hg⟩

/-- Arguments without an address: nothing needs to be known of memory. -/
theorem calls_of_plain {f : FuncId} {args : Array Value} {W : World} (hc : ACalls P 0 f args [] fun v _ => v = .bool true) (haf : ∀ v, v ∈ args → af v = true) :
    Calls P f args W fun e W' => e = .returned (.bool true) ∧ Go.RowKit.Below W.heap.size W W' :=
  calls_of_acalls (m := fun _ => ⟨0, 0, 0, 0⟩) (h0 := []) hc rfl (fun i h1 _ => VRel.of_af (haf _ (by simp))) (wrel_nil _ _) (fun id b h => by simp at h)

end
end Go.Proofs.Ytiddnhhjlipebaa.Am
