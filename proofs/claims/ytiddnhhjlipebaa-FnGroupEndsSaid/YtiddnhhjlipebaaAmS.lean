/- Slices as lists of rows of cells, and loops that count. Conditions: none. -/
import Derived.Test.YtiddnhhjlipebaaAmQ
namespace Go.Proofs.Ytiddnhhjlipebaa.Am
open Go
set_option linter.unusedVariables false
set_option linter.unusedSimpArgs false

section
variable {P : Program} {G : Glo} {N : Nat} {Q : Exit → Tmps → Heap → Prop} {T : Tmps} {h : Heap}

/-- A slice whose elements are the rows, each of e cells. -/
def Sl (h : Heap) (v : Value) (e : Nat) (rows : List (List Value)) : Prop :=
  ∃ b c, v = .slice b rows.length c ∧ rows.length ≤ c ∧ ∀ i r, rows[i]? = some r → ∃ a, b = some a ∧ loadCs h a.block (a.off + i * e) e = some r

theorem Sl.flat {v : Value} {e : Nat} {rows : List (List Value)} (hs : Sl h v e rows) : Am.flat v = true := by obtain ⟨b, c, rfl, _⟩ := hs; rfl
theorem wrap_u64_id {n : Int} (h : 0 ≤ n ∧ n ≤ 18446744073709551615) : IntKind.u64.wrap n = n := by
  simp only [IntKind.wrap, IntKind.signed, IntKind.bits]; simp; omega

theorem getC_of_load {id o : Nat} {x : Value} (hl : loadCs h id o 1 = some [x]) : getC h id o = some x := by
  unfold loadCs at hl
  unfold getC
  cases hb : h[id]? with
  | none => rw [hb] at hl; simp at hl
  | some b =>
    rw [hb] at hl
    simp only at hl ⊢
    split at hl
    · rename_i hk
      rw [if_pos hk.1]
      have h1 := Option.some.inj hl
      have h2 : ((b.cs.drop o).take 1)[0]? = some x := by rw [h1]; rfl
      rw [List.getElem?_take] at h2
      simpa using h2
    · cases hl

/-- An operation whose guard was itself left out. -/
theorem ar_gund {ops : Array Oper} {o : Oper} {rest : List Oper} {g t : Nat} {want : Bool} (hg : o.guard = some (g, want)) (hd : ((ops[g]?).bind (·.dst)) = some t) (hb : ev T (.tmp t) = undef)
    (hk : AR P G ops Q rest (put T o.dst undef) h) : AR P G ops Q (o :: rest) T h := by
  refine ar_off ?_ hk
  unfold wantedA Region.wanted
  rw [hg]
  simp only [yieldedA, hd, Option.map_some]
  simp only [ev] at hb
  rw [hb]
  rfl

theorem ar_cl2 {ops : Array Oper} {o : Oper} {rest : List Oper} {c : Call} {fo : Operand} {f : FuncId} {fs cs args : Array Value} {K : Value → Heap → Prop}
    (ho : o.op = .call c) (hf : c.callee = .value fo) (hv : ev T fo = .func (.func f) fs cs) (hg : o.guard = none) (hc : callOk P f = true) (hargs : fs ++ c.args.map (ev T) ++ cs = args)
    (ha : ACalls P G f args h K) (hk : ∀ v h', K v h' → AR P G ops Q rest (put T o.dst v) h') : AR P G ops Q (o :: rest) T h := ar_cl hg ho hf hv hc hargs ha hk
theorem ar_gcl2 {ops : Array Oper} {o : Oper} {rest : List Oper} {g t : Nat} {want : Bool} {c : Call} {fo : Operand} {f : FuncId} {fs cs args : Array Value} {K : Value → Heap → Prop}
    (ho : o.op = .call c) (hf : c.callee = .value fo) (hv : ev T fo = .func (.func f) fs cs) (hg : o.guard = some (g, want)) (hd : ((ops[g]?).bind (·.dst)) = some t) (hb : ev T (.tmp t) = .bool want)
    (hc : callOk P f = true) (hargs : fs ++ c.args.map (ev T) ++ cs = args)
    (ha : ACalls P G f args h K) (hk : ∀ v h', K v h' → AR P G ops Q rest (put T o.dst v) h') : AR P G ops Q (o :: rest) T h := ar_gcl hg hd hb ho hf hv hc hargs ha hk

/-! ### memories that are an old one and new blocks: what simp needs -/

theorem flat_int (k : IntKind) (n : Int) : flat (.int k n) = true := rfl
theorem flat_bool (b : Bool) : flat (.bool b) = true := rfl
theorem flat_string (s : ByteArray) : flat (.string s) = true := rfl
theorem flat_slice (b : Option Addr) (l c : Nat) : flat (.slice b l c) = true := rfl
theorem flat_pointer (b : Option Addr) : flat (.pointer b) = true := rfl
theorem flat_func (f : Fn) (a b : Array Value) : flat (.func f a b) = true := rfl
theorem flat_nilFunc : flat .nilFunc = true := rfl
theorem flat_nilIface : flat .nilIface = true := rfl
theorem getC_at (l : Heap) (k o : Nat) : getC (h ++ l) (h.length + k) o = getC l k o := by unfold getC; rw [get_at]
theorem getC_at0 (l : Heap) (o : Nat) : getC (h ++ l) h.length o = getC l 0 o := by unfold getC; rw [get_at0]
theorem getC_zero (e o : Nat) (cs : List Value) (l : Heap) : getC (⟨2, e, cs⟩ :: l) 0 o = cs[o]? := by unfold getC; simp
theorem getC_succ (b : Blk) (l : Heap) (n o : Nat) : getC (b :: l) (n + 1) o = getC l n o := by unfold getC; simp
theorem loadCs_at (l : Heap) (k o n : Nat) : loadCs (h ++ l) (h.length + k) o n = loadCs l k o n := by unfold loadCs; rw [get_at]
theorem loadCs_at0 (l : Heap) (o n : Nat) : loadCs (h ++ l) h.length o n = loadCs l 0 o n := by unfold loadCs; rw [get_at0]
theorem loadCs_zero (e o n : Nat) (cs : List Value) (l : Heap) : loadCs (⟨2, e, cs⟩ :: l) 0 o n = if o + n ≤ cs.length then some ((cs.drop o).take n) else none := by unfold loadCs; simp
theorem loadCs_succ (b : Blk) (l : Heap) (k o n : Nat) : loadCs (b :: l) (k + 1) o n = loadCs l k o n := by unfold loadCs; simp
theorem setCs_at (l : Heap) (k o : Nat) (vs : List Value) : setCs (h ++ l) (h.length + k) o vs = (setCs l k o vs).map (h ++ ·) := by
  unfold setCs
  rw [get_at]
  cases l[k]? with
  | none => rfl
  | some b => simp only; split <;> simp [set_at]
theorem setCs_at0 (l : Heap) (o : Nat) (vs : List Value) : setCs (h ++ l) h.length o vs = (setCs l 0 o vs).map (h ++ ·) := by
  have := setCs_at (h := h) l 0 o vs; rw [Nat.add_zero] at this; exact this
theorem setCs_zero (e o : Nat) (cs : List Value) (l : Heap) (vs : List Value) : setCs (⟨2, e, cs⟩ :: l) 0 o vs = if o + vs.length ≤ cs.length then some (⟨2, e, splice cs o vs⟩ :: l) else none := by
  unfold setCs; simp
theorem setCs_succ (b : Blk) (l : Heap) (k o : Nat) (vs : List Value) : setCs (b :: l) (k + 1) o vs = (setCs l k o vs).map (b :: ·) := by
  unfold setCs
  simp only [List.getElem?_cons_succ]
  cases l[k]? with
  | none => rfl
  | some b' => simp only; split <;> simp

theorem loadCs_old {id o n : Nat} {r : List Value} (hl : loadCs h id o n = some r) (l : Heap) : loadCs (h ++ l) id o n = some r := by
  unfold loadCs at hl ⊢
  cases hb : h[id]? with
  | none => rw [hb] at hl; simp at hl
  | some b => rw [hb] at hl; rw [get_old hb]; exact hl
theorem getC_old {id o : Nat} {r : Value} (hl : getC h id o = some r) (l : Heap) : getC (h ++ l) id o = some r := by
  unfold getC at hl ⊢
  cases hb : h[id]? with
  | none => rw [hb] at hl; simp at hl
  | some b => rw [hb] at hl; rw [get_old hb]; exact hl
theorem Sl.old {v : Value} {e : Nat} {rows : List (List Value)} (hs : Sl h v e rows) (l : Heap) : Sl (h ++ l) v e rows := by
  obtain ⟨b, c, h1, h2, h3⟩ := hs
  exact ⟨b, c, h1, h2, fun i r hr => by obtain ⟨a, q1, q2⟩ := h3 i r hr; exact ⟨a, q1, loadCs_old q2 l⟩⟩

/-- A loop that counts up to a bound. -/
theorem aw_count {c : Code} (I : Nat → Tmps → Heap → Prop) (n : Nat) {k0 : Nat} (hk0 : k0 ≤ n) (h0 : I k0 T h)
    (round : ∀ k T h, k ≤ n → I k T h → AW P G N c (thenK (fun T' h' => k < n ∧ I (k + 1) T' h') Q) T h) : AW P G N (.loop c) Q T h := by
  refine aw_loop (n := n - k0) (fun m T h => ∃ k, k ≤ n ∧ m = n - k ∧ I k T h) ⟨k0, hk0, rfl, h0⟩ ?_
  rintro m T h ⟨k, hk, rfl, hi⟩
  refine AW.mono (fun e T' h' q => ?_) (round k T h hk hi)
  cases e with
  | normal => exact ⟨n - (k + 1), by have := q.1; omega, k + 1, by have := q.1; omega, rfl, q.2⟩
  | _ => exact q

/-- The same, with temporaries that the loop leaves alone. -/
theorem aw_for {c : Code} (R : List Nat) (I : Nat → Tmps → Heap → Prop) (n : Nat) {k0 : Nat} (hk0 : k0 ≤ n) (h0 : I k0 T h)
    (round : ∀ k T' h', k ≤ n → (∀ t ∈ R, T' t = T t) → I k T' h' → AW P G N c (thenK (fun T'' h'' => k < n ∧ (∀ t ∈ R, T'' t = T t) ∧ I (k + 1) T'' h'') Q) T' h') :
    AW P G N (.loop c) Q T h :=
  aw_count (fun k T' h' => (∀ t ∈ R, T' t = T t) ∧ I k T' h') n hk0 ⟨fun _ _ => rfl, h0⟩ fun k T' h' hk hi => round k T' h' hk hi.1 hi.2

theorem Sl.row {e : Nat} {b : Option Addr} {rows : List (List Value)} (hrow : ∀ i r, rows[i]? = some r → ∃ a, b = some a ∧ loadCs h a.block (a.off + i * e) e = some r)
    {k : Nat} (hk : k < rows.length) : ∃ a, b = some a ∧ loadCs h a.block (a.off + k * e) e = some rows[k] := hrow k _ (List.getElem?_eq_getElem hk)

end
end Go.Proofs.Ytiddnhhjlipebaa.Am
