/- Regions whose order is open, in the form in which they are used: each operation changes nothing that there was. Conditions: none. -/
import Derived.Test.YtiddnhhjlipebaaAmS
namespace Go.Proofs.Ytiddnhhjlipebaa.Am
open Go
set_option linter.unusedVariables false
set_option linter.unusedSimpArgs false

/-- Which operations so far have made blocks. -/
def PreOk (al : List Bool) (pre : List (Nat × Nat)) : Prop := pre.length = al.length ∧ ∀ (i s e : Nat), pre[i]? = some (s, e) → al[i]? = some false → s = e

/-- Those that have made blocks come ahead of this one. -/
def ordAll (ms : List Nat) (al : List Bool) (j : Nat) : Bool := al.zipIdx.all fun p => !p.1 || ordB ms p.2 j

theorem PreOk.nil : PreOk [] [] := ⟨rfl, fun i s e h => by simp at h⟩
theorem PreOk.snoc {al : List Bool} {pre : List (Nat × Nat)} (h : PreOk al pre) {a : Bool} {s e : Nat} (ha : a = false → s = e) : PreOk (al ++ [a]) (pre ++ [(s, e)]) := by
  refine ⟨by simp [h.1], fun i s' e' h1 h2 => ?_⟩
  by_cases hi : i < pre.length
  · rw [List.getElem?_append_left hi] at h1
    rw [List.getElem?_append_left (by rw [← h.1]; exact hi)] at h2
    exact h.2 i s' e' h1 h2
  · have h3 := (List.getElem?_eq_some_iff.1 h1).1
    simp at h3
    have : i = pre.length := by omega
    subst this
    simp at h1
    rw [h.1] at h2
    simp at h2
    obtain ⟨rfl, rfl⟩ := h1
    exact ha h2

theorem PreOk.ord {ms : List Nat} {al : List Bool} {pre : List (Nat × Nat)} {j : Nat} (h : PreOk al pre) (ho : ordAll ms al j = true) (i s e : Nat) (hi : pre[i]? = some (s, e))
    (hn : ordB ms i j = false) : s = e := by
  have hlt := (List.getElem?_eq_some_iff.1 hi).1
  rw [h.1] at hlt
  refine h.2 i s e hi ?_
  have h1 := List.all_eq_true.1 ho (al[i], i) (by
    rw [List.mem_iff_getElem?]
    exact ⟨i, by simp [List.getElem?_zipIdx, List.getElem?_eq_getElem hlt]⟩)
  simp only [hn, Bool.or_false, Bool.not_eq_true'] at h1
  rw [List.getElem?_eq_getElem hlt, h1]

def ADr (P : Program) (G : Glo) (ops : Array Oper) (ms : List Nat) (Q : Exit → Tmps → Heap → Prop) (l : List Oper) (j : Nat) (T : Tmps) (h : Heap) (al : List Bool) : Prop :=
  ∀ pre, PreOk al pre → ADraw P G ops ms [] Q l j T h pre

section
variable {P : Program} {G : Glo} {N : Nat} {Q : Exit → Tmps → Heap → Prop} {ops : Array Oper} {ms : List Nat} {T : Tmps} {h : Heap} {o : Oper} {rest : List Oper} {j : Nat} {al : List Bool}

theorem aw_dr {id : Nat} {l : List Oper} (hm : P.follows .mixedOrders = true) {ms : List Nat} (hms : ancM l [] = ms) (hok : drawOk G N l.toArray ms = true)
    (hd : ADr P G l.toArray ms Q l 0 T h []) : AW P G N (.region id l.toArray true) Q T h := by
  subst hms
  exact aw_draw hm [] hok (hd [] PreOk.nil)

theorem dr_nil (hq : Q .normal T h) : ADr P G ops ms Q [] j T h al := fun _ _ => hq

/-- An operation whose result is settled, and which only makes blocks, if any. -/
theorem dr_gen {v : Value} {L : Heap} {a : Bool} (ho : ordAll ms al j = true) (ha : a = false → L = []) (hw : wantedA ops T o = true) (hs : AOp P G o T h fun v' h' => v' = v ∧ h' = h ++ L)
    (hk : ADr P G ops ms Q rest (j + 1) (put T o.dst v) (h ++ L) (al ++ [a])) : ADr P G ops ms Q (o :: rest) j T h al := by
  intro pre hp
  refine ⟨fun _ => ?_, fun hn => absurd (hw.symm.trans hn) (by simp)⟩
  have hD : ([] : List (List Nat)).getD j [] = [] := by simp
  rw [hD]
  refine ⟨h, v, h ++ L, ⟨rfl, fun id b hb => .inr hb, fun i s e hi hn id h1 h2 => ?_, fun i _ _ _ id hid => by simp at hid⟩, ⟨by simp, fun id hid _ => List.getElem?_append_left hid, fun id hid => by simp at hid, fun id hid => by simp at hid⟩,
    .inl fun i s e hi hn => hp.ord ho i s e hi hn, hs.mono fun v' h' k => ⟨k.1, ?_⟩, hk _ (hp.snoc fun q => by rw [ha q]; simp)⟩
  · have := hp.ord ho i s e hi hn; omega
  · rw [k.2]
    exact ⟨rfl, fun id hid _ => List.getElem?_append_left hid, fun id _ => rfl⟩

theorem dr_op {v : Value} (ho : ordAll ms al j = true) (hw : wantedA ops T o = true) (hs : stp P h (ev T) o.op = some (v, h))
    (hk : ADr P G ops ms Q rest (j + 1) (put T o.dst v) h (al ++ [false])) : ADr P G ops ms Q (o :: rest) j T h al := by
  have e : h ++ [] = h := List.append_nil h
  exact dr_gen (L := []) ho (fun _ => rfl) hw (aop_stp hs ⟨rfl, e.symm⟩) (by rw [e]; exact hk)

theorem dr_new {v : Value} {h' : Heap} (L : Heap) (ho : ordAll ms al j = true) (hw : wantedA ops T o = true) (hs : stp P h (ev T) o.op = some (v, h')) (he : h' = h ++ L)
    (hk : ADr P G ops ms Q rest (j + 1) (put T o.dst v) (h ++ L) (al ++ [true])) : ADr P G ops ms Q (o :: rest) j T h al := by
  subst he
  exact dr_gen ho (fun q => by cases q) hw (aop_stp hs ⟨rfl, rfl⟩) hk

theorem dr_off (hw : wantedA ops T o = false) (hk : ADr P G ops ms Q rest (j + 1) (put T o.dst undef) h (al ++ [false])) : ADr P G ops ms Q (o :: rest) j T h al := by
  intro pre hp
  exact ⟨fun hy => absurd (hw.symm.trans hy) (by simp), fun _ => ⟨by simp, hk _ (hp.snoc fun _ => rfl)⟩⟩

theorem dr_do {v : Value} (ho : ordAll ms al j = true) (hg : o.guard = none) (hs : stp P h (ev T) o.op = some (v, h))
    (hk : ADr P G ops ms Q rest (j + 1) (put T o.dst v) h (al ++ [false])) : ADr P G ops ms Q (o :: rest) j T h al := dr_op ho (wanted_none hg) hs hk

theorem dr_gdo {v : Value} {g t : Nat} {want : Bool} (ho : ordAll ms al j = true) (hg : o.guard = some (g, want)) (hd : ((ops[g]?).bind (·.dst)) = some t) (hb : ev T (.tmp t) = .bool want)
    (hs : stp P h (ev T) o.op = some (v, h)) (hk : ADr P G ops ms Q rest (j + 1) (put T o.dst v) h (al ++ [false])) : ADr P G ops ms Q (o :: rest) j T h al :=
  dr_op ho (by rw [wanted_some hg hd hb]; simp) hs hk

theorem dr_mk {v : Value} {h' : Heap} (L : Heap) (ho : ordAll ms al j = true) (hg : o.guard = none) (hs : stp P h (ev T) o.op = some (v, h')) (he : h' = h ++ L)
    (hk : ADr P G ops ms Q rest (j + 1) (put T o.dst v) (h ++ L) (al ++ [true])) : ADr P G ops ms Q (o :: rest) j T h al := dr_new L ho (wanted_none hg) hs he hk

theorem dr_goff {g t : Nat} {want : Bool} (hg : o.guard = some (g, want)) (hd : ((ops[g]?).bind (·.dst)) = some t) (hb : ev T (.tmp t) = .bool (!want))
    (hk : ADr P G ops ms Q rest (j + 1) (put T o.dst undef) h (al ++ [false])) : ADr P G ops ms Q (o :: rest) j T h al :=
  dr_off (by rw [wanted_some hg hd hb]; cases want <;> rfl) hk

theorem dr_gund {g t : Nat} {want : Bool} (hg : o.guard = some (g, want)) (hd : ((ops[g]?).bind (·.dst)) = some t) (hb : ev T (.tmp t) = undef)
    (hk : ADr P G ops ms Q rest (j + 1) (put T o.dst undef) h (al ++ [false])) : ADr P G ops ms Q (o :: rest) j T h al := by
  refine dr_off ?_ hk
  unfold wantedA Region.wanted
  rw [hg]
  simp only [yieldedA, hd, Option.map_some]
  simp only [ev] at hb
  rw [hb]
  rfl

theorem dr_gif {g t : Nat} {want b : Bool} (hg : o.guard = some (g, want)) (hd : ((ops[g]?).bind (·.dst)) = some t) (hb : ev T (.tmp t) = .bool b)
    (ht : b = true → ADr P G ops ms Q (o :: rest) j T h al) (hf : b = false → ADr P G ops ms Q (o :: rest) j T h al) : ADr P G ops ms Q (o :: rest) j T h al := by
  cases hq : b with
  | true => exact ht hq
  | false => exact hf hq

theorem dr_call {c : Call} {fo : Operand} {f : FuncId} {fs cs args : Array Value} {v : Value} {L : Heap} {a : Bool} (ha0 : ordAll ms al j = true) (haL : a = false → L = []) (hw : wantedA ops T o = true)
    (ho : o.op = .call c) (hf : c.callee = .value fo) (hv : ev T fo = .func (.func f) fs cs) (hc : callOk P f = true) (hargs : fs ++ c.args.map (ev T) ++ cs = args)
    (ha : ACalls P G f args h fun v' h' => v' = v ∧ h' = h ++ L) (hk : ADr P G ops ms Q rest (j + 1) (put T o.dst v) (h ++ L) (al ++ [a])) : ADr P G ops ms Q (o :: rest) j T h al :=
  dr_gen ha0 haL hw (aop_call ho hf hv hc (by rw [hargs]; exact ha)) hk

/-- A call that leaves the memory as it was. -/
theorem dr_cl {c : Call} {fo : Operand} {f : FuncId} {fs cs args : Array Value} {v : Value}
    (ho : o.op = .call c) (hf : c.callee = .value fo) (hv : ev T fo = .func (.func f) fs cs) (hg : o.guard = none) (hc : callOk P f = true) (hargs : fs ++ c.args.map (ev T) ++ cs = args)
    (ha0 : ordAll ms al j = true)
    (ha : ACalls P G f args h fun v' h' => v' = v ∧ h' = h) (hk : ADr P G ops ms Q rest (j + 1) (put T o.dst v) h (al ++ [false])) : ADr P G ops ms Q (o :: rest) j T h al := by
  have e : h ++ [] = h := List.append_nil h
  exact dr_call (L := []) ha0 (fun _ => rfl) (wanted_none hg) ho hf hv hc hargs (by rw [e]; exact ha) (by rw [e]; exact hk)
theorem dr_gcl {g t : Nat} {want : Bool} {c : Call} {fo : Operand} {f : FuncId} {fs cs args : Array Value} {v : Value}
    (ho : o.op = .call c) (hf : c.callee = .value fo) (hv : ev T fo = .func (.func f) fs cs) (hg : o.guard = some (g, want)) (hd : ((ops[g]?).bind (·.dst)) = some t) (hb : ev T (.tmp t) = .bool want)
    (hc : callOk P f = true) (hargs : fs ++ c.args.map (ev T) ++ cs = args) (ha0 : ordAll ms al j = true)
    (ha : ACalls P G f args h fun v' h' => v' = v ∧ h' = h) (hk : ADr P G ops ms Q rest (j + 1) (put T o.dst v) h (al ++ [false])) : ADr P G ops ms Q (o :: rest) j T h al := by
  have e : h ++ [] = h := List.append_nil h
  exact dr_call (L := []) ha0 (fun _ => rfl) (by rw [wanted_some hg hd hb]; simp) ho hf hv hc hargs (by rw [e]; exact ha) (by rw [e]; exact hk)
/-- A call that makes blocks. -/
theorem dr_clnew {c : Call} {fo : Operand} {f : FuncId} {fs cs args : Array Value} {v : Value} {L : Heap}
    (ho : o.op = .call c) (hf : c.callee = .value fo) (hv : ev T fo = .func (.func f) fs cs) (hg : o.guard = none) (hc : callOk P f = true) (hargs : fs ++ c.args.map (ev T) ++ cs = args)
    (ha0 : ordAll ms al j = true)
    (ha : ACalls P G f args h fun v' h' => v' = v ∧ h' = h ++ L) (hk : ADr P G ops ms Q rest (j + 1) (put T o.dst v) (h ++ L) (al ++ [true])) : ADr P G ops ms Q (o :: rest) j T h al :=
  dr_call ha0 (fun q => by cases q) (wanted_none hg) ho hf hv hc hargs ha hk
end
end Go.Proofs.Ytiddnhhjlipebaa.Am
