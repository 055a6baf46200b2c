/- Regions whose order is open, in the form in which they are used: each operation changes nothing that there was. Conditions: none. -/
import Derived.Test.YtdldekkojjfllaaDoorJ2
import Derived.WalkKit
import Derived.ProofKit
import Derived.OpenShut
import Derived.ShutString
import Derived.ChangeOld
import Derived.Below
import Derived.Carry
namespace Go.Proofs.YtdldekkojjfllaaDoor.Am
open Go
set_option linter.unusedVariables false
set_option linter.unusedSimpArgs false
/-- Which operations so far have made blocks. -/
def PreOk (al : List Bool) (pre : List (Nat × Nat)) : Prop := pre.length = al.length ∧ ∀ (i s e : Nat), pre[i]? = some (s, e) → al[i]? = some false → s = e
/-- Those that have made blocks come ahead of this one. -/
def ordAll (ms : List Nat) (al : List Bool) (j : Nat) : Bool := al.zipIdx.all fun p => !p.1 || ordB ms p.2 j
theorem PreOk.nil : PreOk [] [] := ⟨rfl, fun i s e h => by simp at h⟩
theorem PreOk.snoc {al : List Bool} {pre : List (Nat × Nat)} (h : PreOk al pre) {a : Bool} {s e : Nat} (ha : a = false → s = e) : PreOk (al ++ [a]) (pre ++ [(s, e)]) := by
  refine ⟨by simp [h.1], fun i s' e' h1 h2 => ?_⟩
  by_cases hi : i < pre.length
  · rw [List.getElem?_append_left hi] at h1
    rw [List.getElem?_append_left (by rw [← h.1]; exact hi)] at h2
    exact h.2 i s' e' h1 h2
  · have h3 := (List.getElem?_eq_some_iff.1 h1).1
    simp at h3
    have : i = pre.length := by omega
    subst this
    simp at h1
    rw [h.1] at h2
    simp at h2
    obtain ⟨rfl, rfl⟩ := h1
    exact ha h2
theorem PreOk.ord {ms : List Nat} {al : List Bool} {pre : List (Nat × Nat)} {j : Nat} (h : PreOk al pre) (ho : ordAll ms al j = true) (i s e : Nat) (hi : pre[i]? = some (s, e))
    (hn : ordB ms i j = false) : s = e := by
  have hlt := (List.getElem?_eq_some_iff.1 hi).1
  rw [h.1] at hlt
  refine h.2 i s e hi ?_
  have h1 := List.all_eq_true.1 ho (al[i], i) (by
    rw [List.mem_iff_getElem?]
    exact ⟨i, by simp [List.getElem?_zipIdx, List.getElem?_eq_getElem hlt]⟩)
  simp only [hn, Bool.or_false, Bool.not_eq_true'] at h1
  rw [List.getElem?_eq_getElem hlt, h1]
def ADr (P : Program) (G : Glo) (ops : Array Oper) (ms : List Nat) (Q : Exit → Tmps → Heap → Prop) (l : List Oper) (j : Nat) (T : Tmps) (h : Heap) (al : List Bool) : Prop :=
  ∀ pre, PreOk al pre → ADraw P G ops ms [] Q l j T h pre
section
variable {P : Program} {G : Glo} {N : Nat} {Q : Exit → Tmps → Heap → Prop} {ops : Array Oper} {ms : List Nat} {T : Tmps} {h : Heap} {o : Oper} {rest : List Oper} {j : Nat} {al : List Bool}
theorem aw_dr {id : Nat} {l : List Oper} (hm : P.follows .mixedOrders = true) {ms : List Nat} (hms : ancM l [] = ms) (hok : drawOk G N l.toArray ms = true)
    (hd : ADr P G l.toArray ms Q l 0 T h []) : AW P G N (.region id l.toArray true) Q T h := by
  subst hms
  exact aw_draw hm [] hok (hd [] PreOk.nil)
theorem dr_nil (hq : Q .normal T h) : ADr P G ops ms Q [] j T h al := fun _ _ => hq
/-- An operation whose result is settled, and which only makes blocks, if any. -/
theorem dr_gen {v : Value} {L : Heap} {a : Bool} (ho : ordAll ms al j = true) (ha : a = false → L = []) (hw : wantedA ops T o = true) (hs : AOp P G o T h fun v' h' => v' = v ∧ h' = h ++ L)
    (hk : ADr P G ops ms Q rest (j + 1) (put T o.dst v) (h ++ L) (al ++ [a])) : ADr P G ops ms Q (o :: rest) j T h al := by
  intro pre hp
  refine ⟨fun _ => ?_, fun hn => absurd (hw.symm.trans hn) (by simp)⟩
  have hD : ([] : List (List Nat)).getD j [] = [] := by simp
  rw [hD]
  refine ⟨h, v, h ++ L, ⟨rfl, fun id b hb => .inr hb, fun i s e hi hn id h1 h2 => ?_, fun i _ _ _ id hid => by simp at hid⟩, ⟨by simp, fun id hid _ => List.getElem?_append_left hid, fun id hid => by simp at hid, fun id hid => by simp at hid⟩,
    .inl fun i s e hi hn => hp.ord ho i s e hi hn, hs.mono fun v' h' k => ⟨k.1, ?_⟩, hk _ (hp.snoc fun q => by rw [ha q]; simp)⟩
  · have := hp.ord ho i s e hi hn; omega
  · rw [k.2]
    exact ⟨rfl, fun id hid _ => List.getElem?_append_left hid, fun id _ => rfl⟩
theorem dr_op {v : Value} (ho : ordAll ms al j = true) (hw : wantedA ops T o = true) (hs : stp P h (ev T) o.op = some (v, h))
    (hk : ADr P G ops ms Q rest (j + 1) (put T o.dst v) h (al ++ [false])) : ADr P G ops ms Q (o :: rest) j T h al := by
  have e : h ++ [] = h := List.append_nil h
  exact dr_gen (L := []) ho (fun _ => rfl) hw (aop_stp hs ⟨rfl, e.symm⟩) (by rw [e]; exact hk)
theorem dr_new {v : Value} {h' : Heap} (L : Heap) (ho : ordAll ms al j = true) (hw : wantedA ops T o = true) (hs : stp P h (ev T) o.op = some (v, h')) (he : h' = h ++ L)
    (hk : ADr P G ops ms Q rest (j + 1) (put T o.dst v) (h ++ L) (al ++ [true])) : ADr P G ops ms Q (o :: rest) j T h al := by
  subst he
  exact dr_gen ho (fun q => by cases q) hw (aop_stp hs ⟨rfl, rfl⟩) hk
theorem dr_off (hw : wantedA ops T o = false) (hk : ADr P G ops ms Q rest (j + 1) (put T o.dst undef) h (al ++ [false])) : ADr P G ops ms Q (o :: rest) j T h al := by
  intro pre hp
  exact ⟨fun hy => absurd (hw.symm.trans hy) (by simp), fun _ => ⟨by simp, hk _ (hp.snoc fun _ => rfl)⟩⟩
theorem dr_do {v : Value} (ho : ordAll ms al j = true) (hg : o.guard = none) (hs : stp P h (ev T) o.op = some (v, h))
    (hk : ADr P G ops ms Q rest (j + 1) (put T o.dst v) h (al ++ [false])) : ADr P G ops ms Q (o :: rest) j T h al := dr_op ho (wanted_none hg) hs hk
theorem dr_mk {v : Value} {h' : Heap} (L : Heap) (ho : ordAll ms al j = true) (hg : o.guard = none) (hs : stp P h (ev T) o.op = some (v, h')) (he : h' = h ++ L)
    (hk : ADr P G ops ms Q rest (j + 1) (put T o.dst v) (h ++ L) (al ++ [true])) : ADr P G ops ms Q (o :: rest) j T h al := dr_new L ho (wanted_none hg) hs he hk
theorem dr_call {c : Call} {fo : Operand} {f : FuncId} {fs cs args : Array Value} {v : Value} {L : Heap} {a : Bool} (ha0 : ordAll ms al j = true) (haL : a = false → L = []) (hw : wantedA ops T o = true)
    (ho : o.op = .call c) (hf : c.callee = .value fo) (hv : ev T fo = .func (.func f) fs cs) (hc : callOk P f = true) (hargs : fs ++ c.args.map (ev T) ++ cs = args)
    (ha : ACalls P G f args h fun v' h' => v' = v ∧ h' = h ++ L) (hk : ADr P G ops ms Q rest (j + 1) (put T o.dst v) (h ++ L) (al ++ [a])) : ADr P G ops ms Q (o :: rest) j T h al :=
  dr_gen ha0 haL hw (aop_call ho hf hv hc (by rw [hargs]; exact ha)) hk
/-- A call that leaves the memory as it was. -/
theorem dr_cl {c : Call} {fo : Operand} {f : FuncId} {fs cs args : Array Value} {v : Value}
    (ho : o.op = .call c) (hf : c.callee = .value fo) (hv : ev T fo = .func (.func f) fs cs) (hg : o.guard = none) (hc : callOk P f = true) (hargs : fs ++ c.args.map (ev T) ++ cs = args)
    (ha0 : ordAll ms al j = true)
    (ha : ACalls P G f args h fun v' h' => v' = v ∧ h' = h) (hk : ADr P G ops ms Q rest (j + 1) (put T o.dst v) h (al ++ [false])) : ADr P G ops ms Q (o :: rest) j T h al := by
  have e : h ++ [] = h := List.append_nil h
  exact dr_call (L := []) ha0 (fun _ => rfl) (wanted_none hg) ho hf hv hc hargs (by rw [e]; exact ha) (by rw [e]; exact hk)
/-- A call that makes blocks. -/
theorem dr_clnew {c : Call} {fo : Operand} {f : FuncId} {fs cs args : Array Value} {v : Value} {L : Heap}
    (ho : o.op = .call c) (hf : c.callee = .value fo) (hv : ev T fo = .func (.func f) fs cs) (hg : o.guard = none) (hc : callOk P f = true) (hargs : fs ++ c.args.map (ev T) ++ cs = args)
    (ha0 : ordAll ms al j = true)
    (ha : ACalls P G f args h fun v' h' => v' = v ∧ h' = h ++ L) (hk : ADr P G ops ms Q rest (j + 1) (put T o.dst v) (h ++ L) (al ++ [true])) : ADr P G ops ms Q (o :: rest) j T h al :=
  dr_call ha0 (fun q => by cases q) (wanted_none hg) ho hf hv hc hargs ha hk
end
end Go.Proofs.YtdldekkojjfllaaDoor.Am
namespace Go.Proofs.YtdldekkojjfllaaDoor.Am
open Go Go.RowKit
set_option linter.unusedVariables false
set_option linter.unusedSimpArgs false
section
variable {H : Type} {enc : TypeId × Value → H} {P : Program} {w : World} {base : Nat} {spare : Nat → Bool} {held : Bool}
theorem trodAll_below (hl : laidOutB P = true) {W W' : World} (hb : Below W.heap.size W W') : ∀ {ts : List TypeId} {vs : List Value} {ds : List (DataW H)} {ps : List MemPlace},
    (ts.all fun t => P.readableRec t && decide (t < P.types.size)) = true → DataW.TrodAll enc P W 0 (fun _ => true) true ts vs ds ps →
    DataW.TrodAll enc P W' 0 (fun b => decide (b < W.heap.size)) true ts vs ds ps
  | [], [], [], ps, _, h => h
  | t :: ts, v :: vs, d :: ds, ps, hr, h => by
      have hlt := h.lt
      obtain ⟨p, q, h1, h2, rfl⟩ := h
      simp only [List.all_cons, Bool.and_eq_true, decide_eq_true_eq] at hr
      exact ⟨p, q, Below.trod hl hr.1.1 hr.1.2 h1 hb fun x hx => hlt x (List.mem_append_left _ hx), trodAll_below hl hb hr.2 h2, rfl⟩
  | [], _ :: _, _, _, _, h => h.elim
  | [], [], _ :: _, _, _, h => h.elim
  | _ :: _, [], _, _, _, h => h.elim
  | _ :: _, _ :: _, [], _, _, h => h.elim
theorem mapM_mem {α β : Type} {f : α → Option β} : ∀ {l : List α} {r : List β}, l.mapM f = some r → ∀ x ∈ l, ∃ y, f x = some y
  | [], _, _, x, hx => by simp at hx
  | a :: l, r, h, x, hx => by
      rw [List.mapM_cons] at h
      cases ha : f a with
      | none => simp [ha] at h
      | some y =>
        cases hl : l.mapM f with
        | none => simp [ha, hl] at h
        | some ys =>
          rcases List.mem_cons.1 hx with rfl | hx
          · exact ⟨y, ha⟩
          · exact mapM_mem hl x hx
theorem trod_struct {t : TypeId} {fs : Array Field} {fuel : Nat} {cs : List Value} {x : DataW H × List MemPlace} (ht : P.underlying t = some (.struct fs))
    (h : DataW.trod enc P w base spare held fuel t cs = some x) :
    cs.length = P.cellsOf t ∧ ∃ n, ∀ f ∈ fs.toList, ∃ y, DataW.trod enc P w base spare held n f.type ((cs.drop f.offset).take (P.cellsOf f.type)) = some y := by
  cases fuel with
  | zero => simp [DataW.trod] at h
  | succ n =>
    unfold DataW.trod at h
    rw [ht] at h
    simp only [] at h
    split at h
    · rename_i hl
      refine ⟨hl, n, fun f hf => ?_⟩
      cases hm : (fs.toList.mapM fun f => DataW.trod enc P w base spare held n f.type ((cs.drop f.offset).take (P.cellsOf f.type))) with
      | none => simp [hm] at h
      | some r => exact mapM_mem hm f hf
    · cases h
theorem trod_int {t : TypeId} {k : IntKind} {fuel : Nat} {cs : List Value} {x : DataW H × List MemPlace} (ht : P.underlying t = some (.int k))
    (h : DataW.trod enc P w base spare held fuel t cs = some x) : ∃ n, cs = [.int k n] ∧ (Lit.int k n).wf = true := by
  cases fuel with
  | zero => simp [DataW.trod] at h
  | succ n =>
    unfold DataW.trod at h
    rw [ht] at h
    match cs, h with
    | [.int k' n], h =>
      simp only [] at h
      split at h
      · rename_i hh
        exact ⟨n, by rw [hh.1], hh.2⟩
      · cases h
theorem trod_string {t : TypeId} {fuel : Nat} {cs : List Value} {x : DataW H × List MemPlace} (ht : P.underlying t = some .string)
    (h : DataW.trod enc P w base spare held fuel t cs = some x) : ∃ s, cs = [.string s] ∧ s.size ≤ maxLen := by
  cases fuel with
  | zero => simp [DataW.trod] at h
  | succ n =>
    unfold DataW.trod at h
    rw [ht] at h
    match cs, h with
    | [.string s], h =>
      simp only [] at h
      split at h
      · exact ⟨s, rfl, ‹_›⟩
      · cases h
theorem okWide_agg {r : Reach} {b0 : Nat} {t : TypeId} {fs : Array Field} {v : Value} (ht : P.underlying t = some (.struct fs)) (h : Value.okWide P w r b0 t v) :
    ∃ cs, v = .agg cs := by
  unfold Value.okWide at h
  rw [ht] at h
  obtain ⟨cs, h1, _⟩ := h
  exact ⟨cs, h1⟩
/-- A struct's parts. -/
theorem open_parts {r : Reach} {b0 : Nat} {t : TypeId} {fs : Array Field} {v : Value} {d : DataW H} {ps : List MemPlace} (ht : P.underlying t = some (.struct fs))
    (hval : Value.okWide P w r b0 t v) (h : DataW.Trod enc P w base spare held t v d ps) :
    ∃ cs : List Value, v = .agg cs.toArray ∧ cs.length = P.cellsOf t ∧
      ∃ n, ∀ (i : Nat) (f : Field), fs.toList[i]? = some f → ∃ y, DataW.trod enc P w base spare held n f.type ((cs.drop f.offset).take (P.cellsOf f.type)) = some y := by
  obtain ⟨cs, rfl⟩ := okWide_agg ht hval
  obtain ⟨fuel, hf⟩ := h
  have := trod_struct ht hf
  exact ⟨cs.toList, by simp, this.1, this.2.imp fun n hn i f hf => hn f (List.mem_of_getElem? hf)⟩
theorem take_get {cs : List Value} {o : Nat} {v : Value} (h : (cs.drop o).take 1 = [v]) : cs[o]? = some v := by
  have h1 : ((cs.drop o).take 1)[0]? = some v := by rw [h]; rfl
  rw [List.getElem?_take] at h1
  simpa using h1
/-- A part that is a whole number, a bool, a string. -/
theorem part_int {n o : Nat} {t : TypeId} {k : IntKind} {cs : List Value} (ht : P.underlying t = some (.int k)) (hc : P.cellsOf t = 1)
    (h : ∃ y, DataW.trod enc P w base spare held n t ((cs.drop o).take (P.cellsOf t)) = some y) : ∃ i, cs[o]? = some (.int k i) ∧ (Lit.int k i).wf = true := by
  obtain ⟨y, h⟩ := h
  obtain ⟨i, h1, h2⟩ := trod_int ht h
  rw [hc] at h1
  exact ⟨i, take_get h1, h2⟩
theorem part_string {n o : Nat} {t : TypeId} {cs : List Value} (ht : P.underlying t = some .string) (hc : P.cellsOf t = 1)
    (h : ∃ y, DataW.trod enc P w base spare held n t ((cs.drop o).take (P.cellsOf t)) = some y) : ∃ s, cs[o]? = some (.string s) ∧ s.size ≤ maxLen := by
  obtain ⟨y, h⟩ := h
  obtain ⟨i, h1, h2⟩ := trod_string ht h
  rw [hc] at h1
  exact ⟨i, take_get h1, h2⟩
theorem len3 {l : List Value} (h : l.length = 3) : ∃ a b c, l = [a, b, c] := by
  match l, h with
  | [a, b, c], _ => exact ⟨a, b, c, rfl⟩
end
end Go.Proofs.YtdldekkojjfllaaDoor.Am
namespace Go.Proofs.YtdldekkojjfllaaDoor.Am
open Go Go.RowKit
set_option linter.unusedVariables false
set_option linter.unusedSimpArgs false
theorem flatten_row {w : Nat} : ∀ (rows : List (List Value)) (hw : ∀ r ∈ rows, r.length = w) (i : Nat) (r : List Value), rows[i]? = some r →
    i * w + w ≤ rows.flatten.length ∧ (rows.flatten.drop (i * w)).take w = r
  | [], _, i, r, h => by simp at h
  | x :: rows, hw, 0, r, h => by
      obtain rfl : x = r := by simpa using h
      have hx := hw x (by simp)
      simp only [List.flatten_cons, List.length_append, Nat.zero_mul, Nat.zero_add, List.drop_zero]
      exact ⟨by omega, by rw [← hx]; simp⟩
  | x :: rows, hw, i + 1, r, h => by
      have hx := hw x (by simp)
      obtain ⟨h1, h2⟩ := flatten_row rows (fun r hr => hw r (by simp [hr])) i r (by simpa using h)
      have he : (i + 1) * w = w + i * w := by rw [Nat.succ_mul, Nat.add_comm]
      simp only [List.flatten_cons, List.length_append]
      refine ⟨by rw [he]; omega, ?_⟩
      rw [he, ← hx, ← List.drop_drop, List.drop_left, hx]
      exact h2
/-- A block that holds rows, read as a slice. -/
theorem Sl.of_block {h : Heap} {id k e c : Nat} {sp : Option Nat} {rows : List (List Value)} (hb : h[id]? = some ⟨k, e, rows.flatten⟩) (hk : k = 1 ∨ k = 2) (hw : ∀ r ∈ rows, r.length = e)
    (hc : rows.length ≤ c) : Sl h (.slice (some ⟨id, 0, sp⟩) rows.length c) e rows := by
  refine ⟨some ⟨id, 0, sp⟩, c, rfl, hc, fun i r hr => ⟨⟨id, 0, sp⟩, rfl, ?_⟩⟩
  obtain ⟨h1, h2⟩ := flatten_row rows hw i r hr
  unfold loadCs
  simp only [hb, Nat.zero_add]
  rw [if_pos ⟨hk, h1⟩, h2]
theorem Sl.nil (h : Heap) (e : Nat) : Sl h (.slice none 0 0) e [] := ⟨none, 0, rfl, Nat.le_refl _, fun i r hr => by simp at hr⟩
section
variable {H : Type} {enc : TypeId × Value → H} {P : Program} {w : World} {base : Nat} {spare : Nat → Bool} {held : Bool}
end
end Go.Proofs.YtdldekkojjfllaaDoor.Am
namespace Go.Proofs.YtdldekkojjfllaaDoor.Am
open Go
set_option linter.unusedVariables false
set_option linter.unusedSimpArgs false
/-- A block of as many rows as there are, the first k of them written, the rest still zero. -/
def fill (z : List Value) (rows : List (List Value)) (k : Nat) : List Value := (rows.take k ++ List.replicate (rows.length - k) z).flatten
section
variable {P : Program} {h : Heap}
/-- A new block that holds rows. -/
theorem Sl.new {e : Nat} {rows : List (List Value)} (hr : ∀ r ∈ rows, r.length = e) (L : Heap) : Sl (h ++ ⟨2, e, rows.flatten⟩ :: L) (.slice (some ⟨h.length, 0, none⟩) rows.length rows.length) e rows :=
  Sl.of_block (k := 2) (by simp) (.inr rfl) hr (Nat.le_refl _)
theorem Sl.at {e n k : Nat} {rows : List (List Value)} {L : Heap} (hb : L[k]? = some ⟨2, e, rows.flatten⟩) (hr : ∀ r ∈ rows, r.length = e) (hn : n = rows.length) :
    Sl (h ++ L) (.slice (some ⟨h.length + k, 0, none⟩) n n) e rows := by
  subst hn
  exact Sl.of_block (id := h.length + k) (k := 2) (by rw [get_at]; exact hb) (.inr rfl) hr (Nat.le_refl _)
end
end Go.Proofs.YtdldekkojjfllaaDoor.Am
namespace Go.Proofs.YtdldekkojjfllaaDoor.Am
open Go
set_option linter.unusedVariables false
set_option linter.unusedSimpArgs false
def plainOp : Op → Bool
  | .call ⟨.value _, _, _⟩ => false
  | _ => true
section
variable {P : Program} {G : Glo} {N : Nat} {Q : Exit → Tmps → Heap → Prop} {ops : Array Oper} {ms : List Nat} {T : Tmps} {h : Heap} {rest : List Oper} {j : Nat} {al : List Bool}
  {dst : Option Nat} {op : Op} {ty : TypeId} {pos : String} {aft : Array Edge} {g t d : Nat} {want b : Bool} {v : Value} {h' : Heap}
  {c : Call} {fo : Operand} {f : FuncId} {fs cs args : Array Value} {K : Value → Heap → Prop} {as : Array Operand} {ats : Array TypeId}
/-- The same as AR and ADr, closed: so that a rule that does not fit fails at once. -/
structure XR (P : Program) (G : Glo) (ops : Array Oper) (Q : Exit → Tmps → Heap → Prop) (l : List Oper) (T : Tmps) (h : Heap) : Prop where
  ar : AR P G ops Q l T h
structure XD (P : Program) (G : Glo) (ops : Array Oper) (ms : List Nat) (Q : Exit → Tmps → Heap → Prop) (l : List Oper) (j : Nat) (T : Tmps) (h : Heap) (al : List Bool) : Prop where
  ad : ADr P G ops ms Q l j T h al
theorem xr_reg {id : Nat} {l : List Oper} (hall : (l.all fun o => operOk G N l.toArray o) = true) (hr : XR P G l.toArray Q l T h) : AW P G N (.region id l.toArray false) Q T h := aw_reg hall hr.ar
theorem xd_reg {id : Nat} {l : List Oper} (hm : P.follows .mixedOrders = true) {ms : List Nat} (hms : ancM l [] = ms) (hok : drawOk G N l.toArray ms = true)
    (hd : XD P G l.toArray ms Q l 0 T h []) : AW P G N (.region id l.toArray true) Q T h := aw_dr hm hms hok hd.ad
theorem xr_nil (hq : Q .normal T h) : XR P G ops Q [] T h := ⟨hq⟩
theorem xd_nil (hq : Q .normal T h) : XD P G ops ms Q [] j T h al := ⟨dr_nil hq⟩
theorem xr_do (hpl : plainOp op = true) (hs : stp P h (ev T) op = some (v, h')) (hk : XR P G ops Q rest (put T (some d) v) h') : XR P G ops Q (⟨some d, op, ty, pos, aft, none⟩ :: rest) T h := ⟨ar_do rfl hs hk.ar⟩
theorem xr_st (hpl : plainOp op = true) (hs : stp P h (ev T) op = some (v, h')) (hk : XR P G ops Q rest T h') : XR P G ops Q (⟨none, op, ty, pos, aft, none⟩ :: rest) T h := ⟨ar_do rfl hs hk.ar⟩
theorem xr_cl (hv : ev T fo = .func (.func f) fs cs) (hc : callOk P f = true) (hargs : fs ++ as.map (ev T) ++ cs = args) (ha : ACalls P G f args h K) (hk : ∀ v h', K v h' → XR P G ops Q rest (put T (some d) v) h') : XR P G ops Q (⟨some d, .call ⟨.value fo, as, ats⟩, ty, pos, aft, none⟩ :: rest) T h := ⟨ar_cl rfl rfl rfl hv hc hargs ha (fun v h q => (hk v h q).ar)⟩
theorem xd_do (hpl : plainOp op = true) (ho : ordAll ms al j = true) (hs : stp P h (ev T) op = some (v, h)) (hk : XD P G ops ms Q rest (j + 1) (put T (some d) v) h (al ++ [false])) : XD P G ops ms Q (⟨some d, op, ty, pos, aft, none⟩ :: rest) j T h al := ⟨dr_do ho rfl hs hk.ad⟩
theorem xd_mk (hpl : plainOp op = true) (L : Heap) (ho : ordAll ms al j = true) (hs : stp P h (ev T) op = some (v, h')) (he : h' = h ++ L) (hk : XD P G ops ms Q rest (j + 1) (put T (some d) v) (h ++ L) (al ++ [true])) : XD P G ops ms Q (⟨some d, op, ty, pos, aft, none⟩ :: rest) j T h al := ⟨dr_mk L ho rfl hs he hk.ad⟩
theorem xd_cl (hv : ev T fo = .func (.func f) fs cs) (hc : callOk P f = true) (hargs : fs ++ as.map (ev T) ++ cs = args) (ho : ordAll ms al j = true) (ha : ACalls P G f args h fun v' h' => v' = v ∧ h' = h) (hk : XD P G ops ms Q rest (j + 1) (put T (some d) v) h (al ++ [false])) : XD P G ops ms Q (⟨some d, .call ⟨.value fo, as, ats⟩, ty, pos, aft, none⟩ :: rest) j T h al := ⟨dr_cl rfl rfl hv rfl hc hargs ho ha hk.ad⟩
theorem xd_clnew {L : Heap} (hv : ev T fo = .func (.func f) fs cs) (hc : callOk P f = true) (hargs : fs ++ as.map (ev T) ++ cs = args) (ho : ordAll ms al j = true) (ha : ACalls P G f args h fun v' h' => v' = v ∧ h' = h ++ L) (hk : XD P G ops ms Q rest (j + 1) (put T (some d) v) (h ++ L) (al ++ [true])) : XD P G ops ms Q (⟨some d, .call ⟨.value fo, as, ats⟩, ty, pos, aft, none⟩ :: rest) j T h al := ⟨dr_clnew rfl rfl hv rfl hc hargs ho ha hk.ad⟩
end
end Go.Proofs.YtdldekkojjfllaaDoor.Am
namespace Go.Proofs.YtdldekkojjfllaaDoor.Am
open Go
set_option linter.unusedVariables false
set_option linter.unusedSimpArgs false
/-- The value under the new names, and as it was: L are the blocks that were made, ks says which of them are kept. -/
inductive RV (n : Nat) (L : Heap) (ks : List Nat) : Value → Value → Prop where
  | plain (v : Value) (h : af1 v = true) : RV n L ks v v
  | sl (i k l c e : Nat) (sp : Option Nat) (cs : List Value) (hk : ks[i]? = some k) (hb : L[k]? = some ⟨2, e, cs⟩) (hl : cs.length = l * e) (hc : l ≤ c) (hs : (sp = none ∧ c = l) ∨ sp = some 0) :
      RV n L ks (.slice (some ⟨n + i, 0, some 0⟩) l l) (.slice (some ⟨n + k, 0, sp⟩) l c)
  | agg (cs cs' : Array Value) (hs : cs.size = cs'.size) (h : ∀ (i : Nat) (h : i < cs.size) (h' : i < cs'.size), RV n L ks cs[i] cs'[i]) : RV n L ks (.agg cs) (.agg cs')
  | tuple (cs cs' : Array Value) (hs : cs.size = cs'.size) (h : ∀ (i : Nat) (h : i < cs.size) (h' : i < cs'.size), RV n L ks cs[i] cs'[i]) : RV n L ks (.tuple cs) (.tuple cs')
def canMap (n : Nat) (ks : List Nat) (m : Map) : Map := fun id => if id < n then m id else match ks[id - n]? with | some k => m (n + k) | none => m id
theorem canMap_old {n : Nat} {ks : List Nat} {m : Map} {id : Nat} (h : id < n) : canMap n ks m id = m id := by unfold canMap; rw [if_pos h]
theorem canMap_new {n : Nat} {ks : List Nat} {m : Map} {i k : Nat} (h : ks[i]? = some k) : canMap n ks m (n + i) = m (n + k) := by
  unfold canMap; rw [if_neg (by omega), Nat.add_sub_cancel_left, h]
section
variable {P : Program} {G : Glo} {h : Heap}
theorem RV.vrel {n : Nat} {L Bs : Heap} {ks : List Nat} {v0 v : Value} (hr : RV h.length L ks v0 v) {m : Map} {w : World} {v' : Value} (hlen : ks.length = Bs.length)
    (r : WRel G m (h ++ L) w) (hv : VRel (h ++ L).length m v v') : VRel (h ++ Bs).length (canMap h.length ks m) v0 v' := by
  induction hr generalizing v' with
  | plain v ha => rw [hv.eq_af1 ha]; exact .of_af (by cases v <;> simp_all [af, af1])
  | sl i k l c e sp cs hk hb hl hc hs =>
    have hi : i < Bs.length := by rw [← hlen]; exact (List.getElem?_eq_some_iff.1 hk).1
    have hbk : (h ++ L)[h.length + k]? = some ⟨2, e, cs⟩ := by rw [get_at]; exact hb
    have hm := canMap_new (n := h.length) (m := m) hk
    obtain ⟨he, hroom, _⟩ := r.room _ _ hbk rfl
    cases hv with
    | slice a l c ha hn =>
      rcases hs with ⟨rfl, rfl⟩ | rfl
      · refine .sliceIn _ _ _ _ _ rfl (by simp; omega) (Nat.le_refl _) rfl ?_ (fun _ => ?_) ?_ ?_
        · simp only [place, hm]
        · simp only [place, hm]
        · simp only [place, hm]; omega
        · simp only [place, hm]
          simp only at he hroom
          rw [he, ← hl]; omega
      · simp at ha
    | sliceIn a y l c c' ha hn hcc hy hb2 hp hlo hhi =>
      refine .sliceIn _ _ _ _ _ rfl (by simp; omega) (by omega) hy ?_ (fun q => ?_) ?_ ?_
      · simp only [hm]; exact hb2
      · have := hp (by omega)
        rw [this]; simp only [place, hm]
      · simp only [hm]; exact hlo
      · simp only [hm]; exact hhi
  | agg cs cs' hs _ ih =>
    cases hv with
    | agg _ cs2 hs2 g => exact .agg _ _ (by omega) fun i q1 q2 => ih i q1 (by omega) (g i (by omega) q2)
  | tuple cs cs' hs _ ih =>
    cases hv with
    | tuple _ cs2 hs2 g => exact .tuple _ _ (by omega) fun i q1 q2 => ih i q1 (by omega) (g i (by omega) q2)
theorem get_app {h L : Heap} {id : Nat} {b : Blk} (hb : (h ++ L)[id]? = some b) : (id < h.length ∧ h[id]? = some b) ∨ ∃ i, id = h.length + i ∧ L[i]? = some b := by
  by_cases hi : id < h.length
  · exact .inl ⟨hi, by rwa [List.getElem?_append_left hi] at hb⟩
  · rw [List.getElem?_append_right (by omega)] at hb
    exact .inr ⟨id - h.length, by omega, hb⟩
def Inj (ks : List Nat) : Prop := ∀ (i j k : Nat), ks[i]? = some k → ks[j]? = some k → i = j
theorem Inj.nil : Inj [] := fun i j k h => by simp at h
theorem Inj.one (a : Nat) : Inj [a] := by
  intro i j k h1 h2
  have := (List.getElem?_eq_some_iff.1 h1).1
  have := (List.getElem?_eq_some_iff.1 h2).1
  simp at *; omega
theorem acalls_canon {f : FuncId} {args : Array Value} (v0 : Value) (Bs : Heap)
    (ha : ACalls P G f args h fun v h' => ∃ (L : Heap) (ks : List Nat), h' = h ++ L ∧ Inj ks ∧ ks.length = Bs.length ∧
      (∀ (i : Nat) (b : Blk), Bs[i]? = some b → b.k = 2 ∧ (∀ x ∈ b.cs, af1 x = true) ∧ ∃ k, ks[i]? = some k ∧ L[k]? = some b) ∧ RV h.length L ks v0 v) :
    ACalls P G f args h fun v h' => v = v0 ∧ h' = h ++ Bs := by
  intro m args' w hs hp r
  refine (ha m args' w hs hp r).mono ?_
  rintro e w' ⟨v, v', m', h', rfl, hv, r', g, L, ks, rfl, hnd, hlen, hB, hrv⟩
  have up : ∀ {i : Nat} {x : Blk}, h[i]? = some x → (h ++ L)[i]? = some x := fun hx => by
    rw [List.getElem?_append_left (lt_of_get hx)]; exact hx
  have hag : Agree h.length m' (canMap h.length ks m') := fun id hid => canMap_old hid
  refine ⟨v0, v', canMap h.length ks m', h ++ Bs, rfl, hrv.vrel (n := 0) hlen r' hv, ?_, ?_, rfl, rfl⟩
  · have key : ∀ {id : Nat} {b : Blk}, (h ++ Bs)[id]? = some b → ∃ id', (h ++ L)[id']? = some b ∧ canMap h.length ks m' id = m' id' ∧
        ((id < h.length ∧ id' = id) ∨ ∃ i k, id = h.length + i ∧ id' = h.length + k ∧ ks[i]? = some k) := by
      intro id b hb
      rcases get_app hb with ⟨h1, h2⟩ | ⟨i, rfl, h2⟩
      · exact ⟨id, up h2, canMap_old h1, .inl ⟨h1, rfl⟩⟩
      · obtain ⟨_, _, k, q1, q2⟩ := hB i b h2
        exact ⟨h.length + k, by rw [get_at]; exact q2, canMap_new q1, .inr ⟨i, k, rfl, rfl, q1⟩⟩
    refine ⟨?_, ?_, ?_, ?_, ?_, ?_, fun gi o hg => ⟨(r'.tab gi o hg).1, fun id b hb ho => by
      obtain ⟨id', h1, h2, _⟩ := key hb
      rw [h2]; exact (r'.tab gi o hg).2 id' b h1 ho⟩⟩
    · intro id b hb hk j v hj
      rcases get_app hb with ⟨h1, h2⟩ | ⟨i, rfl, h2⟩
      · obtain ⟨v', q1, q2, q3⟩ := r'.cell id b (up h2) hk j v hj
        obtain ⟨u, _, p2, _⟩ := r.cell id b h2 hk j v hj
        refine ⟨v', by rw [canMap_old h1]; exact q1, (q2.lower p2).mono (by simp) hag, q3⟩
      · obtain ⟨_, hpl, k, q1, q2⟩ := hB i b h2
        obtain ⟨v', p1, p2, p3⟩ := r'.cell (h.length + k) b (by rw [get_at]; exact q2) hk j v hj
        have hv := hpl v (List.mem_of_getElem? hj)
        refine ⟨v', by rw [canMap_new q1]; exact p1, ?_, p3⟩
        rw [p2.eq_af1 hv]; exact .of_af (by cases v <;> simp_all [af, af1])
    · intro id b hb hk
      obtain ⟨id', h1, h2, _⟩ := key hb
      rw [h2]; exact r'.room id' b h1 hk
    · intro id b hb hk
      obtain ⟨id', h1, h2, _⟩ := key hb
      rw [h2]; exact r'.iter id' b h1 hk
    · intro id b hb hk
      obtain ⟨id', h1, h2, _⟩ := key hb
      rw [h2]; exact r'.live id' b h1 hk
    · intro id id2 b b2 hb hb2 ho hk hne
      obtain ⟨x, h1, h2, h3⟩ := key hb
      obtain ⟨y, g1, g2, g3⟩ := key hb2
      rw [h2, g2]
      refine r'.apart x y b b2 h1 g1 ho hk ?_
      rintro rfl
      rcases h3 with ⟨a1, a2⟩ | ⟨i, k, a1, a2, a3⟩
      · rcases g3 with ⟨c1, c2⟩ | ⟨j, l, c1, c2, c3⟩ <;> omega
      · rcases g3 with ⟨c1, c2⟩ | ⟨j, l, c1, c2, c3⟩
        · omega
        · have : k = l := by omega
          subst this
          have := hnd _ _ _ a3 c3
          omega
    · intro x hx
      have h1 := r.glob x hx
      have h2 := r'.glob x hx
      exact ⟨by simp; omega, by rw [canMap_old h1.1]; exact h2.2⟩
  · refine ⟨fun id hid => (canMap_old hid).trans (g.agree id hid), by simp, g.size, g.io, g.keeps, fun id b hb hk => ?_⟩
    rcases get_app hb with ⟨h1, h2⟩ | ⟨i, rfl, h2⟩
    · rw [canMap_old h1]; exact g.owned id b (up h2) hk
    · obtain ⟨_, _, k, q1, q2⟩ := hB i b h2
      rw [canMap_new q1]; exact g.owned (h.length + k) b (by rw [get_at]; exact q2) hk
end
end Go.Proofs.YtdldekkojjfllaaDoor.Am
namespace Go.Proofs.YtdldekkojjfllaaDoor.Am
open Go
set_option linter.unusedVariables false
set_option linter.unusedSimpArgs false
/-- A slice that is nil, or the whole of a block of one's own. -/
def Own (h : Heap) (v : Value) (e : Nat) (cs : List Value) (n : Nat) : Prop :=
  (v = .slice none 0 0 ∧ n = 0 ∧ cs = []) ∨ ∃ id sp c, v = .slice (some ⟨id, 0, sp⟩) n c ∧ n ≤ c ∧ cs.length = n * e ∧ h[id]? = some ⟨2, e, cs⟩
def mset (h : Heap) (v : Value) (b : Blk) : Heap := match v with | .slice (some a) _ _ => h.set a.block b | _ => h
theorem mset_some (h : Heap) (a : Addr) (l c : Nat) (b : Blk) : mset h (.slice (some a) l c) b = h.set a.block b := rfl
theorem mset_none (h : Heap) (l c : Nat) (b : Blk) : mset h (.slice none l c) b = h := rfl
/-- The block of a slice. -/
def bid : Value → Option Nat
  | .slice (some a) _ _ => some a.block
  | _ => none
section
variable {h : Heap}
theorem Own.at {e n k c : Nat} {sp : Option Nat} {cs : List Value} {L : Heap} (hb : L[k]? = some ⟨2, e, cs⟩) (hl : cs.length = n * e) (hc : n ≤ c) : Own (h ++ L) (.slice (some ⟨h.length + k, 0, sp⟩) n c) e cs n :=
  .inr ⟨_, _, _, rfl, hc, hl, by rw [get_at]; exact hb⟩
theorem Own.nil (e : Nat) : Own h (.slice none 0 0) e [] 0 := .inl ⟨rfl, rfl, rfl⟩
theorem Own.flat {v : Value} {e n : Nat} {cs : List Value} (ho : Own h v e cs n) : Am.flat v = true := by
  rcases ho with ⟨rfl, _⟩ | ⟨_, _, _, rfl, _⟩ <;> rfl
theorem Own.old {v : Value} {e n : Nat} {cs : List Value} (ho : Own h v e cs n) (L : Heap) : Own (h ++ L) v e cs n := by
  rcases ho with h1 | ⟨id, sp, c, h1, h2, h3, h4⟩
  · exact .inl h1
  · exact .inr ⟨id, sp, c, h1, h2, h3, get_old h4⟩
theorem Own.set {v : Value} {e n : Nat} {cs cs' : List Value} (ho : Own h v e cs n) (hl : cs'.length = cs.length) : Own (mset h v ⟨2, e, cs'⟩) v e cs' n := by
  rcases ho with ⟨rfl, rfl, rfl⟩ | ⟨id, sp, c, rfl, h2, h3, h4⟩
  · exact .inl ⟨rfl, rfl, List.length_eq_zero_iff.1 (by simpa using hl)⟩
  · refine .inr ⟨id, sp, c, rfl, h2, by omega, ?_⟩
    simp only [mset]
    rw [List.getElem?_set_self (lt_of_get h4)]
/-- Rows in a block of one's own, read as a slice. -/
theorem Own.sl {v : Value} {e : Nat} {rows : List (List Value)} (ho : Own h v e rows.flatten rows.length) (hr : ∀ r ∈ rows, r.length = e) : Sl h v e rows := by
  rcases ho with ⟨rfl, h1, _⟩ | ⟨id, sp, c, rfl, h2, h3, h4⟩
  · rw [List.length_eq_zero_iff.1 h1]; exact Sl.nil h e
  · exact Sl.of_block h4 (.inr rfl) hr h2
theorem sl_at {e n k c : Nat} {sp : Option Nat} {rows : List (List Value)} {L : Heap} (hb : L[k]? = some ⟨2, e, rows.flatten⟩) (hr : ∀ r ∈ rows, r.length = e) (hn : n = rows.length) (hc : n ≤ c) :
    Sl (h ++ L) (.slice (some ⟨h.length + k, 0, sp⟩) n c) e rows := by
  subst hn
  exact Sl.of_block (id := h.length + k) (k := 2) (by rw [get_at]; exact hb) (.inr rfl) hr hc
/-! ### copies by append -/
theorem loadCs_concat {id o p q : Nat} {x y : List Value} (h1 : loadCs h id o p = some x) (h2 : loadCs h id (o + p) q = some y) : loadCs h id o (p + q) = some (x ++ y) := by
  unfold loadCs at *
  cases hb : h[id]? with
  | none => rw [hb] at h1; simp at h1
  | some b =>
    rw [hb] at h1 h2
    simp only at h1 h2 ⊢
    split at h1
    · rename_i c1
      split at h2
      · rename_i c2
        rw [if_pos ⟨c1.1, by omega⟩]
        cases h1; cases h2
        rw [List.take_add, List.drop_drop]
      · cases h2
    · cases h1
theorem loadCs_rows {id o e : Nat} : ∀ (rows : List (List Value)), (loadCs h id o 0 = some []) → (∀ i r, rows[i]? = some r → loadCs h id (o + i * e) e = some r) → loadCs h id o (rows.length * e) = some rows.flatten := by
  intro rows
  induction rows generalizing o with
  | nil => intro h0 _; simpa using h0
  | cons r rows ih =>
    intro h0 hr
    have h1 := hr 0 r rfl
    rw [Nat.zero_mul, Nat.add_zero] at h1
    have h00 : loadCs h id (o + e) 0 = some [] := by
      unfold loadCs at *
      cases hb : h[id]? with
      | none => rw [hb] at h1; simp at h1
      | some b =>
        rw [hb] at h1
        simp only at h1 ⊢
        split at h1
        · rename_i c1
          rw [if_pos ⟨c1.1, by omega⟩]; simp
        · cases h1
    have h2 := ih (o := o + e) h00 (fun i r' hi => by
      have := hr (i + 1) r' (by simpa using hi)
      rw [show o + e + i * e = o + (i + 1) * e from by rw [Nat.succ_mul]; omega]; exact this)
    have := loadCs_concat h1 h2
    rw [show (r :: rows).length * e = e + rows.length * e from by simp [Nat.succ_mul, Nat.add_comm]]
    simpa using this
theorem Sl.cellsOf {e n c : Nat} {b : Option Addr} {rows : List (List Value)} (hs : Sl h (.slice b n c) e rows) (hn : rows.length = n) (h0 : n ≠ 0) : Am.cellsOf h e n (.slice b n c) = some rows.flatten := by
  obtain ⟨b', c', heq, hc, hrow⟩ := hs
  cases heq
  obtain ⟨a, rfl, hl⟩ := hrow 0 rows[0] (List.getElem?_eq_getElem (by omega))
  simp only [Am.cellsOf]
  have h00 : loadCs h a.block a.off 0 = some [] := by
    unfold loadCs at hl ⊢
    cases hb : h[a.block]? with
    | none => rw [hb] at hl; simp at hl
    | some bk =>
      rw [hb] at hl
      simp only at hl ⊢
      split at hl
      · rename_i c1
        rw [if_pos ⟨c1.1, by omega⟩]; simp
      · cases hl
  refine loadCs_rows rows h00 fun i r hr => ?_
  obtain ⟨a', q1, q2⟩ := hrow i r hr
  cases q1; exact q2
/-! ### what is kept of a result, part by part -/
def RVl (n : Nat) (L : Heap) (ks : List Nat) : List Value → List Value → Prop
  | [], [] => True
  | a :: l, b :: l' => RV n L ks a b ∧ RVl n L ks l l'
  | _, _ => False
theorem RVl.get {n : Nat} {L : Heap} {ks : List Nat} : ∀ {l l' : List Value}, RVl n L ks l l' → l.length = l'.length ∧ ∀ (i : Nat) (h1 : i < l.length) (h2 : i < l'.length), RV n L ks l[i] l'[i]
  | [], [], _ => ⟨rfl, fun i h => by simp at h⟩
  | a :: l, b :: l', h => by
      obtain ⟨h1, h2⟩ := RVl.get h.2
      refine ⟨by simp [h1], fun i q1 q2 => ?_⟩
      cases i with
      | zero => exact h.1
      | succ i => exact h2 i (by simpa using q1) (by simpa using q2)
  | [], _ :: _, h => h.elim
  | _ :: _, [], h => h.elim
theorem RVl.agg {n : Nat} {L : Heap} {ks : List Nat} {l l' : List Value} (h : RVl n L ks l l') : RV n L ks (.agg l.toArray) (.agg l'.toArray) :=
  .agg _ _ (by simpa using h.get.1) fun i h1 h2 => by simpa using h.get.2 i (by simpa using h1) (by simpa using h2)
theorem RVl.tuple {n : Nat} {L : Heap} {ks : List Nat} {l l' : List Value} (h : RVl n L ks l l') : RV n L ks (.tuple l.toArray) (.tuple l'.toArray) :=
  .tuple _ _ (by simpa using h.get.1) fun i h1 h2 => by simpa using h.get.2 i (by simpa using h1) (by simpa using h2)
def BsOk (Bs L : Heap) (ks : List Nat) : Prop := ∀ (i : Nat) (b : Blk), Bs[i]? = some b → b.k = 2 ∧ (∀ x ∈ b.cs, af1 x = true) ∧ ∃ k, ks[i]? = some k ∧ L[k]? = some b
theorem BsOk.nil (L : Heap) (ks : List Nat) : BsOk [] L ks := fun i b h => by simp at h
theorem BsOk.cons {B : Blk} {Bs L : Heap} {ks : List Nat} {k : Nat} (h1 : B.k = 2) (h2 : ∀ x ∈ B.cs, af1 x = true) (h3 : L[k]? = some B) (h : BsOk Bs L ks) : BsOk (B :: Bs) L (k :: ks) := by
  intro i b hi
  cases i with
  | zero => simp at hi; subst hi; exact ⟨h1, h2, k, rfl, h3⟩
  | succ i => simpa using h i b (by simpa using hi)
end
end Go.Proofs.YtdldekkojjfllaaDoor.Am
namespace Go.Proofs.YtdldekkojjfllaaDoor.Am
open Go
set_option linter.unusedVariables false
set_option linter.unusedSimpArgs false
/-- A slice built by appends alone, in the blocks behind n. -/
def App (n : Nat) (L : Heap) (v : Value) (e : Nat) (cs : List Value) (len : Nat) : Prop :=
  (v = .slice none 0 0 ∧ len = 0 ∧ cs = []) ∨ (len ≠ 0 ∧ cs.length = len * e ∧ ∃ k, v = .slice (some ⟨n + k, 0, some 0⟩) len len ∧ L[k]? = some ⟨2, e, cs⟩)
theorem App.nil (n : Nat) (L : Heap) (e : Nat) : App n L (.slice none 0 0) e [] 0 := .inl ⟨rfl, rfl, rfl⟩
theorem App.more {n : Nat} {L : Heap} {v : Value} {e : Nat} {cs : List Value} {len : Nat} (h : App n L v e cs len) (E : Heap) : App n (L ++ E) v e cs len := by
  rcases h with h | ⟨h1, h2, k, h3, h4⟩
  · exact .inl h
  · exact .inr ⟨h1, h2, k, h3, get_old h4⟩
theorem App.flat {n : Nat} {L : Heap} {v : Value} {e : Nat} {cs : List Value} {len : Nat} (h : App n L v e cs len) : Am.flat v = true := by
  rcases h with ⟨rfl, _⟩ | ⟨_, _, k, rfl, _⟩ <;> rfl
theorem App.cons {n : Nat} {L : Heap} {v : Value} {e : Nat} {cs : List Value} {len : Nat} (h : App (n + 1) L v e cs len) (B : Blk) : App n (B :: L) v e cs len := by
  rcases h with h | ⟨h1, h2, k, rfl, h4⟩
  · exact .inl h
  · exact .inr ⟨h1, h2, k + 1, by rw [show n + (k + 1) = n + 1 + k from by omega], by simpa using h4⟩
theorem App.cast {n n' : Nat} {L L' : Heap} {v v' : Value} {e : Nat} {cs cs' : List Value} {len len' : Nat} (h : App n L v e cs len) (h1 : n' = n) (h2 : L' = L) (h3 : v' = v) (h4 : cs' = cs) (h5 : len' = len) : App n' L' v' e cs' len' := by
  subst h1 h2 h3 h4 h5; exact h
section
variable {P : Program} {h2 : Heap}
theorem load_whole {h : Heap} {id e : Nat} {cs : List Value} (hb : h[id]? = some ⟨2, e, cs⟩) {n : Nat} (hn : n = cs.length) : loadCs h id 0 n = some cs := by
  subst hn
  unfold loadCs; simp [hb]
theorem app_step {t e : TypeId} {z : List Value} {b' : Nat} (hs : slT P t = some e) (hz : zcT P e = some z) (hb : byT P e = some b') {L E : Heap} {v : Value} {cs xs : List Value} {len j ix : Nat}
    (hv : App h2.length L v z.length cs len) (hx : E[j]? = some ⟨2, z.length, xs⟩) (hxl : xs.length = z.length) (hix : ix = h2.length + (L.length + j))
    (hle : (len + 1) * b' ≤ 70368744177664) (hl2 : len + 1 ≤ 4611686018427387904) :
    ∃ v' L', apS P (h2 ++ (L ++ E)) t t v (.slice (some ⟨ix, 0, none⟩) 1 1) = some (v', h2 ++ L') ∧ App h2.length L' v' z.length (cs ++ xs) (len + 1) := by
  have hxb : (h2 ++ (L ++ E))[ix]? = some ⟨2, z.length, xs⟩ := by rw [hix, get_at, get_at]; exact hx
  have hnews : Am.cellsOf (h2 ++ (L ++ E)) z.length 1 (.slice (some ⟨ix, 0, none⟩) 1 1) = some xs := by
    simp only [Am.cellsOf]
    exact load_whole hxb (by omega)
  rcases hv with ⟨rfl, rfl, rfl⟩ | ⟨h0, hcl, k, rfl, hk⟩
  · refine ⟨.slice (some ⟨h2.length + (L.length + E.length), 0, some 0⟩) 1 1, L ++ E ++ [⟨2, z.length, xs⟩], ?_, .inr ⟨by omega, by simp [hxl], L.length + E.length, by simp, ?_⟩⟩
    · unfold apS
      simp only [hs, hz, hb, hnews]
      rw [if_pos ⟨Nat.le_refl _, Nat.le_refl _⟩, if_neg (by omega), if_neg (by omega), if_pos ⟨hle, hl2⟩]
      simp [Am.cellsOf, newS]
    · rw [List.getElem?_append_right (by simp)]; simp
  · have hkl := (List.getElem?_eq_some_iff.1 hk).1
    have hkb : (h2 ++ (L ++ E))[h2.length + k]? = some ⟨2, z.length, cs⟩ := by rw [get_at]; exact get_old hk
    have holds : Am.cellsOf (h2 ++ (L ++ E)) z.length len (.slice (some ⟨h2.length + k, 0, some 0⟩) len len) = some cs := by
      simp only [Am.cellsOf]
      exact load_whole hkb (by omega)
    refine ⟨.slice (some ⟨h2.length + (L.length + E.length), 0, some 0⟩) (len + 1) (len + 1), L.set k ⟨0, 0, []⟩ ++ E ++ [⟨2, z.length, cs ++ xs⟩], ?_,
      .inr ⟨by omega, by simp [hcl, hxl, Nat.succ_mul], L.length + E.length, rfl, ?_⟩⟩
    · unfold apS
      simp only [hs, hz, hb, hnews]
      rw [if_pos ⟨Nat.le_refl _, Nat.le_refl _⟩, if_neg (by omega), if_neg (by omega), if_pos ⟨hle, hl2⟩]
      simp only [holds, hkb]
      rw [if_neg (by simp), if_pos (by simp)]
      simp only [newS, set_at, List.set_append_left _ _ hkl, List.length_append, List.length_set, List.append_assoc]
    · rw [List.getElem?_append_right (by simp)]; simp
theorem bsl_one {t e : TypeId} {z : List Value} {x : Value} {h : Heap} (hs : slT P t = some e) (hz : zcT P e = some z) (hl : z.length = 1) (hx : vcs x = some [x]) :
    bsl P t h 1 [(0, x)] = some (.slice (some ⟨h.length, 0, none⟩) 1 1, h ++ [⟨2, z.length, [x]⟩]) := by
  match z, hl with
  | [z0], _ => simp [bsl, hs, hz, fillL, newS, zeros, hx, splice]
end
end Go.Proofs.YtdldekkojjfllaaDoor.Am
namespace Go.Proofs.YtdldekkojjfllaaDoor.Am
open Go
set_option linter.unusedVariables false
set_option linter.unusedSimpArgs false
theorem getC_succ2 (b : Blk) (l : Heap) (a n o : Nat) : getC (b :: l) (a + (n + 1)) o = getC l (a + n) o := getC_succ b l (a + n) o
theorem loadCs_succ2 (b : Blk) (l : Heap) (a n o k : Nat) : loadCs (b :: l) (a + (n + 1)) o k = loadCs l (a + n) o k := loadCs_succ b l (a + n) o k
theorem setCs_succ2 (b : Blk) (l : Heap) (a n o : Nat) (vs : List Value) : setCs (b :: l) (a + (n + 1)) o vs = (setCs l (a + n) o vs).map (b :: ·) := setCs_succ b l (a + n) o vs
theorem getC_succ3 (b : Blk) (l : Heap) (a c n o : Nat) : getC (b :: l) (a + (c + (n + 1))) o = getC l (a + (c + n)) o := getC_succ b l (a + (c + n)) o
theorem loadCs_succ3 (b : Blk) (l : Heap) (a c n o k : Nat) : loadCs (b :: l) (a + (c + (n + 1))) o k = loadCs l (a + (c + n)) o k := loadCs_succ b l (a + (c + n)) o k
theorem setCs_succ3 (b : Blk) (l : Heap) (a c n o : Nat) (vs : List Value) : setCs (b :: l) (a + (c + (n + 1))) o vs = (setCs l (a + (c + n)) o vs).map (b :: ·) := setCs_succ b l (a + (c + n)) o vs
theorem getC_succ4 (b : Blk) (l : Heap) (a c d n o : Nat) : getC (b :: l) (a + (c + (d + (n + 1)))) o = getC l (a + (c + (d + n))) o := getC_succ b l (a + (c + (d + n))) o
theorem loadCs_succ4 (b : Blk) (l : Heap) (a c d n o k : Nat) : loadCs (b :: l) (a + (c + (d + (n + 1)))) o k = loadCs l (a + (c + (d + n))) o k := loadCs_succ b l (a + (c + (d + n))) o k
theorem setCs_succ4 (b : Blk) (l : Heap) (a c d n o : Nat) (vs : List Value) : setCs (b :: l) (a + (c + (d + (n + 1)))) o vs = (setCs l (a + (c + (d + n))) o vs).map (b :: ·) := setCs_succ b l (a + (c + (d + n))) o vs
theorem getC_succ5 (b : Blk) (l : Heap) (a c d f n o : Nat) : getC (b :: l) (a + (c + (d + (f + (n + 1))))) o = getC l (a + (c + (d + (f + n)))) o := getC_succ b l (a + (c + (d + (f + n)))) o
theorem loadCs_succ5 (b : Blk) (l : Heap) (a c d f n o k : Nat) : loadCs (b :: l) (a + (c + (d + (f + (n + 1))))) o k = loadCs l (a + (c + (d + (f + n)))) o k := loadCs_succ b l (a + (c + (d + (f + n)))) o k
theorem setCs_succ5 (b : Blk) (l : Heap) (a c d f n o : Nat) (vs : List Value) : setCs (b :: l) (a + (c + (d + (f + (n + 1))))) o vs = (setCs l (a + (c + (d + (f + n)))) o vs).map (b :: ·) := setCs_succ b l (a + (c + (d + (f + n)))) o vs
theorem getC_succ6 (b : Blk) (l : Heap) (a c d f g n o : Nat) : getC (b :: l) (a + (c + (d + (f + (g + (n + 1)))))) o = getC l (a + (c + (d + (f + (g + n))))) o := getC_succ b l (a + (c + (d + (f + (g + n))))) o
theorem loadCs_succ6 (b : Blk) (l : Heap) (a c d f g n o k : Nat) : loadCs (b :: l) (a + (c + (d + (f + (g + (n + 1)))))) o k = loadCs l (a + (c + (d + (f + (g + n))))) o k := loadCs_succ b l (a + (c + (d + (f + (g + n))))) o k
theorem setCs_succ6 (b : Blk) (l : Heap) (a c d f g n o : Nat) (vs : List Value) : setCs (b :: l) (a + (c + (d + (f + (g + (n + 1)))))) o vs = (setCs l (a + (c + (d + (f + (g + n))))) o vs).map (b :: ·) := setCs_succ b l (a + (c + (d + (f + (g + n))))) o vs
/-- What comes behind a call, with the callee's number. -/
structure HkTag (n : Nat) (p : Prop) : Prop where
  h : p
def killL (h : Heap) (ids : List Nat) : Heap := ids.foldl (fun h id => h.set id ⟨0, 0, []⟩) h
theorem killL_nil (h : Heap) : killL h [] = h := rfl
theorem killL_cons (h : Heap) (id : Nat) (ids : List Nat) : killL h (id :: ids) = killL (h.set id ⟨0, 0, []⟩) ids := rfl
theorem killL_length (ids : List Nat) : ∀ (h : Heap), (killL h ids).length = h.length := by
  induction ids with
  | nil => intro h; rfl
  | cons i ids ih => intro h; rw [killL_cons, ih]; simp
theorem killL_get (ids : List Nat) : ∀ (h : Heap) (id : Nat) (b : Blk), (killL h ids)[id]? = some b → b.k = 0 ∨ h[id]? = some b := by
  induction ids with
  | nil => intro h id b hb; exact .inr hb
  | cons i ids ih =>
    intro h id b hb
    rw [killL_cons] at hb
    rcases ih _ id b hb with h1 | h1
    · exact .inl h1
    · by_cases hi : i = id
      · subst hi
        by_cases hl : i < h.length
        · rw [List.getElem?_set_self hl] at h1; cases h1; exact .inl rfl
        · rw [List.getElem?_eq_none (by simp; omega)] at h1; cases h1
      · rw [List.getElem?_set_ne hi] at h1; exact .inr h1
theorem killL_dead (ids : List Nat) : ∀ (h : Heap) (id : Nat) (b : Blk), id ∈ ids → (killL h ids)[id]? = some b → b.k = 0 := by
  induction ids with
  | nil => intro h id b hi; simp at hi
  | cons i ids ih =>
    intro h id b hi hb
    rw [killL_cons] at hb
    rcases List.mem_cons.1 hi with rfl | hi
    · rcases killL_get ids _ _ _ hb with h1 | h1
      · exact h1
      · by_cases hl : id < h.length
        · rw [List.getElem?_set_self hl] at h1; cases h1; rfl
        · rw [List.getElem?_eq_none (by simp; omega)] at h1; cases h1
    · exact ih _ _ _ hi hb
theorem killL_live (ids : List Nat) : ∀ (h : Heap) (id : Nat), id ∉ ids → (killL h ids)[id]? = h[id]? := by
  induction ids with
  | nil => intro h id _; rfl
  | cons i ids ih =>
    intro h id hi
    rw [killL_cons, ih _ _ (fun q => hi (List.mem_cons_of_mem _ q)), List.getElem?_set_ne (fun q => hi (by rw [q]; exact List.mem_cons_self))]
/-- The blocks that an unordered operation writes. -/
def deadOf (D : List (List Nat)) (ms : List Nat) (n j : Nat) : List Nat := (List.range n).flatMap fun i => if i == j || ordB ms i j then [] else D.getD i []
theorem deadOf_mem {D : List (List Nat)} {ms : List Nat} {n j i id : Nat} (hi : i < n) (hj : i ≠ j) (ho : ordB ms i j = false) (hid : id ∈ D.getD i []) : id ∈ deadOf D ms n j := by
  unfold deadOf
  rw [List.mem_flatMap]
  refine ⟨i, List.mem_range.2 hi, ?_⟩
  have : (i == j || ordB ms i j) = false := by simp [hj, ho]
  rw [this]
  exact hid
def PreOk2 (al : List Bool) (n0 n : Nat) (pre : List (Nat × Nat)) : Prop := PreOk al pre ∧ (∀ (i s e : Nat), pre[i]? = some (s, e) → n0 ≤ s ∧ e ≤ n) ∧ n0 ≤ n
theorem PreOk2.nil (n : Nat) : PreOk2 [] n n [] := ⟨PreOk.nil, fun i s e h => by simp at h, Nat.le_refl _⟩
theorem PreOk2.snoc {al : List Bool} {n0 n n' : Nat} {pre : List (Nat × Nat)} (h : PreOk2 al n0 n pre) {a : Bool} (hn : n ≤ n') (ha : a = false → n = n') : PreOk2 (al ++ [a]) n0 n' (pre ++ [(n, n')]) := by
  refine ⟨h.1.snoc ha, fun i s e hi => ?_, Nat.le_trans h.2.2 hn⟩
  by_cases hl : i < pre.length
  · rw [List.getElem?_append_left hl] at hi
    have := h.2.1 i s e hi
    exact ⟨this.1, Nat.le_trans this.2 hn⟩
  · rw [List.getElem?_append_right (by omega)] at hi
    have := (List.getElem?_eq_some_iff.1 hi).1
    simp at this
    rw [show i - pre.length = 0 by omega] at hi
    simp at hi
    have := h.2.2
    omega
structure XE (n0 : Nat) (P : Program) (G : Glo) (ops : Array Oper) (ms : List Nat) (D : List (List Nat)) (Q : Exit → Tmps → Heap → Prop) (l : List Oper) (j : Nat) (T : Tmps) (h : Heap) (al : List Bool) : Prop where
  ad : ∀ pre, PreOk2 al n0 h.length pre → ADraw P G ops ms D Q l j T h pre
theorem ids_plain {A : Nat → Prop} {x : Value} (h : af1 x = true) : IdsP A x :=
  ((VRel.of_af (n := 0) (m := fun _ => ⟨0, 0, 0, 0⟩) (by cases x <;> simp_all [af, af1] : af x = true)).ids).mono fun id q => absurd q (Nat.not_lt_zero _)
section
variable {n0 : Nat} {P : Program} {G : Glo} {N : Nat} {Q : Exit → Tmps → Heap → Prop} {ops : Array Oper} {ms : List Nat} {D : List (List Nat)} {T : Tmps} {h : Heap} {rest : List Oper} {j : Nat} {al : List Bool}
  {op : Op} {ty : TypeId} {pos : String} {aft : Array Edge} {d : Nat} {v : Value}
theorem xe_reg {id : Nat} {l : List Oper} (hm : P.follows .mixedOrders = true) {ms : List Nat} (hms : ancM l [] = ms) (hok : drawOk G N l.toArray ms = true) (D : List (List Nat))
    (hd : XE h.length P G l.toArray ms D Q l 0 T h []) : AW P G N (.region id l.toArray true) Q T h := by
  subst hms
  exact aw_draw hm D hok (hd.ad [] (PreOk2.nil _))
theorem xe_nil (hq : Q .normal T h) : XE n0 P G ops ms D Q [] j T h al := ⟨fun _ _ => hq⟩
theorem vok_kill {pre : List (Nat × Nat)} {ids : List Nat} {n : Nat} (hp : PreOk al pre) (ho : ordAll ms al j = true) (hids : deadOf D ms n j = ids) : VOk n ms D pre j h (killL h ids) :=
  ⟨killL_length _ _, fun id b hb => killL_get _ _ _ _ hb, fun i s e hi hn id h1 h2 => by have := hp.ord ho i s e hi hn; omega,
    fun i hi hj hn id hid b hb => killL_dead ids _ _ _ (by rw [← hids]; exact deadOf_mem hi hj hn hid) hb⟩
/-- The general step. -/
theorem xe_gen {o : Oper} {h' : Heap} {a : Bool} {ids : List Nat} (ho : ordAll ms al j = true) (hids : deadOf D ms ops.size j = ids) (hw : wantedA ops T o = true) (hle : h.length ≤ h'.length) (ha : a = false → h.length = h'.length)
    (hA : StepA (killL h ids) h h' (D.getD j [])) (hs : AOp P G o T (killL h ids) fun v' h2 => v' = v ∧ StepB (killL h ids) h2 h' (D.getD j []))
    (hk : XE n0 P G ops ms D Q rest (j + 1) (put T o.dst v) h' (al ++ [a])) : XE n0 P G ops ms D Q (o :: rest) j T h al :=
  ⟨fun pre hp => ⟨fun _ => ⟨killL h ids, v, h', vok_kill hp.1 ho hids, hA, .inl fun i s e hi hn => hp.1.ord ho i s e hi hn, hs, hk.ad _ (hp.snoc hle ha)⟩, fun hn => absurd (hw.symm.trans hn) (by simp)⟩⟩
theorem stepA_none {V : Heap} {L : Heap} : StepA V h (h ++ L) [] := ⟨by simp, fun id hid _ => List.getElem?_append_left hid, fun id hid => by simp at hid, fun id hid => by simp at hid⟩
theorem stepB_none {V L : Heap} (hl : V.length = h.length) : StepB V (V ++ L) (h ++ L) [] := by
  refine ⟨by simp [hl], fun id hid _ => List.getElem?_append_left hid, fun id hid => ?_⟩
  rcases hid with hid | hid
  · simp at hid
  · rw [List.getElem?_append_right hid, List.getElem?_append_right (by omega), hl]
/-- An operation that writes nothing. -/
theorem xe_do {ids : List Nat} (hpl : plainOp op = true) (ho : ordAll ms al j = true) (hids : deadOf D ms ops.size j = ids) (hD : D.getD j [] = []) (hs : stp P (killL h ids) (ev T) op = some (v, killL h ids))
    (hk : XE n0 P G ops ms D Q rest (j + 1) (put T (some d) v) h (al ++ [false])) : XE n0 P G ops ms D Q (⟨some d, op, ty, pos, aft, none⟩ :: rest) j T h al := by
  have e0 : h ++ [] = h := List.append_nil h
  have e1 : killL h ids ++ [] = killL h ids := List.append_nil _
  refine xe_gen (h' := h) (a := false) ho hids (wanted_none rfl) (Nat.le_refl _) (fun _ => rfl) ?_ (aop_stp hs ⟨rfl, ?_⟩) hk
  · rw [hD]; have := stepA_none (V := killL h ids) (h := h) (L := []); rw [e0] at this; exact this
  · rw [hD]; have := stepB_none (V := killL h ids) (h := h) (L := []) (killL_length _ _); rw [e0, e1] at this; exact this
/-- A cell that is made while others work. -/
theorem xe_alloc {t : TypeId} {z : List Value} (hz : zcT P t = some z) (hpl : z.all af1 = true) (hD : D.getD j [] = [])
    (hk : XE n0 P G ops ms D Q rest (j + 1) (put T (some d) (.pointer (some ⟨h.length, 0, none⟩))) (h ++ [⟨2, 1, z⟩]) (al ++ [true])) : XE n0 P G ops ms D Q (⟨some d, .alloc t, ty, pos, aft, none⟩ :: rest) j T h al := by
  refine ⟨fun pre hp => ⟨fun _ => ?_, fun hn => absurd ((wanted_none (o := ⟨some d, .alloc t, ty, pos, aft, none⟩) (ops := ops) (T := T) rfl).symm.trans hn) (by simp)⟩⟩
  have hV : (h.map fun _ => (⟨0, 0, []⟩ : Blk)).length = h.length := by simp
  have hdead : ∀ (id : Nat) (b : Blk), (h.map fun _ => (⟨0, 0, []⟩ : Blk))[id]? = some b → b.k = 0 := by
    intro id b hb
    rw [List.getElem?_map] at hb
    cases hq : h[id]? with
    | none => rw [hq] at hb; cases hb
    | some x => rw [hq] at hb; cases hb; rfl
  rw [hD]
  refine ⟨h.map fun _ => ⟨0, 0, []⟩, .pointer (some ⟨h.length, 0, none⟩), h ++ [⟨2, 1, z⟩], ⟨hV, fun id b hb => .inl (hdead id b hb), fun i s e _ _ id _ _ b hb => hdead id b hb, fun i _ _ _ id _ b hb => hdead id b hb⟩,
    stepA_none, .inr fun i s e hi hn => ⟨?_, ?_⟩, ?_, hk.ad _ (hp.snoc (by simp) (fun q => by cases q))⟩
  · refine .ptr _ ?_
    have := (hp.2.1 i s e hi).2
    simp only; omega
  · intro id b hid hb hk x hx
    rcases hid with hid | hid
    · simp at hid
    · rw [List.getElem?_append_right hid] at hb
      have := (List.getElem?_eq_some_iff.1 hb).1
      simp at this
      rw [show id - h.length = 0 by omega] at hb
      simp at hb; subst hb
      exact ids_plain (List.all_eq_true.1 hpl x hx)
  · refine aop_stp (v := .pointer (some ⟨h.length, 0, none⟩)) (h' := (h.map fun _ => (⟨0, 0, []⟩ : Blk)) ++ [⟨2, 1, z⟩]) ?_ ⟨rfl, stepB_none hV⟩
    simp only [stp, hz, Option.map_some, newB, List.length_map]
/-- A write to one block. -/
theorem xe_st {ids : List Nat} {t : TypeId} {x y : Operand} {a : Addr} {h' : Heap} (ho : ordAll ms al j = true) (hids : deadOf D ms ops.size j = ids) (hx : ev T x = .pointer (some a)) (hD : D.getD j [] = [a.block]) (hni : a.block ∉ ids)
    (hs : stp P h (ev T) (.store t x y) = some (v, h')) (hk : XE n0 P G ops ms D Q rest (j + 1) T h' (al ++ [false])) : XE n0 P G ops ms D Q (⟨none, .store t x y, ty, pos, aft, none⟩ :: rest) j T h al := by
  simp only [stp, stv, hx] at hs
  obtain ⟨h2, hs2, he⟩ := map_some hs
  simp only [Prod.mk.injEq] at he
  obtain ⟨rfl, rfl⟩ := he
  split at hs2
  · rename_i _ _ aa l hxe hy
    cases hxe
    split at hs2
    · rename_i hsz
      unfold setCs at hs2
      cases hb : h[a.block]? with
      | none => rw [hb] at hs2; simp at hs2
      | some b =>
        rw [hb] at hs2
        simp only at hs2
        split at hs2
        · rename_i hc
          cases hs2
          have hlt := lt_of_get hb
          have hVb : (killL h ids)[a.block]? = some b := by rw [killL_live _ _ _ hni]; exact hb
          have hstp : stp P (killL h ids) (ev T) (.store t x y) = some (undef, (killL h ids).set a.block ⟨2, b.e, splice b.cs a.off l⟩) := by
            simp only [stp, stv, hx, hy, if_pos hsz]
            unfold setCs
            rw [hVb]
            simp only [if_pos hc, Option.map_some]
          refine xe_gen (v := undef) (h' := h.set a.block ⟨2, b.e, splice b.cs a.off l⟩) (a := false) ho hids (wanted_none rfl) (by simp) (fun _ => by simp) ?_ (aop_stp hstp ⟨rfl, ?_⟩) hk
          · rw [hD]
            refine ⟨by simp, fun id hid hn => ?_, fun id hid => ?_, fun id hid => ?_⟩
            · rw [List.getElem?_set_ne (fun q => hn (by rw [q]; simp))]
            · simp at hid; omega
            · simp at hid; subst hid; exact ⟨b, hVb, by rw [hc.1]; simp⟩
          · rw [hD]
            refine ⟨by simp [killL_length], fun id hid hn => ?_, fun id hid => ?_⟩
            · rw [List.getElem?_set_ne (fun q => hn (by rw [q]; simp))]
            · rcases hid with hid | hid
              · simp at hid; subst hid
                rw [List.getElem?_set_self hlt, List.getElem?_set_self (by rw [killL_length]; exact hlt)]
              · rw [killL_length] at hid
                rw [List.getElem?_eq_none (by simp; omega), List.getElem?_eq_none (by simp [killL_length]; omega)]
        · cases hs2
    · cases hs2
  · cases hs2
section
variable {fo : Operand} {f : FuncId} {fs cs args : Array Value} {as : Array Operand} {ats : Array TypeId}
/-- A call that writes nothing and makes blocks, if any. -/
theorem xe_cl {ids : List Nat} {L : Heap} {a : Bool} (hv : ev T fo = .func (.func f) fs cs) (hc : callOk P f = true) (hargs : fs ++ as.map (ev T) ++ cs = args) (ho : ordAll ms al j = true) (hids : deadOf D ms ops.size j = ids)
    (hD : D.getD j [] = []) (haL : a = false → L = []) (hca : ACalls P G f args (killL h ids) fun v' h' => v' = v ∧ h' = killL h ids ++ L)
    (hk : XE n0 P G ops ms D Q rest (j + 1) (put T (some d) v) (h ++ L) (al ++ [a])) : XE n0 P G ops ms D Q (⟨some d, .call ⟨.value fo, as, ats⟩, ty, pos, aft, none⟩ :: rest) j T h al := by
  have hc2 : ACalls P G f args (killL h ids) fun v' h2 => v' = v ∧ StepB (killL h ids) h2 (h ++ L) (D.getD j []) :=
    hca.mono fun v' h' q => ⟨q.1, by rw [hD, q.2]; exact stepB_none (killL_length _ _)⟩
  exact xe_gen (h' := h ++ L) (a := a) ho hids (wanted_none rfl) (by simp) (fun q => by rw [haL q]; simp) (by rw [hD]; exact stepA_none) (aop_call rfl rfl hv hc (by rw [hargs]; exact hc2)) hk
end
end
end Go.Proofs.YtdldekkojjfllaaDoor.Am
namespace Go.Proofs.YtdldekkojjfllaaDoor.Am
open Go
set_option linter.unusedVariables false
theorem Z0.{u_1} : ∀ {α : Type u_1} {a : α} {i : Nat} {l : List α}, (a :: l)[i + 1]? = l[i]? := @List.getElem?_cons_succ
theorem Z1.{u_1} : ∀ {α : Type u_1} {a : α} {l : List α}, (a :: l)[0]? = some a := @List.getElem?_cons_zero
theorem Z2.{u} : ∀ {α : Type u}, ([] : List α).length = 0 := @List.length_nil
theorem Z3.{u} : ∀ {α : Type u} {a : α} {as : List α}, (a :: as).length = as.length + 1 := @List.length_cons
theorem Z4 : ∀ (n : Nat), n ≤ n := @Nat.le_refl
theorem Z5 : (!false) = true := @Bool.not_false
theorem Z6.{u} : ∀ {α : Type u} {as bs : List α}, (as ++ bs).length = as.length + bs.length := @List.length_append
theorem Z7.{u} : ∀ {α : Type u} (as bs cs : List α), as ++ bs ++ cs = as ++ (bs ++ cs) := @List.append_assoc
theorem Z8 : (!true) = false := @Bool.not_true
theorem Z9.{u_1} : ∀ {α : Type u_1} {x : α} {xs : List α} {a : α}, (x :: xs).set 0 a = a :: xs := @List.set_cons_zero
theorem Za.{u_1} : ∀ {α : Type u_1} {x : α} {xs : List α} {i : Nat} {a : α}, (x :: xs).set (i + 1) a = x :: xs.set i a := @List.set_cons_succ
theorem Zb : ∀ (T : Tmps) (d : Tmp) (v : Value) (t : Nat), put T (some d) v t = if t = d then v else T t := @put_some
theorem Zc.{u} : ∀ {α : Type u} {a : α} {as bs : List α}, a :: as ++ bs = a :: (as ++ bs) := @List.cons_append
theorem Zd.{u} : ∀ {α : Type u} (as : List α), [] ++ as = as := @List.nil_append
theorem Ze.{u} : ∀ {α : Type u} {xs : List α} {i : Nat}, xs.toArray[i]? = xs[i]? := @List.getElem?_toArray
theorem Zf : ∀ (n : Nat), 0 + n = n := @Nat.zero_add
theorem Zg.{u_1} : ∀ {α : Type u_1} {xs : Array α} {i : Nat} {d : α}, xs.getD i d = xs[i]?.getD d := @Array.getD_eq_getD_getElem?
theorem Zh : ∀ (n m k : Nat), n + m + k = n + (m + k) := @Nat.add_assoc
theorem Zi : ∀ (n : Nat), n + 0 = n := @Nat.add_zero
theorem Zj.{u_1, u_2} : ∀ {α : Type u_1} {β : Type u_2} (a : α) (f : α → β), Option.map f (some a) = some (f a) := @Option.map_some
theorem Zk.{u_1} : ∀ {α : Type u_1} {x : α} {xs : List α} {d : α}, (x :: xs).getD 0 d = x := @List.getD_cons_zero
theorem Zl.{u_1} : ∀ {α : Type u_1} {x : α} {xs : List α} {n : Nat} {d : α}, (x :: xs).getD (n + 1) d = xs.getD n d := @List.getD_cons_succ
theorem Zm.{u_1} : ∀ {α : Type u_1} (l₁ l₂ : List α), l₁.toArray ++ l₂.toArray = (l₁ ++ l₂).toArray := @List.append_toArray
theorem Zn : ∀ (n : Nat), (0 : Int) ≤ (n : Int) := @Int.natCast_nonneg
theorem Zo.{u_1} : ∀ {α : Type u_1} {xs : Array α}, #[] ++ xs = xs := @Array.empty_append
theorem Zp.{u_1} : ∀ {α : Type u_1} {xs : Array α}, xs ++ #[] = xs := @Array.append_empty
theorem Zq : ∀ (n : Nat), (n : Int).toNat = n := @Int.toNat_natCast
theorem Zr.{u} : ∀ {α : Type u} {as : List α}, as.toArray.toList = as := @List.toList_toArray
theorem Zs.{u} : ∀ {α : Type u} {a : α} {as : List α} {i : Nat}, List.take (i + 1) (a :: as) = a :: List.take i as := @List.take_succ_cons
theorem Zt.{u} : ∀ {α : Type u} {a : α} {l : List α} {i : Nat}, List.drop (i + 1) (a :: l) = List.drop i l := @List.drop_succ_cons
theorem Zu.{u_1, u_2} : ∀ {α : Type u_1} {β : Type u_2} {f : α → β} {l : List α}, Array.map f l.toArray = (List.map f l).toArray := @List.map_toArray
theorem Zv.{u_1, u_2} : ∀ {α : Type u_1} {β : Type u_2} {as : List α} (f : α → β), (List.map f as).length = as.length := @List.length_map
theorem Zw.{u_1} : ∀ {α : Type u_1} {a : α}, (some a).isSome = true := @Option.isSome_some
theorem Zx.{u} : ∀ {α : Type u} (as : List α), as ++ [] = as := @List.append_nil
theorem Zy.{u} : ∀ {α : Sort u} {a b : α}, (bif false then a else b) = b := @Bool.cond_false
theorem Zz.{u_1, u_2} : ∀ {α : Type u_1} {β : Type u_2} {f : α → β}, Array.map f #[] = #[] := @Array.map_empty
theorem Z10.{u} : ∀ {α : Type u} {as : List α}, as.toArray.size = as.length := @List.size_toArray
theorem Z11 : ∀ (h : Heap) (a : Addr) (l c : Nat) (b : Blk), mset h (Value.slice (some a) l c) b = List.set h a.block b := @mset_some
theorem Z12 : ∀ (h : Heap) (l c : Nat) (b : Blk), mset h (Value.slice none l c) b = h := @mset_none
theorem Z13.{u} : ∀ {α : Sort u} {a b : α}, (bif true then a else b) = a := @Bool.cond_true
theorem Z14.{u_1} : ∀ {α : Type u_1} {a b : α}, (some a).getD b = a := @Option.getD_some
theorem Z15.{u_1, u_2} : ∀ {α : Type u_1} {β : Type u_2} (a : α) (f : α → Option β), (some a).bind f = f a := @Option.bind_some
theorem Z16.{u, v} : ∀ {α : Type u} {β : Type v} {f : α → β} {a : α} {l : List α}, List.map f (a :: l) = f a :: List.map f l := @List.map_cons
theorem Z17 : ∀ (h : Decidable False), decide False = false := @decide_false
theorem Z18.{u} : ∀ {α : Type u} {l : List α}, List.take 0 l = [] := @List.take_zero
theorem Z19.{u} : ∀ {α : Type u} {l : List α}, List.drop 0 l = l := @List.drop_zero
theorem Z1a.{u, v} : ∀ {α : Type u} {β : Type v} {f : α → β}, List.map f [] = [] := @List.map_nil
theorem Z1b : ∀ {P : Program} (xo yo : Operand) (t : TypeId) (s u : ByteArray), binV P BinOp.neq t xo yo (Value.string s) (Value.string u) = some (Value.bool !decide (s = u)) := @binV_str_neq
theorem Z1c : ∀ {P : Program} (xo yo : Operand) (t : TypeId) (s u : ByteArray), binV P BinOp.eql t xo yo (Value.string s) (Value.string u) = some (Value.bool (decide (s = u))) := @binV_str_eql
theorem Z1d : ∀ (b : Bool), (b && true) = b := @Bool.and_true
theorem Z1e : ∀ (b : Bool), (b && b) = b := @Bool.and_self
theorem Z1f.{u_1} : ∀ {α : Type u_1} {a : α} {l : List α} {f : α → Bool}, (a :: l).all f = (f a && l.all f) := @List.all_cons
theorem Z1g : ∀ (h : Decidable True), decide True = true := @decide_true
theorem Z1h : ∀ {h : Heap} (l : Heap) (b : Blk), List.set (h ++ l) (List.length h) b = h ++ List.set l 0 b := @set_at0
theorem Z1i : ∀ (b : Blk) (l : Heap) (a c d f g n o k : Nat), loadCs (b :: l) (a + (c + (d + (f + (g + (n + 1)))))) o k = loadCs l (a + (c + (d + (f + (g + n))))) o k := @loadCs_succ6
theorem Z1j : ∀ (b : Blk) (l : Heap) (a c d f n o k : Nat), loadCs (b :: l) (a + (c + (d + (f + (n + 1))))) o k = loadCs l (a + (c + (d + (f + n)))) o k := @loadCs_succ5
theorem Z1k : ∀ (b : Blk) (l : Heap) (a c d n o k : Nat), loadCs (b :: l) (a + (c + (d + (n + 1)))) o k = loadCs l (a + (c + (d + n))) o k := @loadCs_succ4
theorem Z1l : ∀ (b : Blk) (l : Heap) (a c n o k : Nat), loadCs (b :: l) (a + (c + (n + 1))) o k = loadCs l (a + (c + n)) o k := @loadCs_succ3
theorem Z1m : ∀ (b : Blk) (l : Heap) (a n o k : Nat), loadCs (b :: l) (a + (n + 1)) o k = loadCs l (a + n) o k := @loadCs_succ2
theorem Z1n : ∀ (b : Option Addr), flat (Value.pointer b) = true := @flat_pointer
theorem Z1o : flat Value.nilFunc = true := @flat_nilFunc
theorem Z1p.{u_1} : ∀ {α : Type u_1} {f : α → Bool}, [].all f = true := @List.all_nil
theorem Z1q : ∀ (e o n : Nat) (cs : List Value) (l : Heap), loadCs ({ k := 2, e := e, cs := cs } :: l) 0 o n = if o + n ≤ cs.length then some (List.take n (List.drop o cs)) else none := @loadCs_zero
theorem Z1r : ∀ (b : Blk) (l : Heap) (k o n : Nat), loadCs (b :: l) (k + 1) o n = loadCs l k o n := @loadCs_succ
theorem Z1s : ∀ (b : Blk) (l : Heap) (a c d f g n o : Nat) (vs : List Value), setCs (b :: l) (a + (c + (d + (f + (g + (n + 1)))))) o vs = Option.map (fun (x : List Blk) => b :: x) (setCs l (a + (c + (d + (f + (g + n))))) o vs) := @setCs_succ6
theorem Z1t : ∀ (b : Blk) (l : Heap) (a c d f n o : Nat) (vs : List Value), setCs (b :: l) (a + (c + (d + (f + (n + 1))))) o vs = Option.map (fun (x : List Blk) => b :: x) (setCs l (a + (c + (d + (f + n)))) o vs) := @setCs_succ5
theorem Z1u : ∀ (b : Blk) (l : Heap) (a c d n o : Nat) (vs : List Value), setCs (b :: l) (a + (c + (d + (n + 1)))) o vs = Option.map (fun (x : List Blk) => b :: x) (setCs l (a + (c + (d + n))) o vs) := @setCs_succ4
theorem Z1v : ∀ (b : Blk) (l : Heap) (a c n o : Nat) (vs : List Value), setCs (b :: l) (a + (c + (n + 1))) o vs = Option.map (fun (x : List Blk) => b :: x) (setCs l (a + (c + n)) o vs) := @setCs_succ3
theorem Z1w : ∀ (b : Blk) (l : Heap) (a n o : Nat) (vs : List Value), setCs (b :: l) (a + (n + 1)) o vs = Option.map (fun (x : List Blk) => b :: x) (setCs l (a + n) o vs) := @setCs_succ2
theorem Z1x : ∀ (s : ByteArray), flat (Value.string s) = true := @flat_string
theorem Z1y : ∀ {h : Heap} (l : Heap) (k : Nat) (b : Blk), List.set (h ++ l) (List.length h + k) b = h ++ List.set l k b := @set_at
theorem Z1z : ∀ (l : List Value) (t : Nat), argT l.toArray t = l.getD t undef := @argT_list
theorem Z20 : ∀ {h : Heap} (l : Heap) (o n : Nat), loadCs (h ++ l) (List.length h) o n = loadCs l 0 o n := @loadCs_at0
theorem Z21 : ∀ (e o : Nat) (cs : List Value) (l : Heap) (vs : List Value), setCs ({ k := 2, e := e, cs := cs } :: l) 0 o vs = if o + vs.length ≤ cs.length then some ({ k := 2, e := e, cs := splice cs o vs } :: l) else none := @setCs_zero
theorem Z22 : ∀ (b : Blk) (l : Heap) (k o : Nat) (vs : List Value), setCs (b :: l) (k + 1) o vs = Option.map (fun (x : List Blk) => b :: x) (setCs l k o vs) := @setCs_succ
theorem Z23 : ∀ (h : Heap) (id : Nat) (ids : List Nat), killL h (id :: ids) = killL (List.set h id { k := 0, e := 0, cs := [] }) ids := @killL_cons
theorem Z24 : ∀ (b : Blk) (l : Heap) (a c d f g n o : Nat), getC (b :: l) (a + (c + (d + (f + (g + (n + 1)))))) o = getC l (a + (c + (d + (f + (g + n))))) o := @getC_succ6
theorem Z25 : ∀ (b : Blk) (l : Heap) (a c d f n o : Nat), getC (b :: l) (a + (c + (d + (f + (n + 1))))) o = getC l (a + (c + (d + (f + n)))) o := @getC_succ5
theorem Z26 : ∀ (b : Blk) (l : Heap) (a c d n o : Nat), getC (b :: l) (a + (c + (d + (n + 1)))) o = getC l (a + (c + (d + n))) o := @getC_succ4
theorem Z27 : ∀ (b : Blk) (l : Heap) (a c n o : Nat), getC (b :: l) (a + (c + (n + 1))) o = getC l (a + (c + n)) o := @getC_succ3
theorem Z28 : ∀ (b : Blk) (l : Heap) (a n o : Nat), getC (b :: l) (a + (n + 1)) o = getC l (a + n) o := @getC_succ2
theorem Z29 : ∀ (b : Option Addr) (l c : Nat), flat (Value.slice b l c) = true := @flat_slice
theorem Z2b : ∀ (p : Prop), (p ∧ p) = p := @and_self
theorem Z2c : ∀ (h : Heap), killL h [] = h := @killL_nil
theorem Z2d : ∀ {P : Program} (xo yo : Operand) (t : TypeId) (a b : Int) (k k' : IntKind), 0 ≤ b → binV P BinOp.shr t xo yo (Value.int k a) (Value.int k' b) = some (Value.int k (a.fdiv (2 ^ min b.toNat k.bits))) := @binV_shr
theorem Z2e : ∀ (T : Tmps) (v : Value), put T none v = T := @put_none
theorem Z2f : ∀ {P : Program} (xo yo : Operand) (t : TypeId) (a b : Int) (k : IntKind), binV P BinOp.sub t xo yo (Value.int k a) (Value.int k b) = some (Value.int k (k.wrap (a - b))) := @binV_sub
theorem Z2g : ∀ {P : Program} (xo yo : Operand) (t : TypeId) (a b : Int) (k k' : IntKind), 0 ≤ b → binV P BinOp.shl t xo yo (Value.int k a) (Value.int k' b) = some (Value.int k (k.wrap (a * 2 ^ min b.toNat k.bits))) := @binV_shl
theorem Z2h : ∀ {P : Program} (xo yo : Operand) (t : TypeId) (a b : Int) (k : IntKind), binV P BinOp.neq t xo yo (Value.int k a) (Value.int k b) = some (Value.bool !decide (a = b)) := @binV_neq
theorem Z2i : ∀ {P : Program} (xo yo : Operand) (t : TypeId) (a b : Int) (k : IntKind), binV P BinOp.mul t xo yo (Value.int k a) (Value.int k b) = some (Value.int k (k.wrap (a * b))) := @binV_mul
theorem Z2j : ∀ {P : Program} (xo yo : Operand) (t : TypeId) (a b : Int) (k : IntKind), binV P BinOp.lss t xo yo (Value.int k a) (Value.int k b) = some (Value.bool (decide (a < b))) := @binV_lss
theorem Z2k : ∀ {P : Program} (xo yo : Operand) (t : TypeId) (a b : Int) (k : IntKind), binV P BinOp.leq t xo yo (Value.int k a) (Value.int k b) = some (Value.bool (decide (a ≤ b))) := @binV_leq
theorem Z2l : ∀ {P : Program} (xo yo : Operand) (t : TypeId) (a b : Int) (k : IntKind), binV P BinOp.gtr t xo yo (Value.int k a) (Value.int k b) = some (Value.bool (decide (b < a))) := @binV_gtr
theorem Z2m : ∀ {P : Program} (xo yo : Operand) (t : TypeId) (a b : Int) (k : IntKind), binV P BinOp.geq t xo yo (Value.int k a) (Value.int k b) = some (Value.bool (decide (b ≤ a))) := @binV_geq
theorem Z2n : ∀ {P : Program} (xo yo : Operand) (t : TypeId) (a b : Int) (k : IntKind), binV P BinOp.eql t xo yo (Value.int k a) (Value.int k b) = some (Value.bool (decide (a = b))) := @binV_eql
theorem Z2o : ∀ {P : Program} (xo yo : Operand) (t : TypeId) (a b : Int) (k : IntKind), binV P BinOp.and t xo yo (Value.int k a) (Value.int k b) = some (Value.int k (bits BinOp.and k a b)) := @binV_and
theorem Z2p : ∀ {P : Program} (xo yo : Operand) (t : TypeId) (a b : Int) (k : IntKind), binV P BinOp.add t xo yo (Value.int k a) (Value.int k b) = some (Value.int k (k.wrap (a + b))) := @binV_add
theorem Z2q : ∀ (e o : Nat) (cs : List Value) (l : Heap), getC ({ k := 2, e := e, cs := cs } :: l) 0 o = cs[o]? := @getC_zero
theorem Z2r : ∀ (b : Blk) (l : Heap) (n o : Nat), getC (b :: l) (n + 1) o = getC l n o := @getC_succ
theorem Z2s : ∀ {h : Heap} (l : Heap) (k o n : Nat), loadCs (h ++ l) (List.length h + k) o n = loadCs l k o n := @loadCs_at
theorem Z2t : ∀ {h : Heap} (l : Heap) (o : Nat) (vs : List Value), setCs (h ++ l) (List.length h) o vs = Option.map (fun (x : Heap) => h ++ x) (setCs l 0 o vs) := @setCs_at0
theorem Z2u : ∀ (f : Fn) (a b : Array Value), flat (Value.func f a b) = true := @flat_func
theorem Z2v : ∀ (b : Bool), flat (Value.bool b) = true := @flat_bool
theorem Z2x.{u_1} : ∀ {α : Sort u_1} {x : Decidable True} (t e : α), (if True then t else e) = t := @if_true
theorem Z2y : ∀ {h : Heap} (l : Heap) (o : Nat), getC (h ++ l) (List.length h) o = getC l 0 o := @getC_at0
theorem Z2z : ∀ {h : Heap} (l : Heap) (k o : Nat) (vs : List Value), setCs (h ++ l) (List.length h + k) o vs = Option.map (fun (x : Heap) => h ++ x) (setCs l k o vs) := @setCs_at
theorem Z30 : ∀ (k : IntKind) (n : Int), flat (Value.int k n) = true := @flat_int
theorem Z31 : ∀ {P : Program} (c : Bool), unV P UnOp.not (Value.bool c) = some (Value.bool !c) := @unV_not
theorem Z32 : ∀ {h : Heap} (l : Heap) (k o : Nat), getC (h ++ l) (List.length h + k) o = getC l k o := @getC_at
theorem Z33.{u_1} : ∀ {α : Sort u_1} (a : α), (a = a) = True := @eq_self
theorem Z35 : ∀ (p : Prop), (True ∧ p) = p := @true_and
theorem Z36 : ∀ {P : Program} {G : Glo} {N : Nat} {h : Heap} {f : FuncId} {fn : Func} {c : Code} {args : Array Value} {K : Value → Heap → Prop}, P.funcs[f]? = some fn → fn.body = some c → fn.ntmps = N → args.size ≤ N → ∀ {rs : List ResultVar}, fn.results.toList = rs → AW P G N c (retK P rs K) (argT args) h → ACalls P G f args h K := @acalls_fn
theorem Z37.{u_1} : ∀ {α : Type u_1} {p : α → Prop} {a : α} {l : List α}, (∀ (x : α), x ∈ a :: l → p x) ↔ p a ∧ ∀ (x : α), x ∈ l → p x := @List.forall_mem_cons
theorem Z38.{u_1} : ∀ {α : Type u_1} {a : α}, ¬a ∈ [] := @List.not_mem_nil
theorem Z39 : ∀ (p : Prop), (False → p) = True := @false_implies
theorem ZB : (∀ (T : Tmps) (d : Tmp) (v : Value) (t : Nat), put T (some d) v t = if t = d then v else T t) ∧ (∀ (T : Tmps) (v : Value), put T none v = T) ∧ (∀ (l : List Value) (t : Nat), argT l.toArray t = l.getD t undef) ∧ (∀ {α : Type} {x : α} {xs : List α} {d : α}, (x :: xs).getD 0 d = x) ∧ (∀ {α : Type} {x : α} {xs : List α} {n : Nat} {d : α}, (x :: xs).getD (n + 1) d = xs.getD n d) ∧ (∀ {α : Type} {β : Type} (a : α) (f : α → β), Option.map f (some a) = some (f a)) ∧ (∀ {α : Type} {β : Type} {f : α → β}, Array.map f #[] = #[]) ∧ (∀ {α : Type} {β : Type} {f : α → β} {l : List α}, Array.map f l.toArray = (List.map f l).toArray) ∧ (∀ {α : Type} {β : Type} {f : α → β} {a : α} {l : List α}, List.map f (a :: l) = f a :: List.map f l) ∧ (∀ {α : Type} {β : Type} {f : α → β}, List.map f [] = []) ∧ (∀ {α : Type} (l₁ l₂ : List α), l₁.toArray ++ l₂.toArray = (l₁ ++ l₂).toArray) ∧ (∀ {α : Type} {xs : Array α}, xs ++ #[] = xs) ∧ (∀ {α : Type} {xs : Array α}, #[] ++ xs = xs) ∧ (∀ {α : Type} (as : List α), [] ++ as = as) ∧ (∀ {α : Type} (as : List α), as ++ [] = as) ∧ (∀ (p : Prop), (p ∧ p) = p) ∧ (∀ (h : Decidable True), decide True = true) ∧ (∀ (h : Decidable False), decide False = false) ∧ (∀ (n : Nat), (n : Int).toNat = n) ∧ (∀ (n : Nat), (0 : Int) ≤ (n : Int)) ∧ (∀ {α : Type} {β : Type} {as : List α} (f : α → β), (List.map f as).length = as.length) ∧ (∀ {P : Program} (xo yo : Operand) (t : TypeId) (a b : Int) (k : IntKind), binV P BinOp.add t xo yo (Value.int k a) (Value.int k b) = some (Value.int k (k.wrap (a + b)))) ∧ (∀ {P : Program} (xo yo : Operand) (t : TypeId) (a b : Int) (k : IntKind), binV P BinOp.sub t xo yo (Value.int k a) (Value.int k b) = some (Value.int k (k.wrap (a - b)))) ∧ (∀ {P : Program} (xo yo : Operand) (t : TypeId) (a b : Int) (k : IntKind), binV P BinOp.and t xo yo (Value.int k a) (Value.int k b) = some (Value.int k (bits BinOp.and k a b))) ∧ (∀ {P : Program} (xo yo : Operand) (t : TypeId) (a b : Int) (k k' : IntKind), 0 ≤ b → binV P BinOp.shr t xo yo (Value.int k a) (Value.int k' b) = some (Value.int k (a.fdiv (2 ^ min b.toNat k.bits)))) ∧ (∀ {P : Program} (xo yo : Operand) (t : TypeId) (a b : Int) (k k' : IntKind), 0 ≤ b → binV P BinOp.shl t xo yo (Value.int k a) (Value.int k' b) = some (Value.int k (k.wrap (a * 2 ^ min b.toNat k.bits)))) ∧ (∀ {P : Program} (xo yo : Operand) (t : TypeId) (s u : ByteArray), binV P BinOp.eql t xo yo (Value.string s) (Value.string u) = some (Value.bool (decide (s = u)))) ∧ (∀ {P : Program} (xo yo : Operand) (t : TypeId) (s u : ByteArray), binV P BinOp.neq t xo yo (Value.string s) (Value.string u) = some (Value.bool !decide (s = u))) ∧ (∀ {P : Program} (xo yo : Operand) (t : TypeId) (a b : Int) (k : IntKind), binV P BinOp.mul t xo yo (Value.int k a) (Value.int k b) = some (Value.int k (k.wrap (a * b)))) ∧ (∀ {P : Program} (xo yo : Operand) (t : TypeId) (a b : Int) (k : IntKind), binV P BinOp.eql t xo yo (Value.int k a) (Value.int k b) = some (Value.bool (decide (a = b)))) ∧ (∀ {P : Program} (xo yo : Operand) (t : TypeId) (a b : Int) (k : IntKind), binV P BinOp.neq t xo yo (Value.int k a) (Value.int k b) = some (Value.bool !decide (a = b))) ∧ (∀ {P : Program} (xo yo : Operand) (t : TypeId) (a b : Int) (k : IntKind), binV P BinOp.lss t xo yo (Value.int k a) (Value.int k b) = some (Value.bool (decide (a < b)))) ∧ (∀ {P : Program} (xo yo : Operand) (t : TypeId) (a b : Int) (k : IntKind), binV P BinOp.leq t xo yo (Value.int k a) (Value.int k b) = some (Value.bool (decide (a ≤ b)))) ∧ (∀ {P : Program} (xo yo : Operand) (t : TypeId) (a b : Int) (k : IntKind), binV P BinOp.gtr t xo yo (Value.int k a) (Value.int k b) = some (Value.bool (decide (b < a)))) ∧ (∀ {P : Program} (xo yo : Operand) (t : TypeId) (a b : Int) (k : IntKind), binV P BinOp.geq t xo yo (Value.int k a) (Value.int k b) = some (Value.bool (decide (b ≤ a)))) ∧ (∀ {P : Program} (c : Bool), unV P UnOp.not (Value.bool c) = some (Value.bool !c)) ∧ ((!true) = false) ∧ ((!false) = true) := ⟨Zb, Z2e, Z1z, Zk, Zl, Zj, Zz, Zu, Z16, Z1a, Zm, Zp, Zo, Zd, Zx, Z2b, Z1g, Z17, Zq, Zn, Zv, Z2p, Z2f, Z2o, Z2d, Z2g, Z1c, Z1b, Z2i, Z2n, Z2h, Z2j, Z2k, Z2l, Z2m, Z31, Z8, Z5⟩
theorem ZH : (∀ (n m k : Nat), n + m + k = n + (m + k)) ∧ (∀ {α : Type} {as : List α}, as.toArray.toList = as) ∧ (∀ {α : Type} {β : Type} (a : α) (f : α → Option β), (some a).bind f = f a) ∧ (∀ {α : Type} (as bs cs : List α), as ++ bs ++ cs = as ++ (bs ++ cs)) ∧ (∀ {α : Type} {a : α} {as bs : List α}, a :: as ++ bs = a :: (as ++ bs)) ∧ (∀ {α : Type} {as bs : List α}, (as ++ bs).length = as.length + bs.length) ∧ (∀ {α : Type} {a : α} {as : List α}, (a :: as).length = as.length + 1) ∧ (∀ {α : Type}, ([] : List α).length = 0) ∧ (∀ (n : Nat), 0 + n = n) ∧ (∀ (n : Nat), n + 0 = n) ∧ (∀ (h : Heap) (a : Addr) (l c : Nat) (b : Blk), mset h (Value.slice (some a) l c) b = List.set h a.block b) ∧ (∀ (h : Heap) (l c : Nat) (b : Blk), mset h (Value.slice none l c) b = h) ∧ (∀ {h : Heap} (l : Heap) (k : Nat) (b : Blk), List.set (h ++ l) (List.length h + k) b = h ++ List.set l k b) ∧ (∀ {h : Heap} (l : Heap) (b : Blk), List.set (h ++ l) (List.length h) b = h ++ List.set l 0 b) ∧ (∀ (h : Heap), killL h [] = h) ∧ (∀ (h : Heap) (id : Nat) (ids : List Nat), killL h (id :: ids) = killL (List.set h id { k := 0, e := 0, cs := [] }) ids) ∧ (∀ (b : Blk) (l : Heap) (a n o : Nat), getC (b :: l) (a + (n + 1)) o = getC l (a + n) o) ∧ (∀ (b : Blk) (l : Heap) (a c n o : Nat), getC (b :: l) (a + (c + (n + 1))) o = getC l (a + (c + n)) o) ∧ (∀ (b : Blk) (l : Heap) (a c d n o : Nat), getC (b :: l) (a + (c + (d + (n + 1)))) o = getC l (a + (c + (d + n))) o) ∧ (∀ (b : Blk) (l : Heap) (a c d f n o : Nat), getC (b :: l) (a + (c + (d + (f + (n + 1))))) o = getC l (a + (c + (d + (f + n)))) o) ∧ (∀ (b : Blk) (l : Heap) (a c d f g n o : Nat), getC (b :: l) (a + (c + (d + (f + (g + (n + 1)))))) o = getC l (a + (c + (d + (f + (g + n))))) o) ∧ (∀ (b : Blk) (l : Heap) (a n o k : Nat), loadCs (b :: l) (a + (n + 1)) o k = loadCs l (a + n) o k) ∧ (∀ (b : Blk) (l : Heap) (a c n o k : Nat), loadCs (b :: l) (a + (c + (n + 1))) o k = loadCs l (a + (c + n)) o k) ∧ (∀ (b : Blk) (l : Heap) (a c d n o k : Nat), loadCs (b :: l) (a + (c + (d + (n + 1)))) o k = loadCs l (a + (c + (d + n))) o k) ∧ (∀ (b : Blk) (l : Heap) (a c d f n o k : Nat), loadCs (b :: l) (a + (c + (d + (f + (n + 1))))) o k = loadCs l (a + (c + (d + (f + n)))) o k) ∧ (∀ (b : Blk) (l : Heap) (a c d f g n o k : Nat), loadCs (b :: l) (a + (c + (d + (f + (g + (n + 1)))))) o k = loadCs l (a + (c + (d + (f + (g + n))))) o k) ∧ (∀ (b : Blk) (l : Heap) (a n o : Nat) (vs : List Value), setCs (b :: l) (a + (n + 1)) o vs = Option.map (fun (x : List Blk) => b :: x) (setCs l (a + n) o vs)) ∧ (∀ (b : Blk) (l : Heap) (a c n o : Nat) (vs : List Value), setCs (b :: l) (a + (c + (n + 1))) o vs = Option.map (fun (x : List Blk) => b :: x) (setCs l (a + (c + n)) o vs)) ∧ (∀ (b : Blk) (l : Heap) (a c d n o : Nat) (vs : List Value), setCs (b :: l) (a + (c + (d + (n + 1)))) o vs = Option.map (fun (x : List Blk) => b :: x) (setCs l (a + (c + (d + n))) o vs)) ∧ (∀ (b : Blk) (l : Heap) (a c d f n o : Nat) (vs : List Value), setCs (b :: l) (a + (c + (d + (f + (n + 1))))) o vs = Option.map (fun (x : List Blk) => b :: x) (setCs l (a + (c + (d + (f + n)))) o vs)) ∧ (∀ (b : Blk) (l : Heap) (a c d f g n o : Nat) (vs : List Value), setCs (b :: l) (a + (c + (d + (f + (g + (n + 1)))))) o vs = Option.map (fun (x : List Blk) => b :: x) (setCs l (a + (c + (d + (f + (g + n))))) o vs)) ∧ (∀ {h : Heap} (l : Heap) (k o : Nat), getC (h ++ l) (List.length h + k) o = getC l k o) ∧ (∀ {h : Heap} (l : Heap) (o : Nat), getC (h ++ l) (List.length h) o = getC l 0 o) ∧ (∀ (e o : Nat) (cs : List Value) (l : Heap), getC ({ k := 2, e := e, cs := cs } :: l) 0 o = cs[o]?) ∧ (∀ (b : Blk) (l : Heap) (n o : Nat), getC (b :: l) (n + 1) o = getC l n o) ∧ (∀ {h : Heap} (l : Heap) (k o n : Nat), loadCs (h ++ l) (List.length h + k) o n = loadCs l k o n) ∧ (∀ {h : Heap} (l : Heap) (o n : Nat), loadCs (h ++ l) (List.length h) o n = loadCs l 0 o n) ∧ (∀ (e o n : Nat) (cs : List Value) (l : Heap), loadCs ({ k := 2, e := e, cs := cs } :: l) 0 o n = if o + n ≤ cs.length then some (List.take n (List.drop o cs)) else none) ∧ (∀ (b : Blk) (l : Heap) (k o n : Nat), loadCs (b :: l) (k + 1) o n = loadCs l k o n) ∧ (∀ {h : Heap} (l : Heap) (k o : Nat) (vs : List Value), setCs (h ++ l) (List.length h + k) o vs = Option.map (fun (x : Heap) => h ++ x) (setCs l k o vs)) ∧ (∀ {h : Heap} (l : Heap) (o : Nat) (vs : List Value), setCs (h ++ l) (List.length h) o vs = Option.map (fun (x : Heap) => h ++ x) (setCs l 0 o vs)) ∧ (∀ (e o : Nat) (cs : List Value) (l : Heap) (vs : List Value), setCs ({ k := 2, e := e, cs := cs } :: l) 0 o vs = if o + vs.length ≤ cs.length then some ({ k := 2, e := e, cs := splice cs o vs } :: l) else none) ∧ (∀ (b : Blk) (l : Heap) (k o : Nat) (vs : List Value), setCs (b :: l) (k + 1) o vs = Option.map (fun (x : List Blk) => b :: x) (setCs l k o vs)) ∧ (∀ {α : Type} {x : α} {xs : List α} {i : Nat} {a : α}, (x :: xs).set (i + 1) a = x :: xs.set i a) ∧ (∀ {α : Type} {x : α} {xs : List α} {a : α}, (x :: xs).set 0 a = a :: xs) ∧ (∀ {α : Type} {a : α} {l : List α}, (a :: l)[0]? = some a) ∧ (∀ {α : Type} {a : α} {i : Nat} {l : List α}, (a :: l)[i + 1]? = l[i]?) ∧ (∀ {α : Type} {l : List α}, List.drop 0 l = l) ∧ (∀ {α : Type} {a : α} {l : List α} {i : Nat}, List.drop (i + 1) (a :: l) = List.drop i l) ∧ (∀ {α : Type} {a : α} {as : List α} {i : Nat}, List.take (i + 1) (a :: as) = a :: List.take i as) ∧ (∀ {α : Type} {l : List α}, List.take 0 l = []) ∧ (∀ (k : IntKind) (n : Int), flat (Value.int k n) = true) ∧ (∀ (b : Bool), flat (Value.bool b) = true) ∧ (∀ (s : ByteArray), flat (Value.string s) = true) ∧ (∀ (b : Option Addr) (l c : Nat), flat (Value.slice b l c) = true) ∧ (∀ (b : Option Addr), flat (Value.pointer b) = true) ∧ (∀ (f : Fn) (a b : Array Value), flat (Value.func f a b) = true) ∧ (flat Value.nilFunc = true) ∧ (∀ {α : Type} {a : α} {l : List α} {f : α → Bool}, (a :: l).all f = (f a && l.all f)) ∧ (∀ {α : Type} {f : α → Bool}, [].all f = true) ∧ (∀ (b : Bool), (b && true) = b) ∧ (∀ (b : Bool), (b && b) = b) := ⟨Zh, Zr, Z15, Z7, Zc, Z6, Z3, Z2, Zf, Zi, Z11, Z12, Z1y, Z1h, Z2c, Z23, Z28, Z27, Z26, Z25, Z24, Z1m, Z1l, Z1k, Z1j, Z1i, Z1w, Z1v, Z1u, Z1t, Z1s, Z32, Z2y, Z2q, Z2r, Z2s, Z20, Z1q, Z1r, Z2z, Z2t, Z21, Z22, Za, Z9, Z1, Z0, Z19, Zt, Zs, Z18, Z30, Z2v, Z1x, Z29, Z1n, Z2u, Z1o, Z1f, Z1p, Z1d, Z1e⟩
end Go.Proofs.YtdldekkojjfllaaDoor.Am
namespace Go.Proofs.YtdldekkojjfllaaDoor.Am
open Go
set_option linter.unusedVariables false
set_option linter.unusedSimpArgs false
/-- What a guard decides. -/
structure GW (b : Value) (want : Bool) (yes no : Prop) : Prop where
  h : (b = .bool want ∧ yes) ∨ ((b = .bool (!want) ∨ b = undef) ∧ no)
theorem gw_tt {yes no : Prop} (h : yes) : GW (.bool true) true yes no := ⟨.inl ⟨rfl, h⟩⟩
theorem gw_ff {yes no : Prop} (h : yes) : GW (.bool false) false yes no := ⟨.inl ⟨rfl, h⟩⟩
theorem gw_tf {yes no : Prop} (h : no) : GW (.bool true) false yes no := ⟨.inr ⟨.inl rfl, h⟩⟩
theorem gw_ft {yes no : Prop} (h : no) : GW (.bool false) true yes no := ⟨.inr ⟨.inl rfl, h⟩⟩
theorem gw_un {want : Bool} {yes no : Prop} (h : no) : GW undef want yes no := ⟨.inr ⟨.inr rfl, h⟩⟩
theorem gw_if {b want : Bool} {yes no : Prop} (ht : b = true → GW (.bool true) want yes no) (hf : b = false → GW (.bool false) want yes no) : GW (.bool b) want yes no := by
  cases hq : b with
  | true => exact ht hq
  | false => exact hf hq
/-- What a test decides. -/
structure CW (b : Value) (yes no : Prop) : Prop where
  h : (b = .bool true ∧ yes) ∨ (b = .bool false ∧ no)
theorem cw_t {yes no : Prop} (h : yes) : CW (.bool true) yes no := ⟨.inl ⟨rfl, h⟩⟩
theorem cw_f {yes no : Prop} (h : no) : CW (.bool false) yes no := ⟨.inr ⟨rfl, h⟩⟩
theorem cw_if {b : Bool} {yes no : Prop} (ht : b = true → yes) (hf : b = false → no) : CW (.bool b) yes no := by
  cases hq : b with
  | true => exact ⟨.inl ⟨rfl, ht hq⟩⟩
  | false => exact ⟨.inr ⟨rfl, hf hq⟩⟩
section
variable {P : Program} {G : Glo} {N : Nat} {Q : Exit → Tmps → Heap → Prop} {ops : Array Oper} {ms : List Nat} {D : List (List Nat)} {T : Tmps} {h : Heap} {rest : List Oper} {j n0 : Nat} {al : List Bool}
  {dst : Option Nat} {op : Op} {ty : TypeId} {pos : String} {aft : Array Edge} {g t d : Nat} {want : Bool} {b : Value}
theorem aw_c {c : Operand} {x y : Code} (hok : opnOk G c = true) (hb : ev T c = b) (hk : CW b (AW P G N x Q T h) (AW P G N y Q T h)) : AW P G N (.cond c x y) Q T h := by
  rcases hk.h with ⟨h1, h2⟩ | ⟨h1, h2⟩
  · exact aw_cond hok (hb.trans h1) (fun _ => h2) (fun q => by cases q)
  · exact aw_cond hok (hb.trans h1) (fun q => by cases q) (fun _ => h2)
theorem aop_guard {gd gd' : Option (Nat × Bool)} {K : Value → Heap → Prop} (h1 : AOp P G ⟨dst, op, ty, pos, aft, gd⟩ T h K) : AOp P G ⟨dst, op, ty, pos, aft, gd'⟩ T h K := h1
theorem wanted_g {o : Oper} (hg : o.guard = some (g, want)) (hd : ((ops[g]?).bind (·.dst)) = some t) (hb : ev T (.tmp t) = b) :
    (b = .bool want → wantedA ops T o = true) ∧ ((b = .bool (!want) ∨ b = undef) → wantedA ops T o = false) := by
  refine ⟨fun q => ?_, fun q => ?_⟩
  · rw [wanted_some hg hd (hb.trans q)]; simp
  · rcases q with q | q
    · rw [wanted_some hg hd (hb.trans q)]; cases want <;> rfl
    · unfold wantedA Region.wanted
      rw [hg]
      simp only [yieldedA, hd, Option.map_some]
      have hb2 := hb.trans q
      simp only [ev] at hb2
      rw [hb2]
      rfl
theorem xr_g (hd : ((ops[g]?).bind (·.dst)) = some t) (hb : ev T (.tmp t) = b)
    (hk : GW b want (XR P G ops Q (⟨dst, op, ty, pos, aft, none⟩ :: rest) T h) (XR P G ops Q rest (put T dst undef) h)) : XR P G ops Q (⟨dst, op, ty, pos, aft, some (g, want)⟩ :: rest) T h := by
  obtain ⟨w1, w2⟩ := wanted_g (ops := ops) (o := ⟨dst, op, ty, pos, aft, some (g, want)⟩) rfl hd hb
  rcases hk.h with ⟨h1, h2⟩ | ⟨h1, h2⟩
  · exact ⟨⟨fun _ => aop_guard (h2.ar.1 (wanted_none rfl)), fun q => by rw [w1 h1] at q; cases q⟩⟩
  · exact ⟨⟨fun q => (by rw [w2 h1] at q; cases q), fun _ => h2.ar⟩⟩
theorem xd_g (hd : ((ops[g]?).bind (·.dst)) = some t) (hb : ev T (.tmp t) = b)
    (hk : GW b want (XD P G ops ms Q (⟨dst, op, ty, pos, aft, none⟩ :: rest) j T h al) (XD P G ops ms Q rest (j + 1) (put T dst undef) h (al ++ [false]))) : XD P G ops ms Q (⟨dst, op, ty, pos, aft, some (g, want)⟩ :: rest) j T h al := by
  obtain ⟨w1, w2⟩ := wanted_g (ops := ops) (o := ⟨dst, op, ty, pos, aft, some (g, want)⟩) rfl hd hb
  rcases hk.h with ⟨h1, h2⟩ | ⟨h1, h2⟩
  · refine ⟨fun pre hp => ⟨fun _ => ?_, fun q => by rw [w1 h1] at q; cases q⟩⟩
    obtain ⟨V, v, H', q1, q2, q3, q4, q5⟩ := (h2.ad pre hp).1 (wanted_none rfl)
    exact ⟨V, v, H', q1, q2, q3, aop_guard q4, q5⟩
  · exact ⟨dr_off (w2 h1) h2.ad⟩
end
/-- A call of the function f. -/
def XRC (P : Program) (f : FuncId) : Prop := ∀ {G : Glo} {Q : Exit → Tmps → Heap → Prop} {ops : Array Oper} {T : Tmps} {h : Heap} {rest : List Oper} {ty : TypeId} {pos : String} {aft : Array Edge} {d : Nat} {as : Array Operand} {ats : Array TypeId} {args : Array Value} {K : Value → Heap → Prop}, (#[] ++ as.map (ev T) ++ #[] = args) → ACalls P G f args h K → HkTag f (∀ v h', K v h' → XR P G ops Q rest (put T (some d) v) h') → XR P G ops Q (⟨some d, .call ⟨.value (.func f), as, ats⟩, ty, pos, aft, none⟩ :: rest) T h
theorem xrc {P : Program} {f : FuncId} (hc : callOk P f = true) : XRC P f := by
  intro G Q ops T h rest ty pos aft d as ats args K hargs ha hk
  exact xr_cl rfl hc hargs ha hk.h
def XDC (P : Program) (f : FuncId) : Prop := ∀ {G : Glo} {Q : Exit → Tmps → Heap → Prop} {ops : Array Oper} {T : Tmps} {h : Heap} {rest : List Oper} {ty : TypeId} {pos : String} {aft : Array Edge} {d : Nat} {ms : List Nat} {j : Nat} {al : List Bool} {as : Array Operand} {ats : Array TypeId} {args : Array Value} {v : Value}, (#[] ++ as.map (ev T) ++ #[] = args) → ordAll ms al j = true → (ACalls P G f args h fun v' h' => v' = v ∧ h' = h) → XD P G ops ms Q rest (j + 1) (put T (some d) v) h (al ++ [false]) → XD P G ops ms Q (⟨some d, .call ⟨.value (.func f), as, ats⟩, ty, pos, aft, none⟩ :: rest) j T h al
theorem xdc {P : Program} {f : FuncId} (hc : callOk P f = true) : XDC P f := by
  intro G Q ops T h rest ty pos aft d ms j al as ats args v hargs ho ha hk
  exact xd_cl rfl hc hargs ho ha hk
def XDL (P : Program) (f : FuncId) : Prop := ∀ {G : Glo} {Q : Exit → Tmps → Heap → Prop} {ops : Array Oper} {T : Tmps} {h : Heap} {rest : List Oper} {ty : TypeId} {pos : String} {aft : Array Edge} {d : Nat} {ms : List Nat} {j : Nat} {al : List Bool} {as : Array Operand} {ats : Array TypeId} {args : Array Value} {v : Value} {L : Heap}, (#[] ++ as.map (ev T) ++ #[] = args) → ordAll ms al j = true → (ACalls P G f args h fun v' h' => v' = v ∧ h' = h ++ L) → XD P G ops ms Q rest (j + 1) (put T (some d) v) (h ++ L) (al ++ [true]) → XD P G ops ms Q (⟨some d, .call ⟨.value (.func f), as, ats⟩, ty, pos, aft, none⟩ :: rest) j T h al
theorem xdl {P : Program} {f : FuncId} (hc : callOk P f = true) : XDL P f := by
  intro G Q ops T h rest ty pos aft d ms j al as ats args v L hargs ho ha hk
  exact xd_clnew rfl hc hargs ho ha hk
end Go.Proofs.YtdldekkojjfllaaDoor.Am
namespace Go.Proofs.YtdldekkojjfllaaDoor.Am
open Go Go.RowKit
set_option linter.unusedVariables false
set_option linter.unusedSimpArgs false
def VRs (n : Nat) (m : Map) : List Value → List Value → Prop
  | [], [] => True
  | a :: l, b :: l' => VRel n m a b ∧ VRs n m l l'
  | _, _ => False
theorem VRs.get {n : Nat} {m : Map} : ∀ {l l' : List Value}, VRs n m l l' → l.length = l'.length ∧ ∀ (i : Nat) (h1 : i < l.length) (h2 : i < l'.length), VRel n m l[i] l'[i]
  | [], [], _ => ⟨rfl, fun i h => by simp at h⟩
  | a :: l, b :: l', h => by
      obtain ⟨h1, h2⟩ := VRs.get h.2
      refine ⟨by simp [h1], fun i q1 q2 => ?_⟩
      cases i with
      | zero => exact h.1
      | succ i => exact h2 i (by simpa using q1) (by simpa using q2)
  | [], _ :: _, h => h.elim
  | _ :: _, [], h => h.elim
theorem VRs.agg {n : Nat} {m : Map} {l l' : List Value} (h : VRs n m l l') : VRel n m (.agg l.toArray) (.agg l'.toArray) :=
  .agg _ _ (by simpa using h.get.1) fun i h1 h2 => by simpa using h.get.2 i (by simpa using h1) (by simpa using h2)
section
variable {H : Type} {enc : TypeId × Value → H} {P : Program} {w : World} {base : Nat} {spare : Nat → Bool} {held : Bool}
def NoOwn (h : Heap) : Prop := ∀ (id : Nat) (b : Blk), h[id]? = some b → ¬ b.own
/-- The last of the steps: from a walk of the law to the law's call. -/
theorem law_of {G : Glo} {f : FuncId} {args args' : List Value} {m : Map} {h0 : Heap} {W : World} (hc : ACalls P G f args.toArray h0 fun v _ => v = .bool true)
    (hr : VRs h0.length m args args') (r : WRel G m h0 W) (hno : NoOwn h0) : Calls P f args'.toArray W fun e W' => e = .returned (.bool true) ∧ Go.RowKit.Below W.heap.size W W' :=
  calls_of_acalls hc (by simpa using hr.get.1) (fun i h1 h2 => by simpa using hr.get.2 i (by simpa using h1) (by simpa using h2)) r hno
theorem VRs.mono {n n' : Nat} {m m' : Map} (hn : n ≤ n') (ha : Agree n m m') : ∀ {l l' : List Value}, VRs n m l l' → VRs n' m' l l'
  | [], [], _ => trivial
  | a :: l, b :: l', h => ⟨h.1.mono hn ha, VRs.mono hn ha h.2⟩
  | [], _ :: _, h => h.elim
  | _ :: _, [], h => h.elim
end
end Go.Proofs.YtdldekkojjfllaaDoor.Am
namespace Go.Proofs.YtdldekkojjfllaaDoor.Am
open Go Go.RowKit
set_option linter.unusedVariables false
set_option linter.unusedSimpArgs false
theorem pr_part {P : Program} {t : TypeId} (hi : pureRun P (isAgg t) = some false) (cs : Array Value) (off : Nat) {v : Value} (hv : cs[off]? = some v) : pureRun P (part t cs off) = some v := by
  unfold part
  rw [pureRun_bind, hi]
  simp [hv, pureRun_pure]
theorem pr_int {P : Program} {t : TypeId} {k : IntKind} (hu : P.underlying t = some (.int k)) (n : Nat) (a b : Int) : pureRun P (Op.equalIn (n + 1) t (.int k a) (.int k b)) = some (a == b) := by
  simp [Op.equalIn, pureRun_bind, underlying, program, pureRun, hu, pureRun_pure]
theorem ba_beq (a b : ByteArray) : (a == b) = decide (a = b) := by
  obtain ⟨x⟩ := a
  obtain ⟨y⟩ := b
  have e : ((ByteArray.mk x) == (ByteArray.mk y)) = (x == y) := by rfl
  rw [e, Bool.eq_iff_iff, beq_iff_eq, decide_eq_true_eq]
  simp
theorem pr_str {P : Program} {t : TypeId} (hu : P.underlying t = some .string) (n : Nat) (a b : ByteArray) : pureRun P (Op.equalIn (n + 1) t (.string a) (.string b)) = some (decide (a = b)) := by
  rw [← ba_beq]
  simp [Op.equalIn, pureRun_bind, underlying, program, pureRun, hu]
  rfl
theorem pr_field {P : Program} {d : Nat} {xs ys : Array Value} {f : Field} {fs : List Field} {x y : Value} {r q : Bool} (hn : f.name ≠ "_") (h1 : pureRun P (part f.type xs f.offset) = some x) (h2 : pureRun P (part f.type ys f.offset) = some y)
    (h3 : pureRun P (Op.equalIn d f.type x y) = some r) (h4 : pureRun P (Op.eqFields d xs ys fs) = some q) : pureRun P (Op.eqFields d xs ys (f :: fs)) = some (r && q) := by
  simp only [Op.eqFields, if_pos hn, pureRun_bind, h1, h2, h3, Option.bind_some]
  cases r
  · rfl
  · simpa using h4
theorem agg_cmp {P : Program} {t : TypeId} {fs : Array Field} {xs ys : Array Value} {r : Bool} {xo yo : Operand} (hu : P.underlying t = some (.struct fs)) (hst : Program.stoodInHeld P t = false)
    (hgt : Program.eqGuardType P (Program.depth P) t = false) (haf : (xs.all af1 && ys.all af1) = true) (hf : pureRun P (Op.eqFields (9998 + 1) xs ys fs.toList) = some r) :
    binV P .eql t xo yo (.agg xs) (.agg ys) = some (.bool r) ∧ binV P .neq t xo yo (.agg xs) (.agg ys) = some (.bool (!r)) := by
  have hg1 : pureRun P (eqGuard .eql t xo yo (.agg xs) (.agg ys)) = some () := by
    simp [eqGuard, pureRun_bind, program, pureRun, hgt]
    rfl
  have hg2 : pureRun P (eqGuard .neq t xo yo (.agg xs) (.agg ys)) = some () := by
    simp [eqGuard, pureRun_bind, program, pureRun, hgt]
    rfl
  have hd : Op.maxDepth - 1 = 9998 + 1 := rfl
  constructor
  · simp only [binV, haf, if_true, hu, hst, Bool.false_eq_true, if_false, hg1, hd, hf]
  · simp only [binV, haf, if_true, hu, hst, Bool.false_eq_true, if_false, hg2, hd, hf]
section
variable {H : Type} {enc : TypeId × Value → H} {P : Program} {w : World} {base : Nat} {spare : Nat → Bool} {held : Bool}
theorem open_str {r : Reach} {b0 : Nat} {t : TypeId} {v : Value} {d : DataW H} {ps : List MemPlace} (ht : P.underlying t = some .string) (hval : Value.okWide P w r b0 t v) (hd : DataW.Trod enc P w base spare held t v d ps) :
    ∃ s : ByteArray, v = .string s ∧ s.size ≤ 9223372036854775807 := by
  obtain ⟨fuel, hf⟩ := hd
  obtain ⟨s, h1, h2⟩ := trod_string ht hf
  refine ⟨s, ?_, by unfold maxLen at h2; omega⟩
  unfold Value.okWide at hval
  rw [ht] at hval
  cases v <;> simp [Value.cells] at h1 <;> first | (subst h1; rfl) | skip
  all_goals first | (exact hval.elim) | (obtain ⟨_, q⟩ := hval; cases q) | (simp_all [Cell.okWide, Cell.ok])
theorem part_str {n o : Nat} {t : TypeId} {cs : List Value} (ht : P.underlying t = some .string) (hc : P.cellsOf t = 1)
    (h : ∃ y, DataW.trod enc P w base spare held n t ((cs.drop o).take (P.cellsOf t)) = some y) : ∃ s, cs[o]? = some (.string s) ∧ s.size ≤ maxLen := part_string ht hc h
end
end Go.Proofs.YtdldekkojjfllaaDoor.Am
namespace Go.Proofs.YtdldekkojjfllaaDoor.Am
open Go Go.RowKit
set_option linter.unusedVariables false
set_option linter.unusedSimpArgs false
/-- A world that has only grown holds what it held. -/
theorem WRel.below {G : Glo} {m : Map} {h : Heap} {w w' : World} (r : WRel G m h w) (hb : Below w.heap.size w w') : WRel G m h w' ∧ Grow m h w m h w' := by
  constructor
  · refine ⟨?_, ?_, ?_, ?_, r.apart, r.glob, fun g o hg => ⟨by rw [hb.block _ (heap_lt (r.tab g o hg).1)]; exact (r.tab g o hg).1, (r.tab g o hg).2⟩⟩
    · intro id b hb' hk j v hj
      obtain ⟨v', h1, h2⟩ := r.cell id b hb' hk j v hj
      have hl := r.live id b hb' (by omega)
      exact ⟨v', by rw [hb.cell (p := ⟨(m id).b, (m id).o + j, none⟩) hl]; exact h1, h2⟩
    · intro id b hb' hk
      obtain ⟨h1, h2, h3⟩ := r.room id b hb' hk
      have hl := r.live id b hb' (by omega)
      refine ⟨h1, h2, fun j hj => ?_⟩
      rw [hb.cell (p := ⟨(m id).b, (m id).o + j, none⟩) hl, hb.frozen (p := ⟨(m id).b, (m id).o + j, none⟩) hl]
      exact h3 j hj
    · intro id b hb' hk
      obtain ⟨s, pos, h1, h2, h3⟩ := r.iter id b hb' hk
      exact ⟨s, pos, h1, h2, by rw [hb.block _ (r.live id b hb' (by omega))]; exact h3⟩
    · intro id b hb' hk
      exact Nat.lt_of_lt_of_le (r.live id b hb' hk) hb.size
  · exact ⟨Agree.refl _ _, Nat.le_refl _, hb.size, ⟨hb.os, hb.tape, hb.output⟩, fun q hq _ => hb.block q hq, fun id b hb' ho => .inr ⟨id, b, hb', ho, fun x => x, rfl⟩⟩
/-- A function over plain values, told over worlds. -/
theorem acalls_of_calls {P : Program} {G : Glo} {f : FuncId} {args : Array Value} {h : Heap} {v : Value} (haf : ∀ x ∈ args, af x = true) (hv : ∀ n m, VRel n m v v)
    (hc : ∀ w, Calls P f args w fun e w' => e = .returned v ∧ Below w.heap.size w w') : ACalls P G f args h fun v' h' => v' = v ∧ h' = h := by
  intro m args' w hs hr r
  have he : args' = args := by
    apply Array.ext hs.symm
    intro i h1 h2
    exact (hr i h2 h1).eq_af (haf _ (by simp))
  subst he
  refine (hc w).mono ?_
  rintro e w' ⟨rfl, hb⟩
  obtain ⟨r', g⟩ := r.below hb
  exact ⟨v, v, m, h, rfl, hv _ _, r', g, rfl, rfl⟩
/-- The same, where the package's tables are read. -/
theorem acalls_of_tab {P : Program} {G : Glo} {f : FuncId} {args : Array Value} {h : Heap} {v : Value} (haf : ∀ x ∈ args, af x = true) (hv : ∀ n m, VRel n m v v)
    (hc : ∀ w, (∀ g q, G.tab g = some q → ∃ x, w.heap[g]? = some x ∧ q x) → Calls P f args w fun e w' => e = .returned v ∧ Below w.heap.size w w') : ACalls P G f args h fun v' h' => v' = v ∧ h' = h := by
  intro m args' w hs hr r
  have he : args' = args := by
    apply Array.ext hs.symm
    intro i h1 h2
    exact (hr i h2 h1).eq_af (haf _ (by simp))
  subst he
  refine (hc w fun g q hg => (r.tab g q hg).1).mono ?_
  rintro e w' ⟨rfl, hb⟩
  obtain ⟨r', g⟩ := r.below hb
  exact ⟨v, v, m, h, rfl, hv _ _, r', g, rfl, rfl⟩
end Go.Proofs.YtdldekkojjfllaaDoor.Am
namespace Go.Proofs.YtdldekkojjfllaaDoor.Am
open Go Go.RowKit
set_option linter.unusedVariables false
set_option linter.unusedSimpArgs false
/-- A slice that is nil, or the whole of a block behind n. -/
def Fr (n : Nat) (L : Heap) (v : Value) (e : Nat) (cs : List Value) (len : Nat) : Prop :=
  (v = .slice none 0 0 ∧ len = 0 ∧ cs = []) ∨ (len ≠ 0 ∧ cs.length = len * e ∧ ∃ k sp, (sp = none ∨ sp = some 0) ∧ v = .slice (some ⟨n + k, 0, sp⟩) len len ∧ L[k]? = some ⟨2, e, cs⟩)
theorem Fr.nil (n : Nat) (L : Heap) (e : Nat) : Fr n L (.slice none 0 0) e [] 0 := .inl ⟨rfl, rfl, rfl⟩
theorem Fr.at {n : Nat} {L : Heap} {e len k : Nat} {cs : List Value} {sp : Option Nat} (hb : L[k]? = some ⟨2, e, cs⟩) (hl : cs.length = len * e) (h0 : len ≠ 0) (hs : sp = none ∨ sp = some 0) : Fr n L (.slice (some ⟨n + k, 0, sp⟩) len len) e cs len :=
  .inr ⟨h0, hl, k, sp, hs, rfl, hb⟩
theorem App.fr {n : Nat} {L : Heap} {v : Value} {e : Nat} {cs : List Value} {len : Nat} (h : App n L v e cs len) : Fr n L v e cs len := by
  rcases h with h | ⟨h1, h2, k, h3, h4⟩
  · exact .inl h
  · exact .inr ⟨h1, h2, k, some 0, .inr rfl, h3, h4⟩
theorem Fr.more {n : Nat} {L : Heap} {v : Value} {e : Nat} {cs : List Value} {len : Nat} (h : Fr n L v e cs len) (E : Heap) : Fr n (L ++ E) v e cs len := by
  rcases h with h | ⟨h1, h2, k, sp, h3, h4, h5⟩
  · exact .inl h
  · exact .inr ⟨h1, h2, k, sp, h3, h4, get_old h5⟩
theorem Fr.cons {n : Nat} {L : Heap} {v : Value} {e : Nat} {cs : List Value} {len : Nat} (h : Fr (n + 1) L v e cs len) (B : Blk) : Fr n (B :: L) v e cs len := by
  rcases h with h | ⟨h1, h2, k, sp, h3, rfl, h5⟩
  · exact .inl h
  · exact .inr ⟨h1, h2, k + 1, sp, h3, by rw [show n + (k + 1) = n + 1 + k from by omega], by simpa using h5⟩
theorem Fr.pre {n : Nat} {L : Heap} {v : Value} {e : Nat} {cs : List Value} {len : Nat} (E : Heap) (h : Fr (n + E.length) L v e cs len) : Fr n (E ++ L) v e cs len := by
  rcases h with h | ⟨h1, h2, k, sp, h3, rfl, h5⟩
  · exact .inl h
  · exact .inr ⟨h1, h2, E.length + k, sp, h3, by rw [Nat.add_assoc], by rw [get_at]; exact h5⟩
theorem Fr.flat {n : Nat} {L : Heap} {v : Value} {e : Nat} {cs : List Value} {len : Nat} (h : Fr n L v e cs len) : Am.flat v = true := by
  rcases h with ⟨rfl, _⟩ | ⟨_, _, k, sp, _, rfl, _⟩ <;> rfl
/-- The kept form: its value, its blocks. -/
def cV (n len : Nat) : Value := if len = 0 then .slice none 0 0 else .slice (some ⟨n, 0, some 0⟩) len len
def cL (e : Nat) (cs : List Value) (len : Nat) : Heap := if len = 0 then [] else [⟨2, e, cs⟩]
theorem canon_fr {h L : Heap} {v : Value} {e len : Nat} {cs : List Value} (rest : List Value) (ha : Fr h.length L v e cs len) (hp : ∀ x ∈ cs, af1 x = true) (hr : ∀ x ∈ rest, af1 x = true) :
    ∃ (L' : Heap) (ks : List Nat), h ++ L = h ++ L' ∧ Inj ks ∧ ks.length = (cL e cs len).length ∧ BsOk (cL e cs len) L' ks ∧ RV h.length L' ks (.tuple (cV h.length len :: rest).toArray) (.tuple (v :: rest).toArray) := by
  have plain : ∀ (ks : List Nat) (l : List Value), (∀ x ∈ l, af1 x = true) → RVl h.length L ks l l := by
    intro ks l
    induction l with
    | nil => intro _; trivial
    | cons x l ih => intro hl; exact ⟨.plain _ (hl x (by simp)), ih fun y hy => hl y (by simp [hy])⟩
  rcases ha with ⟨rfl, rfl, rfl⟩ | ⟨h1, h2, k, sp, h3, rfl, h4⟩
  · exact ⟨L, [], rfl, Inj.nil, rfl, BsOk.nil _ _, RVl.tuple (l := _ :: rest) (l' := _ :: rest) ⟨.plain _ rfl, plain _ _ hr⟩⟩
  · simp only [cL, cV, if_neg h1]
    exact ⟨L, [k], rfl, Inj.one k, rfl, BsOk.cons rfl hp h4 (BsOk.nil _ _), RVl.tuple (l := _ :: rest) (l' := _ :: rest) ⟨.sl 0 k _ _ e _ _ rfl h4 h2 (Nat.le_refl _) (by rcases h3 with h3 | h3 <;> simp [h3]), plain _ _ hr⟩⟩
/-- The block of a slice that a world has. -/
theorem VRel.bid_lt {n : Nat} {m : Map} {v v' : Value} {b : Nat} (h : VRel n m v v') (hb : bid v = some b) : b < n := by
  cases h <;> simp [bid] at hb <;> omega
/-- A walk that is to stop ahead of an operation. -/
structure Parked (p : Prop) : Prop where
  h : p
end Go.Proofs.YtdldekkojjfllaaDoor.Am
namespace Go.Proofs.YtdldekkojjfllaaDoor.Am
open Go
set_option linter.unusedVariables false
set_option linter.unusedSimpArgs false
/-- The value under the new names, and as it was: H is the memory behind the call, ks says which of its blocks get new names. -/
inductive RW (n : Nat) (H : Heap) (ks : List Nat) : Value → Value → Prop where
  | plain (v : Value) (h : af1 v = true) : RW n H ks v v
  | old (v : Value) (h : IdsP (fun id => id < n) v) : RW n H ks v v
  | sl (i k l c e : Nat) (sp : Option Nat) (cs : List Value) (hk : ks[i]? = some k) (hb : H[k]? = some ⟨2, e, cs⟩) (hl : cs.length = l * e) (hc : l ≤ c) (hs : (sp = none ∧ c = l) ∨ sp = some 0) :
      RW n H ks (.slice (some ⟨n + i, 0, some 0⟩) l l) (.slice (some ⟨k, 0, sp⟩) l c)
  | agg (cs cs' : Array Value) (hs : cs.size = cs'.size) (h : ∀ (i : Nat) (h : i < cs.size) (h' : i < cs'.size), RW n H ks cs[i] cs'[i]) : RW n H ks (.agg cs) (.agg cs')
  | tuple (cs cs' : Array Value) (hs : cs.size = cs'.size) (h : ∀ (i : Nat) (h : i < cs.size) (h' : i < cs'.size), RW n H ks cs[i] cs'[i]) : RW n H ks (.tuple cs) (.tuple cs')
def keepMap (n : Nat) (ks : List Nat) (m : Map) : Map := fun id => if id < n then m id else match ks[id - n]? with | some k => m k | none => m id
theorem keepMap_old {n : Nat} {ks : List Nat} {m : Map} {id : Nat} (h : id < n) : keepMap n ks m id = m id := by unfold keepMap; rw [if_pos h]
theorem keepMap_new {n : Nat} {ks : List Nat} {m : Map} {i k : Nat} (h : ks[i]? = some k) : keepMap n ks m (n + i) = m k := by
  unfold keepMap; rw [if_neg (by omega), Nat.add_sub_cancel_left, h]
section
variable {P : Program} {G : Glo} {h : Heap}
theorem RW.vrel {n : Nat} {H Bs : Heap} {ks : List Nat} {v0 v : Value} (hr : RW n H ks v0 v) {m : Map} {w : World} {v' : Value} (hlen : ks.length = Bs.length)
    (r : WRel G m H w) (hv : VRel H.length m v v') : VRel (n + Bs.length) (keepMap n ks m) v0 v' := by
  induction hr generalizing v' with
  | plain v ha => rw [hv.eq_af1 ha]; exact .of_af (by cases v <;> simp_all [af, af1])
  | old v ha => exact hv.change (fun id hid => ⟨by omega, keepMap_old hid⟩) ha
  | sl i k l c e sp cs hk hb hl hc hs =>
    have hi : i < Bs.length := by rw [← hlen]; exact (List.getElem?_eq_some_iff.1 hk).1
    have hm := keepMap_new (n := n) (m := m) hk
    obtain ⟨he, hroom, _⟩ := r.room _ _ hb rfl
    cases hv with
    | slice a l c ha hn =>
      rcases hs with ⟨rfl, rfl⟩ | rfl
      · refine .sliceIn _ _ _ _ _ rfl (by simp; omega) (Nat.le_refl _) rfl ?_ (fun _ => ?_) ?_ ?_
        · simp only [place, hm]
        · simp only [place, hm]
        · simp only [place, hm]; omega
        · simp only [place, hm]
          simp only at he hroom
          rw [he, ← hl]; omega
      · simp at ha
    | sliceIn a y l c c' ha hn hcc hy hb2 hp hlo hhi =>
      refine .sliceIn _ _ _ _ _ rfl (by simp; omega) (by omega) hy ?_ (fun q => ?_) ?_ ?_
      · simp only [hm]; exact hb2
      · have := hp (by omega)
        rw [this]; simp only [place, hm]
      · simp only [hm]; exact hlo
      · simp only [hm]; exact hhi
  | agg cs cs' hs _ ih =>
    cases hv with
    | agg _ cs2 hs2 g => exact .agg _ _ (by omega) fun i q1 q2 => ih i q1 (by omega) (g i (by omega) q2)
  | tuple cs cs' hs _ ih =>
    cases hv with
    | tuple _ cs2 hs2 g => exact .tuple _ _ (by omega) fun i q1 q2 => ih i q1 (by omega) (g i (by omega) q2)
/-- What is kept of the old blocks. -/
def OldOk (h H h1 : Heap) (ks : List Nat) : Prop := ∀ (id : Nat) (b : Blk), h1[id]? = some b → b.k = 0 ∨ (H[id]? = some b ∧ id ∉ ks ∧ (h[id]? = some b ∨ ∀ x ∈ b.cs, af1 x = true))
theorem RW.args {n : Nat} {H : Heap} {ks : List Nat} {l l' : List Value} (h : l.length = l'.length ∧ ∀ (i : Nat) (x y : Value), l[i]? = some x → l'[i]? = some y → RW n H ks x y) (i : Nat) (q1 : i < l.toArray.size) (q2 : i < l'.toArray.size) : RW n H ks l.toArray[i] l'.toArray[i] := by
  refine h.2 i _ _ ?_ ?_
  · simp at q1 ⊢
  · simp at q2 ⊢
def RWl (n : Nat) (H : Heap) (ks : List Nat) : List Value → List Value → Prop
  | [], [] => True
  | a :: l, b :: l' => RW n H ks a b ∧ RWl n H ks l l'
  | _, _ => False
theorem RWl.get {n : Nat} {H : Heap} {ks : List Nat} : ∀ {l l' : List Value}, RWl n H ks l l' → l.length = l'.length ∧ ∀ (i : Nat) (x y : Value), l[i]? = some x → l'[i]? = some y → RW n H ks x y
  | [], [], _ => ⟨rfl, fun i x y h => by simp at h⟩
  | a :: l, b :: l', h => by
      obtain ⟨h1, h2⟩ := RWl.get h.2
      refine ⟨by simp [h1], fun i x y q1 q2 => ?_⟩
      cases i with
      | zero => simp at q1 q2; subst q1 q2; exact h.1
      | succ i => exact h2 i x y (by simpa using q1) (by simpa using q2)
  | [], _ :: _, h => h.elim
  | _ :: _, [], h => h.elim
theorem RWl.agg {n : Nat} {H : Heap} {ks : List Nat} {l l' : List Value} (h : RWl n H ks l l') : RW n H ks (.agg l.toArray) (.agg l'.toArray) := .agg _ _ (by simpa using h.get.1) (RW.args h.get)
theorem RWl.tuple {n : Nat} {H : Heap} {ks : List Nat} {l l' : List Value} (h : RWl n H ks l l') : RW n H ks (.tuple l.toArray) (.tuple l'.toArray) := .tuple _ _ (by simpa using h.get.1) (RW.args h.get)
theorem OldOk.same {h1 X : Heap} {ks : List Nat} (hk : ∀ k ∈ ks, h1.length ≤ k) : OldOk h1 (h1 ++ X) h1 ks := fun id b hb => .inr ⟨get_old hb, fun q => by have := hk _ q; have := lt_of_get hb; omega, .inl hb⟩
/-- One block of the old ones is given up. -/
theorem OldOk.kill {h0 L X : Heap} {B B' : Blk} {ks : List Nat} (hk : ∀ k ∈ ks, k = h0.length ∨ h0.length + (L.length + 1) ≤ k) : OldOk (h0 ++ B :: L) (h0 ++ B' :: (L ++ X)) (h0 ++ ⟨0, 0, []⟩ :: L) ks := by
  intro id b hb
  have hlt := lt_of_get hb
  simp only [List.length_append, List.length_cons] at hlt
  rcases Nat.lt_trichotomy id h0.length with q | q | q
  · rw [List.getElem?_append_left q] at hb
    exact .inr ⟨get_old hb, fun r => by rcases hk _ r with r | r <;> omega, .inl (get_old hb)⟩
  · subst q
    simp at hb; subst hb; exact .inl rfl
  · obtain ⟨j, rfl⟩ : ∃ j, id = h0.length + (j + 1) := ⟨id - h0.length - 1, by omega⟩
    rw [get_at, List.getElem?_cons_succ] at hb
    refine .inr ⟨?_, fun r => by rcases hk _ r with r | r <;> omega, .inl ?_⟩
    · rw [get_at, List.getElem?_cons_succ]; exact get_old hb
    · rw [get_at, List.getElem?_cons_succ]; exact hb
end
section
variable {n0 : Nat} {P : Program} {G : Glo} {N : Nat} {Q : Exit → Tmps → Heap → Prop} {ops : Array Oper} {ms : List Nat} {D : List (List Nat)} {T : Tmps} {h : Heap} {rest : List Oper} {j : Nat} {al : List Bool}
  {op : Op} {ty : TypeId} {pos : String} {aft : Array Edge} {d : Nat} {v : Value}
end
/-- A call that leaves the memory as it was, in a region whose order is open. -/
theorem xe_pure {n0 : Nat} {P : Program} {G : Glo} {Q : Exit → Tmps → Heap → Prop} {ops : Array Oper} {ms : List Nat} {D : List (List Nat)} {T : Tmps} {h : Heap} {rest : List Oper} {j : Nat} {al : List Bool} {fo : Operand} {f : FuncId} {fs cs args : Array Value} {xs : Array Operand} {ats : Array TypeId} {d ty : Nat} {pos : String} {aft : Array Edge} {v : Value} {ids : List Nat}
    (hv : ev T fo = .func (.func f) fs cs) (hc : callOk P f = true) (hargs : fs ++ xs.map (ev T) ++ cs = args) (ho : ordAll ms al j = true) (hids : deadOf D ms ops.size j = ids) (hD : D.getD j [] = [])
    (hca : ACalls P G f args (killL h ids) fun v' h' => v' = v ∧ h' = killL h ids) (hk : XE n0 P G ops ms D Q rest (j + 1) (put T (some d) v) h (al ++ [false])) : XE n0 P G ops ms D Q (⟨some d, .call ⟨.value fo, xs, ats⟩, ty, pos, aft, none⟩ :: rest) j T h al :=
  xe_cl (L := []) (a := false) hv hc hargs ho hids hD (fun _ => rfl) (by rw [List.append_nil]; exact hca) (by rw [List.append_nil]; exact hk)
end Go.Proofs.YtdldekkojjfllaaDoor.Am
namespace Go.Proofs.YtdldekkojjfllaaDoor.Am
open Go Go.RowKit
set_option linter.unusedVariables false
set_option linter.unusedSimpArgs false
/-- All live blocks of I lie in h, as they are. -/
def Sub (I h : Heap) : Prop := I.length ≤ h.length ∧ ∀ (id : Nat) (b : Blk), I[id]? = some b → b.k ≠ 0 → h[id]? = some b
/-- None of I's live blocks. -/
def Off (I : Heap) (id : Nat) : Prop := ∀ b : Blk, I[id]? = some b → b.k = 0
theorem Sub.refl (h : Heap) : Sub h h := ⟨Nat.le_refl _, fun _ _ q _ => q⟩
theorem Sub.trans {I J h : Heap} (a : Sub I J) (b : Sub J h) : Sub I h := ⟨Nat.le_trans a.1 b.1, fun id x hx hk => b.2 id x (a.2 id x hx hk) hk⟩
theorem get_old' {h : Heap} {id : Nat} {b : Blk} (hb : h[id]? = some b) (L : Heap) : (h ++ L)[id]? = some b := by rw [List.getElem?_append_left (lt_of_get hb)]; exact hb
theorem Sub.app {I h : Heap} (a : Sub I h) (L : Heap) : Sub I (h ++ L) := ⟨by rw [List.length_append]; have := a.1; omega, fun id b hb hk => get_old' (a.2 id b hb hk) L⟩
theorem Off.ge {I : Heap} {id : Nat} (h : I.length ≤ id) : Off I id := fun b hb => absurd (lt_of_get hb) (by omega)
theorem Sub.set {I h : Heap} (a : Sub I h) {id : Nat} (o : Off I id) (x : Blk) : Sub I (h.set id x) := ⟨by rw [List.length_set]; exact a.1, fun i b hb hk => by
  have hne : id ≠ i := by rintro rfl; exact hk (o b hb)
  rw [List.getElem?_set_ne hne]; exact a.2 i b hb hk⟩
theorem Sub.load {I h : Heap} (s : Sub I h) {id o n : Nat} {r : List Value} (hl : loadCs I id o n = some r) : loadCs h id o n = some r := by
  unfold loadCs at hl ⊢
  cases hb : I[id]? with
  | none => rw [hb] at hl; cases hl
  | some b =>
    rw [hb] at hl; simp only at hl
    split at hl
    · rename_i hk
      rw [s.2 id b hb (by omega)]; simp only; rw [if_pos hk]; exact hl
    · cases hl
theorem Sub.get {I h : Heap} (s : Sub I h) {id o : Nat} {r : Value} (hl : getC I id o = some r) : getC h id o = some r := by
  unfold getC at hl ⊢
  cases hb : I[id]? with
  | none => rw [hb] at hl; cases hl
  | some b =>
    rw [hb] at hl; simp only at hl
    split at hl
    · rename_i hk
      rw [s.2 id b hb (by omega)]; simp only; rw [if_pos hk]; exact hl
    · cases hl
theorem Sl.sub {I h : Heap} {v : Value} {e : Nat} {rows : List (List Value)} (hs : Sl I v e rows) (s : Sub I h) : Sl h v e rows := by
  obtain ⟨b, c, rfl, hc, hr⟩ := hs
  exact ⟨b, c, rfl, hc, fun i r hi => (hr i r hi).imp fun a q => ⟨q.1, s.load q.2⟩⟩
/-- A slice whose elements are told by R. -/
def RS {α : Type} (R : Heap → List Value → α → Prop) (e : Nat) (h : Heap) (v : Value) (l : List α) : Prop :=
  ∃ rows : List (List Value), Sl h v e rows ∧ IdsP (fun id => id < h.length) v ∧ rows.length = l.length ∧ ∀ (i : Nat) (r : List Value) (x : α), rows[i]? = some r → l[i]? = some x → r.length = e ∧ R h r x
/-- Slices among a law's arguments: an empty one may have an odd place. -/
def SlA (h : Heap) (v : Value) (e : Nat) (rows : List (List Value)) : Prop := Sl h v e rows ∨ (v = .chan none ∧ rows = [])
def RSA {α : Type} (R : Heap → List Value → α → Prop) (e : Nat) (h : Heap) (v : Value) (l : List α) : Prop := RS R e h v l ∨ (v = .chan none ∧ l = [])
theorem RS.mono {α : Type} {R R' : Heap → List Value → α → Prop} {e : Nat} {I h : Heap} {v : Value} {l : List α} (hs : RS R e I v l) (s : Sub I h) (hm : ∀ r x, R I r x → R' h r x) : RS R' e h v l := by
  obtain ⟨rows, q1, q0, q2, q3⟩ := hs
  exact ⟨rows, q1.sub s, q0.mono fun id hid => Nat.lt_of_lt_of_le hid s.1, q2, fun i r x hr hx => ⟨(q3 i r x hr hx).1, hm r x (q3 i r x hr hx).2⟩⟩
theorem RSA.mono {α : Type} {R R' : Heap → List Value → α → Prop} {e : Nat} {I h : Heap} {v : Value} {l : List α} (hs : RSA R e I v l) (s : Sub I h) (hm : ∀ r x, R I r x → R' h r x) : RSA R' e h v l :=
  hs.imp (fun q => q.mono s hm) id
theorem SlA.sub {I h : Heap} {v : Value} {e : Nat} {rows : List (List Value)} (hs : SlA I v e rows) (s : Sub I h) : SlA h v e rows := hs.imp (fun q => q.sub s) id
theorem RS.nil {α : Type} (R : Heap → List Value → α → Prop) (e : Nat) (h : Heap) : RS R e h (.slice none 0 0) ([] : List α) := ⟨[], Sl.nil h e, .sliceNone 0 0, rfl, fun i r x hr => by simp at hr⟩
theorem RS.flat {α : Type} {R : Heap → List Value → α → Prop} {e : Nat} {h : Heap} {v : Value} {l : List α} (hs : RS R e h v l) : Am.flat v = true := by obtain ⟨rows, q, _⟩ := hs; exact q.flat
theorem RSA.flat {α : Type} {R : Heap → List Value → α → Prop} {e : Nat} {h : Heap} {v : Value} {l : List α} (hs : RSA R e h v l) : Am.flat v = true := by
  rcases hs with q | ⟨rfl, _⟩
  · exact q.flat
  · rfl
theorem RS.ids {α : Type} {R : Heap → List Value → α → Prop} {e : Nat} {h : Heap} {v : Value} {l : List α} (hs : RS R e h v l) : IdsP (fun id => id < h.length) v := by obtain ⟨_, _, q, _⟩ := hs; exact q
section
variable {H : Type} {enc : TypeId × Value → H} {P : Program} {w : World} {held : Bool} {G : Glo}
end
end Go.Proofs.YtdldekkojjfllaaDoor.Am
namespace Go.Proofs.YtdldekkojjfllaaDoor.Am
open Go
set_option linter.unusedVariables false
set_option linter.unusedSimpArgs false
structure XQ (P : Program) (G : Glo) (ops : Array Oper) (ms : List Nat) (D : List (List Nat)) (Q : Exit → Tmps → Heap → Prop) (l : List Oper) (j : Nat) (T : Tmps) (h : Heap) (pre : List (Nat × Nat)) : Prop where
  ad : ADraw P G ops ms D Q l j T h pre
section
variable {P : Program} {G : Glo} {N : Nat} {Q : Exit → Tmps → Heap → Prop} {ops : Array Oper} {ms : List Nat} {D : List (List Nat)} {T : Tmps} {h : Heap} {rest : List Oper} {j : Nat} {pre : List (Nat × Nat)}
  {op : Op} {ty : TypeId} {pos : String} {aft : Array Edge} {d : Nat} {v : Value}
end
end Go.Proofs.YtdldekkojjfllaaDoor.Am
namespace Go.Proofs.YtdldekkojjfllaaDoor.Am
open Go
set_option linter.unusedVariables false
set_option linter.unusedSimpArgs false
section
variable {n0 : Nat} {P : Program} {G : Glo} {N : Nat} {Q : Exit → Tmps → Heap → Prop} {ops : Array Oper} {ms : List Nat} {D : List (List Nat)} {T : Tmps} {h : Heap} {rest : List Oper} {j : Nat} {al : List Bool}
  {op : Op} {ty : TypeId} {pos : String} {aft : Array Edge} {d : Nat} {v : Value}
end
def bidL (v : Value) : List Nat := (bid v).toList
theorem Sub.kill {I M : Heap} (s : Sub I M) {ids : List Nat} (o : ∀ id ∈ ids, Off I id) : Sub I (killL M ids) :=
  ⟨by rw [killL_length]; exact s.1, fun id b hb hk => by
    rw [killL_live _ _ _ (fun q => hk (o id q b hb))]; exact s.2 id b hb hk⟩
theorem Off.killL {M : Heap} {ids : List Nat} {id : Nat} (hi : id ∈ ids) : Off (killL M ids) id := fun b hb => killL_dead ids M id b hi hb
/-- A slice built by appends behind h2, its elements told by R in a memory of live blocks that has none of off. -/
def NS {α : Type} (R : Heap → List Value → α → Prop) (e : Nat) (h2 L : Heap) (off : List Nat) (v : Value) (l : List α) : Prop :=
  ∃ (rows : List (List Value)) (J : Heap), rows.length = l.length ∧ App h2.length L v e rows.flatten rows.length ∧ Sub J (h2 ++ L) ∧ (∀ id ∈ off ++ bidL v, Off J id) ∧
    ∀ (i : Nat) (r : List Value) (x : α), rows[i]? = some r → l[i]? = some x → r.length = e ∧ R J r x
variable {α : Type} {R : Heap → List Value → α → Prop} {e : Nat} {h2 L : Heap} {off : List Nat} {v : Value} {l : List α}
theorem NS.nil (R : Heap → List Value → α → Prop) (e : Nat) (h2 L : Heap) (off : List Nat) : NS R e h2 L off (.slice none 0 0) ([] : List α) :=
  ⟨[], [], rfl, App.nil _ _ _, ⟨by simp, fun id b hb => by simp at hb⟩, fun id _ => Off.ge (by simp), fun i r x hr => by simp at hr⟩
theorem NS.app (h : NS R e h2 L off v l) : ∃ rows : List (List Value), rows.length = l.length ∧ App h2.length L v e rows.flatten rows.length := by
  obtain ⟨rows, J, q1, q2, _⟩ := h; exact ⟨rows, q1, q2⟩
theorem NS.flat (h : NS R e h2 L off v l) : Am.flat v = true := by obtain ⟨rows, q1, q2⟩ := h.app; exact q2.flat
theorem NS.more (h : NS R e h2 L off v l) (X : Heap) : NS R e h2 (L ++ X) off v l := by
  obtain ⟨rows, J, q1, q2, q3, q4, q5⟩ := h
  exact ⟨rows, J, q1, q2.more X, by rw [← List.append_assoc]; exact q3.app X, q4, q5⟩
theorem NS.len (h : NS R e h2 L off v l) : ∃ b : Option Addr, v = .slice b l.length l.length := by
  obtain ⟨rows, q1, q2⟩ := h.app
  rcases q2 with ⟨rfl, h0, _⟩ | ⟨_, _, k, rfl, _⟩
  · exact ⟨none, by rw [← q1, h0]⟩
  · exact ⟨_, by rw [← q1]⟩
theorem NS.bid_lt (h : NS R e h2 L off v l) {id : Nat} (hb : bid v = some id) : h2.length ≤ id ∧ id < h2.length + L.length := by
  obtain ⟨rows, q1, q2⟩ := h.app
  rcases q2 with ⟨rfl, _⟩ | ⟨_, _, k, rfl, hk⟩
  · simp [bid] at hb
  · simp only [bid, Option.some.injEq] at hb
    have := lt_of_get hk
    omega
theorem NS.rs (h : NS R e h2 L off v l) (hmono : ∀ I h r x, R I r x → Sub I h → R h r x) : RS R e (h2 ++ L) v l := by
  have hbl := fun id hb => (h.bid_lt (id := id) hb).2
  obtain ⟨rows, J, q1, q2, q3, q4, q5⟩ := h
  refine ⟨rows, ?_, ?_, q1, fun i r x hr hx => ⟨(q5 i r x hr hx).1, hmono _ _ _ _ (q5 i r x hr hx).2 q3⟩⟩
  · rcases q2 with ⟨rfl, h0, _⟩ | ⟨_, hcl, k, rfl, hk⟩
    · obtain rfl := List.length_eq_zero_iff.1 h0
      exact Sl.nil _ _
    · refine sl_at hk (fun r hr => ?_) rfl (Nat.le_refl _)
      obtain ⟨i, hi, rfl⟩ := List.mem_iff_getElem.1 hr
      exact (q5 i _ _ (List.getElem?_eq_getElem hi) (List.getElem?_eq_getElem (by omega))).1
  · rcases q2 with ⟨rfl, _⟩ | ⟨_, _, k, rfl, hk⟩
    · exact .sliceNone _ _
    · exact .slice _ _ _ (by rw [List.length_append]; exact hbl _ rfl)
end Go.Proofs.YtdldekkojjfllaaDoor.Am
