/- A law's slices, opened one behind the other; its arguments as values of the abstract memory. Conditions: none. -/
import Derived.Test.YtiddnhhjlipebaaAmOpen
namespace Go.Proofs.Ytiddnhhjlipebaa.Am
open Go Go.RowKit
set_option linter.unusedVariables false
set_option linter.unusedSimpArgs false

def VRs (n : Nat) (m : Map) : List Value → List Value → Prop
  | [], [] => True
  | a :: l, b :: l' => VRel n m a b ∧ VRs n m l l'
  | _, _ => False

theorem VRs.get {n : Nat} {m : Map} : ∀ {l l' : List Value}, VRs n m l l' → l.length = l'.length ∧ ∀ (i : Nat) (h1 : i < l.length) (h2 : i < l'.length), VRel n m l[i] l'[i]
  | [], [], _ => ⟨rfl, fun i h => by simp at h⟩
  | a :: l, b :: l', h => by
      obtain ⟨h1, h2⟩ := VRs.get h.2
      refine ⟨by simp [h1], fun i q1 q2 => ?_⟩
      cases i with
      | zero => exact h.1
      | succ i => exact h2 i (by simpa using q1) (by simpa using q2)
  | [], _ :: _, h => h.elim
  | _ :: _, [], h => h.elim

theorem VRs.agg {n : Nat} {m : Map} {l l' : List Value} (h : VRs n m l l') : VRel n m (.agg l.toArray) (.agg l'.toArray) :=
  .agg _ _ (by simpa using h.get.1) fun i h1 h2 => by simpa using h.get.2 i (by simpa using h1) (by simpa using h2)

section
variable {H : Type} {enc : TypeId × Value → H} {P : Program} {w : World} {base : Nat} {spare : Nat → Bool} {held : Bool}

theorem okWide_cell {r : Reach} {b0 : Nat} {t u : TypeId} {fs : Array Field} {cs : List Value} {v : Value} {ts : List TypeId} {i : Nat} (ht : P.underlying t = some (.struct fs))
    (h : Value.okWide P w r b0 t (.agg cs.toArray)) (hts : P.cellTypes P.depth t = some ts) (hi : ts[i]? = some u) (hv : cs[i]? = some v) : Cell.okWide P w r b0 u v := by
  unfold Value.okWide at h
  rw [ht] at h
  obtain ⟨cs', h1, _, ts', h2, _, h3⟩ := h
  cases h1
  rw [hts] at h2
  cases h2
  obtain ⟨u', q1, q2⟩ := h3 i v (by simpa using hv)
  have hlt := (List.getElem?_eq_some_iff.1 hi).1
  rw [Nat.mod_eq_of_lt hlt, hi] at q1
  cases q1
  exact q2

theorem cell_slice {r : Reach} {b0 : Nat} {t e : TypeId} {v : Value} (ht : P.underlying t = some (.slice e)) (h : Cell.okWide P w r b0 t v) : Cell.ok P w r b0 t v := by
  unfold Cell.okWide at h
  rw [ht] at h
  revert h
  split <;> rename_i h1 h2 <;> simp_all

theorem value_slice {r : Reach} {b0 : Nat} {t e : TypeId} {v : Value} (ht : P.underlying t = some (.slice e)) (h : Value.okWide P w r b0 t v) : Cell.ok P w r b0 t v := by
  unfold Value.okWide at h
  rw [ht] at h
  exact cell_slice ht h

def NoOwn (h : Heap) : Prop := ∀ (id : Nat) (b : Blk), h[id]? = some b → ¬ b.own

/-- A slice that has been opened joins the abstract memory. -/
theorem open_arg {α : Type} {G : Glo} {m : Map} {h : Heap} {w : World} {v : Value} (f : α → List Value) (wf : α → Prop) {n : Nat} (hf : ∀ x, (f x).length = n ∧ ∀ u ∈ f x, af u = true ∧ flat u = true)
    (r : WRel G m h w) (hno : NoOwn h)
    (ho : v = .slice none 0 0 ∨ ∃ (a : Addr) (cap : Nat) (l : List α), v = .slice (some a) l.length cap ∧ a.spot = none ∧ l.length ≤ cap ∧ cap ≤ maxLen ∧ a.block < w.heap.size ∧ (∀ x ∈ l, wf x) ∧
      ∀ i x, l[i]? = some x → ∀ j u, (f x)[j]? = some u → w.cell? ⟨a.block, a.off + (i * n + j), none⟩ = some u) :
    ∃ (l : List α) (m' : Map) (h' : Heap) (v' : Value), WRel G m' (h ++ h') w ∧ NoOwn (h ++ h') ∧ Agree h.length m m' ∧ Sl (h ++ h') v' n (l.map f) ∧ VRel (h ++ h').length m' v' v ∧ (∀ x ∈ l, wf x) ∧ l.length ≤ maxLen := by
  rcases ho with rfl | ⟨a, cap, l, rfl, hs, hl, hc, hb, hw, hg⟩
  · exact ⟨[], m, [], .slice none 0 0, by simpa using r, by simpa using hno, Agree.refl _ _, by simpa using Sl.nil h n, .sliceNone 0 0, by simp, by simp⟩
  · obtain ⟨r', hno'⟩ := wrel_open r hno f hf hb hg
    refine ⟨l, _, _, .slice (some ⟨h.length, 0, none⟩) l.length cap, r', hno', Map.agree_put _ _ _, ?_, ?_, hw, by omega⟩
    · have := Sl.of_block (h := h ++ [⟨1, n, (l.map f).flatten⟩]) (id := h.length) (k := 1) (e := n) (c := cap) (sp := none) (rows := l.map f) (by simp) (.inl rfl)
        (fun r hr => by obtain ⟨x, _, rfl⟩ := List.mem_map.1 hr; exact (hf x).1) (by simpa using hl)
      simpa using this
    · have := VRel.slice (n := (h ++ [(⟨1, n, (l.map f).flatten⟩ : Blk)]).length) (m := m.put h.length ⟨a.block, a.off, n, 0⟩) ⟨h.length, 0, none⟩ l.length cap rfl (by simp)
      unfold place at this
      simp only [Map.put_same] at this
      have e : a = ⟨a.block, a.off + 0, none⟩ := by
        obtain ⟨b, o, s⟩ := a; simp only at hs; subst hs; rfl
      rw [e]; exact this

/-- The last of the steps: from a walk of the law to the law's call. -/
theorem law_of {G : Glo} {f : FuncId} {args args' : List Value} {m : Map} {h0 : Heap} {W : World} (hc : ACalls P G f args.toArray h0 fun v _ => v = .bool true)
    (hr : VRs h0.length m args args') (r : WRel G m h0 W) (hno : NoOwn h0) : Calls P f args'.toArray W fun e W' => e = .returned (.bool true) ∧ Go.RowKit.Below W.heap.size W W' :=
  calls_of_acalls hc (by simpa using hr.get.1) (fun i h1 h2 => by simpa using hr.get.2 i (by simpa using h1) (by simpa using h2)) r hno

theorem VRs.mono {n n' : Nat} {m m' : Map} (hn : n ≤ n') (ha : Agree n m m') : ∀ {l l' : List Value}, VRs n m l l' → VRs n' m' l l'
  | [], [], _ => trivial
  | a :: l, b :: l', h => ⟨h.1.mono hn ha, VRs.mono hn ha h.2⟩
  | [], _ :: _, h => h.elim
  | _ :: _, [], h => h.elim

/-- Elements that are whole numbers. -/
theorem el_int {e : TypeId} {k : IntKind} (he : P.underlying e = some (.int k)) (fuel : Nat) (cs : List Value) (y : DataW H × List MemPlace) (h : DataW.trod enc P w 0 spare held fuel e cs = some y) :
    ∃ z : Int, cs = [.int k z] ∧ (Lit.int k z).wf = true := trod_int he h
end
end Go.Proofs.Ytiddnhhjlipebaa.Am
