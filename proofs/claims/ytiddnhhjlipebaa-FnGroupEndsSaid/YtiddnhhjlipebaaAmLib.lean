/- From contracts told over worlds to contracts over the abstract memory. Conditions: none. -/
import Derived.Test.YtiddnhhjlipebaaAmEq
namespace Go.Proofs.Ytiddnhhjlipebaa.Am
open Go Go.RowKit
set_option linter.unusedVariables false
set_option linter.unusedSimpArgs false

/-- A world that has only grown holds what it held. -/
theorem WRel.below {G : Glo} {m : Map} {h : Heap} {w w' : World} (r : WRel G m h w) (hb : Below w.heap.size w w') : WRel G m h w' ∧ Grow m h w m h w' := by
  constructor
  · refine ⟨?_, ?_, ?_, ?_, r.apart, r.glob, fun g o hg => ⟨by rw [hb.block _ (heap_lt (r.tab g o hg).1)]; exact (r.tab g o hg).1, (r.tab g o hg).2⟩⟩
    · intro id b hb' hk j v hj
      obtain ⟨v', h1, h2⟩ := r.cell id b hb' hk j v hj
      have hl := r.live id b hb' (by omega)
      exact ⟨v', by rw [hb.cell (p := ⟨(m id).b, (m id).o + j, none⟩) hl]; exact h1, h2⟩
    · intro id b hb' hk
      obtain ⟨h1, h2, h3⟩ := r.room id b hb' hk
      have hl := r.live id b hb' (by omega)
      refine ⟨h1, h2, fun j hj => ?_⟩
      rw [hb.cell (p := ⟨(m id).b, (m id).o + j, none⟩) hl, hb.frozen (p := ⟨(m id).b, (m id).o + j, none⟩) hl]
      exact h3 j hj
    · intro id b hb' hk
      obtain ⟨s, pos, h1, h2, h3⟩ := r.iter id b hb' hk
      exact ⟨s, pos, h1, h2, by rw [hb.block _ (r.live id b hb' (by omega))]; exact h3⟩
    · intro id b hb' hk
      exact Nat.lt_of_lt_of_le (r.live id b hb' hk) hb.size
  · exact ⟨Agree.refl _ _, Nat.le_refl _, hb.size, ⟨hb.os, hb.tape, hb.output⟩, fun q hq _ => hb.block q hq, fun id b hb' ho => .inr ⟨id, b, hb', ho, fun x => x, rfl⟩⟩

/-- A function over plain values, told over worlds. -/
theorem acalls_of_calls {P : Program} {G : Glo} {f : FuncId} {args : Array Value} {h : Heap} {v : Value} (haf : ∀ x ∈ args, af x = true) (hv : ∀ n m, VRel n m v v)
    (hc : ∀ w, Calls P f args w fun e w' => e = .returned v ∧ Below w.heap.size w w') : ACalls P G f args h fun v' h' => v' = v ∧ h' = h := by
  intro m args' w hs hr r
  have he : args' = args := by
    apply Array.ext hs.symm
    intro i h1 h2
    exact (hr i h2 h1).eq_af (haf _ (by simp))
  subst he
  refine (hc w).mono ?_
  rintro e w' ⟨rfl, hb⟩
  obtain ⟨r', g⟩ := r.below hb
  exact ⟨v, v, m, h, rfl, hv _ _, r', g, rfl, rfl⟩
theorem acalls_of_same {P : Program} {G : Glo} {f : FuncId} {args : Array Value} {h : Heap} {v : Value} (haf : ∀ x ∈ args, af x = true) (hv : ∀ n m, VRel n m v v)
    (hc : ∀ w, Calls P f args w fun e w' => e = .returned v ∧ w' = w) : ACalls P G f args h fun v' h' => v' = v ∧ h' = h :=
  acalls_of_calls haf hv fun w => (hc w).mono fun e w' q => ⟨q.1, q.2 ▸ Below.refl _ _⟩
/-- The same, where the package's tables are read. -/
theorem acalls_of_tab {P : Program} {G : Glo} {f : FuncId} {args : Array Value} {h : Heap} {v : Value} (haf : ∀ x ∈ args, af x = true) (hv : ∀ n m, VRel n m v v)
    (hc : ∀ w, (∀ g q, G.tab g = some q → ∃ x, w.heap[g]? = some x ∧ q x) → Calls P f args w fun e w' => e = .returned v ∧ Below w.heap.size w w') : ACalls P G f args h fun v' h' => v' = v ∧ h' = h := by
  intro m args' w hs hr r
  have he : args' = args := by
    apply Array.ext hs.symm
    intro i h1 h2
    exact (hr i h2 h1).eq_af (haf _ (by simp))
  subst he
  refine (hc w fun g q hg => (r.tab g q hg).1).mono ?_
  rintro e w' ⟨rfl, hb⟩
  obtain ⟨r', g⟩ := r.below hb
  exact ⟨v, v, m, h, rfl, hv _ _, r', g, rfl, rfl⟩
end Go.Proofs.Ytiddnhhjlipebaa.Am
