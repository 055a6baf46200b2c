/- What a row's listed variables say of the world at the call. Conditions: none. -/
import Derived.Test.YtkmenomglhddlaaDoorD1
import Derived.Lib.LaidTab
namespace Go.Proofs.YtkmenomglhddlaaDoor.Am
open Go Go.Proofs Go.RowKit
set_option linter.unusedVariables false
set_option linter.unusedSimpArgs false

theorem laid_at {P : Program} {W : World} {n : String} {d : DataW Unit} : ∀ {laid : List (String × DataW Unit)} {ps : List MemPlace}, DataW.LaidVars P W laid ps → (n, d) ∈ laid →
    ∃ g t cs fuel p, P.globalNamed n = some g ∧ (P.globals[g]?).map (·.type) = some t ∧ W.var? P n = some cs ∧ DataW.trod (fun _ => ()) P W 0 (fun _ => true) false fuel t cs.toList = some (d, p)
  | [], _, _, hm => by cases hm
  | (n', d') :: r, ps, ⟨g, t, cs, fuel, p, q, h1, h2, h3, h4, h5, _⟩, hm => by
      rcases List.mem_cons.1 hm with e | e
      · cases e; exact ⟨g, t, cs, fuel, p, h1, h2, h3, h4⟩
      · exact laid_at h5 e

theorem laid_pow {W : World} {laid : List (String × DataW Unit)} (h : laidMet Tryd.prog laid W) (hm : ("internal/strconv.uint64pow10", Lib.tabData .u64 Lib.pow10Tab) ∈ laid) : ∃ x, W.heap[3]? = some x ∧ isPow x := by
  obtain ⟨ps, hv, _⟩ := h
  obtain ⟨g, t, cs, fuel, p, h1, h2, h3, h4⟩ := laid_at hv hm
  have hg : Tryd.prog.globalNamed "internal/strconv.uint64pow10" = some 3 := by kernel_rfl
  obtain rfl := Option.some.inj (hg.symm.trans h1)
  have ht : (Tryd.prog.globals[3]?).map (·.type) = some 147 := by kernel_rfl
  obtain rfl := Option.some.inj (ht.symm.trans h2)
  have hc := Lib.cells_of_tab Tryd.underlying147 (by kernel_rfl) (by kernel_rfl) (by kernel_rfl) h4
  unfold World.var? at h3
  rw [hg] at h3
  simp only [Option.bind_some] at h3
  split at h3
  · rename_i cs' t' z' hx
    cases h3
    exact ⟨_, hx, t', z', by rw [← hc]⟩
  · cases h3
theorem wrel_dP {m : Map} {W : World} {laid : List (String × DataW Unit)} (h : laidMet Tryd.prog laid W) (hm : ("internal/strconv.uint64pow10", Lib.tabData .u64 Lib.pow10Tab) ∈ laid) : WRel dP m [] W := by
  refine wrel_glo rfl fun g o q => ?_
  simp only [dP] at q
  split at q
  · rename_i hg; subst hg; cases q; exact laid_pow h hm
  · cases q

theorem iface_cell {P : Program} {w : World} {fuel : Nat} {t : TypeId} {cs : List Value} {d : DataW Unit} {p : List MemPlace} {ms : Array (String × TypeId)} (hu : P.underlying t = some (.interface ms))
    (h : DataW.trod (fun _ => ()) P w 0 (fun _ => true) false fuel t cs = some (d, p)) : ∃ ev, cs = [ev] ∧ (ev = .nilIface ∨ ∃ a b, ev = .iface a b) := by
  cases fuel with
  | zero => simp [DataW.trod] at h
  | succ fuel =>
    simp only [DataW.trod, hu] at h
    split at h
    all_goals first
      | exact ⟨_, rfl, .inl rfl⟩
      | exact ⟨_, rfl, .inr ⟨_, _, rfl⟩⟩
      | (exfalso; simp_all; done)

theorem laid_err {W : World} {laid : List (String × DataW Unit)} (h : laidMet Tryd.prog laid W) {n : String} {g : Nat} {d : DataW Unit} (hg : Tryd.prog.globalNamed n = some g) (ht : (Tryd.prog.globals[g]?).map (·.type) = some 104)
    (hm : (n, d) ∈ laid) : ∃ x, W.heap[g]? = some x ∧ isErr x := by
  obtain ⟨ps, hv, _⟩ := h
  obtain ⟨g', t, cs, fuel, p, h1, h2, h3, h4⟩ := laid_at hv hm
  obtain rfl := Option.some.inj (hg.symm.trans h1)
  obtain rfl := Option.some.inj (ht.symm.trans h2)
  obtain ⟨ev, e1, e2⟩ := iface_cell Tryd.underlying104 h4
  unfold World.var? at h3
  rw [hg] at h3
  simp only [Option.bind_some] at h3
  split at h3
  · rename_i cs' t' z' hx
    cases h3
    refine ⟨_, hx, _, t', z', ev, rfl, ?_, e2⟩
    have := congrArg (·[0]?) e1
    simpa using this
  · cases h3
theorem wrel_dE {m : Map} {W : World} {laid : List (String × DataW Unit)} (h : laidMet Tryd.prog laid W) (hm : ("internal/strconv.uint64pow10", Lib.tabData .u64 Lib.pow10Tab) ∈ laid) {d1 d2 : DataW Unit}
    (hm1 : ("strconv.ErrSyntax", d1) ∈ laid) (hm2 : ("strconv.ErrRange", d2) ∈ laid) : WRel dE m [] W := by
  refine wrel_glo rfl fun g o q => ?_
  simp only [dE] at q
  split at q
  · rename_i hg; subst hg; cases q; exact laid_pow h hm
  · split at q
    · rename_i hg
      cases q
      rcases hg with rfl | rfl
      · exact laid_err h (by kernel_rfl) (by kernel_rfl) hm1
      · exact laid_err h (by kernel_rfl) (by kernel_rfl) hm2
    · cases q
end Go.Proofs.YtkmenomglhddlaaDoor.Am

