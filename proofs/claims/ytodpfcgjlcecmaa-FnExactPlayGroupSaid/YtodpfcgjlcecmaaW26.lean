/- A group among a law's arguments. Conditions: none. -/
import Derived.Test.YtodpfcgjlcecmaaW25
import Derived.Test.YtodpfcgjlcecmaaW11
namespace Go.Proofs.Ytodpfcgjlcecmaa.Am
open Go Go.Proofs Go.RowKit
set_option linter.unusedVariables false
set_option linter.unusedSimpArgs false
set_option maxRecDepth 100000

theorem open_grp {H : Type} {enc : TypeId × Value → H} {W : World} {base : Nat} {v : Value} {d : DataW H} {ps : List MemPlace} {spare : Nat → Bool}
    (hval : Value.okWide Try.prog W .any base 23 v) (ht : DataW.Trod enc Try.prog W 0 spare true 23 v d ps) : ∃ g : Grp, v = .agg g.cells.toArray := by
  obtain ⟨cs, rfl, hl, n, hf⟩ := open_parts Try.underlying23 hval ht
  rw [show Try.prog.cellsOf 23 = 6 by kernel_rfl] at hl
  obtain ⟨x0, x1, x2, x3, x4, x5, rfl⟩ := len6 hl
  obtain ⟨a0, e0, _⟩ := part_int Try.underlying3 (by kernel_rfl) (hf 0 _ rfl)
  obtain rfl := Option.some.inj e0
  obtain ⟨a1, e1, _⟩ := part_int Try.underlying3 (by kernel_rfl) (hf 1 _ rfl)
  obtain rfl := Option.some.inj e1
  obtain ⟨a2, e2, _⟩ := part_int Try.underlying3 (by kernel_rfl) (hf 2 _ rfl)
  obtain rfl := Option.some.inj e2
  obtain ⟨a3, e3, _⟩ := part_int Try.underlying3 (by kernel_rfl) (hf 3 _ rfl)
  obtain rfl := Option.some.inj e3
  obtain ⟨a4, e4, _⟩ := part_int Try.underlying3 (by kernel_rfl) (hf 4 _ rfl)
  obtain rfl := Option.some.inj e4
  obtain ⟨a5, e5⟩ := part_bool Try.underlying4 (by kernel_rfl) (hf 5 _ rfl)
  obtain rfl := Option.some.inj e5
  exact ⟨⟨a0, a1, a2, a3, a4, a5⟩, rfl⟩
theorem grp_af (g : Grp) : af (.agg g.cells.toArray) = true := by simp [af, af1, Grp.cells]
end Go.Proofs.Ytodpfcgjlcecmaa.Am

