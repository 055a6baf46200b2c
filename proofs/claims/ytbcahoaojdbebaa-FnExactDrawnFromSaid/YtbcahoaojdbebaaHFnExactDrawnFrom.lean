/- The law FnExactDrawnFrom: whatever its arguments are, it returns true and leaves them as they were. Conditions: none. -/
import Derived.Test.YtbcahoaojdbebaaRows
import Derived.Test.YtbcahoaojdbebaaPFnExactDrawnFromx
import Derived.Test.YtbcahoaojdbebaaPureFnExactDrawnFrom
import Derived.Test.YtbcahoaojdbebaaAmRow
import Derived.SizedLaws
namespace Go.Proofs.Ytbcahoaojdbebaa.fnExactDrawnFrom
open Go.ChangeShapes Go.WideShapes Go.ChangeAt Go.RowKit Go.Proofs.Ytbcahoaojdbebaa.Am
set_option linter.unusedVariables false
set_option linter.unusedSimpArgs false
theorem own : ownKnob Try.prog.godebug = none := by kernel_rfl
theorem laid : laidOutB Try.prog = true := by kernel_rfl
set_option maxRecDepth 100000 in
theorem lifted (os : Os) (started : os.Started) (H : Type) (enc : TypeId × Value → H) :
    ReturnsInHanded {} Try.checked os 7 .any (Rows.fnExactDrawnFromSpec.pre6 enc Try.prog Try.f7 Rows.fnExactDrawnFromRow.domain false) (Rows.fnExactDrawnFromSpec.post enc Try.prog Try.f7 false true false false) := by
  refine returnsInHanded_of_change_sized (C := Try.checked) own started (by kernel_rfl) Try.func7
    (ChangeSpec.witness6 (enc := enc) (C := Try.checked) false ⟨#[], #[.agg #[.int .i64 0, .int .i64 0, .int .i64 0, .int .i64 0, .int .i64 0, .bool false]], []⟩ 8 (by kernel_rfl) (by kernel_rfl) (by kernel_rfl) (by kernel_rfl)) ?_
  intro W base args ds gs before hval0 hW hcnd hsz0 _
  have hval : ∀ (j : Nat) t v, Try.f7.params[j]? = some t → args[j]? = some v → Value.okWide Try.prog W .any base t v := hval0
  have hW' := hW
  obtain ⟨p, q, hA0, hV, rfl, hfz, hnd⟩ := hW
  have hA1 : DataW.TrodAll enc Try.prog W 0 (fun _ => true) true Try.f7.params.toList args.toList ds p := hA0
  obtain ⟨rfl, rfl⟩ := trodVars_none hV
  have hA := hA1
  rw [Try.params7] at hA hval
  obtain ⟨v0, vs0, d0, ds0, p0, q0, hargs0, hds0, hps0, h0, r0⟩ := trodAll_cons hA
  obtain ⟨hv, hd, _⟩ := trodAll_nil r0
  obtain rfl : ds = [d0] := by simp_all
  obtain rfl : args = #[v0] := by cases args; simp_all
  obtain ⟨cs0, rfl, hl0, n0, hf0⟩ := open_parts Try.underlying36 (hval 0 36 v0 rfl rfl) h0
  rw [show Try.prog.cellsOf 36 = 6 by kernel_rfl] at hl0
  obtain ⟨x0_0, x0_1, x0_2, x0_3, x0_4, x0_5, rfl⟩ := len6 hl0
  obtain ⟨a0_0, e0_0, w0_0⟩ := part_int Try.underlying3 (by kernel_rfl) (hf0 0 _ rfl)
  obtain rfl := Option.some.inj e0_0
  obtain ⟨a0_1, e0_1, w0_1⟩ := part_int Try.underlying3 (by kernel_rfl) (hf0 1 _ rfl)
  obtain rfl := Option.some.inj e0_1
  obtain ⟨a0_2, e0_2, w0_2⟩ := part_int Try.underlying3 (by kernel_rfl) (hf0 2 _ rfl)
  obtain rfl := Option.some.inj e0_2
  obtain ⟨a0_3, e0_3, w0_3⟩ := part_int Try.underlying3 (by kernel_rfl) (hf0 3 _ rfl)
  obtain rfl := Option.some.inj e0_3
  obtain ⟨a0_4, e0_4, w0_4⟩ := part_int Try.underlying3 (by kernel_rfl) (hf0 4 _ rfl)
  obtain rfl := Option.some.inj e0_4
  obtain ⟨a0_5, e0_5⟩ := part_bool Try.underlying4 (by kernel_rfl) (hf0 5 _ rfl)
  obtain rfl := Option.some.inj e0_5
  refine (Pure.FnExactDrawnFrom W a0_0 a0_1 a0_2 a0_3 a0_4 a0_5 w0_0 w0_1 w0_2 w0_3 w0_4).mono fun e W' ⟨he, bel⟩ => ?_
  subst he
  exact ⟨_, rfl, _, _, _, [], _, [], hW', trodAll_mk1 (shut_bool Try.underlying4 _), trodAll_below laid bel (by kernel_rfl) hA1, rfl, bel.frame _, fun h => by cases h⟩
theorem over : Rows.fnExactDrawnFromRow.holds Try.pinned (OpenSpec.ofChange Rows.fnExactDrawnFromSpec) :=
  OpenClaim.holds_of_wide 7 Try.f7 rfl rfl rfl rfl rfl rfl rfl ⟨rfl, rfl, rfl, rfl, rfl⟩ rfl rfl rfl rfl rfl (by kernel_rfl) Try.func7 (by kernel_rfl)
    (of_decide_eq_true (by kernel_rfl)) (by unfold Func.isWrapper; first | (rw [if_pos (by decide +kernel)]; kernel_rfl) | (rw [if_neg (by decide +kernel)]; exact ⟨rfl, rfl⟩))
    (fun os started H enc _ => lifted os started H enc)
theorem proved : Rows.FnExactDrawnFromSaid := over
end Go.Proofs.Ytbcahoaojdbebaa.fnExactDrawnFrom
namespace Go.Proofs.Ytbcahoaojdbebaa
/-- The row, under a short name, for the claim. -/
theorem fnExactDrawnFrom_holds : Rows.FnExactDrawnFromSaid := fnExactDrawnFrom.proved
end Go.Proofs.Ytbcahoaojdbebaa
