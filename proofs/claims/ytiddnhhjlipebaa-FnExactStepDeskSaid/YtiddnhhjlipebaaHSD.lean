/- The law FnExactStepDesk: whatever its arguments are, it returns true and leaves them as they were. Conditions: none. -/
import Derived.Test.YtiddnhhjlipebaaRows
import Derived.Test.YtiddnhhjlipebaaV9
import Derived.Test.YtiddnhhjlipebaaK3
import Derived.Test.YtiddnhhjlipebaaV1
import Derived.SizedLaws
namespace Go.Proofs.Ytiddnhhjlipebaa.fnExactStepDesk
open Go.ChangeShapes Go.WideShapes Go.ChangeAt Go.RowKit Go.Proofs.Ytiddnhhjlipebaa.Am
set_option linter.unusedVariables false
set_option linter.unusedSimpArgs false
theorem own : ownKnob Try.prog.godebug = none := by kernel_rfl
theorem laid : laidOutB Try.prog = true := by kernel_rfl
set_option maxRecDepth 100000 in
theorem lifted (os : Os) (started : os.Started) (H : Type) (enc : TypeId × Value → H) :
    ReturnsInHanded {} Try.checked os 11 .any (Rows.fnExactStepDeskSpec.pre6 enc Try.prog Try.f11 Rows.fnExactStepDeskRow.domain false) (Rows.fnExactStepDeskSpec.post enc Try.prog Try.f11 false true false false) := by
  refine returnsInHanded_of_change_sized (C := Try.checked) own started (by kernel_rfl) Try.func11
    (ChangeSpec.witness6 (enc := enc) (C := Try.checked) false ⟨#[], #[.agg #[.int .i64 0, .slice none 0 0, .slice none 0 0], .agg #[.int .i64 0, .int .i64 0, .int .i64 0, .int .i64 0, .int .i64 0, .int .i64 0, .int .i64 0, .int .i64 0]], []⟩ 8 (by kernel_rfl) (by kernel_rfl) (by kernel_rfl) (by kernel_rfl)) ?_
  intro W base args ds gs before hval0 hW hcnd hsz0 _
  have hval : ∀ (j : Nat) t v, Try.f11.params[j]? = some t → args[j]? = some v → Value.okWide Try.prog W .any base t v := hval0
  have hW' := hW
  obtain ⟨p, q, hA0, hV, rfl, hfz, hnd⟩ := hW
  have hA1 : DataW.TrodAll enc Try.prog W 0 (fun _ => true) true Try.f11.params.toList args.toList ds p := hA0
  obtain ⟨rfl, rfl⟩ := trodVars_none hV
  have hA := hA1
  rw [Try.params11] at hA hval
  obtain ⟨v0, vs0, d0, ds0, p0, q0, hargs0, hds0, hps0, h0, r0⟩ := trodAll_cons hA
  obtain ⟨v1, vs1, d1, ds1, p1, q1, hargs1, hds1, hps1, h1, r1⟩ := trodAll_cons r0
  obtain ⟨hv, hd, _⟩ := trodAll_nil r1
  obtain rfl : ds = [d0, d1] := by simp_all
  obtain rfl : args = #[v0, v1] := by cases args; simp_all
  have wr := wrel_nil (fun _ => ⟨0, 0, 0, 0⟩) W
  have no : NoOwn [] := fun id b h => by simp at h
  obtain ⟨now0, people0, items0, vp0, vi0, m0, e0, wn0, wr0, no0, ag0, slp0, sli0, vr0, wfp0, wfi0, lp0, li0⟩ := open_desk (hval 0 53 v0 rfl rfl) h0 wr no
  obtain ⟨g1, rfl, w1⟩ := open_DAct (hval 1 85 v1 rfl rfl) h1
  refine (law_of (args := [.agg #[.int .i64 now0, vp0, vi0], .agg g1.cells.toArray]) (args' := [v0, .agg g1.cells.toArray]) (lawStepDesk_ok _ _ _ _ _ _ _ slp0 sli0 (len_max lp0) (len_max li0)) ⟨vr0, .of_af g1.af, trivial⟩ wr0 no0).mono fun e W' ⟨he, bel⟩ => ?_
  subst he
  exact ⟨_, rfl, _, _, _, [], _, [], hW', trodAll_mk1 (shut_bool Try.underlying4 _), trodAll_below laid bel (by kernel_rfl) hA1, rfl, bel.frame _, fun h => by cases h⟩
theorem over : Rows.fnExactStepDeskRow.holds Try.pinned (OpenSpec.ofChange Rows.fnExactStepDeskSpec) :=
  OpenClaim.holds_of_wide 11 Try.f11 rfl rfl rfl rfl rfl rfl rfl ⟨rfl, rfl, rfl, rfl, rfl⟩ rfl rfl rfl rfl rfl (by kernel_rfl) Try.func11 (by kernel_rfl)
    (of_decide_eq_true (by kernel_rfl)) (by unfold Func.isWrapper; first | (rw [if_pos (by decide +kernel)]; kernel_rfl) | (rw [if_neg (by decide +kernel)]; exact ⟨rfl, rfl⟩))
    (fun os started H enc _ => lifted os started H enc)
theorem proved : Rows.FnExactStepDeskSaid := over
end Go.Proofs.Ytiddnhhjlipebaa.fnExactStepDesk
namespace Go.Proofs.Ytiddnhhjlipebaa
/-- The row, under a short name, for the claim. -/
theorem fnExactStepDesk_holds : Rows.FnExactStepDeskSaid := fnExactStepDesk.proved
end Go.Proofs.Ytiddnhhjlipebaa
