/- The law FnExactSyncStore: whatever its arguments are, it returns true and leaves them as they were. Conditions: none. -/
import Derived.Test.YtbcahoaojdbebaaRows
import Derived.Test.YtbcahoaojdbebaaPFnExactSyncStorex
import Derived.Test.YtbcahoaojdbebaaPureFnExactSyncStore
import Derived.Test.YtbcahoaojdbebaaAmRow
import Derived.SizedLaws
namespace Go.Proofs.Ytbcahoaojdbebaa.fnExactSyncStore
open Go.ChangeShapes Go.WideShapes Go.ChangeAt Go.RowKit Go.Proofs.Ytbcahoaojdbebaa.Am
set_option linter.unusedVariables false
set_option linter.unusedSimpArgs false
theorem own : ownKnob Try.prog.godebug = none := by kernel_rfl
theorem laid : laidOutB Try.prog = true := by kernel_rfl
set_option maxRecDepth 100000 in
theorem lifted (os : Os) (started : os.Started) (H : Type) (enc : TypeId × Value → H) :
    ReturnsInHanded {} Try.checked os 10 .any (Rows.fnExactSyncStoreSpec.pre6 enc Try.prog Try.f10 Rows.fnExactSyncStoreRow.domain false) (Rows.fnExactSyncStoreSpec.post enc Try.prog Try.f10 false true false false) := by
  refine returnsInHanded_of_change_sized (C := Try.checked) own started (by kernel_rfl) Try.func10
    (ChangeSpec.witness6 (enc := enc) (C := Try.checked) false ⟨#[], #[.agg #[.int .i64 0, .string ⟨#[]⟩, .string ⟨#[]⟩]], []⟩ 8 (by kernel_rfl) (by kernel_rfl) (by kernel_rfl) (by kernel_rfl)) ?_
  intro W base args ds gs before hval0 hW hcnd hsz0 _
  have hval : ∀ (j : Nat) t v, Try.f10.params[j]? = some t → args[j]? = some v → Value.okWide Try.prog W .any base t v := hval0
  have hW' := hW
  obtain ⟨p, q, hA0, hV, rfl, hfz, hnd⟩ := hW
  have hA1 : DataW.TrodAll enc Try.prog W 0 (fun _ => true) true Try.f10.params.toList args.toList ds p := hA0
  obtain ⟨rfl, rfl⟩ := trodVars_none hV
  have hA := hA1
  rw [Try.params10] at hA hval
  obtain ⟨v0, vs0, d0, ds0, p0, q0, hargs0, hds0, hps0, h0, r0⟩ := trodAll_cons hA
  obtain ⟨hv, hd, _⟩ := trodAll_nil r0
  obtain rfl : ds = [d0] := by simp_all
  obtain rfl : args = #[v0] := by cases args; simp_all
  obtain ⟨cs0, rfl, hl0, n0, hf0⟩ := open_parts Try.underlying25 (hval 0 25 v0 rfl rfl) h0
  rw [show Try.prog.cellsOf 25 = 3 by kernel_rfl] at hl0
  obtain ⟨x0_0, x0_1, x0_2, rfl⟩ := len3 hl0
  obtain ⟨a0_0, e0_0, w0_0⟩ := part_int Try.underlying3 (by kernel_rfl) (hf0 0 _ rfl)
  obtain rfl := Option.some.inj e0_0
  obtain ⟨a0_1, e0_1, w0_1⟩ := part_string Try.underlying9 (by kernel_rfl) (hf0 1 _ rfl)
  obtain rfl := Option.some.inj e0_1
  obtain ⟨a0_2, e0_2, w0_2⟩ := part_string Try.underlying9 (by kernel_rfl) (hf0 2 _ rfl)
  obtain rfl := Option.some.inj e0_2
  refine (Pure.FnExactSyncStore W a0_0 a0_1 a0_2 w0_0 w0_1 w0_2).mono fun e W' ⟨he, bel⟩ => ?_
  subst he
  exact ⟨_, rfl, _, _, _, [], _, [], hW', trodAll_mk1 (shut_bool Try.underlying4 _), trodAll_below laid bel (by kernel_rfl) hA1, rfl, bel.frame _, fun h => by cases h⟩
theorem over : Rows.fnExactSyncStoreRow.holds Try.pinned (OpenSpec.ofChange Rows.fnExactSyncStoreSpec) :=
  OpenClaim.holds_of_wide 10 Try.f10 rfl rfl rfl rfl rfl rfl rfl ⟨rfl, rfl, rfl, rfl, rfl⟩ rfl rfl rfl rfl rfl (by kernel_rfl) Try.func10 (by kernel_rfl)
    (of_decide_eq_true (by kernel_rfl)) (by unfold Func.isWrapper; first | (rw [if_pos (by decide +kernel)]; kernel_rfl) | (rw [if_neg (by decide +kernel)]; exact ⟨rfl, rfl⟩))
    (fun os started H enc _ => lifted os started H enc)
theorem proved : Rows.FnExactSyncStoreSaid := over
end Go.Proofs.Ytbcahoaojdbebaa.fnExactSyncStore
namespace Go.Proofs.Ytbcahoaojdbebaa
/-- The row, under a short name, for the claim. -/
theorem fnExactSyncStore_holds : Rows.FnExactSyncStoreSaid := fnExactSyncStore.proved
end Go.Proofs.Ytbcahoaojdbebaa
