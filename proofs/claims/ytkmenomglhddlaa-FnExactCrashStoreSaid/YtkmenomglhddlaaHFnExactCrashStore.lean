/- The law FnExactCrashStore: whatever its arguments are, it returns true and leaves them as they were. Conditions: none. -/
import Derived.Test.YtkmenomglhddlaaRows
import Derived.Test.YtkmenomglhddlaaS2
import Derived.SizedLaws
namespace Go.Proofs.Ytkmenomglhddlaa.fnExactCrashStore
open Go.ChangeShapes Go.WideShapes Go.ChangeAt Go.RowKit Go.Proofs.Ytkmenomglhddlaa.Am
set_option linter.unusedVariables false
set_option linter.unusedSimpArgs false
theorem own : ownKnob Try.prog.godebug = none := by kernel_rfl
theorem laid : laidOutB Try.prog = true := by kernel_rfl
set_option maxRecDepth 100000 in
theorem lifted (os : Os) (started : os.Started) (H : Type) (enc : TypeId × Value → H) :
    ReturnsInHanded {} Try.checked os 5 .any (Rows.fnExactCrashStoreSpec.pre6 enc Try.prog Try.f5 Rows.fnExactCrashStoreRow.domain false) (Rows.fnExactCrashStoreSpec.post enc Try.prog Try.f5 false true false false) := by
  refine returnsInHanded_of_change_sized (C := Try.checked) own started (by kernel_rfl) Try.func5
    (ChangeSpec.witness6 (enc := enc) (C := Try.checked) false ⟨#[], #[.agg #[.int .i64 0, .string ByteArray.empty, .string ByteArray.empty], .int .i64 0], []⟩ 8 (by kernel_rfl) (by kernel_rfl) (by kernel_rfl) (by kernel_rfl)) ?_
  intro W base args ds gs before hval0 hW hcnd hsz0 _
  have hval : ∀ (j : Nat) t v, Try.f5.params[j]? = some t → args[j]? = some v → Value.okWide Try.prog W .any base t v := hval0
  have hW' := hW
  obtain ⟨p, q, hA0, hV, rfl, hfz, hnd⟩ := hW
  have hA1 : DataW.TrodAll enc Try.prog W 0 (fun _ => true) true Try.f5.params.toList args.toList ds p := hA0
  obtain ⟨rfl, rfl⟩ := trodVars_none hV
  have hA := hA1
  rw [Try.params5] at hA hval
  obtain ⟨v0, vs0, d0, ds0, p0, q0, hargs0, hds0, hps0, h0, r0⟩ := trodAll_cons hA
  obtain ⟨v1, vs1, d1, ds1, p1, q1, hargs1, hds1, hps1, h1, r1⟩ := trodAll_cons r0
  obtain ⟨hv, hd, _⟩ := trodAll_nil r1
  obtain rfl : ds = [d0, d1] := by simp_all
  obtain rfl : args = #[v0, v1] := by cases args; simp_all
  have wr := wrel_nil (fun _ => ⟨0, 0, 0, 0⟩) W
  have no : NoOwn [] := fun id b h => by simp at h
  obtain ⟨g0, rfl, w0⟩ := open_Store (hval 0 25 v0 rfl rfl) h0
  obtain ⟨a1, rfl, -, -, w1⟩ := open_int Try.underlying3 (hval 1 3 v1 rfl rfl) h1
  refine (law_of (args := [.agg g0.cells.toArray, .int .i64 a1]) (args' := [.agg g0.cells.toArray, .int .i64 a1]) (lawCrashStore_ok _ _ _ (by obtain ⟨q0, q1, q2⟩ := w0; unfold maxLen at q1 q2; omega)) ⟨.of_af g0.af, .int _ _, trivial⟩ wr no).mono fun e W' ⟨he, bel⟩ => ?_
  subst he
  exact ⟨_, rfl, _, _, _, [], _, [], hW', trodAll_mk1 (shut_bool Try.underlying4 _), trodAll_below laid bel (by kernel_rfl) hA1, rfl, bel.frame _, fun h => by cases h⟩
theorem over : Rows.fnExactCrashStoreRow.holds Try.pinned (OpenSpec.ofChange Rows.fnExactCrashStoreSpec) :=
  OpenClaim.holds_of_wide 5 Try.f5 rfl rfl rfl rfl rfl rfl rfl ⟨rfl, rfl, rfl, rfl, rfl⟩ rfl rfl rfl rfl rfl (by kernel_rfl) Try.func5 (by kernel_rfl)
    (of_decide_eq_true (by kernel_rfl)) (by unfold Func.isWrapper; first | (rw [if_pos (by decide +kernel)]; kernel_rfl) | (rw [if_neg (by decide +kernel)]; exact ⟨rfl, rfl⟩))
    (fun os started H enc _ => lifted os started H enc)
theorem proved : Rows.FnExactCrashStoreSaid := over
end Go.Proofs.Ytkmenomglhddlaa.fnExactCrashStore
namespace Go.Proofs.Ytkmenomglhddlaa
/-- The row, under a short name, for the claim. -/
theorem fnExactCrashStore_holds : Rows.FnExactCrashStoreSaid := fnExactCrashStore.proved
end Go.Proofs.Ytkmenomglhddlaa
