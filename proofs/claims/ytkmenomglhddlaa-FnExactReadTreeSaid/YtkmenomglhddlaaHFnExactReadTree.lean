/- The law FnExactReadTree: whatever its arguments are, it returns true and leaves them as they were. Conditions: none. -/
import Derived.Test.YtkmenomglhddlaaRows
import Derived.Test.YtkmenomglhddlaaS8
import Derived.Test.YtkmenomglhddlaaAmEq
import Derived.SizedLaws
namespace Go.Proofs.Ytkmenomglhddlaa.fnExactReadTree
open Go.ChangeShapes Go.WideShapes Go.ChangeAt Go.RowKit Go.Proofs.Ytkmenomglhddlaa.Am
set_option linter.unusedVariables false
set_option linter.unusedSimpArgs false
theorem own : ownKnob Try.prog.godebug = none := by kernel_rfl
theorem laid : laidOutB Try.prog = true := by kernel_rfl
set_option maxRecDepth 100000 in
theorem lifted (os : Os) (started : os.Started) (H : Type) (enc : TypeId × Value → H) :
    ReturnsInHanded {} Try.checked os 7 .any (Rows.fnExactReadTreeSpec.pre6 enc Try.prog Try.f7 Rows.fnExactReadTreeRow.domain false) (Rows.fnExactReadTreeSpec.post enc Try.prog Try.f7 false true false false) := by
  refine returnsInHanded_of_change_sized (C := Try.checked) own started (by kernel_rfl) Try.func7
    (ChangeSpec.witness6 (enc := enc) (C := Try.checked) false ⟨#[], #[.string ByteArray.empty], []⟩ 8 (by kernel_rfl) (by kernel_rfl) (by kernel_rfl) (by kernel_rfl)) ?_
  intro W base args ds gs before hval0 hW hcnd hsz0 _
  have hval : ∀ (j : Nat) t v, Try.f7.params[j]? = some t → args[j]? = some v → Value.okWide Try.prog W .any base t v := hval0
  have hW' := hW
  obtain ⟨p, q, hA0, hV, rfl, hfz, hnd⟩ := hW
  have hA1 : DataW.TrodAll enc Try.prog W 0 (fun _ => true) true Try.f7.params.toList args.toList ds p := hA0
  obtain ⟨rfl, rfl⟩ := trodVars_none hV
  have hA := hA1
  rw [Try.params7] at hA hval
  obtain ⟨v0, vs0, d0, ds0, p0, q0, hargs0, hds0, hps0, h0, r0⟩ := trodAll_cons hA
  obtain ⟨hv, hd, _⟩ := trodAll_nil r0
  obtain rfl : ds = [d0] := by simp_all
  obtain rfl : args = #[v0] := by cases args; simp_all
  have wr := wrel_nil (fun _ => ⟨0, 0, 0, 0⟩) W
  have no : NoOwn [] := fun id b h => by simp at h
  obtain ⟨a0, rfl, w0⟩ := open_str Try.underlying9 (hval 0 9 v0 rfl rfl) h0
  refine (law_of (args := [.string a0]) (args' := [.string a0]) (lawReadTree_ok _ _ w0) ⟨.string _, trivial⟩ wr no).mono fun e W' ⟨he, bel⟩ => ?_
  subst he
  exact ⟨_, rfl, _, _, _, [], _, [], hW', trodAll_mk1 (shut_bool Try.underlying4 _), trodAll_below laid bel (by kernel_rfl) hA1, rfl, bel.frame _, fun h => by cases h⟩
theorem over : Rows.fnExactReadTreeRow.holds Try.pinned (OpenSpec.ofChange Rows.fnExactReadTreeSpec) :=
  OpenClaim.holds_of_wide 7 Try.f7 rfl rfl rfl rfl rfl rfl rfl ⟨rfl, rfl, rfl, rfl, rfl⟩ rfl rfl rfl rfl rfl (by kernel_rfl) Try.func7 (by kernel_rfl)
    (of_decide_eq_true (by kernel_rfl)) (by unfold Func.isWrapper; first | (rw [if_pos (by decide +kernel)]; kernel_rfl) | (rw [if_neg (by decide +kernel)]; exact ⟨rfl, rfl⟩))
    (fun os started H enc _ => lifted os started H enc)
theorem proved : Rows.FnExactReadTreeSaid := over
end Go.Proofs.Ytkmenomglhddlaa.fnExactReadTree
namespace Go.Proofs.Ytkmenomglhddlaa
/-- The row, under a short name, for the claim. -/
theorem fnExactReadTree_holds : Rows.FnExactReadTreeSaid := fnExactReadTree.proved
end Go.Proofs.Ytkmenomglhddlaa
