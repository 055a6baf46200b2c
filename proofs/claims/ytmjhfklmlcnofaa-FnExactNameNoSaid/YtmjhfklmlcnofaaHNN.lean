/- The law FnExactNameNo: whatever its arguments are, it returns true and leaves them as they were. Conditions: none. -/
import Derived.Test.YtmjhfklmlcnofaaRows
import Derived.Test.YtmjhfklmlcnofaaV8
import Derived.Test.YtmjhfklmlcnofaaK3
import Derived.SizedLaws
namespace Go.Proofs.Ytmjhfklmlcnofaa.fnExactNameNo
open Go.ChangeShapes Go.WideShapes Go.ChangeAt Go.RowKit Go.Proofs.Ytmjhfklmlcnofaa.Am
set_option linter.unusedVariables false
set_option linter.unusedSimpArgs false
theorem own : ownKnob Try.prog.godebug = none := by kernel_rfl
theorem laid : laidOutB Try.prog = true := by kernel_rfl
set_option maxRecDepth 100000 in
theorem lifted (os : Os) (started : os.Started) (H : Type) (enc : TypeId × Value → H) :
    ReturnsInHanded {} Try.checked os 4 .any (Rows.fnExactNameNoSpec.pre6 enc Try.prog Try.f4 Rows.fnExactNameNoRow.domain false) (Rows.fnExactNameNoSpec.post enc Try.prog Try.f4 false true false false) := by
  refine returnsInHanded_of_change_sized (C := Try.checked) own started (by kernel_rfl) Try.func4
    (ChangeSpec.witness6 (enc := enc) (C := Try.checked) false ⟨#[], #[.agg #[.int .i64 0, .slice none 0 0, .slice none 0 0], .string ByteArray.empty], []⟩ 8 (by kernel_rfl) (by kernel_rfl) (by kernel_rfl) (by kernel_rfl)) ?_
  intro W base args ds gs before hval0 hW hcnd hsz0 _
  have hval : ∀ (j : Nat) t v, Try.f4.params[j]? = some t → args[j]? = some v → Value.okWide Try.prog W .any base t v := hval0
  have hW' := hW
  obtain ⟨p, q, hA0, hV, rfl, hfz, hnd⟩ := hW
  have hA1 : DataW.TrodAll enc Try.prog W 0 (fun _ => true) true Try.f4.params.toList args.toList ds p := hA0
  obtain ⟨rfl, rfl⟩ := trodVars_none hV
  have hA := hA1
  rw [Try.params4] at hA hval
  obtain ⟨v0, vs0, d0, ds0, p0, q0, hargs0, hds0, hps0, h0, r0⟩ := trodAll_cons hA
  obtain ⟨v1, vs1, d1, ds1, p1, q1, hargs1, hds1, hps1, h1, r1⟩ := trodAll_cons r0
  obtain ⟨hv, hd, _⟩ := trodAll_nil r1
  obtain rfl : ds = [d0, d1] := by simp_all
  obtain rfl : args = #[v0, v1] := by cases args; simp_all
  have wr := wrel_nil (fun _ => ⟨0, 0, 0, 0⟩) W
  have no : NoOwn [] := fun id b h => by simp at h
  obtain ⟨p0, va0, vna0, m0, e0, wr0, no0, ag0, sl0, sn0, vr0, fl0, cn0⟩ := open_paper (hval 0 27 v0 rfl rfl) h0 wr no
  obtain ⟨a1, rfl, w1⟩ := open_str Try.underlying9 (hval 1 9 v1 rfl rfl) h1
  refine (law_of (args := [.agg #[.int .i64 p0.spec.conds, va0, vna0], .string a1]) (args' := [v0, .string a1]) (lawNameNo_ok p0 a1 va0 vna0 _ sl0 sn0 fl0 cn0 (len_max w1)) ⟨vr0, .string _, trivial⟩ wr0 no0).mono fun e W' ⟨he, bel⟩ => ?_
  subst he
  exact ⟨_, rfl, _, _, _, [], _, [], hW', trodAll_mk1 (shut_bool Try.underlying4 _), trodAll_below laid bel (by kernel_rfl) hA1, rfl, bel.frame _, fun h => by cases h⟩
theorem over : Rows.fnExactNameNoRow.holds Try.pinned (OpenSpec.ofChange Rows.fnExactNameNoSpec) :=
  OpenClaim.holds_of_wide 4 Try.f4 rfl rfl rfl rfl rfl rfl rfl ⟨rfl, rfl, rfl, rfl, rfl⟩ rfl rfl rfl rfl rfl (by kernel_rfl) Try.func4 (by kernel_rfl)
    (of_decide_eq_true (by kernel_rfl)) (by unfold Func.isWrapper; first | (rw [if_pos (by decide +kernel)]; kernel_rfl) | (rw [if_neg (by decide +kernel)]; exact ⟨rfl, rfl⟩))
    (fun os started H enc _ => lifted os started H enc)
theorem proved : Rows.FnExactNameNoSaid := over
end Go.Proofs.Ytmjhfklmlcnofaa.fnExactNameNo
namespace Go.Proofs.Ytmjhfklmlcnofaa
/-- The row, under a short name, for the claim. -/
theorem fnExactNameNo_holds : Rows.FnExactNameNoSaid := fnExactNameNo.proved
end Go.Proofs.Ytmjhfklmlcnofaa
