/- The law FnLeases: whatever its arguments are, it returns true and leaves them as they were. Conditions: none. -/
import Derived.Test.YtiddnhhjlipebaaRows
import Derived.Test.YtiddnhhjlipebaaV9
import Derived.Test.YtiddnhhjlipebaaK3
import Derived.SizedLaws
namespace Go.Proofs.Ytiddnhhjlipebaa.fnLeases
open Go.ChangeShapes Go.WideShapes Go.ChangeAt Go.RowKit Go.Proofs.Ytiddnhhjlipebaa.Am
set_option linter.unusedVariables false
set_option linter.unusedSimpArgs false
theorem own : ownKnob Try.prog.godebug = none := by kernel_rfl
theorem laid : laidOutB Try.prog = true := by kernel_rfl
set_option maxRecDepth 100000 in
theorem lifted (os : Os) (started : os.Started) (H : Type) (enc : TypeId × Value → H) :
    ReturnsInHanded {} Try.checked os 13 .any (Rows.fnLeasesSpec.pre6 enc Try.prog Try.f13 Rows.fnLeasesRow.domain false) (Rows.fnLeasesSpec.post enc Try.prog Try.f13 false true false false) := by
  refine returnsInHanded_of_change_sized (C := Try.checked) own started (by kernel_rfl) Try.func13
    (ChangeSpec.witness6 (enc := enc) (C := Try.checked) false ⟨#[], #[.slice none 0 0, .slice none 0 0], []⟩ 8 (by kernel_rfl) (by kernel_rfl) (by kernel_rfl) (by kernel_rfl)) ?_
  intro W base args ds gs before hval0 hW hcnd hsz0 _
  have hval : ∀ (j : Nat) t v, Try.f13.params[j]? = some t → args[j]? = some v → Value.okWide Try.prog W .any base t v := hval0
  have hW' := hW
  obtain ⟨p, q, hA0, hV, rfl, hfz, hnd⟩ := hW
  have hA1 : DataW.TrodAll enc Try.prog W 0 (fun _ => true) true Try.f13.params.toList args.toList ds p := hA0
  obtain ⟨rfl, rfl⟩ := trodVars_none hV
  have hA := hA1
  rw [Try.params13] at hA hval
  obtain ⟨v0, vs0, d0, ds0, p0, q0, hargs0, hds0, hps0, h0, r0⟩ := trodAll_cons hA
  obtain ⟨v1, vs1, d1, ds1, p1, q1, hargs1, hds1, hps1, h1, r1⟩ := trodAll_cons r0
  obtain ⟨hv, hd, _⟩ := trodAll_nil r1
  obtain rfl : ds = [d0, d1] := by simp_all
  obtain rfl : args = #[v0, v1] := by cases args; simp_all
  have wr := wrel_nil (fun _ => ⟨0, 0, 0, 0⟩) W
  have no : NoOwn [] := fun id b h => by simp at h
  obtain ⟨l0, vl0, m0, e0, wr0, no0, ag0, sl0, vr0, wf0, ll0⟩ := open_nums Try.underlying37 Try.underlying5 (by kernel_rfl) (hval 0 37 v0 rfl rfl) h0 wr no
  obtain ⟨l1, vl1, m1, e1, wr1, no1, ag1, sl1, vr1, wf1, ll1⟩ := open_nums Try.underlying37 Try.underlying5 (by kernel_rfl) (hval 1 37 v1 rfl rfl) h1 wr0 no0
  replace vr0 := vr0.mono (n' := (([] ++ e0) ++ e1).length) (by simp) ag1
  refine (law_of (args := [vl0, vl1]) (args' := [v0, v1]) (lawFnLeases_ok _ _ _ _ _ (sl0.old e1) sl1 (fun b q => vr0.bid_lt q) (fun b q => vr1.bid_lt q) (len_max ll0) (len_max ll1) (fun x hx => wf_u8 (wf0 x hx)) (fun x hx => wf_u8 (wf1 x hx))) ⟨vr0, vr1, trivial⟩ wr1 no1).mono fun e W' ⟨he, bel⟩ => ?_
  subst he
  exact ⟨_, rfl, _, _, _, [], _, [], hW', trodAll_mk1 (shut_bool Try.underlying4 _), trodAll_below laid bel (by kernel_rfl) hA1, rfl, bel.frame _, fun h => by cases h⟩
theorem over : Rows.fnLeasesRow.holds Try.pinned (OpenSpec.ofChange Rows.fnLeasesSpec) :=
  OpenClaim.holds_of_wide 13 Try.f13 rfl rfl rfl rfl rfl rfl rfl ⟨rfl, rfl, rfl, rfl, rfl⟩ rfl rfl rfl rfl rfl (by kernel_rfl) Try.func13 (by kernel_rfl)
    (of_decide_eq_true (by kernel_rfl)) (by unfold Func.isWrapper; first | (rw [if_pos (by decide +kernel)]; kernel_rfl) | (rw [if_neg (by decide +kernel)]; exact ⟨rfl, rfl⟩))
    (fun os started H enc _ => lifted os started H enc)
theorem proved : Rows.FnLeasesSaid := over
end Go.Proofs.Ytiddnhhjlipebaa.fnLeases
namespace Go.Proofs.Ytiddnhhjlipebaa
/-- The row, under a short name, for the claim. -/
theorem fnLeases_holds : Rows.FnLeasesSaid := fnLeases.proved
end Go.Proofs.Ytiddnhhjlipebaa
