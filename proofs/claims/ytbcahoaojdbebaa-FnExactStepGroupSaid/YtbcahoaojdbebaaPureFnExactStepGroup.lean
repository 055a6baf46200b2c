/- FnExactStepGroup: what the walk tells of the program and of the reference is the same, so the law returns true. Conditions: none. -/
import Derived.Test.YtbcahoaojdbebaaPFnExactStepGroupx
namespace Go.Proofs.Ytbcahoaojdbebaa.Pure
open Go Go.RowKit Go.Proofs.Ytbcahoaojdbebaa.PFnExactStepGroup Go.Proofs.YtbcahoaojdbebaaW.PrintWords Go.Proofs.YtbcahoaojdbebaaW.PrintLast
set_option linter.unusedVariables false
set_option linter.unusedSimpArgs false
namespace FnExactStepGroup

def good (a b c d e : Int) : Bool := decide (1 ≤ b ∧ b ≤ 20 ∧ 1 ≤ a ∧ a ≤ b ∧ 1 ≤ c ∧ c ≤ b ∧ a ≤ d ∧ d ≤ b ∧ 0 ≤ e ∧ e ≤ d ∧ e ≤ c)

theorem spec_good (k : Nat) (a b c d e : Int) (o : Bool) : spec_GoodGroup.f (k + 1) a b c d e o = some (good a b c d e) := by
  by_cases h1 : 1 ≤ b
  rotate_left
  · simp [spec_GoodGroup.f, spec_GoodGroup.j0, spec_l1In.f, good, h1]
  by_cases h2 : b ≤ 20
  rotate_left
  · simp [spec_GoodGroup.f, spec_GoodGroup.j0, spec_l1In.f, good, h1, h2]
  by_cases h3 : 1 ≤ a
  rotate_left
  · simp [spec_GoodGroup.f, spec_GoodGroup.j0, spec_l1In.f, good, h1, h2, h3]
  by_cases h4 : a ≤ b
  rotate_left
  · simp [spec_GoodGroup.f, spec_GoodGroup.j0, spec_l1In.f, good, h1, h2, h3, h4]
  by_cases h5 : 1 ≤ c
  rotate_left
  · simp [spec_GoodGroup.f, spec_GoodGroup.j0, spec_l1In.f, good, h1, h2, h3, h4, h5]
  by_cases h6 : c ≤ b
  rotate_left
  · simp [spec_GoodGroup.f, spec_GoodGroup.j0, spec_l1In.f, good, h1, h2, h3, h4, h5, h6]
  by_cases h7 : a ≤ d
  rotate_left
  · simp [spec_GoodGroup.f, spec_GoodGroup.j0, spec_l1In.f, good, h1, h2, h3, h4, h5, h6, h7]
  by_cases h8 : d ≤ b
  rotate_left
  · simp [spec_GoodGroup.f, spec_GoodGroup.j0, spec_l1In.f, good, h1, h2, h3, h4, h5, h6, h7, h8]
  have hj : spec_GoodGroup.f (k + 1) a b c d e o = ((spec_l1Least.f d c).bind fun t => (spec_l1In.f e 0 t).bind fun t => some t) := by
    simp [spec_GoodGroup.f, spec_GoodGroup.j0, spec_l1In.f, h1, h2, h3, h4, h5, h6, h7, h8]
  rw [hj]
  by_cases h9 : d < c <;> by_cases h10 : 0 ≤ e <;>
    simp [spec_l1Least.f, spec_l1In.f, good, h1, h2, h3, h4, h5, h6, h7, h8, h9, h10] <;> omega

theorem impl_good (a b c d e : Int) (o : Bool) : impl_isGroup.f a b c d e o = some (good a b c d e) := by
  by_cases h1 : 1 ≤ b
  rotate_left
  · simp [impl_isGroup.f, impl_within.f, good, h1]
  by_cases h2 : b ≤ 20
  rotate_left
  · simp [impl_isGroup.f, impl_within.f, good, h1, h2]
  by_cases h3 : 1 ≤ a
  rotate_left
  · simp [impl_isGroup.f, impl_within.f, good, h1, h2, h3]
  by_cases h4 : a ≤ b
  rotate_left
  · simp [impl_isGroup.f, impl_within.f, good, h1, h2, h3, h4]
  by_cases h5 : 1 ≤ c
  rotate_left
  · simp [impl_isGroup.f, impl_within.f, good, h1, h2, h3, h4, h5]
  by_cases h6 : c ≤ b
  rotate_left
  · simp [impl_isGroup.f, impl_within.f, good, h1, h2, h3, h4, h5, h6]
  by_cases h7 : a ≤ d
  rotate_left
  · simp [impl_isGroup.f, impl_within.f, good, h1, h2, h3, h4, h5, h6, h7]
  by_cases h8 : d ≤ b
  rotate_left
  · simp [impl_isGroup.f, impl_within.f, good, h1, h2, h3, h4, h5, h6, h7, h8]
  by_cases h9 : c < d <;> by_cases h10 : 0 ≤ e <;>
    simp [impl_isGroup.f, impl_within.f, mn, good, h1, h2, h3, h4, h5, h6, h7, h8, h9, h10] <;> omega

theorem over_eq (a b c d e : Int) (o : Bool) : impl_isOverGroup.f a b c d e o = spec_l15Over.f a b c d e o := rfl

theorem main (a b c d e : Int) (o : Bool) (n : Int) : laws_FnExactStepGroup.f 4 a b c d e o n = some true := by
  cases hg : good a b c d e
  · simp [laws_FnExactStepGroup.f, laws_toGroup.f, spec_StepGroup.f, impl_StepGroup.f, spec_good 3, impl_good, hg, spec_StepGroup.j0, laws_eqGroup.f]
  have ho : ∃ v, spec_l15Over.f a b c d e o = some v := by
    unfold spec_l15Over.f
    split
    · exact ⟨_, rfl⟩
    · split
      · exact ⟨_, rfl⟩
      · exact ⟨_, rfl⟩
  obtain ⟨v, ho⟩ := ho
  cases v
  · by_cases h1 : n = 1 <;> by_cases h2 : n = 2 <;> by_cases h3 : n = 3 <;> (try omega) <;> cases o <;> by_cases h4 : d < b <;> by_cases h5 : e < d <;>
      simp [laws_FnExactStepGroup.f, laws_toGroup.f, spec_StepGroup.f, impl_StepGroup.f, impl_stepGroup.f, spec_good 3, impl_good, over_eq, ho, hg, h1, h2, h3, h4, h5, spec_StepGroup.j0, spec_StepGroup.j1, spec_StepGroup.j2, impl_stepGroup.j0, impl_stepGroup.j1, laws_eqGroup.f]
  · simp [laws_FnExactStepGroup.f, laws_toGroup.f, spec_StepGroup.f, impl_StepGroup.f, impl_stepGroup.f, spec_good 3, impl_good, over_eq, ho, hg, spec_StepGroup.j0, laws_eqGroup.f]

end FnExactStepGroup
open FnExactStepGroup
theorem FnExactStepGroup (W : World) (a b c d e : Int) (o : Bool) (n : Int) (w0 : (Lit.int .i64 a).wf = true) (w1 : (Lit.int .i64 b).wf = true) (w2 : (Lit.int .i64 c).wf = true) (w3 : (Lit.int .i64 d).wf = true) (w4 : (Lit.int .i64 e).wf = true) (w5 : (Lit.int .i64 n).wf = true) :
    Calls Try.prog 12 #[.agg #[.int .i64 a, .int .i64 b, .int .i64 c, .int .i64 d, .int .i64 e, .bool o], .int .i64 n] W fun e W' => e = .returned (.bool true) ∧ Below W.heap.size W W' := by
  refine (laws_FnExactStepGroup.calls 4 a b c d e o n true W ?_).mono ?_
  · exact main a b c d e o n
  · rintro e W' ⟨rfl, hd⟩
    exact ⟨rfl, hd⟩
end Go.Proofs.Ytbcahoaojdbebaa.Pure
