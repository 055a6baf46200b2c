/- NewGroup: the program's answer is the answer that the law asks for, whatever the four whole numbers and the mark are. Conditions: none. -/
import Derived.Test.YtbcahoaojdbebaaPFnExactNewGroupx1
namespace Go.Proofs.Ytbcahoaojdbebaa.Pure
open Go.RowKit Go.Proofs.Ytbcahoaojdbebaa.PFnExactNewGroup Go.Proofs.YtbcahoaojdbebaaW.PrintWords Go.Proofs.YtbcahoaojdbebaaW.PrintLast

/-- YOURS: ∀ (a0 : Int) (a1 : Int) (a2 : Int) (a3 : Int) (a4 : Bool), (Lit.int .i64 a0).wf = true → (Lit.int .i64 a1).wf = true → (Lit.int .i64 a2).wf = true → (Lit.int .i64 a3).wf = true → ∃ k, laws_FnExactNewGroup.f k a0 a1 a2 a3 a4 = some true
What it reaches (each with k first where it has rounds; `.mono`: more rounds tell the same; `.l0`, ..: its loops, with `.mono_l`): spec_l1In.f, spec_l1Least.f, spec_GoodGroup.f, spec_NewGroup.f, impl_within.f, impl_isGroup.f, impl_NewGroup.f, laws_eqGroup.f, laws_FnExactNewGroup.f -/
theorem FnExactNewGroup : laws_FnExactNewGroup.Pure := by
  intro a0 a1 a2 a3 a4 _ _ _ _
  refine ⟨2, ?_⟩
  by_cases h1 : (1:Int) ≤ a1
  rotate_left
  · simp [laws_FnExactNewGroup.f, spec_NewGroup.f, spec_GoodGroup.f, spec_GoodGroup.j0, spec_l1In.f, impl_NewGroup.f, impl_isGroup.f, impl_within.f, laws_eqGroup.f, h1]
  by_cases h2 : a1 ≤ 20
  rotate_left
  · simp [laws_FnExactNewGroup.f, spec_NewGroup.f, spec_GoodGroup.f, spec_GoodGroup.j0, spec_l1In.f, impl_NewGroup.f, impl_isGroup.f, impl_within.f, laws_eqGroup.f, h1, h2]
  by_cases h3 : (1:Int) ≤ a0
  rotate_left
  · simp [laws_FnExactNewGroup.f, spec_NewGroup.f, spec_GoodGroup.f, spec_GoodGroup.j0, spec_l1In.f, impl_NewGroup.f, impl_isGroup.f, impl_within.f, laws_eqGroup.f, h1, h2, h3]
  by_cases h4 : a0 ≤ a1
  rotate_left
  · simp [laws_FnExactNewGroup.f, spec_NewGroup.f, spec_GoodGroup.f, spec_GoodGroup.j0, spec_l1In.f, impl_NewGroup.f, impl_isGroup.f, impl_within.f, laws_eqGroup.f, h1, h2, h3, h4]
  by_cases h5 : (1:Int) ≤ a2
  rotate_left
  · simp [laws_FnExactNewGroup.f, spec_NewGroup.f, spec_GoodGroup.f, spec_GoodGroup.j0, spec_l1In.f, impl_NewGroup.f, impl_isGroup.f, impl_within.f, laws_eqGroup.f, h1, h2, h3, h4, h5]
  by_cases h6 : a2 ≤ a1
  rotate_left
  · simp [laws_FnExactNewGroup.f, spec_NewGroup.f, spec_GoodGroup.f, spec_GoodGroup.j0, spec_l1In.f, impl_NewGroup.f, impl_isGroup.f, impl_within.f, laws_eqGroup.f, h1, h2, h3, h4, h5, h6]
  by_cases h7 : a0 ≤ a3
  rotate_left
  · simp [laws_FnExactNewGroup.f, spec_NewGroup.f, spec_GoodGroup.f, spec_GoodGroup.j0, spec_l1In.f, impl_NewGroup.f, impl_isGroup.f, impl_within.f, laws_eqGroup.f, h1, h2, h3, h4, h5, h6, h7]
  by_cases h8 : a3 ≤ a1
  rotate_left
  · simp [laws_FnExactNewGroup.f, spec_NewGroup.f, spec_GoodGroup.f, spec_GoodGroup.j0, spec_l1In.f, impl_NewGroup.f, impl_isGroup.f, impl_within.f, laws_eqGroup.f, h1, h2, h3, h4, h5, h6, h7, h8]
  by_cases h9 : a3 < a2
  · have h10 : (0:Int) ≤ a3 := by omega
    have h11 : ¬ a2 < a3 := by omega
    simp [laws_FnExactNewGroup.f, spec_NewGroup.f, spec_GoodGroup.f, spec_GoodGroup.j0, spec_l1In.f, spec_l1Least.f, impl_NewGroup.f, impl_isGroup.f, impl_within.f, laws_eqGroup.f, mn, h1, h2, h3, h4, h5, h6, h7, h8, h9, h10, h11]
  · have h10 : (0:Int) ≤ a2 := by omega
    have h12 : (0:Int) ≤ a3 := by omega
    by_cases h11 : a2 < a3 <;>
    simp [laws_FnExactNewGroup.f, spec_NewGroup.f, spec_GoodGroup.f, spec_GoodGroup.j0, spec_l1In.f, spec_l1Least.f, impl_NewGroup.f, impl_isGroup.f, impl_within.f, laws_eqGroup.f, mn, h1, h2, h3, h4, h5, h6, h7, h8, h9, h10, h11, h12]

end Go.Proofs.Ytbcahoaojdbebaa.Pure
