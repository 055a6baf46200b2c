/- NewStore: the program's answer is the answer that the law asks for, whatever the whole number is. Conditions: none. -/
import Derived.Test.YtbcahoaojdbebaaPFnExactNewStorex1
namespace Go.Proofs.Ytbcahoaojdbebaa.Pure
open Go.RowKit Go.Proofs.Ytbcahoaojdbebaa.PFnExactNewStore Go.Proofs.YtbcahoaojdbebaaW.PrintWords Go.Proofs.YtbcahoaojdbebaaW.PrintLast

/-- YOURS: ∀ (a0 : Int), (Lit.int .i64 a0).wf = true → laws_FnExactNewStore.f a0 = some true
What it reaches (each with k first where it has rounds; `.mono`: more rounds tell the same; `.l0`, ..: its loops, with `.mono_l`): spec_l1In.f, spec_GoodStore.f, spec_NewStore.f, impl_within.f, impl_isRoom.f, impl_NewStore.f, laws_eqStore.f, laws_FnExactNewStore.f -/
theorem FnExactNewStore : laws_FnExactNewStore.Pure := by
  intro a0 _
  have hz : (⟨#[]⟩ : ByteArray).size = 0 := rfl
  by_cases h1 : (0:Int) ≤ a0 <;> by_cases h2 : a0 ≤ 4000
  · have h3 : (a0 + 9223372036854775808) % 18446744073709551616 - 9223372036854775808 = a0 := by omega
    simp [laws_FnExactNewStore.f, spec_NewStore.f, spec_GoodStore.f, spec_l1In.f, impl_NewStore.f, impl_isRoom.f, impl_within.f, laws_eqStore.f, h1, h2, wrap64, hz, h3]
  all_goals simp [laws_FnExactNewStore.f, spec_NewStore.f, spec_GoodStore.f, spec_l1In.f, impl_NewStore.f, impl_isRoom.f, impl_within.f, laws_eqStore.f, h1, h2]

end Go.Proofs.Ytbcahoaojdbebaa.Pure
