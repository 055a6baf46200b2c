/- FnExactGoodStore: what the walk tells of the program and of the reference is the same, so the law returns true. Conditions: none. -/
import Derived.Test.YtbcahoaojdbebaaPFnExactGoodStorex
namespace Go.Proofs.Ytbcahoaojdbebaa.Pure
open Go Go.RowKit Go.Proofs.Ytbcahoaojdbebaa.PFnExactGoodStore Go.Proofs.YtbcahoaojdbebaaW.PrintWords Go.Proofs.YtbcahoaojdbebaaW.PrintLast
set_option linter.unusedVariables false
set_option linter.unusedSimpArgs false
namespace FnExactGoodStore

def good (a : Int) (s t : ByteArray) : Bool := decide (0 ≤ a ∧ a ≤ 4000 ∧ (s.size : Int) + t.size ≤ a)

theorem wrap_small {x : Int} (h : -9223372036854775808 ≤ x ∧ x ≤ 9223372036854775807) : wrap64 x = x := by unfold wrap64; omega

theorem spec_good (a : Int) (s t : ByteArray) : spec_GoodStore.f a s t = some (good a s t) := by
  by_cases h1 : 0 ≤ a
  rotate_left
  · simp [spec_GoodStore.f, spec_l1In.f, good, h1]
  by_cases h2 : a ≤ 4000
  rotate_left
  · simp [spec_GoodStore.f, spec_l1In.f, good, h1, h2]
  by_cases h3 : (s.size : Int) ≤ a
  · simp [spec_GoodStore.f, spec_l1In.f, good, h1, h2, h3, wrap_small (x := a - s.size) (by omega)] <;> omega
  · simp [spec_GoodStore.f, spec_l1In.f, good, h1, h2, h3]; omega

theorem impl_good (a : Int) (s t : ByteArray) (hs : (s.size : Int) + t.size ≤ 1048576) : impl_isStore.f a s t = some (good a s t) := by
  by_cases h1 : 0 ≤ a
  rotate_left
  · simp [impl_isStore.f, impl_isRoom.f, impl_within.f, good, h1]
  by_cases h2 : a ≤ 4000
  rotate_left
  · simp [impl_isStore.f, impl_isRoom.f, impl_within.f, good, h1, h2]
  simp [impl_isStore.f, impl_isRoom.f, impl_within.f, good, h1, h2, wrap_small (x := (s.size : Int) + t.size) (by omega)]

theorem sz (a : Int) (s t : ByteArray) (hs : s.size ≤ maxLen) (ht : t.size ≤ maxLen) : laws_szStore.f a s t 1048576 =
    some (if (s.size : Int) + t.size ≤ 1048576 then 1048576 - (s.size : Int) - t.size else -1) := by
  unfold maxLen at hs ht
  have w1 : wrap64 (1048576 - (s.size : Int)) = 1048576 - (s.size : Int) := wrap_small (by omega)
  by_cases h1 : (1048576 - (s.size : Int)) < 0
  · have h2 : ¬ (s.size : Int) + t.size ≤ 1048576 := by omega
    simp [laws_szStore.f, w1, h1, h2]
  · have w2 : wrap64 (1048576 - (s.size : Int) - t.size) = 1048576 - (s.size : Int) - t.size := wrap_small (by omega)
    by_cases h2 : (s.size : Int) + t.size ≤ 1048576
    · have h3 : ¬ 1048576 - (s.size : Int) - t.size < 0 := by omega
      simp [laws_szStore.f, w1, w2, h1, h2, h3]
    · have h3 : 1048576 - (s.size : Int) - t.size < 0 := by omega
      simp [laws_szStore.f, w1, w2, h1, h2, h3]

theorem main (a : Int) (s t : ByteArray) (hs : s.size ≤ maxLen) (ht : t.size ≤ maxLen) : laws_FnExactGoodStore.f a s t = some true := by
  by_cases h : (s.size : Int) + t.size ≤ 1048576
  · have h3 : ¬ 1048576 - (s.size : Int) - t.size < 0 := by omega
    simp [laws_FnExactGoodStore.f, sz a s t hs ht, laws_toStore.f, h, h3, spec_good, impl_GoodStore.f, impl_good a s t h]
  · simp [laws_FnExactGoodStore.f, sz a s t hs ht, h]

end FnExactGoodStore
open FnExactGoodStore
theorem FnExactGoodStore (W : World) (a : Int) (s t : ByteArray) (w0 : (Lit.int .i64 a).wf = true) (hs : s.size ≤ maxLen) (ht : t.size ≤ maxLen) :
    Calls Try.prog 4 #[.agg #[.int .i64 a, .string s, .string t]] W fun e W' => e = .returned (.bool true) ∧ Below W.heap.size W W' := by
  refine (laws_FnExactGoodStore.calls a s t true W ?_).mono ?_
  · exact main a s t hs ht
  · rintro e W' ⟨rfl, hd⟩
    exact ⟨rfl, hd⟩
end Go.Proofs.Ytbcahoaojdbebaa.Pure
