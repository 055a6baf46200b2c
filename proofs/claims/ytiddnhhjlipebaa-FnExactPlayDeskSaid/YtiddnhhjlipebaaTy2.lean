/- The facts of this claim's types, and of what may be called. Conditions: none. -/
import Derived.Test.YtiddnhhjlipebaaProg
import Derived.Test.YtiddnhhjlipebaaK2
import Derived.KernelRfl
namespace Go.Proofs.Ytiddnhhjlipebaa.Ty
open Go Go.Proofs.Ytiddnhhjlipebaa.Am
theorem ld71 : ldK Try.prog 71 = some (none) := by kernel_rfl
theorem sz71 : szT Try.prog 71 = some 1 := by kernel_rfl
theorem sl71 : slT Try.prog 71 = some 80 := by kernel_rfl
theorem zc71 : zcT Try.prog 71 = some [.slice none 0 0] := by kernel_rfl
theorem by71 : byT Try.prog 71 = some 24 := by kernel_rfl
theorem ld88 : ldK Try.prog 88 = some (none) := by kernel_rfl
theorem sz88 : szT Try.prog 88 = some 1 := by kernel_rfl
theorem sl88 : slT Try.prog 88 = some 85 := by kernel_rfl
theorem zc88 : zcT Try.prog 88 = some [.slice none 0 0] := by kernel_rfl
theorem by88 : byT Try.prog 88 = some 24 := by kernel_rfl
theorem ok46 : callOk Try.prog 46 = true := by kernel_rfl
theorem ok56 : callOk Try.prog 56 = true := by kernel_rfl
theorem ok57 : callOk Try.prog 57 = true := by kernel_rfl
theorem ok65 : callOk Try.prog 65 = true := by kernel_rfl
theorem ok66 : callOk Try.prog 66 = true := by kernel_rfl
theorem ok67 : callOk Try.prog 67 = true := by kernel_rfl
theorem ok68 : callOk Try.prog 68 = true := by kernel_rfl
theorem ok114 : callOk Try.prog 114 = true := by kernel_rfl
end Go.Proofs.Ytiddnhhjlipebaa.Ty
