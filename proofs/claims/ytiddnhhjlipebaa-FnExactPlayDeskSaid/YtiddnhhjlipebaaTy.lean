/- The facts of this claim's types, and of what may be called. Conditions: none. -/
import Derived.Test.YtiddnhhjlipebaaProg
import Derived.Test.YtiddnhhjlipebaaK2
import Derived.KernelRfl
namespace Go.Proofs.Ytiddnhhjlipebaa.Ty
open Go Go.Proofs.Ytiddnhhjlipebaa.Am
theorem mx : Try.prog.follows .mixedOrders = true := by kernel_rfl
theorem ld3 : ldK Try.prog 3 = some (none) := by kernel_rfl
theorem sz3 : szT Try.prog 3 = some 1 := by kernel_rfl
theorem zc3 : zcT Try.prog 3 = some [.int .i64 0] := by kernel_rfl
theorem by3 : byT Try.prog 3 = some 8 := by kernel_rfl
theorem un3 : Program.underlying Try.prog 3 = some (TypeDesc.int IntKind.i64) := Try.underlying3
theorem ld4 : ldK Try.prog 4 = some (none) := by kernel_rfl
theorem sz4 : szT Try.prog 4 = some 1 := by kernel_rfl
theorem zc4 : zcT Try.prog 4 = some [.bool false] := by kernel_rfl
theorem by4 : byT Try.prog 4 = some 1 := by kernel_rfl
theorem un4 : Program.underlying Try.prog 4 = some TypeDesc.bool := Try.underlying4
theorem ld24 : ldK Try.prog 24 = some (none) := by kernel_rfl
theorem sz24 : szT Try.prog 24 = some 1 := by kernel_rfl
theorem sl24 : slT Try.prog 24 = some 3 := by kernel_rfl
theorem zc24 : zcT Try.prog 24 = some [.slice none 0 0] := by kernel_rfl
theorem by24 : byT Try.prog 24 = some 24 := by kernel_rfl
theorem un24 : Program.underlying Try.prog 24 = some (TypeDesc.slice 3) := Try.underlying24
theorem ld51 : ldK Try.prog 51 = some (none) := by kernel_rfl
theorem sz51 : szT Try.prog 51 = some 1 := by kernel_rfl
theorem sl51 : slT Try.prog 51 = some 132 := by kernel_rfl
theorem zc51 : zcT Try.prog 51 = some [.slice none 0 0] := by kernel_rfl
theorem by51 : byT Try.prog 51 = some 24 := by kernel_rfl
theorem ld53 : ldK Try.prog 53 = some (some 3) := by kernel_rfl
theorem sz53 : szT Try.prog 53 = some 3 := by kernel_rfl
theorem zc53 : zcT Try.prog 53 = some [.int .i64 0, .slice none 0 0, .slice none 0 0] := by kernel_rfl
theorem by53 : byT Try.prog 53 = some 56 := by kernel_rfl
theorem fl53_0 : fldT Try.prog 53 0 = some (0, 3) := by kernel_rfl
theorem fl53_1 : fldT Try.prog 53 1 = some (1, 24) := by kernel_rfl
theorem fl53_2 : fldT Try.prog 53 2 = some (2, 51) := by kernel_rfl
theorem ld56 : ldK Try.prog 56 = some (none) := by kernel_rfl
theorem sz56 : szT Try.prog 56 = some 1 := by kernel_rfl
theorem sl56 : slT Try.prog 56 = some 77 := by kernel_rfl
theorem zc56 : zcT Try.prog 56 = some [.slice none 0 0] := by kernel_rfl
theorem by56 : byT Try.prog 56 = some 24 := by kernel_rfl
theorem ld58 : ldK Try.prog 58 = some (some 3) := by kernel_rfl
theorem sz58 : szT Try.prog 58 = some 3 := by kernel_rfl
theorem zc58 : zcT Try.prog 58 = some [.int .i64 0, .slice none 0 0, .slice none 0 0] := by kernel_rfl
theorem by58 : byT Try.prog 58 = some 56 := by kernel_rfl
theorem pl58 : plT Try.prog 58 = some #[(0, 1), (1, 1), (2, 1)] := by kernel_rfl
theorem fl58_0 : fldT Try.prog 58 0 = some (0, 3) := by kernel_rfl
theorem fl58_1 : fldT Try.prog 58 1 = some (1, 24) := by kernel_rfl
theorem fl58_2 : fldT Try.prog 58 2 = some (2, 56) := by kernel_rfl
theorem ld77 : ldK Try.prog 77 = some (some 6) := by kernel_rfl
theorem sz77 : szT Try.prog 77 = some 6 := by kernel_rfl
theorem zc77 : zcT Try.prog 77 = some [.int .i64 0, .int .i64 0, .int .i64 0, .int .i64 0, .int .i64 0, .int .i64 0] := by kernel_rfl
theorem by77 : byT Try.prog 77 = some 48 := by kernel_rfl
theorem pl77 : plT Try.prog 77 = some #[(0, 1), (1, 1), (2, 1), (3, 1), (4, 1), (5, 1)] := by kernel_rfl
theorem fl77_0 : fldT Try.prog 77 0 = some (0, 3) := by kernel_rfl
theorem fl77_1 : fldT Try.prog 77 1 = some (1, 3) := by kernel_rfl
theorem fl77_2 : fldT Try.prog 77 2 = some (2, 3) := by kernel_rfl
theorem fl77_3 : fldT Try.prog 77 3 = some (3, 3) := by kernel_rfl
theorem fl77_4 : fldT Try.prog 77 4 = some (4, 3) := by kernel_rfl
theorem fl77_5 : fldT Try.prog 77 5 = some (5, 3) := by kernel_rfl
theorem ld80 : ldK Try.prog 80 = some (some 8) := by kernel_rfl
theorem sz80 : szT Try.prog 80 = some 8 := by kernel_rfl
theorem zc80 : zcT Try.prog 80 = some [.int .i64 0, .int .i64 0, .int .i64 0, .int .i64 0, .int .i64 0, .int .i64 0, .int .i64 0, .int .i64 0] := by kernel_rfl
theorem by80 : byT Try.prog 80 = some 64 := by kernel_rfl
theorem pl80 : plT Try.prog 80 = some #[(0, 1), (1, 1), (2, 1), (3, 1), (4, 1), (5, 1), (6, 1), (7, 1)] := by kernel_rfl
theorem fl80_0 : fldT Try.prog 80 0 = some (0, 3) := by kernel_rfl
theorem fl80_1 : fldT Try.prog 80 1 = some (1, 3) := by kernel_rfl
theorem fl80_2 : fldT Try.prog 80 2 = some (2, 3) := by kernel_rfl
theorem fl80_3 : fldT Try.prog 80 3 = some (3, 3) := by kernel_rfl
theorem fl80_4 : fldT Try.prog 80 4 = some (4, 3) := by kernel_rfl
theorem fl80_5 : fldT Try.prog 80 5 = some (5, 3) := by kernel_rfl
theorem fl80_6 : fldT Try.prog 80 6 = some (6, 3) := by kernel_rfl
theorem fl80_7 : fldT Try.prog 80 7 = some (7, 3) := by kernel_rfl
theorem ld85 : ldK Try.prog 85 = some (some 8) := by kernel_rfl
theorem sz85 : szT Try.prog 85 = some 8 := by kernel_rfl
theorem zc85 : zcT Try.prog 85 = some [.int .i64 0, .int .i64 0, .int .i64 0, .int .i64 0, .int .i64 0, .int .i64 0, .int .i64 0, .int .i64 0] := by kernel_rfl
theorem by85 : byT Try.prog 85 = some 64 := by kernel_rfl
theorem fl85_0 : fldT Try.prog 85 0 = some (0, 3) := by kernel_rfl
theorem fl85_1 : fldT Try.prog 85 1 = some (1, 3) := by kernel_rfl
theorem fl85_2 : fldT Try.prog 85 2 = some (2, 3) := by kernel_rfl
theorem fl85_3 : fldT Try.prog 85 3 = some (3, 3) := by kernel_rfl
theorem fl85_4 : fldT Try.prog 85 4 = some (4, 3) := by kernel_rfl
theorem fl85_5 : fldT Try.prog 85 5 = some (5, 3) := by kernel_rfl
theorem fl85_6 : fldT Try.prog 85 6 = some (6, 3) := by kernel_rfl
theorem fl85_7 : fldT Try.prog 85 7 = some (7, 3) := by kernel_rfl
theorem ld122 : ldK Try.prog 122 = some (none) := by kernel_rfl
theorem sz122 : szT Try.prog 122 = some 1 := by kernel_rfl
theorem zc122 : zcT Try.prog 122 = some [.nilFunc] := by kernel_rfl
theorem by122 : byT Try.prog 122 = some 8 := by kernel_rfl
theorem ld132 : ldK Try.prog 132 = some (some 6) := by kernel_rfl
theorem sz132 : szT Try.prog 132 = some 6 := by kernel_rfl
theorem zc132 : zcT Try.prog 132 = some [.int .i64 0, .int .i64 0, .int .i64 0, .int .i64 0, .int .i64 0, .int .i64 0] := by kernel_rfl
theorem by132 : byT Try.prog 132 = some 48 := by kernel_rfl
theorem fl132_0 : fldT Try.prog 132 0 = some (0, 3) := by kernel_rfl
theorem fl132_1 : fldT Try.prog 132 1 = some (1, 3) := by kernel_rfl
theorem fl132_2 : fldT Try.prog 132 2 = some (2, 3) := by kernel_rfl
theorem fl132_3 : fldT Try.prog 132 3 = some (3, 3) := by kernel_rfl
theorem fl132_4 : fldT Try.prog 132 4 = some (4, 3) := by kernel_rfl
theorem fl132_5 : fldT Try.prog 132 5 = some (5, 3) := by kernel_rfl
theorem ld135 : ldK Try.prog 135 = some (none) := by kernel_rfl
theorem sz135 : szT Try.prog 135 = some 1 := by kernel_rfl
theorem un135 : Program.underlying Try.prog 135 = some (TypeDesc.int IntKind.u64) := Try.underlying135
theorem ld139 : ldK Try.prog 139 = some (none) := by kernel_rfl
theorem sz139 : szT Try.prog 139 = some 1 := by kernel_rfl
theorem zc139 : zcT Try.prog 139 = some [.pointer none] := by kernel_rfl
theorem by139 : byT Try.prog 139 = some 8 := by kernel_rfl
theorem ok17 : callOk Try.prog 17 = true := by kernel_rfl
theorem ok21 : callOk Try.prog 21 = true := by kernel_rfl
theorem ok22 : callOk Try.prog 22 = true := by kernel_rfl
theorem ok39 : callOk Try.prog 39 = true := by kernel_rfl
theorem ok40 : callOk Try.prog 40 = true := by kernel_rfl
theorem ok41 : callOk Try.prog 41 = true := by kernel_rfl
theorem ok43 : callOk Try.prog 43 = true := by kernel_rfl
theorem ok48 : callOk Try.prog 48 = true := by kernel_rfl
theorem ok49 : callOk Try.prog 49 = true := by kernel_rfl
theorem ok52 : callOk Try.prog 52 = true := by kernel_rfl
theorem ok62 : callOk Try.prog 62 = true := by kernel_rfl
theorem ok63 : callOk Try.prog 63 = true := by kernel_rfl
theorem ok64 : callOk Try.prog 64 = true := by kernel_rfl
theorem ok84 : callOk Try.prog 84 = true := by kernel_rfl
theorem ok89 : callOk Try.prog 89 = true := by kernel_rfl
theorem ok90 : callOk Try.prog 90 = true := by kernel_rfl
theorem ok91 : callOk Try.prog 91 = true := by kernel_rfl
theorem ok92 : callOk Try.prog 92 = true := by kernel_rfl
theorem ok93 : callOk Try.prog 93 = true := by kernel_rfl
theorem ok94 : callOk Try.prog 94 = true := by kernel_rfl
theorem ok95 : callOk Try.prog 95 = true := by kernel_rfl
theorem ok96 : callOk Try.prog 96 = true := by kernel_rfl
theorem ok97 : callOk Try.prog 97 = true := by kernel_rfl
theorem ok98 : callOk Try.prog 98 = true := by kernel_rfl
theorem ok99 : callOk Try.prog 99 = true := by kernel_rfl
theorem ok100 : callOk Try.prog 100 = true := by kernel_rfl
theorem ok101 : callOk Try.prog 101 = true := by kernel_rfl
theorem ok102 : callOk Try.prog 102 = true := by kernel_rfl
theorem ok103 : callOk Try.prog 103 = true := by kernel_rfl
theorem ok109 : callOk Try.prog 109 = true := by kernel_rfl
theorem ok110 : callOk Try.prog 110 = true := by kernel_rfl
theorem ok113 : callOk Try.prog 113 = true := by kernel_rfl
theorem ok117 : callOk Try.prog 117 = true := by kernel_rfl
theorem ok118 : callOk Try.prog 118 = true := by kernel_rfl
theorem ok119 : callOk Try.prog 119 = true := by kernel_rfl
theorem ok120 : callOk Try.prog 120 = true := by kernel_rfl
theorem ok121 : callOk Try.prog 121 = true := by kernel_rfl
theorem ok122 : callOk Try.prog 122 = true := by kernel_rfl
theorem ok123 : callOk Try.prog 123 = true := by kernel_rfl
theorem ok124 : callOk Try.prog 124 = true := by kernel_rfl
theorem ok125 : callOk Try.prog 125 = true := by kernel_rfl
theorem ok126 : callOk Try.prog 126 = true := by kernel_rfl
theorem ok127 : callOk Try.prog 127 = true := by kernel_rfl
theorem ok128 : callOk Try.prog 128 = true := by kernel_rfl
theorem ok129 : callOk Try.prog 129 = true := by kernel_rfl
theorem ok130 : callOk Try.prog 130 = true := by kernel_rfl
theorem ok131 : callOk Try.prog 131 = true := by kernel_rfl
theorem ok133 : callOk Try.prog 133 = true := by kernel_rfl
theorem ok134 : callOk Try.prog 134 = true := by kernel_rfl
theorem ok135 : callOk Try.prog 135 = true := by kernel_rfl
theorem ok136 : callOk Try.prog 136 = true := by kernel_rfl
theorem ok137 : callOk Try.prog 137 = true := by kernel_rfl
end Go.Proofs.Ytiddnhhjlipebaa.Ty
