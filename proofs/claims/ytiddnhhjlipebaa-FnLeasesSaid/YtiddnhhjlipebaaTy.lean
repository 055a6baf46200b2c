/- The facts of this claim's types, and of what may be called. Conditions: none. -/
import Derived.Test.YtiddnhhjlipebaaProg
import Derived.Test.YtiddnhhjlipebaaK3
import Derived.KernelRfl
namespace Go.Proofs.Ytiddnhhjlipebaa.Ty
open Go Go.Proofs.Ytiddnhhjlipebaa.Am
theorem mx : Try.prog.follows .mixedOrders = true := by kernel_rfl
theorem ld1 : ldK Try.prog 1 = some (none) := by kernel_rfl
theorem sz1 : szT Try.prog 1 = some 1 := by kernel_rfl
theorem sl1 : slT Try.prog 1 = none := by kernel_rfl
theorem st1 : stT Try.prog 1 = false := by kernel_rfl
theorem zc1 : zcT Try.prog 1 = some [.nilFunc] := by kernel_rfl
theorem by1 : byT Try.prog 1 = some 8 := by kernel_rfl
theorem pl1 : plT Try.prog 1 = none := by kernel_rfl
theorem t1 : ldK Try.prog 1 = some (none) ∧ szT Try.prog 1 = some 1 ∧ slT Try.prog 1 = none ∧ stT Try.prog 1 = false ∧ zcT Try.prog 1 = some [.nilFunc] ∧ byT Try.prog 1 = some 8 ∧ plT Try.prog 1 = none := ⟨ld1, sz1, sl1, st1, zc1, by1, pl1⟩
theorem ld3 : ldK Try.prog 3 = some (none) := by kernel_rfl
theorem sz3 : szT Try.prog 3 = some 1 := by kernel_rfl
theorem sl3 : slT Try.prog 3 = none := by kernel_rfl
theorem st3 : stT Try.prog 3 = false := by kernel_rfl
theorem zc3 : zcT Try.prog 3 = some [.int .i64 0] := by kernel_rfl
theorem by3 : byT Try.prog 3 = some 8 := by kernel_rfl
theorem un3 : Program.underlying Try.prog 3 = some (TypeDesc.int IntKind.i64) := Try.underlying3
theorem pl3 : plT Try.prog 3 = none := by kernel_rfl
theorem t3 : ldK Try.prog 3 = some (none) ∧ szT Try.prog 3 = some 1 ∧ slT Try.prog 3 = none ∧ stT Try.prog 3 = false ∧ zcT Try.prog 3 = some [.int .i64 0] ∧ byT Try.prog 3 = some 8 ∧ plT Try.prog 3 = none := ⟨ld3, sz3, sl3, st3, zc3, by3, pl3⟩
theorem ld4 : ldK Try.prog 4 = some (none) := by kernel_rfl
theorem sz4 : szT Try.prog 4 = some 1 := by kernel_rfl
theorem sl4 : slT Try.prog 4 = none := by kernel_rfl
theorem st4 : stT Try.prog 4 = false := by kernel_rfl
theorem zc4 : zcT Try.prog 4 = some [.bool false] := by kernel_rfl
theorem by4 : byT Try.prog 4 = some 1 := by kernel_rfl
theorem un4 : Program.underlying Try.prog 4 = some TypeDesc.bool := Try.underlying4
theorem pl4 : plT Try.prog 4 = none := by kernel_rfl
theorem t4 : ldK Try.prog 4 = some (none) ∧ szT Try.prog 4 = some 1 ∧ slT Try.prog 4 = none ∧ stT Try.prog 4 = false ∧ zcT Try.prog 4 = some [.bool false] ∧ byT Try.prog 4 = some 1 ∧ plT Try.prog 4 = none := ⟨ld4, sz4, sl4, st4, zc4, by4, pl4⟩
theorem ld5 : ldK Try.prog 5 = some (none) := by kernel_rfl
theorem sz5 : szT Try.prog 5 = some 1 := by kernel_rfl
theorem sl5 : slT Try.prog 5 = none := by kernel_rfl
theorem st5 : stT Try.prog 5 = false := by kernel_rfl
theorem zc5 : zcT Try.prog 5 = some [.int .u8 0] := by kernel_rfl
theorem by5 : byT Try.prog 5 = some 1 := by kernel_rfl
theorem un5 : Program.underlying Try.prog 5 = some (TypeDesc.int IntKind.u8) := Try.underlying5
theorem pl5 : plT Try.prog 5 = none := by kernel_rfl
theorem t5 : ldK Try.prog 5 = some (none) ∧ szT Try.prog 5 = some 1 ∧ slT Try.prog 5 = none ∧ stT Try.prog 5 = false ∧ zcT Try.prog 5 = some [.int .u8 0] ∧ byT Try.prog 5 = some 1 ∧ plT Try.prog 5 = none := ⟨ld5, sz5, sl5, st5, zc5, by5, pl5⟩
theorem ld24 : ldK Try.prog 24 = some (none) := by kernel_rfl
theorem sz24 : szT Try.prog 24 = some 1 := by kernel_rfl
theorem sl24 : slT Try.prog 24 = some 3 := by kernel_rfl
theorem st24 : stT Try.prog 24 = false := by kernel_rfl
theorem zc24 : zcT Try.prog 24 = some [.slice none 0 0] := by kernel_rfl
theorem by24 : byT Try.prog 24 = some 24 := by kernel_rfl
theorem un24 : Program.underlying Try.prog 24 = some (TypeDesc.slice 3) := Try.underlying24
theorem pl24 : plT Try.prog 24 = none := by kernel_rfl
theorem t24 : ldK Try.prog 24 = some (none) ∧ szT Try.prog 24 = some 1 ∧ slT Try.prog 24 = some 3 ∧ stT Try.prog 24 = false ∧ zcT Try.prog 24 = some [.slice none 0 0] ∧ byT Try.prog 24 = some 24 ∧ plT Try.prog 24 = none := ⟨ld24, sz24, sl24, st24, zc24, by24, pl24⟩
theorem ld37 : ldK Try.prog 37 = some (none) := by kernel_rfl
theorem sz37 : szT Try.prog 37 = some 1 := by kernel_rfl
theorem sl37 : slT Try.prog 37 = some 5 := by kernel_rfl
theorem st37 : stT Try.prog 37 = false := by kernel_rfl
theorem zc37 : zcT Try.prog 37 = some [.slice none 0 0] := by kernel_rfl
theorem by37 : byT Try.prog 37 = some 24 := by kernel_rfl
theorem un37 : Program.underlying Try.prog 37 = some (TypeDesc.slice 5) := Try.underlying37
theorem pl37 : plT Try.prog 37 = none := by kernel_rfl
theorem t37 : ldK Try.prog 37 = some (none) ∧ szT Try.prog 37 = some 1 ∧ slT Try.prog 37 = some 5 ∧ stT Try.prog 37 = false ∧ zcT Try.prog 37 = some [.slice none 0 0] ∧ byT Try.prog 37 = some 24 ∧ plT Try.prog 37 = none := ⟨ld37, sz37, sl37, st37, zc37, by37, pl37⟩
theorem ld56 : ldK Try.prog 56 = some (none) := by kernel_rfl
theorem sz56 : szT Try.prog 56 = some 1 := by kernel_rfl
theorem sl56 : slT Try.prog 56 = some 77 := by kernel_rfl
theorem st56 : stT Try.prog 56 = false := by kernel_rfl
theorem zc56 : zcT Try.prog 56 = some [.slice none 0 0] := by kernel_rfl
theorem by56 : byT Try.prog 56 = some 24 := by kernel_rfl
theorem pl56 : plT Try.prog 56 = none := by kernel_rfl
theorem t56 : ldK Try.prog 56 = some (none) ∧ szT Try.prog 56 = some 1 ∧ slT Try.prog 56 = some 77 ∧ stT Try.prog 56 = false ∧ zcT Try.prog 56 = some [.slice none 0 0] ∧ byT Try.prog 56 = some 24 ∧ plT Try.prog 56 = none := ⟨ld56, sz56, sl56, st56, zc56, by56, pl56⟩
theorem ld58 : ldK Try.prog 58 = some (some 3) := by kernel_rfl
theorem sz58 : szT Try.prog 58 = some 3 := by kernel_rfl
theorem sl58 : slT Try.prog 58 = none := by kernel_rfl
theorem st58 : stT Try.prog 58 = false := by kernel_rfl
theorem zc58 : zcT Try.prog 58 = some [.int .i64 0, .slice none 0 0, .slice none 0 0] := by kernel_rfl
theorem by58 : byT Try.prog 58 = some 56 := by kernel_rfl
theorem pl58 : plT Try.prog 58 = some #[(0, 1), (1, 1), (2, 1)] := by kernel_rfl
theorem fl58_0 : fldT Try.prog 58 0 = some (0, 3) := by kernel_rfl
theorem fl58_1 : fldT Try.prog 58 1 = some (1, 24) := by kernel_rfl
theorem fl58_2 : fldT Try.prog 58 2 = some (2, 56) := by kernel_rfl
theorem t58 : ldK Try.prog 58 = some (some 3) ∧ szT Try.prog 58 = some 3 ∧ slT Try.prog 58 = none ∧ stT Try.prog 58 = false ∧ zcT Try.prog 58 = some [.int .i64 0, .slice none 0 0, .slice none 0 0] ∧ byT Try.prog 58 = some 56 ∧ plT Try.prog 58 = some #[(0, 1), (1, 1), (2, 1)] ∧ fldT Try.prog 58 0 = some (0, 3) ∧ fldT Try.prog 58 1 = some (1, 24) ∧ fldT Try.prog 58 2 = some (2, 56) := ⟨ld58, sz58, sl58, st58, zc58, by58, pl58, fl58_0, fl58_1, fl58_2⟩
theorem ld71 : ldK Try.prog 71 = some (none) := by kernel_rfl
theorem sz71 : szT Try.prog 71 = some 1 := by kernel_rfl
theorem sl71 : slT Try.prog 71 = some 80 := by kernel_rfl
theorem st71 : stT Try.prog 71 = false := by kernel_rfl
theorem zc71 : zcT Try.prog 71 = some [.slice none 0 0] := by kernel_rfl
theorem by71 : byT Try.prog 71 = some 24 := by kernel_rfl
theorem pl71 : plT Try.prog 71 = none := by kernel_rfl
theorem t71 : ldK Try.prog 71 = some (none) ∧ szT Try.prog 71 = some 1 ∧ slT Try.prog 71 = some 80 ∧ stT Try.prog 71 = false ∧ zcT Try.prog 71 = some [.slice none 0 0] ∧ byT Try.prog 71 = some 24 ∧ plT Try.prog 71 = none := ⟨ld71, sz71, sl71, st71, zc71, by71, pl71⟩
theorem ld77 : ldK Try.prog 77 = some (some 6) := by kernel_rfl
theorem sz77 : szT Try.prog 77 = some 6 := by kernel_rfl
theorem sl77 : slT Try.prog 77 = none := by kernel_rfl
theorem st77 : stT Try.prog 77 = false := by kernel_rfl
theorem zc77 : zcT Try.prog 77 = some [.int .i64 0, .int .i64 0, .int .i64 0, .int .i64 0, .int .i64 0, .int .i64 0] := by kernel_rfl
theorem by77 : byT Try.prog 77 = some 48 := by kernel_rfl
theorem pl77 : plT Try.prog 77 = some #[(0, 1), (1, 1), (2, 1), (3, 1), (4, 1), (5, 1)] := by kernel_rfl
theorem fl77_0 : fldT Try.prog 77 0 = some (0, 3) := by kernel_rfl
theorem fl77_1 : fldT Try.prog 77 1 = some (1, 3) := by kernel_rfl
theorem fl77_2 : fldT Try.prog 77 2 = some (2, 3) := by kernel_rfl
theorem fl77_3 : fldT Try.prog 77 3 = some (3, 3) := by kernel_rfl
theorem fl77_4 : fldT Try.prog 77 4 = some (4, 3) := by kernel_rfl
theorem fl77_5 : fldT Try.prog 77 5 = some (5, 3) := by kernel_rfl
theorem t77 : ldK Try.prog 77 = some (some 6) ∧ szT Try.prog 77 = some 6 ∧ slT Try.prog 77 = none ∧ stT Try.prog 77 = false ∧ zcT Try.prog 77 = some [.int .i64 0, .int .i64 0, .int .i64 0, .int .i64 0, .int .i64 0, .int .i64 0] ∧ byT Try.prog 77 = some 48 ∧ plT Try.prog 77 = some #[(0, 1), (1, 1), (2, 1), (3, 1), (4, 1), (5, 1)] ∧ fldT Try.prog 77 0 = some (0, 3) ∧ fldT Try.prog 77 1 = some (1, 3) ∧ fldT Try.prog 77 2 = some (2, 3) ∧ fldT Try.prog 77 3 = some (3, 3) ∧ fldT Try.prog 77 4 = some (4, 3) ∧ fldT Try.prog 77 5 = some (5, 3) := ⟨ld77, sz77, sl77, st77, zc77, by77, pl77, fl77_0, fl77_1, fl77_2, fl77_3, fl77_4, fl77_5⟩
theorem ld80 : ldK Try.prog 80 = some (some 8) := by kernel_rfl
theorem sz80 : szT Try.prog 80 = some 8 := by kernel_rfl
theorem sl80 : slT Try.prog 80 = none := by kernel_rfl
theorem st80 : stT Try.prog 80 = false := by kernel_rfl
theorem zc80 : zcT Try.prog 80 = some [.int .i64 0, .int .i64 0, .int .i64 0, .int .i64 0, .int .i64 0, .int .i64 0, .int .i64 0, .int .i64 0] := by kernel_rfl
theorem by80 : byT Try.prog 80 = some 64 := by kernel_rfl
theorem pl80 : plT Try.prog 80 = some #[(0, 1), (1, 1), (2, 1), (3, 1), (4, 1), (5, 1), (6, 1), (7, 1)] := by kernel_rfl
theorem fl80_0 : fldT Try.prog 80 0 = some (0, 3) := by kernel_rfl
theorem fl80_1 : fldT Try.prog 80 1 = some (1, 3) := by kernel_rfl
theorem fl80_2 : fldT Try.prog 80 2 = some (2, 3) := by kernel_rfl
theorem fl80_3 : fldT Try.prog 80 3 = some (3, 3) := by kernel_rfl
theorem fl80_4 : fldT Try.prog 80 4 = some (4, 3) := by kernel_rfl
theorem fl80_5 : fldT Try.prog 80 5 = some (5, 3) := by kernel_rfl
theorem fl80_6 : fldT Try.prog 80 6 = some (6, 3) := by kernel_rfl
theorem fl80_7 : fldT Try.prog 80 7 = some (7, 3) := by kernel_rfl
theorem t80 : ldK Try.prog 80 = some (some 8) ∧ szT Try.prog 80 = some 8 ∧ slT Try.prog 80 = none ∧ stT Try.prog 80 = false ∧ zcT Try.prog 80 = some [.int .i64 0, .int .i64 0, .int .i64 0, .int .i64 0, .int .i64 0, .int .i64 0, .int .i64 0, .int .i64 0] ∧ byT Try.prog 80 = some 64 ∧ plT Try.prog 80 = some #[(0, 1), (1, 1), (2, 1), (3, 1), (4, 1), (5, 1), (6, 1), (7, 1)] ∧ fldT Try.prog 80 0 = some (0, 3) ∧ fldT Try.prog 80 1 = some (1, 3) ∧ fldT Try.prog 80 2 = some (2, 3) ∧ fldT Try.prog 80 3 = some (3, 3) ∧ fldT Try.prog 80 4 = some (4, 3) ∧ fldT Try.prog 80 5 = some (5, 3) ∧ fldT Try.prog 80 6 = some (6, 3) ∧ fldT Try.prog 80 7 = some (7, 3) := ⟨ld80, sz80, sl80, st80, zc80, by80, pl80, fl80_0, fl80_1, fl80_2, fl80_3, fl80_4, fl80_5, fl80_6, fl80_7⟩
theorem ld103 : ldK Try.prog 103 = some (none) := by kernel_rfl
theorem sz103 : szT Try.prog 103 = some 1 := by kernel_rfl
theorem sl103 : slT Try.prog 103 = none := by kernel_rfl
theorem st103 : stT Try.prog 103 = false := by kernel_rfl
theorem zc103 : zcT Try.prog 103 = some [.pointer none] := by kernel_rfl
theorem by103 : byT Try.prog 103 = some 8 := by kernel_rfl
theorem pl103 : plT Try.prog 103 = none := by kernel_rfl
theorem t103 : ldK Try.prog 103 = some (none) ∧ szT Try.prog 103 = some 1 ∧ slT Try.prog 103 = none ∧ stT Try.prog 103 = false ∧ zcT Try.prog 103 = some [.pointer none] ∧ byT Try.prog 103 = some 8 ∧ plT Try.prog 103 = none := ⟨ld103, sz103, sl103, st103, zc103, by103, pl103⟩
theorem ld104 : ldK Try.prog 104 = some (none) := by kernel_rfl
theorem sz104 : szT Try.prog 104 = some 1 := by kernel_rfl
theorem sl104 : slT Try.prog 104 = none := by kernel_rfl
theorem st104 : stT Try.prog 104 = false := by kernel_rfl
theorem zc104 : zcT Try.prog 104 = some [.int .u64 0] := by kernel_rfl
theorem by104 : byT Try.prog 104 = some 8 := by kernel_rfl
theorem un104 : Program.underlying Try.prog 104 = some (TypeDesc.int IntKind.u64) := Try.underlying104
theorem pl104 : plT Try.prog 104 = none := by kernel_rfl
theorem t104 : ldK Try.prog 104 = some (none) ∧ szT Try.prog 104 = some 1 ∧ slT Try.prog 104 = none ∧ stT Try.prog 104 = false ∧ zcT Try.prog 104 = some [.int .u64 0] ∧ byT Try.prog 104 = some 8 ∧ plT Try.prog 104 = none := ⟨ld104, sz104, sl104, st104, zc104, by104, pl104⟩
theorem ld106 : ldK Try.prog 106 = some (some 3) := by kernel_rfl
theorem sz106 : szT Try.prog 106 = some 3 := by kernel_rfl
theorem sl106 : slT Try.prog 106 = none := by kernel_rfl
theorem st106 : stT Try.prog 106 = false := by kernel_rfl
theorem zc106 : zcT Try.prog 106 = some [.slice none 0 0, .int .i64 0, .int .u64 0] := by kernel_rfl
theorem by106 : byT Try.prog 106 = some 40 := by kernel_rfl
theorem un106 : Program.underlying Try.prog 106 = some (TypeDesc.struct #[{ name := "code", type := 37, offset := 0, embedded := false, tag := "", pkgPath := "loop.example/g00662/spec", byteOffset := 0 }, { name := "at", type := 3, offset := 1, embedded := false, tag := "", pkgPath := "loop.example/g00662/spec", byteOffset := 24 }, { name := "seed", type := 104, offset := 2, embedded := false, tag := "", pkgPath := "loop.example/g00662/spec", byteOffset := 32 }]) := Try.underlying106
theorem pl106 : plT Try.prog 106 = some #[(0, 1), (1, 1), (2, 1)] := by kernel_rfl
theorem fl106_0 : fldT Try.prog 106 0 = some (0, 37) := by kernel_rfl
theorem fl106_1 : fldT Try.prog 106 1 = some (1, 3) := by kernel_rfl
theorem fl106_2 : fldT Try.prog 106 2 = some (2, 104) := by kernel_rfl
theorem t106 : ldK Try.prog 106 = some (some 3) ∧ szT Try.prog 106 = some 3 ∧ slT Try.prog 106 = none ∧ stT Try.prog 106 = false ∧ zcT Try.prog 106 = some [.slice none 0 0, .int .i64 0, .int .u64 0] ∧ byT Try.prog 106 = some 40 ∧ plT Try.prog 106 = some #[(0, 1), (1, 1), (2, 1)] ∧ fldT Try.prog 106 0 = some (0, 37) ∧ fldT Try.prog 106 1 = some (1, 3) ∧ fldT Try.prog 106 2 = some (2, 104) := ⟨ld106, sz106, sl106, st106, zc106, by106, pl106, fl106_0, fl106_1, fl106_2⟩
theorem ld122 : ldK Try.prog 122 = some (none) := by kernel_rfl
theorem sz122 : szT Try.prog 122 = some 1 := by kernel_rfl
theorem sl122 : slT Try.prog 122 = none := by kernel_rfl
theorem st122 : stT Try.prog 122 = false := by kernel_rfl
theorem zc122 : zcT Try.prog 122 = some [.nilFunc] := by kernel_rfl
theorem by122 : byT Try.prog 122 = some 8 := by kernel_rfl
theorem pl122 : plT Try.prog 122 = none := by kernel_rfl
theorem t122 : ldK Try.prog 122 = some (none) ∧ szT Try.prog 122 = some 1 ∧ slT Try.prog 122 = none ∧ stT Try.prog 122 = false ∧ zcT Try.prog 122 = some [.nilFunc] ∧ byT Try.prog 122 = some 8 ∧ plT Try.prog 122 = none := ⟨ld122, sz122, sl122, st122, zc122, by122, pl122⟩
theorem ld135 : ldK Try.prog 135 = some (none) := by kernel_rfl
theorem sz135 : szT Try.prog 135 = some 1 := by kernel_rfl
theorem sl135 : slT Try.prog 135 = none := by kernel_rfl
theorem st135 : stT Try.prog 135 = false := by kernel_rfl
theorem zc135 : zcT Try.prog 135 = some [.int .u64 0] := by kernel_rfl
theorem by135 : byT Try.prog 135 = some 8 := by kernel_rfl
theorem un135 : Program.underlying Try.prog 135 = some (TypeDesc.int IntKind.u64) := Try.underlying135
theorem pl135 : plT Try.prog 135 = none := by kernel_rfl
theorem t135 : ldK Try.prog 135 = some (none) ∧ szT Try.prog 135 = some 1 ∧ slT Try.prog 135 = none ∧ stT Try.prog 135 = false ∧ zcT Try.prog 135 = some [.int .u64 0] ∧ byT Try.prog 135 = some 8 ∧ plT Try.prog 135 = none := ⟨ld135, sz135, sl135, st135, zc135, by135, pl135⟩
theorem ld139 : ldK Try.prog 139 = some (none) := by kernel_rfl
theorem sz139 : szT Try.prog 139 = some 1 := by kernel_rfl
theorem sl139 : slT Try.prog 139 = none := by kernel_rfl
theorem st139 : stT Try.prog 139 = false := by kernel_rfl
theorem zc139 : zcT Try.prog 139 = some [.pointer none] := by kernel_rfl
theorem by139 : byT Try.prog 139 = some 8 := by kernel_rfl
theorem pl139 : plT Try.prog 139 = none := by kernel_rfl
theorem t139 : ldK Try.prog 139 = some (none) ∧ szT Try.prog 139 = some 1 ∧ slT Try.prog 139 = none ∧ stT Try.prog 139 = false ∧ zcT Try.prog 139 = some [.pointer none] ∧ byT Try.prog 139 = some 8 ∧ plT Try.prog 139 = none := ⟨ld139, sz139, sl139, st139, zc139, by139, pl139⟩
theorem ok3 : callOk Try.prog 3 = true := by kernel_rfl
theorem c3 : XRC Try.prog 3 := xrc ok3
theorem n3 : XRN Try.prog 3 := xrn ok3
theorem ok25 : callOk Try.prog 25 = true := by kernel_rfl
theorem c25 : XRC Try.prog 25 := xrc ok25
theorem d25 : XDC Try.prog 25 := xdc ok25
theorem ok40 : callOk Try.prog 40 = true := by kernel_rfl
theorem c40 : XRC Try.prog 40 := xrc ok40
theorem ok44 : callOk Try.prog 44 = true := by kernel_rfl
theorem c44 : XRC Try.prog 44 := xrc ok44
theorem d44 : XDC Try.prog 44 := xdc ok44
theorem ok45 : callOk Try.prog 45 = true := by kernel_rfl
theorem c45 : XRC Try.prog 45 := xrc ok45
theorem d45 : XDC Try.prog 45 := xdc ok45
theorem ok46 : callOk Try.prog 46 = true := by kernel_rfl
theorem c46 : XRC Try.prog 46 := xrc ok46
theorem d46 : XDC Try.prog 46 := xdc ok46
theorem ok47 : callOk Try.prog 47 = true := by kernel_rfl
theorem c47 : XRC Try.prog 47 := xrc ok47
theorem d47 : XDC Try.prog 47 := xdc ok47
theorem l47 : XDL Try.prog 47 := xdl ok47
theorem ok50 : callOk Try.prog 50 = true := by kernel_rfl
theorem c50 : XRC Try.prog 50 := xrc ok50
theorem d50 : XDC Try.prog 50 := xdc ok50
theorem ok51 : callOk Try.prog 51 = true := by kernel_rfl
theorem c51 : XRC Try.prog 51 := xrc ok51
theorem d51 : XDC Try.prog 51 := xdc ok51
theorem ok53 : callOk Try.prog 53 = true := by kernel_rfl
theorem c53 : XRC Try.prog 53 := xrc ok53
theorem d53 : XDC Try.prog 53 := xdc ok53
theorem ok54 : callOk Try.prog 54 = true := by kernel_rfl
theorem c54 : XRC Try.prog 54 := xrc ok54
theorem d54 : XDC Try.prog 54 := xdc ok54
theorem ok57 : callOk Try.prog 57 = true := by kernel_rfl
theorem c57 : XRC Try.prog 57 := xrc ok57
theorem d57 : XDC Try.prog 57 := xdc ok57
theorem ok58 : callOk Try.prog 58 = true := by kernel_rfl
theorem c58 : XRC Try.prog 58 := xrc ok58
theorem d58 : XDC Try.prog 58 := xdc ok58
theorem ok59 : callOk Try.prog 59 = true := by kernel_rfl
theorem c59 : XRC Try.prog 59 := xrc ok59
theorem d59 : XDC Try.prog 59 := xdc ok59
theorem ok62 : callOk Try.prog 62 = true := by kernel_rfl
theorem c62 : XRC Try.prog 62 := xrc ok62
theorem l62 : XDL Try.prog 62 := xdl ok62
theorem ok69 : callOk Try.prog 69 = true := by kernel_rfl
theorem c69 : XRC Try.prog 69 := xrc ok69
theorem d69 : XDC Try.prog 69 := xdc ok69
theorem ok70 : callOk Try.prog 70 = true := by kernel_rfl
theorem c70 : XRC Try.prog 70 := xrc ok70
theorem d70 : XDC Try.prog 70 := xdc ok70
theorem ok71 : callOk Try.prog 71 = true := by kernel_rfl
theorem c71 : XRC Try.prog 71 := xrc ok71
theorem d71 : XDC Try.prog 71 := xdc ok71
theorem ok72 : callOk Try.prog 72 = true := by kernel_rfl
theorem c72 : XRC Try.prog 72 := xrc ok72
theorem d72 : XDC Try.prog 72 := xdc ok72
theorem ok81 : callOk Try.prog 81 = true := by kernel_rfl
theorem c81 : XRC Try.prog 81 := xrc ok81
theorem d81 : XDC Try.prog 81 := xdc ok81
theorem ok82 : callOk Try.prog 82 = true := by kernel_rfl
theorem c82 : XRC Try.prog 82 := xrc ok82
theorem ok83 : callOk Try.prog 83 = true := by kernel_rfl
theorem c83 : XRC Try.prog 83 := xrc ok83
theorem d83 : XDC Try.prog 83 := xdc ok83
theorem ok84 : callOk Try.prog 84 = true := by kernel_rfl
theorem c84 : XRC Try.prog 84 := xrc ok84
theorem d84 : XDC Try.prog 84 := xdc ok84
theorem ok91 : callOk Try.prog 91 = true := by kernel_rfl
theorem c91 : XRC Try.prog 91 := xrc ok91
theorem ok92 : callOk Try.prog 92 = true := by kernel_rfl
theorem c92 : XRC Try.prog 92 := xrc ok92
theorem ok94 : callOk Try.prog 94 = true := by kernel_rfl
theorem c94 : XRC Try.prog 94 := xrc ok94
theorem d94 : XDC Try.prog 94 := xdc ok94
theorem ok96 : callOk Try.prog 96 = true := by kernel_rfl
theorem c96 : XRC Try.prog 96 := xrc ok96
theorem d96 : XDC Try.prog 96 := xdc ok96
theorem ok97 : callOk Try.prog 97 = true := by kernel_rfl
theorem c97 : XRC Try.prog 97 := xrc ok97
theorem d97 : XDC Try.prog 97 := xdc ok97
theorem ok98 : callOk Try.prog 98 = true := by kernel_rfl
theorem c98 : XRC Try.prog 98 := xrc ok98
theorem d98 : XDC Try.prog 98 := xdc ok98
theorem ok99 : callOk Try.prog 99 = true := by kernel_rfl
theorem c99 : XRC Try.prog 99 := xrc ok99
theorem d99 : XDC Try.prog 99 := xdc ok99
theorem ok100 : callOk Try.prog 100 = true := by kernel_rfl
theorem c100 : XRC Try.prog 100 := xrc ok100
theorem l100 : XDL Try.prog 100 := xdl ok100
theorem ok101 : callOk Try.prog 101 = true := by kernel_rfl
theorem c101 : XRC Try.prog 101 := xrc ok101
theorem l101 : XDL Try.prog 101 := xdl ok101
theorem ok104 : callOk Try.prog 104 = true := by kernel_rfl
theorem c104 : XRC Try.prog 104 := xrc ok104
theorem ok105 : callOk Try.prog 105 = true := by kernel_rfl
theorem ok106 : callOk Try.prog 106 = true := by kernel_rfl
theorem ok107 : callOk Try.prog 107 = true := by kernel_rfl
theorem c107 : XRC Try.prog 107 := xrc ok107
theorem d107 : XDC Try.prog 107 := xdc ok107
theorem ok108 : callOk Try.prog 108 = true := by kernel_rfl
theorem c108 : XRC Try.prog 108 := xrc ok108
theorem d108 : XDC Try.prog 108 := xdc ok108
theorem ok109 : callOk Try.prog 109 = true := by kernel_rfl
theorem c109 : XRC Try.prog 109 := xrc ok109
theorem l109 : XDL Try.prog 109 := xdl ok109
theorem ok110 : callOk Try.prog 110 = true := by kernel_rfl
theorem c110 : XRC Try.prog 110 := xrc ok110
theorem ok111 : callOk Try.prog 111 = true := by kernel_rfl
theorem c111 : XRC Try.prog 111 := xrc ok111
theorem ok112 : callOk Try.prog 112 = true := by kernel_rfl
theorem c112 : XRC Try.prog 112 := xrc ok112
theorem ok113 : callOk Try.prog 113 = true := by kernel_rfl
theorem c113 : XRC Try.prog 113 := xrc ok113
theorem l113 : XDL Try.prog 113 := xdl ok113
theorem ok115 : callOk Try.prog 115 = true := by kernel_rfl
theorem c115 : XRC Try.prog 115 := xrc ok115
theorem ok116 : callOk Try.prog 116 = true := by kernel_rfl
theorem c116 : XRC Try.prog 116 := xrc ok116
theorem ok117 : callOk Try.prog 117 = true := by kernel_rfl
theorem c117 : XRC Try.prog 117 := xrc ok117
theorem ok118 : callOk Try.prog 118 = true := by kernel_rfl
theorem c118 : XRC Try.prog 118 := xrc ok118
theorem ok120 : callOk Try.prog 120 = true := by kernel_rfl
theorem c120 : XRC Try.prog 120 := xrc ok120
theorem ok121 : callOk Try.prog 121 = true := by kernel_rfl
theorem c121 : XRC Try.prog 121 := xrc ok121
theorem ok122 : callOk Try.prog 122 = true := by kernel_rfl
theorem ok123 : callOk Try.prog 123 = true := by kernel_rfl
theorem c123 : XRC Try.prog 123 := xrc ok123
theorem ok125 : callOk Try.prog 125 = true := by kernel_rfl
theorem c125 : XRC Try.prog 125 := xrc ok125
theorem d125 : XDC Try.prog 125 := xdc ok125
theorem ok126 : callOk Try.prog 126 = true := by kernel_rfl
theorem c126 : XRC Try.prog 126 := xrc ok126
theorem d126 : XDC Try.prog 126 := xdc ok126
theorem ok127 : callOk Try.prog 127 = true := by kernel_rfl
theorem ok128 : callOk Try.prog 128 = true := by kernel_rfl
theorem c128 : XRC Try.prog 128 := xrc ok128
theorem d128 : XDC Try.prog 128 := xdc ok128
theorem ok129 : callOk Try.prog 129 = true := by kernel_rfl
theorem c129 : XRC Try.prog 129 := xrc ok129
theorem d129 : XDC Try.prog 129 := xdc ok129
theorem ok130 : callOk Try.prog 130 = true := by kernel_rfl
theorem c130 : XRC Try.prog 130 := xrc ok130
theorem l130 : XDL Try.prog 130 := xdl ok130
theorem ok131 : callOk Try.prog 131 = true := by kernel_rfl
theorem ok132 : callOk Try.prog 132 = true := by kernel_rfl
theorem c132 : XRC Try.prog 132 := xrc ok132
theorem ok133 : callOk Try.prog 133 = true := by kernel_rfl
theorem c133 : XRC Try.prog 133 := xrc ok133
theorem d133 : XDC Try.prog 133 := xdc ok133
theorem l133 : XDL Try.prog 133 := xdl ok133
theorem ok134 : callOk Try.prog 134 = true := by kernel_rfl
theorem c134 : XRC Try.prog 134 := xrc ok134
theorem ok135 : callOk Try.prog 135 = true := by kernel_rfl
theorem c135 : XRC Try.prog 135 := xrc ok135
theorem ok136 : callOk Try.prog 136 = true := by kernel_rfl
theorem c136 : XRC Try.prog 136 := xrc ok136
theorem d136 : XDC Try.prog 136 := xdc ok136
theorem ok137 : callOk Try.prog 137 = true := by kernel_rfl
theorem c137 : XRC Try.prog 137 := xrc ok137
theorem d137 : XDC Try.prog 137 := xdc ok137
end Go.Proofs.Ytiddnhhjlipebaa.Ty
