/- The facts of this claim's types, and of what may be called. Conditions: none. -/
import Derived.Test.YtdldekkojjfllaaDoorProg
import Derived.Test.YtdldekkojjfllaaDoorJ3
import Derived.KernelRfl
namespace Go.Proofs.YtdldekkojjfllaaDoor.Ty
open Go Go.Proofs.YtdldekkojjfllaaDoor.Am
theorem mx : Tryd.prog.follows .mixedOrders = true := by kernel_rfl
theorem ld1 : ldK Tryd.prog 1 = some (none) := by kernel_rfl
theorem sz1 : szT Tryd.prog 1 = some 1 := by kernel_rfl
theorem sl1 : slT Tryd.prog 1 = none := by kernel_rfl
theorem st1 : stT Tryd.prog 1 = false := by kernel_rfl
theorem zc1 : zcT Tryd.prog 1 = some [.nilFunc] := by kernel_rfl
theorem by1 : byT Tryd.prog 1 = some 8 := by kernel_rfl
theorem pl1 : plT Tryd.prog 1 = none := by kernel_rfl
theorem t1 : ldK Tryd.prog 1 = some (none) ∧ szT Tryd.prog 1 = some 1 ∧ slT Tryd.prog 1 = none ∧ stT Tryd.prog 1 = false ∧ zcT Tryd.prog 1 = some [.nilFunc] ∧ byT Tryd.prog 1 = some 8 ∧ plT Tryd.prog 1 = none := ⟨ld1, sz1, sl1, st1, zc1, by1, pl1⟩
theorem ld2 : ldK Tryd.prog 2 = some (none) := by kernel_rfl
theorem sz2 : szT Tryd.prog 2 = some 1 := by kernel_rfl
theorem sl2 : slT Tryd.prog 2 = none := by kernel_rfl
theorem st2 : stT Tryd.prog 2 = false := by kernel_rfl
theorem zc2 : zcT Tryd.prog 2 = some [.int .i64 0] := by kernel_rfl
theorem by2 : byT Tryd.prog 2 = some 8 := by kernel_rfl
theorem un2 : Program.underlying Tryd.prog 2 = some (TypeDesc.int IntKind.i64) := Tryd.underlying2
theorem pl2 : plT Tryd.prog 2 = none := by kernel_rfl
theorem t2 : ldK Tryd.prog 2 = some (none) ∧ szT Tryd.prog 2 = some 1 ∧ slT Tryd.prog 2 = none ∧ stT Tryd.prog 2 = false ∧ zcT Tryd.prog 2 = some [.int .i64 0] ∧ byT Tryd.prog 2 = some 8 ∧ plT Tryd.prog 2 = none := ⟨ld2, sz2, sl2, st2, zc2, by2, pl2⟩
theorem ld3 : ldK Tryd.prog 3 = some (none) := by kernel_rfl
theorem sz3 : szT Tryd.prog 3 = some 1 := by kernel_rfl
theorem sl3 : slT Tryd.prog 3 = none := by kernel_rfl
theorem st3 : stT Tryd.prog 3 = false := by kernel_rfl
theorem zc3 : zcT Tryd.prog 3 = some [.int .i64 0] := by kernel_rfl
theorem by3 : byT Tryd.prog 3 = some 8 := by kernel_rfl
theorem un3 : Program.underlying Tryd.prog 3 = some (TypeDesc.int IntKind.i64) := Tryd.underlying3
theorem pl3 : plT Tryd.prog 3 = none := by kernel_rfl
theorem t3 : ldK Tryd.prog 3 = some (none) ∧ szT Tryd.prog 3 = some 1 ∧ slT Tryd.prog 3 = none ∧ stT Tryd.prog 3 = false ∧ zcT Tryd.prog 3 = some [.int .i64 0] ∧ byT Tryd.prog 3 = some 8 ∧ plT Tryd.prog 3 = none := ⟨ld3, sz3, sl3, st3, zc3, by3, pl3⟩
theorem ld4 : ldK Tryd.prog 4 = some (none) := by kernel_rfl
theorem sz4 : szT Tryd.prog 4 = some 1 := by kernel_rfl
theorem sl4 : slT Tryd.prog 4 = none := by kernel_rfl
theorem st4 : stT Tryd.prog 4 = false := by kernel_rfl
theorem zc4 : zcT Tryd.prog 4 = some [.bool false] := by kernel_rfl
theorem by4 : byT Tryd.prog 4 = some 1 := by kernel_rfl
theorem un4 : Program.underlying Tryd.prog 4 = some TypeDesc.bool := Tryd.underlying4
theorem pl4 : plT Tryd.prog 4 = none := by kernel_rfl
theorem t4 : ldK Tryd.prog 4 = some (none) ∧ szT Tryd.prog 4 = some 1 ∧ slT Tryd.prog 4 = none ∧ stT Tryd.prog 4 = false ∧ zcT Tryd.prog 4 = some [.bool false] ∧ byT Tryd.prog 4 = some 1 ∧ plT Tryd.prog 4 = none := ⟨ld4, sz4, sl4, st4, zc4, by4, pl4⟩
theorem ld5 : ldK Tryd.prog 5 = some (none) := by kernel_rfl
theorem sz5 : szT Tryd.prog 5 = some 1 := by kernel_rfl
theorem sl5 : slT Tryd.prog 5 = none := by kernel_rfl
theorem st5 : stT Tryd.prog 5 = false := by kernel_rfl
theorem zc5 : zcT Tryd.prog 5 = some [.int .u8 0] := by kernel_rfl
theorem by5 : byT Tryd.prog 5 = some 1 := by kernel_rfl
theorem un5 : Program.underlying Tryd.prog 5 = some (TypeDesc.int IntKind.u8) := Tryd.underlying5
theorem pl5 : plT Tryd.prog 5 = none := by kernel_rfl
theorem t5 : ldK Tryd.prog 5 = some (none) ∧ szT Tryd.prog 5 = some 1 ∧ slT Tryd.prog 5 = none ∧ stT Tryd.prog 5 = false ∧ zcT Tryd.prog 5 = some [.int .u8 0] ∧ byT Tryd.prog 5 = some 1 ∧ plT Tryd.prog 5 = none := ⟨ld5, sz5, sl5, st5, zc5, by5, pl5⟩
theorem ld6 : ldK Tryd.prog 6 = some (none) := by kernel_rfl
theorem sz6 : szT Tryd.prog 6 = some 1 := by kernel_rfl
theorem sl6 : slT Tryd.prog 6 = none := by kernel_rfl
theorem st6 : stT Tryd.prog 6 = false := by kernel_rfl
theorem zc6 : zcT Tryd.prog 6 = some [.int .u8 0] := by kernel_rfl
theorem by6 : byT Tryd.prog 6 = some 1 := by kernel_rfl
theorem un6 : Program.underlying Tryd.prog 6 = some (TypeDesc.int IntKind.u8) := Tryd.underlying6
theorem pl6 : plT Tryd.prog 6 = none := by kernel_rfl
theorem t6 : ldK Tryd.prog 6 = some (none) ∧ szT Tryd.prog 6 = some 1 ∧ slT Tryd.prog 6 = none ∧ stT Tryd.prog 6 = false ∧ zcT Tryd.prog 6 = some [.int .u8 0] ∧ byT Tryd.prog 6 = some 1 ∧ plT Tryd.prog 6 = none := ⟨ld6, sz6, sl6, st6, zc6, by6, pl6⟩
theorem ld7 : ldK Tryd.prog 7 = some (some 4) := by kernel_rfl
theorem sz7 : szT Tryd.prog 7 = some 4 := by kernel_rfl
theorem sl7 : slT Tryd.prog 7 = none := by kernel_rfl
theorem st7 : stT Tryd.prog 7 = false := by kernel_rfl
theorem zc7 : zcT Tryd.prog 7 = some [.int .i64 0, .int .i64 0, .bool false, .int .u8 0] := by kernel_rfl
theorem by7 : byT Tryd.prog 7 = some 24 := by kernel_rfl
theorem pl7 : plT Tryd.prog 7 = some #[(0, 1), (1, 1), (2, 1), (3, 1)] := by kernel_rfl
theorem fl7_0 : fldT Tryd.prog 7 0 = some (0, 2) := by kernel_rfl
theorem fl7_1 : fldT Tryd.prog 7 1 = some (1, 3) := by kernel_rfl
theorem fl7_2 : fldT Tryd.prog 7 2 = some (2, 4) := by kernel_rfl
theorem fl7_3 : fldT Tryd.prog 7 3 = some (3, 6) := by kernel_rfl
theorem t7 : ldK Tryd.prog 7 = some (some 4) ∧ szT Tryd.prog 7 = some 4 ∧ slT Tryd.prog 7 = none ∧ stT Tryd.prog 7 = false ∧ zcT Tryd.prog 7 = some [.int .i64 0, .int .i64 0, .bool false, .int .u8 0] ∧ byT Tryd.prog 7 = some 24 ∧ plT Tryd.prog 7 = some #[(0, 1), (1, 1), (2, 1), (3, 1)] ∧ fldT Tryd.prog 7 0 = some (0, 2) ∧ fldT Tryd.prog 7 1 = some (1, 3) ∧ fldT Tryd.prog 7 2 = some (2, 4) ∧ fldT Tryd.prog 7 3 = some (3, 6) := ⟨ld7, sz7, sl7, st7, zc7, by7, pl7, fl7_0, fl7_1, fl7_2, fl7_3⟩
theorem ld8 : ldK Tryd.prog 8 = some (some 4) := by kernel_rfl
theorem sz8 : szT Tryd.prog 8 = some 4 := by kernel_rfl
theorem sl8 : slT Tryd.prog 8 = none := by kernel_rfl
theorem st8 : stT Tryd.prog 8 = false := by kernel_rfl
theorem zc8 : zcT Tryd.prog 8 = some [.int .i64 0, .int .i64 0, .bool false, .int .u8 0] := by kernel_rfl
theorem by8 : byT Tryd.prog 8 = some 24 := by kernel_rfl
theorem pl8 : plT Tryd.prog 8 = some #[(0, 1), (1, 1), (2, 1), (3, 1)] := by kernel_rfl
theorem fl8_0 : fldT Tryd.prog 8 0 = some (0, 2) := by kernel_rfl
theorem fl8_1 : fldT Tryd.prog 8 1 = some (1, 3) := by kernel_rfl
theorem fl8_2 : fldT Tryd.prog 8 2 = some (2, 4) := by kernel_rfl
theorem fl8_3 : fldT Tryd.prog 8 3 = some (3, 6) := by kernel_rfl
theorem t8 : ldK Tryd.prog 8 = some (some 4) ∧ szT Tryd.prog 8 = some 4 ∧ slT Tryd.prog 8 = none ∧ stT Tryd.prog 8 = false ∧ zcT Tryd.prog 8 = some [.int .i64 0, .int .i64 0, .bool false, .int .u8 0] ∧ byT Tryd.prog 8 = some 24 ∧ plT Tryd.prog 8 = some #[(0, 1), (1, 1), (2, 1), (3, 1)] ∧ fldT Tryd.prog 8 0 = some (0, 2) ∧ fldT Tryd.prog 8 1 = some (1, 3) ∧ fldT Tryd.prog 8 2 = some (2, 4) ∧ fldT Tryd.prog 8 3 = some (3, 6) := ⟨ld8, sz8, sl8, st8, zc8, by8, pl8, fl8_0, fl8_1, fl8_2, fl8_3⟩
theorem ld9 : ldK Tryd.prog 9 = some (none) := by kernel_rfl
theorem sz9 : szT Tryd.prog 9 = some 1 := by kernel_rfl
theorem sl9 : slT Tryd.prog 9 = none := by kernel_rfl
theorem st9 : stT Tryd.prog 9 = true := by kernel_rfl
theorem zc9 : zcT Tryd.prog 9 = some [.string ByteArray.empty] := by kernel_rfl
theorem by9 : byT Tryd.prog 9 = some 16 := by kernel_rfl
theorem un9 : Program.underlying Tryd.prog 9 = some TypeDesc.string := Tryd.underlying9
theorem pl9 : plT Tryd.prog 9 = none := by kernel_rfl
theorem t9 : ldK Tryd.prog 9 = some (none) ∧ szT Tryd.prog 9 = some 1 ∧ slT Tryd.prog 9 = none ∧ stT Tryd.prog 9 = true ∧ zcT Tryd.prog 9 = some [.string ByteArray.empty] ∧ byT Tryd.prog 9 = some 16 ∧ plT Tryd.prog 9 = none := ⟨ld9, sz9, sl9, st9, zc9, by9, pl9⟩
theorem ld10 : ldK Tryd.prog 10 = some (none) := by kernel_rfl
theorem sz10 : szT Tryd.prog 10 = some 1 := by kernel_rfl
theorem sl10 : slT Tryd.prog 10 = none := by kernel_rfl
theorem st10 : stT Tryd.prog 10 = true := by kernel_rfl
theorem zc10 : zcT Tryd.prog 10 = some [.string ByteArray.empty] := by kernel_rfl
theorem by10 : byT Tryd.prog 10 = some 16 := by kernel_rfl
theorem un10 : Program.underlying Tryd.prog 10 = some TypeDesc.string := Tryd.underlying10
theorem pl10 : plT Tryd.prog 10 = none := by kernel_rfl
theorem t10 : ldK Tryd.prog 10 = some (none) ∧ szT Tryd.prog 10 = some 1 ∧ slT Tryd.prog 10 = none ∧ stT Tryd.prog 10 = true ∧ zcT Tryd.prog 10 = some [.string ByteArray.empty] ∧ byT Tryd.prog 10 = some 16 ∧ plT Tryd.prog 10 = none := ⟨ld10, sz10, sl10, st10, zc10, by10, pl10⟩
theorem ld11 : ldK Tryd.prog 11 = some (none) := by kernel_rfl
theorem sz11 : szT Tryd.prog 11 = some 1 := by kernel_rfl
theorem sl11 : slT Tryd.prog 11 = none := by kernel_rfl
theorem st11 : stT Tryd.prog 11 = true := by kernel_rfl
theorem zc11 : zcT Tryd.prog 11 = some [.string ByteArray.empty] := by kernel_rfl
theorem by11 : byT Tryd.prog 11 = some 16 := by kernel_rfl
theorem un11 : Program.underlying Tryd.prog 11 = some TypeDesc.string := Tryd.underlying11
theorem pl11 : plT Tryd.prog 11 = none := by kernel_rfl
theorem t11 : ldK Tryd.prog 11 = some (none) ∧ szT Tryd.prog 11 = some 1 ∧ slT Tryd.prog 11 = none ∧ stT Tryd.prog 11 = true ∧ zcT Tryd.prog 11 = some [.string ByteArray.empty] ∧ byT Tryd.prog 11 = some 16 ∧ plT Tryd.prog 11 = none := ⟨ld11, sz11, sl11, st11, zc11, by11, pl11⟩
theorem ld12 : ldK Tryd.prog 12 = some (none) := by kernel_rfl
theorem sz12 : szT Tryd.prog 12 = some 1 := by kernel_rfl
theorem sl12 : slT Tryd.prog 12 = none := by kernel_rfl
theorem st12 : stT Tryd.prog 12 = false := by kernel_rfl
theorem zc12 : zcT Tryd.prog 12 = some [.int .u64 0] := by kernel_rfl
theorem by12 : byT Tryd.prog 12 = some 8 := by kernel_rfl
theorem un12 : Program.underlying Tryd.prog 12 = some (TypeDesc.int IntKind.u64) := Tryd.underlying12
theorem pl12 : plT Tryd.prog 12 = none := by kernel_rfl
theorem t12 : ldK Tryd.prog 12 = some (none) ∧ szT Tryd.prog 12 = some 1 ∧ slT Tryd.prog 12 = none ∧ stT Tryd.prog 12 = false ∧ zcT Tryd.prog 12 = some [.int .u64 0] ∧ byT Tryd.prog 12 = some 8 ∧ plT Tryd.prog 12 = none := ⟨ld12, sz12, sl12, st12, zc12, by12, pl12⟩
theorem ld13 : ldK Tryd.prog 13 = some (some 2) := by kernel_rfl
theorem sz13 : szT Tryd.prog 13 = some 2 := by kernel_rfl
theorem sl13 : slT Tryd.prog 13 = none := by kernel_rfl
theorem st13 : stT Tryd.prog 13 = false := by kernel_rfl
theorem zc13 : zcT Tryd.prog 13 = some [.string ByteArray.empty, .int .u64 0] := by kernel_rfl
theorem by13 : byT Tryd.prog 13 = some 24 := by kernel_rfl
theorem pl13 : plT Tryd.prog 13 = some #[(0, 1), (1, 1)] := by kernel_rfl
theorem fl13_0 : fldT Tryd.prog 13 0 = some (0, 9) := by kernel_rfl
theorem fl13_1 : fldT Tryd.prog 13 1 = some (1, 12) := by kernel_rfl
theorem t13 : ldK Tryd.prog 13 = some (some 2) ∧ szT Tryd.prog 13 = some 2 ∧ slT Tryd.prog 13 = none ∧ stT Tryd.prog 13 = false ∧ zcT Tryd.prog 13 = some [.string ByteArray.empty, .int .u64 0] ∧ byT Tryd.prog 13 = some 24 ∧ plT Tryd.prog 13 = some #[(0, 1), (1, 1)] ∧ fldT Tryd.prog 13 0 = some (0, 9) ∧ fldT Tryd.prog 13 1 = some (1, 12) := ⟨ld13, sz13, sl13, st13, zc13, by13, pl13, fl13_0, fl13_1⟩
theorem ld14 : ldK Tryd.prog 14 = some (some 2) := by kernel_rfl
theorem sz14 : szT Tryd.prog 14 = some 2 := by kernel_rfl
theorem sl14 : slT Tryd.prog 14 = none := by kernel_rfl
theorem st14 : stT Tryd.prog 14 = false := by kernel_rfl
theorem zc14 : zcT Tryd.prog 14 = some [.string ByteArray.empty, .int .u64 0] := by kernel_rfl
theorem by14 : byT Tryd.prog 14 = some 24 := by kernel_rfl
theorem pl14 : plT Tryd.prog 14 = some #[(0, 1), (1, 1)] := by kernel_rfl
theorem fl14_0 : fldT Tryd.prog 14 0 = some (0, 9) := by kernel_rfl
theorem fl14_1 : fldT Tryd.prog 14 1 = some (1, 12) := by kernel_rfl
theorem t14 : ldK Tryd.prog 14 = some (some 2) ∧ szT Tryd.prog 14 = some 2 ∧ slT Tryd.prog 14 = none ∧ stT Tryd.prog 14 = false ∧ zcT Tryd.prog 14 = some [.string ByteArray.empty, .int .u64 0] ∧ byT Tryd.prog 14 = some 24 ∧ plT Tryd.prog 14 = some #[(0, 1), (1, 1)] ∧ fldT Tryd.prog 14 0 = some (0, 9) ∧ fldT Tryd.prog 14 1 = some (1, 12) := ⟨ld14, sz14, sl14, st14, zc14, by14, pl14, fl14_0, fl14_1⟩
theorem ld15 : ldK Tryd.prog 15 = some (none) := by kernel_rfl
theorem sz15 : szT Tryd.prog 15 = some 1 := by kernel_rfl
theorem sl15 : slT Tryd.prog 15 = none := by kernel_rfl
theorem st15 : stT Tryd.prog 15 = false := by kernel_rfl
theorem zc15 : zcT Tryd.prog 15 = some [.pointer none] := by kernel_rfl
theorem by15 : byT Tryd.prog 15 = some 8 := by kernel_rfl
theorem pl15 : plT Tryd.prog 15 = none := by kernel_rfl
theorem t15 : ldK Tryd.prog 15 = some (none) ∧ szT Tryd.prog 15 = some 1 ∧ slT Tryd.prog 15 = none ∧ stT Tryd.prog 15 = false ∧ zcT Tryd.prog 15 = some [.pointer none] ∧ byT Tryd.prog 15 = some 8 ∧ plT Tryd.prog 15 = none := ⟨ld15, sz15, sl15, st15, zc15, by15, pl15⟩
theorem ld16 : ldK Tryd.prog 16 = some (none) := by kernel_rfl
theorem sz16 : szT Tryd.prog 16 = some 1 := by kernel_rfl
theorem sl16 : slT Tryd.prog 16 = none := by kernel_rfl
theorem st16 : stT Tryd.prog 16 = false := by kernel_rfl
theorem zc16 : zcT Tryd.prog 16 = some [.pointer none] := by kernel_rfl
theorem by16 : byT Tryd.prog 16 = some 8 := by kernel_rfl
theorem pl16 : plT Tryd.prog 16 = none := by kernel_rfl
theorem t16 : ldK Tryd.prog 16 = some (none) ∧ szT Tryd.prog 16 = some 1 ∧ slT Tryd.prog 16 = none ∧ stT Tryd.prog 16 = false ∧ zcT Tryd.prog 16 = some [.pointer none] ∧ byT Tryd.prog 16 = some 8 ∧ plT Tryd.prog 16 = none := ⟨ld16, sz16, sl16, st16, zc16, by16, pl16⟩
theorem ld17 : ldK Tryd.prog 17 = some (none) := by kernel_rfl
theorem sz17 : szT Tryd.prog 17 = some 1 := by kernel_rfl
theorem sl17 : slT Tryd.prog 17 = none := by kernel_rfl
theorem st17 : stT Tryd.prog 17 = false := by kernel_rfl
theorem zc17 : zcT Tryd.prog 17 = some [.pointer none] := by kernel_rfl
theorem by17 : byT Tryd.prog 17 = some 8 := by kernel_rfl
theorem pl17 : plT Tryd.prog 17 = none := by kernel_rfl
theorem t17 : ldK Tryd.prog 17 = some (none) ∧ szT Tryd.prog 17 = some 1 ∧ slT Tryd.prog 17 = none ∧ stT Tryd.prog 17 = false ∧ zcT Tryd.prog 17 = some [.pointer none] ∧ byT Tryd.prog 17 = some 8 ∧ plT Tryd.prog 17 = none := ⟨ld17, sz17, sl17, st17, zc17, by17, pl17⟩
theorem ld20 : ldK Tryd.prog 20 = some (none) := by kernel_rfl
theorem sz20 : szT Tryd.prog 20 = some 1 := by kernel_rfl
theorem sl20 : slT Tryd.prog 20 = none := by kernel_rfl
theorem st20 : stT Tryd.prog 20 = false := by kernel_rfl
theorem zc20 : zcT Tryd.prog 20 = some [.nilIface] := by kernel_rfl
theorem by20 : byT Tryd.prog 20 = some 16 := by kernel_rfl
theorem un20 : Program.underlying Tryd.prog 20 = some (TypeDesc.interface #[]) := Tryd.underlying20
theorem pl20 : plT Tryd.prog 20 = none := by kernel_rfl
theorem t20 : ldK Tryd.prog 20 = some (none) ∧ szT Tryd.prog 20 = some 1 ∧ slT Tryd.prog 20 = none ∧ stT Tryd.prog 20 = false ∧ zcT Tryd.prog 20 = some [.nilIface] ∧ byT Tryd.prog 20 = some 16 ∧ plT Tryd.prog 20 = none := ⟨ld20, sz20, sl20, st20, zc20, by20, pl20⟩
theorem ld21 : ldK Tryd.prog 21 = some (none) := by kernel_rfl
theorem sz21 : szT Tryd.prog 21 = some 1 := by kernel_rfl
theorem sl21 : slT Tryd.prog 21 = none := by kernel_rfl
theorem st21 : stT Tryd.prog 21 = false := by kernel_rfl
theorem zc21 : zcT Tryd.prog 21 = some [.int .i32 0] := by kernel_rfl
theorem by21 : byT Tryd.prog 21 = some 4 := by kernel_rfl
theorem un21 : Program.underlying Tryd.prog 21 = some (TypeDesc.int IntKind.i32) := Tryd.underlying21
theorem pl21 : plT Tryd.prog 21 = none := by kernel_rfl
theorem t21 : ldK Tryd.prog 21 = some (none) ∧ szT Tryd.prog 21 = some 1 ∧ slT Tryd.prog 21 = none ∧ stT Tryd.prog 21 = false ∧ zcT Tryd.prog 21 = some [.int .i32 0] ∧ byT Tryd.prog 21 = some 4 ∧ plT Tryd.prog 21 = none := ⟨ld21, sz21, sl21, st21, zc21, by21, pl21⟩
theorem ld22 : ldK Tryd.prog 22 = some (none) := by kernel_rfl
theorem sz22 : szT Tryd.prog 22 = some 1 := by kernel_rfl
theorem sl22 : slT Tryd.prog 22 = some 5 := by kernel_rfl
theorem st22 : stT Tryd.prog 22 = false := by kernel_rfl
theorem zc22 : zcT Tryd.prog 22 = some [.slice none 0 0] := by kernel_rfl
theorem by22 : byT Tryd.prog 22 = some 24 := by kernel_rfl
theorem pl22 : plT Tryd.prog 22 = none := by kernel_rfl
theorem t22 : ldK Tryd.prog 22 = some (none) ∧ szT Tryd.prog 22 = some 1 ∧ slT Tryd.prog 22 = some 5 ∧ stT Tryd.prog 22 = false ∧ zcT Tryd.prog 22 = some [.slice none 0 0] ∧ byT Tryd.prog 22 = some 24 ∧ plT Tryd.prog 22 = none := ⟨ld22, sz22, sl22, st22, zc22, by22, pl22⟩
theorem ld23 : ldK Tryd.prog 23 = some (none) := by kernel_rfl
theorem sz23 : szT Tryd.prog 23 = some 1 := by kernel_rfl
theorem sl23 : slT Tryd.prog 23 = none := by kernel_rfl
theorem st23 : stT Tryd.prog 23 = false := by kernel_rfl
theorem zc23 : zcT Tryd.prog 23 = some [.nilFunc] := by kernel_rfl
theorem by23 : byT Tryd.prog 23 = some 8 := by kernel_rfl
theorem pl23 : plT Tryd.prog 23 = none := by kernel_rfl
theorem t23 : ldK Tryd.prog 23 = some (none) ∧ szT Tryd.prog 23 = some 1 ∧ slT Tryd.prog 23 = none ∧ stT Tryd.prog 23 = false ∧ zcT Tryd.prog 23 = some [.nilFunc] ∧ byT Tryd.prog 23 = some 8 ∧ plT Tryd.prog 23 = none := ⟨ld23, sz23, sl23, st23, zc23, by23, pl23⟩
theorem ld24 : ldK Tryd.prog 24 = some (none) := by kernel_rfl
theorem sz24 : szT Tryd.prog 24 = some 1 := by kernel_rfl
theorem sl24 : slT Tryd.prog 24 = some 51 := by kernel_rfl
theorem st24 : stT Tryd.prog 24 = false := by kernel_rfl
theorem zc24 : zcT Tryd.prog 24 = some [.slice none 0 0] := by kernel_rfl
theorem by24 : byT Tryd.prog 24 = some 24 := by kernel_rfl
theorem pl24 : plT Tryd.prog 24 = none := by kernel_rfl
theorem t24 : ldK Tryd.prog 24 = some (none) ∧ szT Tryd.prog 24 = some 1 ∧ slT Tryd.prog 24 = some 51 ∧ stT Tryd.prog 24 = false ∧ zcT Tryd.prog 24 = some [.slice none 0 0] ∧ byT Tryd.prog 24 = some 24 ∧ plT Tryd.prog 24 = none := ⟨ld24, sz24, sl24, st24, zc24, by24, pl24⟩
theorem ld25 : ldK Tryd.prog 25 = some (none) := by kernel_rfl
theorem sz25 : szT Tryd.prog 25 = some 1 := by kernel_rfl
theorem sl25 : slT Tryd.prog 25 = none := by kernel_rfl
theorem st25 : stT Tryd.prog 25 = false := by kernel_rfl
theorem zc25 : zcT Tryd.prog 25 = some [.nilFunc] := by kernel_rfl
theorem by25 : byT Tryd.prog 25 = some 8 := by kernel_rfl
theorem pl25 : plT Tryd.prog 25 = none := by kernel_rfl
theorem t25 : ldK Tryd.prog 25 = some (none) ∧ szT Tryd.prog 25 = some 1 ∧ slT Tryd.prog 25 = none ∧ stT Tryd.prog 25 = false ∧ zcT Tryd.prog 25 = some [.nilFunc] ∧ byT Tryd.prog 25 = some 8 ∧ plT Tryd.prog 25 = none := ⟨ld25, sz25, sl25, st25, zc25, by25, pl25⟩
theorem ld27 : ldK Tryd.prog 27 = some (none) := by kernel_rfl
theorem sz27 : szT Tryd.prog 27 = some 1 := by kernel_rfl
theorem sl27 : slT Tryd.prog 27 = none := by kernel_rfl
theorem st27 : stT Tryd.prog 27 = false := by kernel_rfl
theorem zc27 : zcT Tryd.prog 27 = some [.nilFunc] := by kernel_rfl
theorem by27 : byT Tryd.prog 27 = some 8 := by kernel_rfl
theorem pl27 : plT Tryd.prog 27 = none := by kernel_rfl
theorem t27 : ldK Tryd.prog 27 = some (none) ∧ szT Tryd.prog 27 = some 1 ∧ slT Tryd.prog 27 = none ∧ stT Tryd.prog 27 = false ∧ zcT Tryd.prog 27 = some [.nilFunc] ∧ byT Tryd.prog 27 = some 8 ∧ plT Tryd.prog 27 = none := ⟨ld27, sz27, sl27, st27, zc27, by27, pl27⟩
theorem ld29 : ldK Tryd.prog 29 = some (none) := by kernel_rfl
theorem sz29 : szT Tryd.prog 29 = some 1 := by kernel_rfl
theorem sl29 : slT Tryd.prog 29 = none := by kernel_rfl
theorem st29 : stT Tryd.prog 29 = false := by kernel_rfl
theorem zc29 : zcT Tryd.prog 29 = some [.nilFunc] := by kernel_rfl
theorem by29 : byT Tryd.prog 29 = some 8 := by kernel_rfl
theorem pl29 : plT Tryd.prog 29 = none := by kernel_rfl
theorem t29 : ldK Tryd.prog 29 = some (none) ∧ szT Tryd.prog 29 = some 1 ∧ slT Tryd.prog 29 = none ∧ stT Tryd.prog 29 = false ∧ zcT Tryd.prog 29 = some [.nilFunc] ∧ byT Tryd.prog 29 = some 8 ∧ plT Tryd.prog 29 = none := ⟨ld29, sz29, sl29, st29, zc29, by29, pl29⟩
theorem ld30 : ldK Tryd.prog 30 = some (none) := by kernel_rfl
theorem sz30 : szT Tryd.prog 30 = some 1 := by kernel_rfl
theorem sl30 : slT Tryd.prog 30 = none := by kernel_rfl
theorem st30 : stT Tryd.prog 30 = false := by kernel_rfl
theorem zc30 : zcT Tryd.prog 30 = some [.nilFunc] := by kernel_rfl
theorem by30 : byT Tryd.prog 30 = some 8 := by kernel_rfl
theorem pl30 : plT Tryd.prog 30 = none := by kernel_rfl
theorem t30 : ldK Tryd.prog 30 = some (none) ∧ szT Tryd.prog 30 = some 1 ∧ slT Tryd.prog 30 = none ∧ stT Tryd.prog 30 = false ∧ zcT Tryd.prog 30 = some [.nilFunc] ∧ byT Tryd.prog 30 = some 8 ∧ plT Tryd.prog 30 = none := ⟨ld30, sz30, sl30, st30, zc30, by30, pl30⟩
theorem ld31 : ldK Tryd.prog 31 = some (none) := by kernel_rfl
theorem sz31 : szT Tryd.prog 31 = some 1 := by kernel_rfl
theorem sl31 : slT Tryd.prog 31 = none := by kernel_rfl
theorem st31 : stT Tryd.prog 31 = false := by kernel_rfl
theorem zc31 : zcT Tryd.prog 31 = some [.nilFunc] := by kernel_rfl
theorem by31 : byT Tryd.prog 31 = some 8 := by kernel_rfl
theorem pl31 : plT Tryd.prog 31 = none := by kernel_rfl
theorem t31 : ldK Tryd.prog 31 = some (none) ∧ szT Tryd.prog 31 = some 1 ∧ slT Tryd.prog 31 = none ∧ stT Tryd.prog 31 = false ∧ zcT Tryd.prog 31 = some [.nilFunc] ∧ byT Tryd.prog 31 = some 8 ∧ plT Tryd.prog 31 = none := ⟨ld31, sz31, sl31, st31, zc31, by31, pl31⟩
theorem ld32 : ldK Tryd.prog 32 = some (some 3) := by kernel_rfl
theorem sz32 : szT Tryd.prog 32 = some 3 := by kernel_rfl
theorem sl32 : slT Tryd.prog 32 = none := by kernel_rfl
theorem st32 : stT Tryd.prog 32 = false := by kernel_rfl
theorem zc32 : zcT Tryd.prog 32 = some [.int .i64 0, .string ByteArray.empty, .string ByteArray.empty] := by kernel_rfl
theorem by32 : byT Tryd.prog 32 = some 40 := by kernel_rfl
theorem pl32 : plT Tryd.prog 32 = some #[(0, 1), (1, 1), (2, 1)] := by kernel_rfl
theorem fl32_0 : fldT Tryd.prog 32 0 = some (0, 3) := by kernel_rfl
theorem fl32_1 : fldT Tryd.prog 32 1 = some (1, 9) := by kernel_rfl
theorem fl32_2 : fldT Tryd.prog 32 2 = some (2, 9) := by kernel_rfl
theorem t32 : ldK Tryd.prog 32 = some (some 3) ∧ szT Tryd.prog 32 = some 3 ∧ slT Tryd.prog 32 = none ∧ stT Tryd.prog 32 = false ∧ zcT Tryd.prog 32 = some [.int .i64 0, .string ByteArray.empty, .string ByteArray.empty] ∧ byT Tryd.prog 32 = some 40 ∧ plT Tryd.prog 32 = some #[(0, 1), (1, 1), (2, 1)] ∧ fldT Tryd.prog 32 0 = some (0, 3) ∧ fldT Tryd.prog 32 1 = some (1, 9) ∧ fldT Tryd.prog 32 2 = some (2, 9) := ⟨ld32, sz32, sl32, st32, zc32, by32, pl32, fl32_0, fl32_1, fl32_2⟩
theorem ld33 : ldK Tryd.prog 33 = some (some 3) := by kernel_rfl
theorem sz33 : szT Tryd.prog 33 = some 3 := by kernel_rfl
theorem sl33 : slT Tryd.prog 33 = none := by kernel_rfl
theorem st33 : stT Tryd.prog 33 = false := by kernel_rfl
theorem zc33 : zcT Tryd.prog 33 = some [.int .i64 0, .string ByteArray.empty, .string ByteArray.empty] := by kernel_rfl
theorem by33 : byT Tryd.prog 33 = some 40 := by kernel_rfl
theorem pl33 : plT Tryd.prog 33 = some #[(0, 1), (1, 1), (2, 1)] := by kernel_rfl
theorem fl33_0 : fldT Tryd.prog 33 0 = some (0, 3) := by kernel_rfl
theorem fl33_1 : fldT Tryd.prog 33 1 = some (1, 9) := by kernel_rfl
theorem fl33_2 : fldT Tryd.prog 33 2 = some (2, 9) := by kernel_rfl
theorem t33 : ldK Tryd.prog 33 = some (some 3) ∧ szT Tryd.prog 33 = some 3 ∧ slT Tryd.prog 33 = none ∧ stT Tryd.prog 33 = false ∧ zcT Tryd.prog 33 = some [.int .i64 0, .string ByteArray.empty, .string ByteArray.empty] ∧ byT Tryd.prog 33 = some 40 ∧ plT Tryd.prog 33 = some #[(0, 1), (1, 1), (2, 1)] ∧ fldT Tryd.prog 33 0 = some (0, 3) ∧ fldT Tryd.prog 33 1 = some (1, 9) ∧ fldT Tryd.prog 33 2 = some (2, 9) := ⟨ld33, sz33, sl33, st33, zc33, by33, pl33, fl33_0, fl33_1, fl33_2⟩
theorem ld34 : ldK Tryd.prog 34 = some (none) := by kernel_rfl
theorem sz34 : szT Tryd.prog 34 = some 1 := by kernel_rfl
theorem sl34 : slT Tryd.prog 34 = none := by kernel_rfl
theorem st34 : stT Tryd.prog 34 = false := by kernel_rfl
theorem zc34 : zcT Tryd.prog 34 = some [.nilFunc] := by kernel_rfl
theorem by34 : byT Tryd.prog 34 = some 8 := by kernel_rfl
theorem pl34 : plT Tryd.prog 34 = none := by kernel_rfl
theorem t34 : ldK Tryd.prog 34 = some (none) ∧ szT Tryd.prog 34 = some 1 ∧ slT Tryd.prog 34 = none ∧ stT Tryd.prog 34 = false ∧ zcT Tryd.prog 34 = some [.nilFunc] ∧ byT Tryd.prog 34 = some 8 ∧ plT Tryd.prog 34 = none := ⟨ld34, sz34, sl34, st34, zc34, by34, pl34⟩
theorem ld35 : ldK Tryd.prog 35 = some (some 3) := by kernel_rfl
theorem sz35 : szT Tryd.prog 35 = some 3 := by kernel_rfl
theorem sl35 : slT Tryd.prog 35 = none := by kernel_rfl
theorem st35 : stT Tryd.prog 35 = false := by kernel_rfl
theorem zc35 : zcT Tryd.prog 35 = some [.int .i64 0, .string ByteArray.empty, .string ByteArray.empty] := by kernel_rfl
theorem by35 : byT Tryd.prog 35 = some 40 := by kernel_rfl
theorem pl35 : plT Tryd.prog 35 = some #[(0, 1), (1, 1), (2, 1)] := by kernel_rfl
theorem fl35_0 : fldT Tryd.prog 35 0 = some (0, 3) := by kernel_rfl
theorem fl35_1 : fldT Tryd.prog 35 1 = some (1, 9) := by kernel_rfl
theorem fl35_2 : fldT Tryd.prog 35 2 = some (2, 9) := by kernel_rfl
theorem t35 : ldK Tryd.prog 35 = some (some 3) ∧ szT Tryd.prog 35 = some 3 ∧ slT Tryd.prog 35 = none ∧ stT Tryd.prog 35 = false ∧ zcT Tryd.prog 35 = some [.int .i64 0, .string ByteArray.empty, .string ByteArray.empty] ∧ byT Tryd.prog 35 = some 40 ∧ plT Tryd.prog 35 = some #[(0, 1), (1, 1), (2, 1)] ∧ fldT Tryd.prog 35 0 = some (0, 3) ∧ fldT Tryd.prog 35 1 = some (1, 9) ∧ fldT Tryd.prog 35 2 = some (2, 9) := ⟨ld35, sz35, sl35, st35, zc35, by35, pl35, fl35_0, fl35_1, fl35_2⟩
theorem ld37 : ldK Tryd.prog 37 = some (none) := by kernel_rfl
theorem sz37 : szT Tryd.prog 37 = some 1 := by kernel_rfl
theorem sl37 : slT Tryd.prog 37 = none := by kernel_rfl
theorem st37 : stT Tryd.prog 37 = false := by kernel_rfl
theorem zc37 : zcT Tryd.prog 37 = some [.nilFunc] := by kernel_rfl
theorem by37 : byT Tryd.prog 37 = some 8 := by kernel_rfl
theorem pl37 : plT Tryd.prog 37 = none := by kernel_rfl
theorem t37 : ldK Tryd.prog 37 = some (none) ∧ szT Tryd.prog 37 = some 1 ∧ slT Tryd.prog 37 = none ∧ stT Tryd.prog 37 = false ∧ zcT Tryd.prog 37 = some [.nilFunc] ∧ byT Tryd.prog 37 = some 8 ∧ plT Tryd.prog 37 = none := ⟨ld37, sz37, sl37, st37, zc37, by37, pl37⟩
theorem ld38 : ldK Tryd.prog 38 = some (none) := by kernel_rfl
theorem sz38 : szT Tryd.prog 38 = some 1 := by kernel_rfl
theorem sl38 : slT Tryd.prog 38 = none := by kernel_rfl
theorem st38 : stT Tryd.prog 38 = false := by kernel_rfl
theorem zc38 : zcT Tryd.prog 38 = some [.nilFunc] := by kernel_rfl
theorem by38 : byT Tryd.prog 38 = some 8 := by kernel_rfl
theorem pl38 : plT Tryd.prog 38 = none := by kernel_rfl
theorem t38 : ldK Tryd.prog 38 = some (none) ∧ szT Tryd.prog 38 = some 1 ∧ slT Tryd.prog 38 = none ∧ stT Tryd.prog 38 = false ∧ zcT Tryd.prog 38 = some [.nilFunc] ∧ byT Tryd.prog 38 = some 8 ∧ plT Tryd.prog 38 = none := ⟨ld38, sz38, sl38, st38, zc38, by38, pl38⟩
theorem ld39 : ldK Tryd.prog 39 = some (none) := by kernel_rfl
theorem sz39 : szT Tryd.prog 39 = some 1 := by kernel_rfl
theorem sl39 : slT Tryd.prog 39 = none := by kernel_rfl
theorem st39 : stT Tryd.prog 39 = false := by kernel_rfl
theorem zc39 : zcT Tryd.prog 39 = some [.nilFunc] := by kernel_rfl
theorem by39 : byT Tryd.prog 39 = some 8 := by kernel_rfl
theorem pl39 : plT Tryd.prog 39 = none := by kernel_rfl
theorem t39 : ldK Tryd.prog 39 = some (none) ∧ szT Tryd.prog 39 = some 1 ∧ slT Tryd.prog 39 = none ∧ stT Tryd.prog 39 = false ∧ zcT Tryd.prog 39 = some [.nilFunc] ∧ byT Tryd.prog 39 = some 8 ∧ plT Tryd.prog 39 = none := ⟨ld39, sz39, sl39, st39, zc39, by39, pl39⟩
theorem ld40 : ldK Tryd.prog 40 = some (none) := by kernel_rfl
theorem sz40 : szT Tryd.prog 40 = some 1 := by kernel_rfl
theorem sl40 : slT Tryd.prog 40 = none := by kernel_rfl
theorem st40 : stT Tryd.prog 40 = false := by kernel_rfl
theorem zc40 : zcT Tryd.prog 40 = some [.nilFunc] := by kernel_rfl
theorem by40 : byT Tryd.prog 40 = some 8 := by kernel_rfl
theorem pl40 : plT Tryd.prog 40 = none := by kernel_rfl
theorem t40 : ldK Tryd.prog 40 = some (none) ∧ szT Tryd.prog 40 = some 1 ∧ slT Tryd.prog 40 = none ∧ stT Tryd.prog 40 = false ∧ zcT Tryd.prog 40 = some [.nilFunc] ∧ byT Tryd.prog 40 = some 8 ∧ plT Tryd.prog 40 = none := ⟨ld40, sz40, sl40, st40, zc40, by40, pl40⟩
theorem ld41 : ldK Tryd.prog 41 = some (none) := by kernel_rfl
theorem sz41 : szT Tryd.prog 41 = some 1 := by kernel_rfl
theorem sl41 : slT Tryd.prog 41 = none := by kernel_rfl
theorem st41 : stT Tryd.prog 41 = false := by kernel_rfl
theorem zc41 : zcT Tryd.prog 41 = some [.nilFunc] := by kernel_rfl
theorem by41 : byT Tryd.prog 41 = some 8 := by kernel_rfl
theorem pl41 : plT Tryd.prog 41 = none := by kernel_rfl
theorem t41 : ldK Tryd.prog 41 = some (none) ∧ szT Tryd.prog 41 = some 1 ∧ slT Tryd.prog 41 = none ∧ stT Tryd.prog 41 = false ∧ zcT Tryd.prog 41 = some [.nilFunc] ∧ byT Tryd.prog 41 = some 8 ∧ plT Tryd.prog 41 = none := ⟨ld41, sz41, sl41, st41, zc41, by41, pl41⟩
theorem ld42 : ldK Tryd.prog 42 = some (none) := by kernel_rfl
theorem sz42 : szT Tryd.prog 42 = some 1 := by kernel_rfl
theorem sl42 : slT Tryd.prog 42 = none := by kernel_rfl
theorem st42 : stT Tryd.prog 42 = false := by kernel_rfl
theorem zc42 : zcT Tryd.prog 42 = some [.nilFunc] := by kernel_rfl
theorem by42 : byT Tryd.prog 42 = some 8 := by kernel_rfl
theorem pl42 : plT Tryd.prog 42 = none := by kernel_rfl
theorem t42 : ldK Tryd.prog 42 = some (none) ∧ szT Tryd.prog 42 = some 1 ∧ slT Tryd.prog 42 = none ∧ stT Tryd.prog 42 = false ∧ zcT Tryd.prog 42 = some [.nilFunc] ∧ byT Tryd.prog 42 = some 8 ∧ plT Tryd.prog 42 = none := ⟨ld42, sz42, sl42, st42, zc42, by42, pl42⟩
theorem ld43 : ldK Tryd.prog 43 = some (none) := by kernel_rfl
theorem sz43 : szT Tryd.prog 43 = some 1 := by kernel_rfl
theorem sl43 : slT Tryd.prog 43 = some 65 := by kernel_rfl
theorem st43 : stT Tryd.prog 43 = false := by kernel_rfl
theorem zc43 : zcT Tryd.prog 43 = some [.slice none 0 0] := by kernel_rfl
theorem by43 : byT Tryd.prog 43 = some 24 := by kernel_rfl
theorem pl43 : plT Tryd.prog 43 = none := by kernel_rfl
theorem t43 : ldK Tryd.prog 43 = some (none) ∧ szT Tryd.prog 43 = some 1 ∧ slT Tryd.prog 43 = some 65 ∧ stT Tryd.prog 43 = false ∧ zcT Tryd.prog 43 = some [.slice none 0 0] ∧ byT Tryd.prog 43 = some 24 ∧ plT Tryd.prog 43 = none := ⟨ld43, sz43, sl43, st43, zc43, by43, pl43⟩
theorem ld44 : ldK Tryd.prog 44 = some (none) := by kernel_rfl
theorem sz44 : szT Tryd.prog 44 = some 1 := by kernel_rfl
theorem sl44 : slT Tryd.prog 44 = none := by kernel_rfl
theorem st44 : stT Tryd.prog 44 = false := by kernel_rfl
theorem zc44 : zcT Tryd.prog 44 = some [.nilFunc] := by kernel_rfl
theorem by44 : byT Tryd.prog 44 = some 8 := by kernel_rfl
theorem pl44 : plT Tryd.prog 44 = none := by kernel_rfl
theorem t44 : ldK Tryd.prog 44 = some (none) ∧ szT Tryd.prog 44 = some 1 ∧ slT Tryd.prog 44 = none ∧ stT Tryd.prog 44 = false ∧ zcT Tryd.prog 44 = some [.nilFunc] ∧ byT Tryd.prog 44 = some 8 ∧ plT Tryd.prog 44 = none := ⟨ld44, sz44, sl44, st44, zc44, by44, pl44⟩
theorem ld45 : ldK Tryd.prog 45 = some (none) := by kernel_rfl
theorem sz45 : szT Tryd.prog 45 = some 1 := by kernel_rfl
theorem sl45 : slT Tryd.prog 45 = none := by kernel_rfl
theorem st45 : stT Tryd.prog 45 = false := by kernel_rfl
theorem zc45 : zcT Tryd.prog 45 = some [.nilFunc] := by kernel_rfl
theorem by45 : byT Tryd.prog 45 = some 8 := by kernel_rfl
theorem pl45 : plT Tryd.prog 45 = none := by kernel_rfl
theorem t45 : ldK Tryd.prog 45 = some (none) ∧ szT Tryd.prog 45 = some 1 ∧ slT Tryd.prog 45 = none ∧ stT Tryd.prog 45 = false ∧ zcT Tryd.prog 45 = some [.nilFunc] ∧ byT Tryd.prog 45 = some 8 ∧ plT Tryd.prog 45 = none := ⟨ld45, sz45, sl45, st45, zc45, by45, pl45⟩
theorem ld46 : ldK Tryd.prog 46 = some (none) := by kernel_rfl
theorem sz46 : szT Tryd.prog 46 = some 1 := by kernel_rfl
theorem sl46 : slT Tryd.prog 46 = none := by kernel_rfl
theorem st46 : stT Tryd.prog 46 = false := by kernel_rfl
theorem zc46 : zcT Tryd.prog 46 = some [.pointer none] := by kernel_rfl
theorem by46 : byT Tryd.prog 46 = some 8 := by kernel_rfl
theorem pl46 : plT Tryd.prog 46 = none := by kernel_rfl
theorem t46 : ldK Tryd.prog 46 = some (none) ∧ szT Tryd.prog 46 = some 1 ∧ slT Tryd.prog 46 = none ∧ stT Tryd.prog 46 = false ∧ zcT Tryd.prog 46 = some [.pointer none] ∧ byT Tryd.prog 46 = some 8 ∧ plT Tryd.prog 46 = none := ⟨ld46, sz46, sl46, st46, zc46, by46, pl46⟩
theorem ld47 : ldK Tryd.prog 47 = some (some 3) := by kernel_rfl
theorem sz47 : szT Tryd.prog 47 = some 3 := by kernel_rfl
theorem sl47 : slT Tryd.prog 47 = none := by kernel_rfl
theorem st47 : stT Tryd.prog 47 = false := by kernel_rfl
theorem zc47 : zcT Tryd.prog 47 = some [.string ByteArray.empty, .int .i64 0, .slice none 0 0] := by kernel_rfl
theorem by47 : byT Tryd.prog 47 = some 48 := by kernel_rfl
theorem pl47 : plT Tryd.prog 47 = some #[(0, 1), (1, 1), (2, 1)] := by kernel_rfl
theorem fl47_0 : fldT Tryd.prog 47 0 = some (0, 9) := by kernel_rfl
theorem fl47_1 : fldT Tryd.prog 47 1 = some (1, 3) := by kernel_rfl
theorem fl47_2 : fldT Tryd.prog 47 2 = some (2, 24) := by kernel_rfl
theorem t47 : ldK Tryd.prog 47 = some (some 3) ∧ szT Tryd.prog 47 = some 3 ∧ slT Tryd.prog 47 = none ∧ stT Tryd.prog 47 = false ∧ zcT Tryd.prog 47 = some [.string ByteArray.empty, .int .i64 0, .slice none 0 0] ∧ byT Tryd.prog 47 = some 48 ∧ plT Tryd.prog 47 = some #[(0, 1), (1, 1), (2, 1)] ∧ fldT Tryd.prog 47 0 = some (0, 9) ∧ fldT Tryd.prog 47 1 = some (1, 3) ∧ fldT Tryd.prog 47 2 = some (2, 24) := ⟨ld47, sz47, sl47, st47, zc47, by47, pl47, fl47_0, fl47_1, fl47_2⟩
theorem ld48 : ldK Tryd.prog 48 = some (some 3) := by kernel_rfl
theorem sz48 : szT Tryd.prog 48 = some 3 := by kernel_rfl
theorem sl48 : slT Tryd.prog 48 = none := by kernel_rfl
theorem st48 : stT Tryd.prog 48 = false := by kernel_rfl
theorem zc48 : zcT Tryd.prog 48 = some [.string ByteArray.empty, .int .i64 0, .slice none 0 0] := by kernel_rfl
theorem by48 : byT Tryd.prog 48 = some 48 := by kernel_rfl
theorem pl48 : plT Tryd.prog 48 = some #[(0, 1), (1, 1), (2, 1)] := by kernel_rfl
theorem fl48_0 : fldT Tryd.prog 48 0 = some (0, 9) := by kernel_rfl
theorem fl48_1 : fldT Tryd.prog 48 1 = some (1, 3) := by kernel_rfl
theorem fl48_2 : fldT Tryd.prog 48 2 = some (2, 24) := by kernel_rfl
theorem t48 : ldK Tryd.prog 48 = some (some 3) ∧ szT Tryd.prog 48 = some 3 ∧ slT Tryd.prog 48 = none ∧ stT Tryd.prog 48 = false ∧ zcT Tryd.prog 48 = some [.string ByteArray.empty, .int .i64 0, .slice none 0 0] ∧ byT Tryd.prog 48 = some 48 ∧ plT Tryd.prog 48 = some #[(0, 1), (1, 1), (2, 1)] ∧ fldT Tryd.prog 48 0 = some (0, 9) ∧ fldT Tryd.prog 48 1 = some (1, 3) ∧ fldT Tryd.prog 48 2 = some (2, 24) := ⟨ld48, sz48, sl48, st48, zc48, by48, pl48, fl48_0, fl48_1, fl48_2⟩
theorem ld49 : ldK Tryd.prog 49 = some (none) := by kernel_rfl
theorem sz49 : szT Tryd.prog 49 = some 1 := by kernel_rfl
theorem sl49 : slT Tryd.prog 49 = none := by kernel_rfl
theorem st49 : stT Tryd.prog 49 = false := by kernel_rfl
theorem zc49 : zcT Tryd.prog 49 = some [.nilFunc] := by kernel_rfl
theorem by49 : byT Tryd.prog 49 = some 8 := by kernel_rfl
theorem pl49 : plT Tryd.prog 49 = none := by kernel_rfl
theorem t49 : ldK Tryd.prog 49 = some (none) ∧ szT Tryd.prog 49 = some 1 ∧ slT Tryd.prog 49 = none ∧ stT Tryd.prog 49 = false ∧ zcT Tryd.prog 49 = some [.nilFunc] ∧ byT Tryd.prog 49 = some 8 ∧ plT Tryd.prog 49 = none := ⟨ld49, sz49, sl49, st49, zc49, by49, pl49⟩
theorem ld50 : ldK Tryd.prog 50 = some (some 2) := by kernel_rfl
theorem sz50 : szT Tryd.prog 50 = some 2 := by kernel_rfl
theorem sl50 : slT Tryd.prog 50 = none := by kernel_rfl
theorem st50 : stT Tryd.prog 50 = false := by kernel_rfl
theorem zc50 : zcT Tryd.prog 50 = some [.int .i64 0, .int .i64 0] := by kernel_rfl
theorem by50 : byT Tryd.prog 50 = some 16 := by kernel_rfl
theorem pl50 : plT Tryd.prog 50 = some #[(0, 1), (1, 1)] := by kernel_rfl
theorem fl50_0 : fldT Tryd.prog 50 0 = some (0, 3) := by kernel_rfl
theorem fl50_1 : fldT Tryd.prog 50 1 = some (1, 3) := by kernel_rfl
theorem t50 : ldK Tryd.prog 50 = some (some 2) ∧ szT Tryd.prog 50 = some 2 ∧ slT Tryd.prog 50 = none ∧ stT Tryd.prog 50 = false ∧ zcT Tryd.prog 50 = some [.int .i64 0, .int .i64 0] ∧ byT Tryd.prog 50 = some 16 ∧ plT Tryd.prog 50 = some #[(0, 1), (1, 1)] ∧ fldT Tryd.prog 50 0 = some (0, 3) ∧ fldT Tryd.prog 50 1 = some (1, 3) := ⟨ld50, sz50, sl50, st50, zc50, by50, pl50, fl50_0, fl50_1⟩
theorem ld51 : ldK Tryd.prog 51 = some (some 2) := by kernel_rfl
theorem sz51 : szT Tryd.prog 51 = some 2 := by kernel_rfl
theorem sl51 : slT Tryd.prog 51 = none := by kernel_rfl
theorem st51 : stT Tryd.prog 51 = false := by kernel_rfl
theorem zc51 : zcT Tryd.prog 51 = some [.int .i64 0, .int .i64 0] := by kernel_rfl
theorem by51 : byT Tryd.prog 51 = some 16 := by kernel_rfl
theorem pl51 : plT Tryd.prog 51 = some #[(0, 1), (1, 1)] := by kernel_rfl
theorem fl51_0 : fldT Tryd.prog 51 0 = some (0, 3) := by kernel_rfl
theorem fl51_1 : fldT Tryd.prog 51 1 = some (1, 3) := by kernel_rfl
theorem t51 : ldK Tryd.prog 51 = some (some 2) ∧ szT Tryd.prog 51 = some 2 ∧ slT Tryd.prog 51 = none ∧ stT Tryd.prog 51 = false ∧ zcT Tryd.prog 51 = some [.int .i64 0, .int .i64 0] ∧ byT Tryd.prog 51 = some 16 ∧ plT Tryd.prog 51 = some #[(0, 1), (1, 1)] ∧ fldT Tryd.prog 51 0 = some (0, 3) ∧ fldT Tryd.prog 51 1 = some (1, 3) := ⟨ld51, sz51, sl51, st51, zc51, by51, pl51, fl51_0, fl51_1⟩
theorem ld52 : ldK Tryd.prog 52 = some (none) := by kernel_rfl
theorem sz52 : szT Tryd.prog 52 = some 1 := by kernel_rfl
theorem sl52 : slT Tryd.prog 52 = none := by kernel_rfl
theorem st52 : stT Tryd.prog 52 = false := by kernel_rfl
theorem zc52 : zcT Tryd.prog 52 = some [.pointer none] := by kernel_rfl
theorem by52 : byT Tryd.prog 52 = some 8 := by kernel_rfl
theorem pl52 : plT Tryd.prog 52 = none := by kernel_rfl
theorem t52 : ldK Tryd.prog 52 = some (none) ∧ szT Tryd.prog 52 = some 1 ∧ slT Tryd.prog 52 = none ∧ stT Tryd.prog 52 = false ∧ zcT Tryd.prog 52 = some [.pointer none] ∧ byT Tryd.prog 52 = some 8 ∧ plT Tryd.prog 52 = none := ⟨ld52, sz52, sl52, st52, zc52, by52, pl52⟩
theorem ld53 : ldK Tryd.prog 53 = some (none) := by kernel_rfl
theorem sz53 : szT Tryd.prog 53 = some 1 := by kernel_rfl
theorem sl53 : slT Tryd.prog 53 = none := by kernel_rfl
theorem st53 : stT Tryd.prog 53 = false := by kernel_rfl
theorem zc53 : zcT Tryd.prog 53 = some [.int .u64 0] := by kernel_rfl
theorem by53 : byT Tryd.prog 53 = some 8 := by kernel_rfl
theorem un53 : Program.underlying Tryd.prog 53 = some (TypeDesc.int IntKind.u64) := Tryd.underlying53
theorem pl53 : plT Tryd.prog 53 = none := by kernel_rfl
theorem t53 : ldK Tryd.prog 53 = some (none) ∧ szT Tryd.prog 53 = some 1 ∧ slT Tryd.prog 53 = none ∧ stT Tryd.prog 53 = false ∧ zcT Tryd.prog 53 = some [.int .u64 0] ∧ byT Tryd.prog 53 = some 8 ∧ plT Tryd.prog 53 = none := ⟨ld53, sz53, sl53, st53, zc53, by53, pl53⟩
theorem ld54 : ldK Tryd.prog 54 = some (some 3) := by kernel_rfl
theorem sz54 : szT Tryd.prog 54 = some 3 := by kernel_rfl
theorem sl54 : slT Tryd.prog 54 = none := by kernel_rfl
theorem st54 : stT Tryd.prog 54 = false := by kernel_rfl
theorem zc54 : zcT Tryd.prog 54 = some [.slice none 0 0, .int .i64 0, .int .u64 0] := by kernel_rfl
theorem by54 : byT Tryd.prog 54 = some 40 := by kernel_rfl
theorem pl54 : plT Tryd.prog 54 = some #[(0, 1), (1, 1), (2, 1)] := by kernel_rfl
theorem fl54_0 : fldT Tryd.prog 54 0 = some (0, 22) := by kernel_rfl
theorem fl54_1 : fldT Tryd.prog 54 1 = some (1, 3) := by kernel_rfl
theorem fl54_2 : fldT Tryd.prog 54 2 = some (2, 53) := by kernel_rfl
theorem t54 : ldK Tryd.prog 54 = some (some 3) ∧ szT Tryd.prog 54 = some 3 ∧ slT Tryd.prog 54 = none ∧ stT Tryd.prog 54 = false ∧ zcT Tryd.prog 54 = some [.slice none 0 0, .int .i64 0, .int .u64 0] ∧ byT Tryd.prog 54 = some 40 ∧ plT Tryd.prog 54 = some #[(0, 1), (1, 1), (2, 1)] ∧ fldT Tryd.prog 54 0 = some (0, 22) ∧ fldT Tryd.prog 54 1 = some (1, 3) ∧ fldT Tryd.prog 54 2 = some (2, 53) := ⟨ld54, sz54, sl54, st54, zc54, by54, pl54, fl54_0, fl54_1, fl54_2⟩
theorem ld55 : ldK Tryd.prog 55 = some (some 3) := by kernel_rfl
theorem sz55 : szT Tryd.prog 55 = some 3 := by kernel_rfl
theorem sl55 : slT Tryd.prog 55 = none := by kernel_rfl
theorem st55 : stT Tryd.prog 55 = false := by kernel_rfl
theorem zc55 : zcT Tryd.prog 55 = some [.slice none 0 0, .int .i64 0, .int .u64 0] := by kernel_rfl
theorem by55 : byT Tryd.prog 55 = some 40 := by kernel_rfl
theorem pl55 : plT Tryd.prog 55 = some #[(0, 1), (1, 1), (2, 1)] := by kernel_rfl
theorem fl55_0 : fldT Tryd.prog 55 0 = some (0, 22) := by kernel_rfl
theorem fl55_1 : fldT Tryd.prog 55 1 = some (1, 3) := by kernel_rfl
theorem fl55_2 : fldT Tryd.prog 55 2 = some (2, 53) := by kernel_rfl
theorem t55 : ldK Tryd.prog 55 = some (some 3) ∧ szT Tryd.prog 55 = some 3 ∧ slT Tryd.prog 55 = none ∧ stT Tryd.prog 55 = false ∧ zcT Tryd.prog 55 = some [.slice none 0 0, .int .i64 0, .int .u64 0] ∧ byT Tryd.prog 55 = some 40 ∧ plT Tryd.prog 55 = some #[(0, 1), (1, 1), (2, 1)] ∧ fldT Tryd.prog 55 0 = some (0, 22) ∧ fldT Tryd.prog 55 1 = some (1, 3) ∧ fldT Tryd.prog 55 2 = some (2, 53) := ⟨ld55, sz55, sl55, st55, zc55, by55, pl55, fl55_0, fl55_1, fl55_2⟩
theorem ld56 : ldK Tryd.prog 56 = some (none) := by kernel_rfl
theorem sz56 : szT Tryd.prog 56 = some 1 := by kernel_rfl
theorem sl56 : slT Tryd.prog 56 = none := by kernel_rfl
theorem st56 : stT Tryd.prog 56 = false := by kernel_rfl
theorem zc56 : zcT Tryd.prog 56 = some [.nilFunc] := by kernel_rfl
theorem by56 : byT Tryd.prog 56 = some 8 := by kernel_rfl
theorem pl56 : plT Tryd.prog 56 = none := by kernel_rfl
theorem t56 : ldK Tryd.prog 56 = some (none) ∧ szT Tryd.prog 56 = some 1 ∧ slT Tryd.prog 56 = none ∧ stT Tryd.prog 56 = false ∧ zcT Tryd.prog 56 = some [.nilFunc] ∧ byT Tryd.prog 56 = some 8 ∧ plT Tryd.prog 56 = none := ⟨ld56, sz56, sl56, st56, zc56, by56, pl56⟩
theorem ld57 : ldK Tryd.prog 57 = some (none) := by kernel_rfl
theorem sz57 : szT Tryd.prog 57 = some 1 := by kernel_rfl
theorem sl57 : slT Tryd.prog 57 = none := by kernel_rfl
theorem st57 : stT Tryd.prog 57 = false := by kernel_rfl
theorem zc57 : zcT Tryd.prog 57 = some [.nilFunc] := by kernel_rfl
theorem by57 : byT Tryd.prog 57 = some 8 := by kernel_rfl
theorem pl57 : plT Tryd.prog 57 = none := by kernel_rfl
theorem t57 : ldK Tryd.prog 57 = some (none) ∧ szT Tryd.prog 57 = some 1 ∧ slT Tryd.prog 57 = none ∧ stT Tryd.prog 57 = false ∧ zcT Tryd.prog 57 = some [.nilFunc] ∧ byT Tryd.prog 57 = some 8 ∧ plT Tryd.prog 57 = none := ⟨ld57, sz57, sl57, st57, zc57, by57, pl57⟩
theorem ld58 : ldK Tryd.prog 58 = some (none) := by kernel_rfl
theorem sz58 : szT Tryd.prog 58 = some 1 := by kernel_rfl
theorem sl58 : slT Tryd.prog 58 = none := by kernel_rfl
theorem st58 : stT Tryd.prog 58 = false := by kernel_rfl
theorem zc58 : zcT Tryd.prog 58 = some [.nilFunc] := by kernel_rfl
theorem by58 : byT Tryd.prog 58 = some 8 := by kernel_rfl
theorem pl58 : plT Tryd.prog 58 = none := by kernel_rfl
theorem t58 : ldK Tryd.prog 58 = some (none) ∧ szT Tryd.prog 58 = some 1 ∧ slT Tryd.prog 58 = none ∧ stT Tryd.prog 58 = false ∧ zcT Tryd.prog 58 = some [.nilFunc] ∧ byT Tryd.prog 58 = some 8 ∧ plT Tryd.prog 58 = none := ⟨ld58, sz58, sl58, st58, zc58, by58, pl58⟩
theorem ld59 : ldK Tryd.prog 59 = some (none) := by kernel_rfl
theorem sz59 : szT Tryd.prog 59 = some 1 := by kernel_rfl
theorem sl59 : slT Tryd.prog 59 = none := by kernel_rfl
theorem st59 : stT Tryd.prog 59 = false := by kernel_rfl
theorem zc59 : zcT Tryd.prog 59 = some [.nilFunc] := by kernel_rfl
theorem by59 : byT Tryd.prog 59 = some 8 := by kernel_rfl
theorem pl59 : plT Tryd.prog 59 = none := by kernel_rfl
theorem t59 : ldK Tryd.prog 59 = some (none) ∧ szT Tryd.prog 59 = some 1 ∧ slT Tryd.prog 59 = none ∧ stT Tryd.prog 59 = false ∧ zcT Tryd.prog 59 = some [.nilFunc] ∧ byT Tryd.prog 59 = some 8 ∧ plT Tryd.prog 59 = none := ⟨ld59, sz59, sl59, st59, zc59, by59, pl59⟩
theorem ld60 : ldK Tryd.prog 60 = some (none) := by kernel_rfl
theorem sz60 : szT Tryd.prog 60 = some 1 := by kernel_rfl
theorem sl60 : slT Tryd.prog 60 = none := by kernel_rfl
theorem st60 : stT Tryd.prog 60 = false := by kernel_rfl
theorem zc60 : zcT Tryd.prog 60 = some [.nilFunc] := by kernel_rfl
theorem by60 : byT Tryd.prog 60 = some 8 := by kernel_rfl
theorem pl60 : plT Tryd.prog 60 = none := by kernel_rfl
theorem t60 : ldK Tryd.prog 60 = some (none) ∧ szT Tryd.prog 60 = some 1 ∧ slT Tryd.prog 60 = none ∧ stT Tryd.prog 60 = false ∧ zcT Tryd.prog 60 = some [.nilFunc] ∧ byT Tryd.prog 60 = some 8 ∧ plT Tryd.prog 60 = none := ⟨ld60, sz60, sl60, st60, zc60, by60, pl60⟩
theorem ld62 : ldK Tryd.prog 62 = some (none) := by kernel_rfl
theorem sz62 : szT Tryd.prog 62 = some 1 := by kernel_rfl
theorem sl62 : slT Tryd.prog 62 = none := by kernel_rfl
theorem st62 : stT Tryd.prog 62 = false := by kernel_rfl
theorem zc62 : zcT Tryd.prog 62 = some [.nilFunc] := by kernel_rfl
theorem by62 : byT Tryd.prog 62 = some 8 := by kernel_rfl
theorem pl62 : plT Tryd.prog 62 = none := by kernel_rfl
theorem t62 : ldK Tryd.prog 62 = some (none) ∧ szT Tryd.prog 62 = some 1 ∧ slT Tryd.prog 62 = none ∧ stT Tryd.prog 62 = false ∧ zcT Tryd.prog 62 = some [.nilFunc] ∧ byT Tryd.prog 62 = some 8 ∧ plT Tryd.prog 62 = none := ⟨ld62, sz62, sl62, st62, zc62, by62, pl62⟩
theorem ld63 : ldK Tryd.prog 63 = some (none) := by kernel_rfl
theorem sz63 : szT Tryd.prog 63 = some 1 := by kernel_rfl
theorem sl63 : slT Tryd.prog 63 = none := by kernel_rfl
theorem st63 : stT Tryd.prog 63 = false := by kernel_rfl
theorem zc63 : zcT Tryd.prog 63 = some [.nilFunc] := by kernel_rfl
theorem by63 : byT Tryd.prog 63 = some 8 := by kernel_rfl
theorem pl63 : plT Tryd.prog 63 = none := by kernel_rfl
theorem t63 : ldK Tryd.prog 63 = some (none) ∧ szT Tryd.prog 63 = some 1 ∧ slT Tryd.prog 63 = none ∧ stT Tryd.prog 63 = false ∧ zcT Tryd.prog 63 = some [.nilFunc] ∧ byT Tryd.prog 63 = some 8 ∧ plT Tryd.prog 63 = none := ⟨ld63, sz63, sl63, st63, zc63, by63, pl63⟩
theorem ld64 : ldK Tryd.prog 64 = some (some 4) := by kernel_rfl
theorem sz64 : szT Tryd.prog 64 = some 4 := by kernel_rfl
theorem sl64 : slT Tryd.prog 64 = none := by kernel_rfl
theorem st64 : stT Tryd.prog 64 = false := by kernel_rfl
theorem zc64 : zcT Tryd.prog 64 = some [.int .i64 0, .int .i64 0, .int .i64 0, .int .i64 0] := by kernel_rfl
theorem by64 : byT Tryd.prog 64 = some 32 := by kernel_rfl
theorem pl64 : plT Tryd.prog 64 = some #[(0, 2), (2, 1), (3, 1)] := by kernel_rfl
theorem fl64_0 : fldT Tryd.prog 64 0 = some (0, 51) := by kernel_rfl
theorem fl64_1 : fldT Tryd.prog 64 1 = some (2, 3) := by kernel_rfl
theorem fl64_2 : fldT Tryd.prog 64 2 = some (3, 3) := by kernel_rfl
theorem t64 : ldK Tryd.prog 64 = some (some 4) ∧ szT Tryd.prog 64 = some 4 ∧ slT Tryd.prog 64 = none ∧ stT Tryd.prog 64 = false ∧ zcT Tryd.prog 64 = some [.int .i64 0, .int .i64 0, .int .i64 0, .int .i64 0] ∧ byT Tryd.prog 64 = some 32 ∧ plT Tryd.prog 64 = some #[(0, 2), (2, 1), (3, 1)] ∧ fldT Tryd.prog 64 0 = some (0, 51) ∧ fldT Tryd.prog 64 1 = some (2, 3) ∧ fldT Tryd.prog 64 2 = some (3, 3) := ⟨ld64, sz64, sl64, st64, zc64, by64, pl64, fl64_0, fl64_1, fl64_2⟩
theorem ld65 : ldK Tryd.prog 65 = some (some 4) := by kernel_rfl
theorem sz65 : szT Tryd.prog 65 = some 4 := by kernel_rfl
theorem sl65 : slT Tryd.prog 65 = none := by kernel_rfl
theorem st65 : stT Tryd.prog 65 = false := by kernel_rfl
theorem zc65 : zcT Tryd.prog 65 = some [.int .i64 0, .int .i64 0, .int .i64 0, .int .i64 0] := by kernel_rfl
theorem by65 : byT Tryd.prog 65 = some 32 := by kernel_rfl
theorem pl65 : plT Tryd.prog 65 = some #[(0, 2), (2, 1), (3, 1)] := by kernel_rfl
theorem fl65_0 : fldT Tryd.prog 65 0 = some (0, 51) := by kernel_rfl
theorem fl65_1 : fldT Tryd.prog 65 1 = some (2, 3) := by kernel_rfl
theorem fl65_2 : fldT Tryd.prog 65 2 = some (3, 3) := by kernel_rfl
theorem t65 : ldK Tryd.prog 65 = some (some 4) ∧ szT Tryd.prog 65 = some 4 ∧ slT Tryd.prog 65 = none ∧ stT Tryd.prog 65 = false ∧ zcT Tryd.prog 65 = some [.int .i64 0, .int .i64 0, .int .i64 0, .int .i64 0] ∧ byT Tryd.prog 65 = some 32 ∧ plT Tryd.prog 65 = some #[(0, 2), (2, 1), (3, 1)] ∧ fldT Tryd.prog 65 0 = some (0, 51) ∧ fldT Tryd.prog 65 1 = some (2, 3) ∧ fldT Tryd.prog 65 2 = some (3, 3) := ⟨ld65, sz65, sl65, st65, zc65, by65, pl65, fl65_0, fl65_1, fl65_2⟩
theorem ld66 : ldK Tryd.prog 66 = some (none) := by kernel_rfl
theorem sz66 : szT Tryd.prog 66 = some 1 := by kernel_rfl
theorem sl66 : slT Tryd.prog 66 = none := by kernel_rfl
theorem st66 : stT Tryd.prog 66 = false := by kernel_rfl
theorem zc66 : zcT Tryd.prog 66 = some [.nilFunc] := by kernel_rfl
theorem by66 : byT Tryd.prog 66 = some 8 := by kernel_rfl
theorem pl66 : plT Tryd.prog 66 = none := by kernel_rfl
theorem t66 : ldK Tryd.prog 66 = some (none) ∧ szT Tryd.prog 66 = some 1 ∧ slT Tryd.prog 66 = none ∧ stT Tryd.prog 66 = false ∧ zcT Tryd.prog 66 = some [.nilFunc] ∧ byT Tryd.prog 66 = some 8 ∧ plT Tryd.prog 66 = none := ⟨ld66, sz66, sl66, st66, zc66, by66, pl66⟩
theorem ld67 : ldK Tryd.prog 67 = some (none) := by kernel_rfl
theorem sz67 : szT Tryd.prog 67 = some 1 := by kernel_rfl
theorem sl67 : slT Tryd.prog 67 = some 3 := by kernel_rfl
theorem st67 : stT Tryd.prog 67 = false := by kernel_rfl
theorem zc67 : zcT Tryd.prog 67 = some [.slice none 0 0] := by kernel_rfl
theorem by67 : byT Tryd.prog 67 = some 24 := by kernel_rfl
theorem pl67 : plT Tryd.prog 67 = none := by kernel_rfl
theorem t67 : ldK Tryd.prog 67 = some (none) ∧ szT Tryd.prog 67 = some 1 ∧ slT Tryd.prog 67 = some 3 ∧ stT Tryd.prog 67 = false ∧ zcT Tryd.prog 67 = some [.slice none 0 0] ∧ byT Tryd.prog 67 = some 24 ∧ plT Tryd.prog 67 = none := ⟨ld67, sz67, sl67, st67, zc67, by67, pl67⟩
theorem ld68 : ldK Tryd.prog 68 = some (none) := by kernel_rfl
theorem sz68 : szT Tryd.prog 68 = some 1 := by kernel_rfl
theorem sl68 : slT Tryd.prog 68 = none := by kernel_rfl
theorem st68 : stT Tryd.prog 68 = false := by kernel_rfl
theorem zc68 : zcT Tryd.prog 68 = some [.nilFunc] := by kernel_rfl
theorem by68 : byT Tryd.prog 68 = some 8 := by kernel_rfl
theorem pl68 : plT Tryd.prog 68 = none := by kernel_rfl
theorem t68 : ldK Tryd.prog 68 = some (none) ∧ szT Tryd.prog 68 = some 1 ∧ slT Tryd.prog 68 = none ∧ stT Tryd.prog 68 = false ∧ zcT Tryd.prog 68 = some [.nilFunc] ∧ byT Tryd.prog 68 = some 8 ∧ plT Tryd.prog 68 = none := ⟨ld68, sz68, sl68, st68, zc68, by68, pl68⟩
theorem ld69 : ldK Tryd.prog 69 = some (none) := by kernel_rfl
theorem sz69 : szT Tryd.prog 69 = some 1 := by kernel_rfl
theorem sl69 : slT Tryd.prog 69 = none := by kernel_rfl
theorem st69 : stT Tryd.prog 69 = false := by kernel_rfl
theorem zc69 : zcT Tryd.prog 69 = some [.nilFunc] := by kernel_rfl
theorem by69 : byT Tryd.prog 69 = some 8 := by kernel_rfl
theorem pl69 : plT Tryd.prog 69 = none := by kernel_rfl
theorem t69 : ldK Tryd.prog 69 = some (none) ∧ szT Tryd.prog 69 = some 1 ∧ slT Tryd.prog 69 = none ∧ stT Tryd.prog 69 = false ∧ zcT Tryd.prog 69 = some [.nilFunc] ∧ byT Tryd.prog 69 = some 8 ∧ plT Tryd.prog 69 = none := ⟨ld69, sz69, sl69, st69, zc69, by69, pl69⟩
theorem ld70 : ldK Tryd.prog 70 = some (none) := by kernel_rfl
theorem sz70 : szT Tryd.prog 70 = some 1 := by kernel_rfl
theorem sl70 : slT Tryd.prog 70 = none := by kernel_rfl
theorem st70 : stT Tryd.prog 70 = false := by kernel_rfl
theorem zc70 : zcT Tryd.prog 70 = some [.nilFunc] := by kernel_rfl
theorem by70 : byT Tryd.prog 70 = some 8 := by kernel_rfl
theorem pl70 : plT Tryd.prog 70 = none := by kernel_rfl
theorem t70 : ldK Tryd.prog 70 = some (none) ∧ szT Tryd.prog 70 = some 1 ∧ slT Tryd.prog 70 = none ∧ stT Tryd.prog 70 = false ∧ zcT Tryd.prog 70 = some [.nilFunc] ∧ byT Tryd.prog 70 = some 8 ∧ plT Tryd.prog 70 = none := ⟨ld70, sz70, sl70, st70, zc70, by70, pl70⟩
theorem ld71 : ldK Tryd.prog 71 = some (none) := by kernel_rfl
theorem sz71 : szT Tryd.prog 71 = some 1 := by kernel_rfl
theorem sl71 : slT Tryd.prog 71 = none := by kernel_rfl
theorem st71 : stT Tryd.prog 71 = false := by kernel_rfl
theorem zc71 : zcT Tryd.prog 71 = some [.nilFunc] := by kernel_rfl
theorem by71 : byT Tryd.prog 71 = some 8 := by kernel_rfl
theorem pl71 : plT Tryd.prog 71 = none := by kernel_rfl
theorem t71 : ldK Tryd.prog 71 = some (none) ∧ szT Tryd.prog 71 = some 1 ∧ slT Tryd.prog 71 = none ∧ stT Tryd.prog 71 = false ∧ zcT Tryd.prog 71 = some [.nilFunc] ∧ byT Tryd.prog 71 = some 8 ∧ plT Tryd.prog 71 = none := ⟨ld71, sz71, sl71, st71, zc71, by71, pl71⟩
theorem ld72 : ldK Tryd.prog 72 = some (none) := by kernel_rfl
theorem sz72 : szT Tryd.prog 72 = some 1 := by kernel_rfl
theorem sl72 : slT Tryd.prog 72 = none := by kernel_rfl
theorem st72 : stT Tryd.prog 72 = false := by kernel_rfl
theorem zc72 : zcT Tryd.prog 72 = some [.nilFunc] := by kernel_rfl
theorem by72 : byT Tryd.prog 72 = some 8 := by kernel_rfl
theorem pl72 : plT Tryd.prog 72 = none := by kernel_rfl
theorem t72 : ldK Tryd.prog 72 = some (none) ∧ szT Tryd.prog 72 = some 1 ∧ slT Tryd.prog 72 = none ∧ stT Tryd.prog 72 = false ∧ zcT Tryd.prog 72 = some [.nilFunc] ∧ byT Tryd.prog 72 = some 8 ∧ plT Tryd.prog 72 = none := ⟨ld72, sz72, sl72, st72, zc72, by72, pl72⟩
theorem ld73 : ldK Tryd.prog 73 = some (none) := by kernel_rfl
theorem sz73 : szT Tryd.prog 73 = some 1 := by kernel_rfl
theorem sl73 : slT Tryd.prog 73 = none := by kernel_rfl
theorem st73 : stT Tryd.prog 73 = false := by kernel_rfl
theorem zc73 : zcT Tryd.prog 73 = some [.nilFunc] := by kernel_rfl
theorem by73 : byT Tryd.prog 73 = some 8 := by kernel_rfl
theorem pl73 : plT Tryd.prog 73 = none := by kernel_rfl
theorem t73 : ldK Tryd.prog 73 = some (none) ∧ szT Tryd.prog 73 = some 1 ∧ slT Tryd.prog 73 = none ∧ stT Tryd.prog 73 = false ∧ zcT Tryd.prog 73 = some [.nilFunc] ∧ byT Tryd.prog 73 = some 8 ∧ plT Tryd.prog 73 = none := ⟨ld73, sz73, sl73, st73, zc73, by73, pl73⟩
theorem ld74 : ldK Tryd.prog 74 = some (none) := by kernel_rfl
theorem sz74 : szT Tryd.prog 74 = some 1 := by kernel_rfl
theorem sl74 : slT Tryd.prog 74 = some 9 := by kernel_rfl
theorem st74 : stT Tryd.prog 74 = false := by kernel_rfl
theorem zc74 : zcT Tryd.prog 74 = some [.slice none 0 0] := by kernel_rfl
theorem by74 : byT Tryd.prog 74 = some 24 := by kernel_rfl
theorem pl74 : plT Tryd.prog 74 = none := by kernel_rfl
theorem t74 : ldK Tryd.prog 74 = some (none) ∧ szT Tryd.prog 74 = some 1 ∧ slT Tryd.prog 74 = some 9 ∧ stT Tryd.prog 74 = false ∧ zcT Tryd.prog 74 = some [.slice none 0 0] ∧ byT Tryd.prog 74 = some 24 ∧ plT Tryd.prog 74 = none := ⟨ld74, sz74, sl74, st74, zc74, by74, pl74⟩
theorem ld76 : ldK Tryd.prog 76 = some (none) := by kernel_rfl
theorem sz76 : szT Tryd.prog 76 = some 1 := by kernel_rfl
theorem sl76 : slT Tryd.prog 76 = none := by kernel_rfl
theorem st76 : stT Tryd.prog 76 = false := by kernel_rfl
theorem zc76 : zcT Tryd.prog 76 = some [.nilFunc] := by kernel_rfl
theorem by76 : byT Tryd.prog 76 = some 8 := by kernel_rfl
theorem pl76 : plT Tryd.prog 76 = none := by kernel_rfl
theorem t76 : ldK Tryd.prog 76 = some (none) ∧ szT Tryd.prog 76 = some 1 ∧ slT Tryd.prog 76 = none ∧ stT Tryd.prog 76 = false ∧ zcT Tryd.prog 76 = some [.nilFunc] ∧ byT Tryd.prog 76 = some 8 ∧ plT Tryd.prog 76 = none := ⟨ld76, sz76, sl76, st76, zc76, by76, pl76⟩
theorem ld77 : ldK Tryd.prog 77 = some (none) := by kernel_rfl
theorem sz77 : szT Tryd.prog 77 = some 1 := by kernel_rfl
theorem sl77 : slT Tryd.prog 77 = none := by kernel_rfl
theorem st77 : stT Tryd.prog 77 = false := by kernel_rfl
theorem zc77 : zcT Tryd.prog 77 = some [.nilFunc] := by kernel_rfl
theorem by77 : byT Tryd.prog 77 = some 8 := by kernel_rfl
theorem pl77 : plT Tryd.prog 77 = none := by kernel_rfl
theorem t77 : ldK Tryd.prog 77 = some (none) ∧ szT Tryd.prog 77 = some 1 ∧ slT Tryd.prog 77 = none ∧ stT Tryd.prog 77 = false ∧ zcT Tryd.prog 77 = some [.nilFunc] ∧ byT Tryd.prog 77 = some 8 ∧ plT Tryd.prog 77 = none := ⟨ld77, sz77, sl77, st77, zc77, by77, pl77⟩
theorem ld78 : ldK Tryd.prog 78 = some (none) := by kernel_rfl
theorem sz78 : szT Tryd.prog 78 = some 1 := by kernel_rfl
theorem sl78 : slT Tryd.prog 78 = none := by kernel_rfl
theorem st78 : stT Tryd.prog 78 = false := by kernel_rfl
theorem zc78 : zcT Tryd.prog 78 = some [.nilFunc] := by kernel_rfl
theorem by78 : byT Tryd.prog 78 = some 8 := by kernel_rfl
theorem pl78 : plT Tryd.prog 78 = none := by kernel_rfl
theorem t78 : ldK Tryd.prog 78 = some (none) ∧ szT Tryd.prog 78 = some 1 ∧ slT Tryd.prog 78 = none ∧ stT Tryd.prog 78 = false ∧ zcT Tryd.prog 78 = some [.nilFunc] ∧ byT Tryd.prog 78 = some 8 ∧ plT Tryd.prog 78 = none := ⟨ld78, sz78, sl78, st78, zc78, by78, pl78⟩
theorem ld79 : ldK Tryd.prog 79 = some (none) := by kernel_rfl
theorem sz79 : szT Tryd.prog 79 = some 1 := by kernel_rfl
theorem sl79 : slT Tryd.prog 79 = none := by kernel_rfl
theorem st79 : stT Tryd.prog 79 = false := by kernel_rfl
theorem zc79 : zcT Tryd.prog 79 = some [.nilFunc] := by kernel_rfl
theorem by79 : byT Tryd.prog 79 = some 8 := by kernel_rfl
theorem pl79 : plT Tryd.prog 79 = none := by kernel_rfl
theorem t79 : ldK Tryd.prog 79 = some (none) ∧ szT Tryd.prog 79 = some 1 ∧ slT Tryd.prog 79 = none ∧ stT Tryd.prog 79 = false ∧ zcT Tryd.prog 79 = some [.nilFunc] ∧ byT Tryd.prog 79 = some 8 ∧ plT Tryd.prog 79 = none := ⟨ld79, sz79, sl79, st79, zc79, by79, pl79⟩
theorem ld80 : ldK Tryd.prog 80 = some (none) := by kernel_rfl
theorem sz80 : szT Tryd.prog 80 = some 1 := by kernel_rfl
theorem sl80 : slT Tryd.prog 80 = none := by kernel_rfl
theorem st80 : stT Tryd.prog 80 = false := by kernel_rfl
theorem zc80 : zcT Tryd.prog 80 = some [.nilFunc] := by kernel_rfl
theorem by80 : byT Tryd.prog 80 = some 8 := by kernel_rfl
theorem pl80 : plT Tryd.prog 80 = none := by kernel_rfl
theorem t80 : ldK Tryd.prog 80 = some (none) ∧ szT Tryd.prog 80 = some 1 ∧ slT Tryd.prog 80 = none ∧ stT Tryd.prog 80 = false ∧ zcT Tryd.prog 80 = some [.nilFunc] ∧ byT Tryd.prog 80 = some 8 ∧ plT Tryd.prog 80 = none := ⟨ld80, sz80, sl80, st80, zc80, by80, pl80⟩
theorem ld81 : ldK Tryd.prog 81 = some (none) := by kernel_rfl
theorem sz81 : szT Tryd.prog 81 = some 1 := by kernel_rfl
theorem sl81 : slT Tryd.prog 81 = none := by kernel_rfl
theorem st81 : stT Tryd.prog 81 = false := by kernel_rfl
theorem zc81 : zcT Tryd.prog 81 = some [.nilFunc] := by kernel_rfl
theorem by81 : byT Tryd.prog 81 = some 8 := by kernel_rfl
theorem pl81 : plT Tryd.prog 81 = none := by kernel_rfl
theorem t81 : ldK Tryd.prog 81 = some (none) ∧ szT Tryd.prog 81 = some 1 ∧ slT Tryd.prog 81 = none ∧ stT Tryd.prog 81 = false ∧ zcT Tryd.prog 81 = some [.nilFunc] ∧ byT Tryd.prog 81 = some 8 ∧ plT Tryd.prog 81 = none := ⟨ld81, sz81, sl81, st81, zc81, by81, pl81⟩
theorem ld82 : ldK Tryd.prog 82 = some (none) := by kernel_rfl
theorem sz82 : szT Tryd.prog 82 = some 1 := by kernel_rfl
theorem sl82 : slT Tryd.prog 82 = none := by kernel_rfl
theorem st82 : stT Tryd.prog 82 = false := by kernel_rfl
theorem zc82 : zcT Tryd.prog 82 = some [.nilIface] := by kernel_rfl
theorem by82 : byT Tryd.prog 82 = some 16 := by kernel_rfl
theorem un82 : Program.underlying Tryd.prog 82 = some (TypeDesc.interface #[("Error", 108)]) := Tryd.underlying82
theorem pl82 : plT Tryd.prog 82 = none := by kernel_rfl
theorem t82 : ldK Tryd.prog 82 = some (none) ∧ szT Tryd.prog 82 = some 1 ∧ slT Tryd.prog 82 = none ∧ stT Tryd.prog 82 = false ∧ zcT Tryd.prog 82 = some [.nilIface] ∧ byT Tryd.prog 82 = some 16 ∧ plT Tryd.prog 82 = none := ⟨ld82, sz82, sl82, st82, zc82, by82, pl82⟩
theorem ld83 : ldK Tryd.prog 83 = some (none) := by kernel_rfl
theorem sz83 : szT Tryd.prog 83 = some 1 := by kernel_rfl
theorem sl83 : slT Tryd.prog 83 = none := by kernel_rfl
theorem st83 : stT Tryd.prog 83 = false := by kernel_rfl
theorem zc83 : zcT Tryd.prog 83 = some [.nilIface] := by kernel_rfl
theorem by83 : byT Tryd.prog 83 = some 16 := by kernel_rfl
theorem un83 : Program.underlying Tryd.prog 83 = some (TypeDesc.interface #[("Error", 108)]) := Tryd.underlying83
theorem pl83 : plT Tryd.prog 83 = none := by kernel_rfl
theorem t83 : ldK Tryd.prog 83 = some (none) ∧ szT Tryd.prog 83 = some 1 ∧ slT Tryd.prog 83 = none ∧ stT Tryd.prog 83 = false ∧ zcT Tryd.prog 83 = some [.nilIface] ∧ byT Tryd.prog 83 = some 16 ∧ plT Tryd.prog 83 = none := ⟨ld83, sz83, sl83, st83, zc83, by83, pl83⟩
theorem ld85 : ldK Tryd.prog 85 = some (none) := by kernel_rfl
theorem sz85 : szT Tryd.prog 85 = some 1 := by kernel_rfl
theorem sl85 : slT Tryd.prog 85 = none := by kernel_rfl
theorem st85 : stT Tryd.prog 85 = false := by kernel_rfl
theorem zc85 : zcT Tryd.prog 85 = some [.nilFunc] := by kernel_rfl
theorem by85 : byT Tryd.prog 85 = some 8 := by kernel_rfl
theorem pl85 : plT Tryd.prog 85 = none := by kernel_rfl
theorem t85 : ldK Tryd.prog 85 = some (none) ∧ szT Tryd.prog 85 = some 1 ∧ slT Tryd.prog 85 = none ∧ stT Tryd.prog 85 = false ∧ zcT Tryd.prog 85 = some [.nilFunc] ∧ byT Tryd.prog 85 = some 8 ∧ plT Tryd.prog 85 = none := ⟨ld85, sz85, sl85, st85, zc85, by85, pl85⟩
theorem ld86 : ldK Tryd.prog 86 = some (none) := by kernel_rfl
theorem sz86 : szT Tryd.prog 86 = some 1 := by kernel_rfl
theorem sl86 : slT Tryd.prog 86 = none := by kernel_rfl
theorem st86 : stT Tryd.prog 86 = false := by kernel_rfl
theorem zc86 : zcT Tryd.prog 86 = some [.nilFunc] := by kernel_rfl
theorem by86 : byT Tryd.prog 86 = some 8 := by kernel_rfl
theorem pl86 : plT Tryd.prog 86 = none := by kernel_rfl
theorem t86 : ldK Tryd.prog 86 = some (none) ∧ szT Tryd.prog 86 = some 1 ∧ slT Tryd.prog 86 = none ∧ stT Tryd.prog 86 = false ∧ zcT Tryd.prog 86 = some [.nilFunc] ∧ byT Tryd.prog 86 = some 8 ∧ plT Tryd.prog 86 = none := ⟨ld86, sz86, sl86, st86, zc86, by86, pl86⟩
theorem ld87 : ldK Tryd.prog 87 = some (none) := by kernel_rfl
theorem sz87 : szT Tryd.prog 87 = some 1 := by kernel_rfl
theorem sl87 : slT Tryd.prog 87 = none := by kernel_rfl
theorem st87 : stT Tryd.prog 87 = false := by kernel_rfl
theorem zc87 : zcT Tryd.prog 87 = some [.int .u64 0] := by kernel_rfl
theorem by87 : byT Tryd.prog 87 = some 8 := by kernel_rfl
theorem un87 : Program.underlying Tryd.prog 87 = some (TypeDesc.int IntKind.u64) := Tryd.underlying87
theorem pl87 : plT Tryd.prog 87 = none := by kernel_rfl
theorem t87 : ldK Tryd.prog 87 = some (none) ∧ szT Tryd.prog 87 = some 1 ∧ slT Tryd.prog 87 = none ∧ stT Tryd.prog 87 = false ∧ zcT Tryd.prog 87 = some [.int .u64 0] ∧ byT Tryd.prog 87 = some 8 ∧ plT Tryd.prog 87 = none := ⟨ld87, sz87, sl87, st87, zc87, by87, pl87⟩
theorem ld88 : ldK Tryd.prog 88 = some (none) := by kernel_rfl
theorem sz88 : szT Tryd.prog 88 = some 1 := by kernel_rfl
theorem sl88 : slT Tryd.prog 88 = none := by kernel_rfl
theorem st88 : stT Tryd.prog 88 = false := by kernel_rfl
theorem zc88 : zcT Tryd.prog 88 = some [.nilFunc] := by kernel_rfl
theorem by88 : byT Tryd.prog 88 = some 8 := by kernel_rfl
theorem pl88 : plT Tryd.prog 88 = none := by kernel_rfl
theorem t88 : ldK Tryd.prog 88 = some (none) ∧ szT Tryd.prog 88 = some 1 ∧ slT Tryd.prog 88 = none ∧ stT Tryd.prog 88 = false ∧ zcT Tryd.prog 88 = some [.nilFunc] ∧ byT Tryd.prog 88 = some 8 ∧ plT Tryd.prog 88 = none := ⟨ld88, sz88, sl88, st88, zc88, by88, pl88⟩
theorem ld89 : ldK Tryd.prog 89 = some (none) := by kernel_rfl
theorem sz89 : szT Tryd.prog 89 = some 1 := by kernel_rfl
theorem sl89 : slT Tryd.prog 89 = none := by kernel_rfl
theorem st89 : stT Tryd.prog 89 = false := by kernel_rfl
theorem zc89 : zcT Tryd.prog 89 = some [.nilFunc] := by kernel_rfl
theorem by89 : byT Tryd.prog 89 = some 8 := by kernel_rfl
theorem pl89 : plT Tryd.prog 89 = none := by kernel_rfl
theorem t89 : ldK Tryd.prog 89 = some (none) ∧ szT Tryd.prog 89 = some 1 ∧ slT Tryd.prog 89 = none ∧ stT Tryd.prog 89 = false ∧ zcT Tryd.prog 89 = some [.nilFunc] ∧ byT Tryd.prog 89 = some 8 ∧ plT Tryd.prog 89 = none := ⟨ld89, sz89, sl89, st89, zc89, by89, pl89⟩
theorem ld90 : ldK Tryd.prog 90 = some (some 24) := by kernel_rfl
theorem sz90 : szT Tryd.prog 90 = some 24 := by kernel_rfl
theorem sl90 : slT Tryd.prog 90 = none := by kernel_rfl
theorem st90 : stT Tryd.prog 90 = false := by kernel_rfl
theorem zc90 : zcT Tryd.prog 90 = some [.int .u8 0, .int .u8 0, .int .u8 0, .int .u8 0, .int .u8 0, .int .u8 0, .int .u8 0, .int .u8 0, .int .u8 0, .int .u8 0, .int .u8 0, .int .u8 0, .int .u8 0, .int .u8 0, .int .u8 0, .int .u8 0, .int .u8 0, .int .u8 0, .int .u8 0, .int .u8 0, .int .u8 0, .int .u8 0, .int .u8 0, .int .u8 0] := by kernel_rfl
theorem by90 : byT Tryd.prog 90 = some 24 := by kernel_rfl
theorem pl90 : plT Tryd.prog 90 = none := by kernel_rfl
theorem t90 : ldK Tryd.prog 90 = some (some 24) ∧ szT Tryd.prog 90 = some 24 ∧ slT Tryd.prog 90 = none ∧ stT Tryd.prog 90 = false ∧ zcT Tryd.prog 90 = some [.int .u8 0, .int .u8 0, .int .u8 0, .int .u8 0, .int .u8 0, .int .u8 0, .int .u8 0, .int .u8 0, .int .u8 0, .int .u8 0, .int .u8 0, .int .u8 0, .int .u8 0, .int .u8 0, .int .u8 0, .int .u8 0, .int .u8 0, .int .u8 0, .int .u8 0, .int .u8 0, .int .u8 0, .int .u8 0, .int .u8 0, .int .u8 0] ∧ byT Tryd.prog 90 = some 24 ∧ plT Tryd.prog 90 = none := ⟨ld90, sz90, sl90, st90, zc90, by90, pl90⟩
theorem ld91 : ldK Tryd.prog 91 = some (none) := by kernel_rfl
theorem sz91 : szT Tryd.prog 91 = some 1 := by kernel_rfl
theorem sl91 : slT Tryd.prog 91 = none := by kernel_rfl
theorem st91 : stT Tryd.prog 91 = false := by kernel_rfl
theorem zc91 : zcT Tryd.prog 91 = some [.nilFunc] := by kernel_rfl
theorem by91 : byT Tryd.prog 91 = some 8 := by kernel_rfl
theorem pl91 : plT Tryd.prog 91 = none := by kernel_rfl
theorem t91 : ldK Tryd.prog 91 = some (none) ∧ szT Tryd.prog 91 = some 1 ∧ slT Tryd.prog 91 = none ∧ stT Tryd.prog 91 = false ∧ zcT Tryd.prog 91 = some [.nilFunc] ∧ byT Tryd.prog 91 = some 8 ∧ plT Tryd.prog 91 = none := ⟨ld91, sz91, sl91, st91, zc91, by91, pl91⟩
theorem ld92 : ldK Tryd.prog 92 = some (none) := by kernel_rfl
theorem sz92 : szT Tryd.prog 92 = some 1 := by kernel_rfl
theorem sl92 : slT Tryd.prog 92 = none := by kernel_rfl
theorem st92 : stT Tryd.prog 92 = false := by kernel_rfl
theorem zc92 : zcT Tryd.prog 92 = some [.nilFunc] := by kernel_rfl
theorem by92 : byT Tryd.prog 92 = some 8 := by kernel_rfl
theorem pl92 : plT Tryd.prog 92 = none := by kernel_rfl
theorem t92 : ldK Tryd.prog 92 = some (none) ∧ szT Tryd.prog 92 = some 1 ∧ slT Tryd.prog 92 = none ∧ stT Tryd.prog 92 = false ∧ zcT Tryd.prog 92 = some [.nilFunc] ∧ byT Tryd.prog 92 = some 8 ∧ plT Tryd.prog 92 = none := ⟨ld92, sz92, sl92, st92, zc92, by92, pl92⟩
theorem ld94 : ldK Tryd.prog 94 = some (none) := by kernel_rfl
theorem sz94 : szT Tryd.prog 94 = some 1 := by kernel_rfl
theorem sl94 : slT Tryd.prog 94 = none := by kernel_rfl
theorem st94 : stT Tryd.prog 94 = false := by kernel_rfl
theorem zc94 : zcT Tryd.prog 94 = some [.nilFunc] := by kernel_rfl
theorem by94 : byT Tryd.prog 94 = some 8 := by kernel_rfl
theorem pl94 : plT Tryd.prog 94 = none := by kernel_rfl
theorem t94 : ldK Tryd.prog 94 = some (none) ∧ szT Tryd.prog 94 = some 1 ∧ slT Tryd.prog 94 = none ∧ stT Tryd.prog 94 = false ∧ zcT Tryd.prog 94 = some [.nilFunc] ∧ byT Tryd.prog 94 = some 8 ∧ plT Tryd.prog 94 = none := ⟨ld94, sz94, sl94, st94, zc94, by94, pl94⟩
theorem ld95 : ldK Tryd.prog 95 = some (none) := by kernel_rfl
theorem sz95 : szT Tryd.prog 95 = some 1 := by kernel_rfl
theorem sl95 : slT Tryd.prog 95 = none := by kernel_rfl
theorem st95 : stT Tryd.prog 95 = false := by kernel_rfl
theorem zc95 : zcT Tryd.prog 95 = some [.int .i64 0] := by kernel_rfl
theorem by95 : byT Tryd.prog 95 = some 8 := by kernel_rfl
theorem un95 : Program.underlying Tryd.prog 95 = some (TypeDesc.int IntKind.i64) := Tryd.underlying95
theorem pl95 : plT Tryd.prog 95 = none := by kernel_rfl
theorem t95 : ldK Tryd.prog 95 = some (none) ∧ szT Tryd.prog 95 = some 1 ∧ slT Tryd.prog 95 = none ∧ stT Tryd.prog 95 = false ∧ zcT Tryd.prog 95 = some [.int .i64 0] ∧ byT Tryd.prog 95 = some 8 ∧ plT Tryd.prog 95 = none := ⟨ld95, sz95, sl95, st95, zc95, by95, pl95⟩
theorem ld97 : ldK Tryd.prog 97 = some (none) := by kernel_rfl
theorem sz97 : szT Tryd.prog 97 = some 1 := by kernel_rfl
theorem sl97 : slT Tryd.prog 97 = none := by kernel_rfl
theorem st97 : stT Tryd.prog 97 = false := by kernel_rfl
theorem zc97 : zcT Tryd.prog 97 = some [.nilFunc] := by kernel_rfl
theorem by97 : byT Tryd.prog 97 = some 8 := by kernel_rfl
theorem pl97 : plT Tryd.prog 97 = none := by kernel_rfl
theorem t97 : ldK Tryd.prog 97 = some (none) ∧ szT Tryd.prog 97 = some 1 ∧ slT Tryd.prog 97 = none ∧ stT Tryd.prog 97 = false ∧ zcT Tryd.prog 97 = some [.nilFunc] ∧ byT Tryd.prog 97 = some 8 ∧ plT Tryd.prog 97 = none := ⟨ld97, sz97, sl97, st97, zc97, by97, pl97⟩
theorem ld98 : ldK Tryd.prog 98 = some (none) := by kernel_rfl
theorem sz98 : szT Tryd.prog 98 = some 1 := by kernel_rfl
theorem sl98 : slT Tryd.prog 98 = none := by kernel_rfl
theorem st98 : stT Tryd.prog 98 = false := by kernel_rfl
theorem zc98 : zcT Tryd.prog 98 = some [.pointer none] := by kernel_rfl
theorem by98 : byT Tryd.prog 98 = some 8 := by kernel_rfl
theorem pl98 : plT Tryd.prog 98 = none := by kernel_rfl
theorem t98 : ldK Tryd.prog 98 = some (none) ∧ szT Tryd.prog 98 = some 1 ∧ slT Tryd.prog 98 = none ∧ stT Tryd.prog 98 = false ∧ zcT Tryd.prog 98 = some [.pointer none] ∧ byT Tryd.prog 98 = some 8 ∧ plT Tryd.prog 98 = none := ⟨ld98, sz98, sl98, st98, zc98, by98, pl98⟩
theorem ld99 : ldK Tryd.prog 99 = some (none) := by kernel_rfl
theorem sz99 : szT Tryd.prog 99 = some 1 := by kernel_rfl
theorem sl99 : slT Tryd.prog 99 = none := by kernel_rfl
theorem st99 : stT Tryd.prog 99 = false := by kernel_rfl
theorem zc99 : zcT Tryd.prog 99 = some [.nilFunc] := by kernel_rfl
theorem by99 : byT Tryd.prog 99 = some 8 := by kernel_rfl
theorem pl99 : plT Tryd.prog 99 = none := by kernel_rfl
theorem t99 : ldK Tryd.prog 99 = some (none) ∧ szT Tryd.prog 99 = some 1 ∧ slT Tryd.prog 99 = none ∧ stT Tryd.prog 99 = false ∧ zcT Tryd.prog 99 = some [.nilFunc] ∧ byT Tryd.prog 99 = some 8 ∧ plT Tryd.prog 99 = none := ⟨ld99, sz99, sl99, st99, zc99, by99, pl99⟩
theorem ld100 : ldK Tryd.prog 100 = some (none) := by kernel_rfl
theorem sz100 : szT Tryd.prog 100 = some 1 := by kernel_rfl
theorem sl100 : slT Tryd.prog 100 = none := by kernel_rfl
theorem st100 : stT Tryd.prog 100 = false := by kernel_rfl
theorem zc100 : zcT Tryd.prog 100 = some [.nilFunc] := by kernel_rfl
theorem by100 : byT Tryd.prog 100 = some 8 := by kernel_rfl
theorem pl100 : plT Tryd.prog 100 = none := by kernel_rfl
theorem t100 : ldK Tryd.prog 100 = some (none) ∧ szT Tryd.prog 100 = some 1 ∧ slT Tryd.prog 100 = none ∧ stT Tryd.prog 100 = false ∧ zcT Tryd.prog 100 = some [.nilFunc] ∧ byT Tryd.prog 100 = some 8 ∧ plT Tryd.prog 100 = none := ⟨ld100, sz100, sl100, st100, zc100, by100, pl100⟩
theorem ld102 : ldK Tryd.prog 102 = some (none) := by kernel_rfl
theorem sz102 : szT Tryd.prog 102 = some 1 := by kernel_rfl
theorem sl102 : slT Tryd.prog 102 = none := by kernel_rfl
theorem st102 : stT Tryd.prog 102 = false := by kernel_rfl
theorem zc102 : zcT Tryd.prog 102 = some [.nilFunc] := by kernel_rfl
theorem by102 : byT Tryd.prog 102 = some 8 := by kernel_rfl
theorem pl102 : plT Tryd.prog 102 = none := by kernel_rfl
theorem t102 : ldK Tryd.prog 102 = some (none) ∧ szT Tryd.prog 102 = some 1 ∧ slT Tryd.prog 102 = none ∧ stT Tryd.prog 102 = false ∧ zcT Tryd.prog 102 = some [.nilFunc] ∧ byT Tryd.prog 102 = some 8 ∧ plT Tryd.prog 102 = none := ⟨ld102, sz102, sl102, st102, zc102, by102, pl102⟩
theorem ld103 : ldK Tryd.prog 103 = some (none) := by kernel_rfl
theorem sz103 : szT Tryd.prog 103 = some 1 := by kernel_rfl
theorem sl103 : slT Tryd.prog 103 = none := by kernel_rfl
theorem st103 : stT Tryd.prog 103 = false := by kernel_rfl
theorem zc103 : zcT Tryd.prog 103 = some [.nilFunc] := by kernel_rfl
theorem by103 : byT Tryd.prog 103 = some 8 := by kernel_rfl
theorem pl103 : plT Tryd.prog 103 = none := by kernel_rfl
theorem t103 : ldK Tryd.prog 103 = some (none) ∧ szT Tryd.prog 103 = some 1 ∧ slT Tryd.prog 103 = none ∧ stT Tryd.prog 103 = false ∧ zcT Tryd.prog 103 = some [.nilFunc] ∧ byT Tryd.prog 103 = some 8 ∧ plT Tryd.prog 103 = none := ⟨ld103, sz103, sl103, st103, zc103, by103, pl103⟩
theorem ld104 : ldK Tryd.prog 104 = some (none) := by kernel_rfl
theorem sz104 : szT Tryd.prog 104 = some 1 := by kernel_rfl
theorem sl104 : slT Tryd.prog 104 = none := by kernel_rfl
theorem st104 : stT Tryd.prog 104 = false := by kernel_rfl
theorem zc104 : zcT Tryd.prog 104 = some [.pointer none] := by kernel_rfl
theorem by104 : byT Tryd.prog 104 = some 8 := by kernel_rfl
theorem pl104 : plT Tryd.prog 104 = none := by kernel_rfl
theorem t104 : ldK Tryd.prog 104 = some (none) ∧ szT Tryd.prog 104 = some 1 ∧ slT Tryd.prog 104 = none ∧ stT Tryd.prog 104 = false ∧ zcT Tryd.prog 104 = some [.pointer none] ∧ byT Tryd.prog 104 = some 8 ∧ plT Tryd.prog 104 = none := ⟨ld104, sz104, sl104, st104, zc104, by104, pl104⟩
theorem ld105 : ldK Tryd.prog 105 = some (some 2) := by kernel_rfl
theorem sz105 : szT Tryd.prog 105 = some 2 := by kernel_rfl
theorem sl105 : slT Tryd.prog 105 = none := by kernel_rfl
theorem st105 : stT Tryd.prog 105 = false := by kernel_rfl
theorem zc105 : zcT Tryd.prog 105 = some [.pointer none, .slice none 0 0] := by kernel_rfl
theorem by105 : byT Tryd.prog 105 = some 32 := by kernel_rfl
theorem pl105 : plT Tryd.prog 105 = some #[(0, 1), (1, 1)] := by kernel_rfl
theorem fl105_0 : fldT Tryd.prog 105 0 = some (0, 104) := by kernel_rfl
theorem fl105_1 : fldT Tryd.prog 105 1 = some (1, 22) := by kernel_rfl
theorem t105 : ldK Tryd.prog 105 = some (some 2) ∧ szT Tryd.prog 105 = some 2 ∧ slT Tryd.prog 105 = none ∧ stT Tryd.prog 105 = false ∧ zcT Tryd.prog 105 = some [.pointer none, .slice none 0 0] ∧ byT Tryd.prog 105 = some 32 ∧ plT Tryd.prog 105 = some #[(0, 1), (1, 1)] ∧ fldT Tryd.prog 105 0 = some (0, 104) ∧ fldT Tryd.prog 105 1 = some (1, 22) := ⟨ld105, sz105, sl105, st105, zc105, by105, pl105, fl105_0, fl105_1⟩
theorem ld106 : ldK Tryd.prog 106 = some (some 2) := by kernel_rfl
theorem sz106 : szT Tryd.prog 106 = some 2 := by kernel_rfl
theorem sl106 : slT Tryd.prog 106 = none := by kernel_rfl
theorem st106 : stT Tryd.prog 106 = false := by kernel_rfl
theorem zc106 : zcT Tryd.prog 106 = some [.pointer none, .slice none 0 0] := by kernel_rfl
theorem by106 : byT Tryd.prog 106 = some 32 := by kernel_rfl
theorem pl106 : plT Tryd.prog 106 = some #[(0, 1), (1, 1)] := by kernel_rfl
theorem fl106_0 : fldT Tryd.prog 106 0 = some (0, 104) := by kernel_rfl
theorem fl106_1 : fldT Tryd.prog 106 1 = some (1, 22) := by kernel_rfl
theorem t106 : ldK Tryd.prog 106 = some (some 2) ∧ szT Tryd.prog 106 = some 2 ∧ slT Tryd.prog 106 = none ∧ stT Tryd.prog 106 = false ∧ zcT Tryd.prog 106 = some [.pointer none, .slice none 0 0] ∧ byT Tryd.prog 106 = some 32 ∧ plT Tryd.prog 106 = some #[(0, 1), (1, 1)] ∧ fldT Tryd.prog 106 0 = some (0, 104) ∧ fldT Tryd.prog 106 1 = some (1, 22) := ⟨ld106, sz106, sl106, st106, zc106, by106, pl106, fl106_0, fl106_1⟩
theorem ld107 : ldK Tryd.prog 107 = some (none) := by kernel_rfl
theorem sz107 : szT Tryd.prog 107 = some 1 := by kernel_rfl
theorem sl107 : slT Tryd.prog 107 = none := by kernel_rfl
theorem st107 : stT Tryd.prog 107 = false := by kernel_rfl
theorem zc107 : zcT Tryd.prog 107 = some [.nilFunc] := by kernel_rfl
theorem by107 : byT Tryd.prog 107 = some 8 := by kernel_rfl
theorem pl107 : plT Tryd.prog 107 = none := by kernel_rfl
theorem t107 : ldK Tryd.prog 107 = some (none) ∧ szT Tryd.prog 107 = some 1 ∧ slT Tryd.prog 107 = none ∧ stT Tryd.prog 107 = false ∧ zcT Tryd.prog 107 = some [.nilFunc] ∧ byT Tryd.prog 107 = some 8 ∧ plT Tryd.prog 107 = none := ⟨ld107, sz107, sl107, st107, zc107, by107, pl107⟩
theorem ld108 : ldK Tryd.prog 108 = some (none) := by kernel_rfl
theorem sz108 : szT Tryd.prog 108 = some 1 := by kernel_rfl
theorem sl108 : slT Tryd.prog 108 = none := by kernel_rfl
theorem st108 : stT Tryd.prog 108 = false := by kernel_rfl
theorem zc108 : zcT Tryd.prog 108 = some [.nilFunc] := by kernel_rfl
theorem by108 : byT Tryd.prog 108 = some 8 := by kernel_rfl
theorem pl108 : plT Tryd.prog 108 = none := by kernel_rfl
theorem t108 : ldK Tryd.prog 108 = some (none) ∧ szT Tryd.prog 108 = some 1 ∧ slT Tryd.prog 108 = none ∧ stT Tryd.prog 108 = false ∧ zcT Tryd.prog 108 = some [.nilFunc] ∧ byT Tryd.prog 108 = some 8 ∧ plT Tryd.prog 108 = none := ⟨ld108, sz108, sl108, st108, zc108, by108, pl108⟩
theorem ld109 : ldK Tryd.prog 109 = some (none) := by kernel_rfl
theorem sz109 : szT Tryd.prog 109 = some 1 := by kernel_rfl
theorem sl109 : slT Tryd.prog 109 = none := by kernel_rfl
theorem st109 : stT Tryd.prog 109 = false := by kernel_rfl
theorem zc109 : zcT Tryd.prog 109 = some [.nilFunc] := by kernel_rfl
theorem by109 : byT Tryd.prog 109 = some 8 := by kernel_rfl
theorem pl109 : plT Tryd.prog 109 = none := by kernel_rfl
theorem t109 : ldK Tryd.prog 109 = some (none) ∧ szT Tryd.prog 109 = some 1 ∧ slT Tryd.prog 109 = none ∧ stT Tryd.prog 109 = false ∧ zcT Tryd.prog 109 = some [.nilFunc] ∧ byT Tryd.prog 109 = some 8 ∧ plT Tryd.prog 109 = none := ⟨ld109, sz109, sl109, st109, zc109, by109, pl109⟩
theorem ld110 : ldK Tryd.prog 110 = some (some 20) := by kernel_rfl
theorem sz110 : szT Tryd.prog 110 = some 20 := by kernel_rfl
theorem sl110 : slT Tryd.prog 110 = none := by kernel_rfl
theorem st110 : stT Tryd.prog 110 = false := by kernel_rfl
theorem zc110 : zcT Tryd.prog 110 = some [.int .u64 0, .int .u64 0, .int .u64 0, .int .u64 0, .int .u64 0, .int .u64 0, .int .u64 0, .int .u64 0, .int .u64 0, .int .u64 0, .int .u64 0, .int .u64 0, .int .u64 0, .int .u64 0, .int .u64 0, .int .u64 0, .int .u64 0, .int .u64 0, .int .u64 0, .int .u64 0] := by kernel_rfl
theorem by110 : byT Tryd.prog 110 = some 160 := by kernel_rfl
theorem pl110 : plT Tryd.prog 110 = none := by kernel_rfl
theorem t110 : ldK Tryd.prog 110 = some (some 20) ∧ szT Tryd.prog 110 = some 20 ∧ slT Tryd.prog 110 = none ∧ stT Tryd.prog 110 = false ∧ zcT Tryd.prog 110 = some [.int .u64 0, .int .u64 0, .int .u64 0, .int .u64 0, .int .u64 0, .int .u64 0, .int .u64 0, .int .u64 0, .int .u64 0, .int .u64 0, .int .u64 0, .int .u64 0, .int .u64 0, .int .u64 0, .int .u64 0, .int .u64 0, .int .u64 0, .int .u64 0, .int .u64 0, .int .u64 0] ∧ byT Tryd.prog 110 = some 160 ∧ plT Tryd.prog 110 = none := ⟨ld110, sz110, sl110, st110, zc110, by110, pl110⟩
theorem ld111 : ldK Tryd.prog 111 = some (none) := by kernel_rfl
theorem sz111 : szT Tryd.prog 111 = some 1 := by kernel_rfl
theorem sl111 : slT Tryd.prog 111 = none := by kernel_rfl
theorem st111 : stT Tryd.prog 111 = false := by kernel_rfl
theorem zc111 : zcT Tryd.prog 111 = some [.int .u32 0] := by kernel_rfl
theorem by111 : byT Tryd.prog 111 = some 4 := by kernel_rfl
theorem un111 : Program.underlying Tryd.prog 111 = some (TypeDesc.int IntKind.u32) := Tryd.underlying111
theorem pl111 : plT Tryd.prog 111 = none := by kernel_rfl
theorem t111 : ldK Tryd.prog 111 = some (none) ∧ szT Tryd.prog 111 = some 1 ∧ slT Tryd.prog 111 = none ∧ stT Tryd.prog 111 = false ∧ zcT Tryd.prog 111 = some [.int .u32 0] ∧ byT Tryd.prog 111 = some 4 ∧ plT Tryd.prog 111 = none := ⟨ld111, sz111, sl111, st111, zc111, by111, pl111⟩
theorem ld112 : ldK Tryd.prog 112 = some (some 65) := by kernel_rfl
theorem sz112 : szT Tryd.prog 112 = some 65 := by kernel_rfl
theorem sl112 : slT Tryd.prog 112 = none := by kernel_rfl
theorem st112 : stT Tryd.prog 112 = false := by kernel_rfl
theorem zc112 : zcT Tryd.prog 112 = some [.int .u8 0, .int .u8 0, .int .u8 0, .int .u8 0, .int .u8 0, .int .u8 0, .int .u8 0, .int .u8 0, .int .u8 0, .int .u8 0, .int .u8 0, .int .u8 0, .int .u8 0, .int .u8 0, .int .u8 0, .int .u8 0, .int .u8 0, .int .u8 0, .int .u8 0, .int .u8 0, .int .u8 0, .int .u8 0, .int .u8 0, .int .u8 0, .int .u8 0, .int .u8 0, .int .u8 0, .int .u8 0, .int .u8 0, .int .u8 0, .int .u8 0, .int .u8 0, .int .u8 0, .int .u8 0, .int .u8 0, .int .u8 0, .int .u8 0, .int .u8 0, .int .u8 0, .int .u8 0, .int .u8 0, .int .u8 0, .int .u8 0, .int .u8 0, .int .u8 0, .int .u8 0, .int .u8 0, .int .u8 0, .int .u8 0, .int .u8 0, .int .u8 0, .int .u8 0, .int .u8 0, .int .u8 0, .int .u8 0, .int .u8 0, .int .u8 0, .int .u8 0, .int .u8 0, .int .u8 0, .int .u8 0, .int .u8 0, .int .u8 0, .int .u8 0, .int .u8 0] := by kernel_rfl
theorem by112 : byT Tryd.prog 112 = some 65 := by kernel_rfl
theorem pl112 : plT Tryd.prog 112 = none := by kernel_rfl
theorem t112 : ldK Tryd.prog 112 = some (some 65) ∧ szT Tryd.prog 112 = some 65 ∧ slT Tryd.prog 112 = none ∧ stT Tryd.prog 112 = false ∧ zcT Tryd.prog 112 = some [.int .u8 0, .int .u8 0, .int .u8 0, .int .u8 0, .int .u8 0, .int .u8 0, .int .u8 0, .int .u8 0, .int .u8 0, .int .u8 0, .int .u8 0, .int .u8 0, .int .u8 0, .int .u8 0, .int .u8 0, .int .u8 0, .int .u8 0, .int .u8 0, .int .u8 0, .int .u8 0, .int .u8 0, .int .u8 0, .int .u8 0, .int .u8 0, .int .u8 0, .int .u8 0, .int .u8 0, .int .u8 0, .int .u8 0, .int .u8 0, .int .u8 0, .int .u8 0, .int .u8 0, .int .u8 0, .int .u8 0, .int .u8 0, .int .u8 0, .int .u8 0, .int .u8 0, .int .u8 0, .int .u8 0, .int .u8 0, .int .u8 0, .int .u8 0, .int .u8 0, .int .u8 0, .int .u8 0, .int .u8 0, .int .u8 0, .int .u8 0, .int .u8 0, .int .u8 0, .int .u8 0, .int .u8 0, .int .u8 0, .int .u8 0, .int .u8 0, .int .u8 0, .int .u8 0, .int .u8 0, .int .u8 0, .int .u8 0, .int .u8 0, .int .u8 0, .int .u8 0] ∧ byT Tryd.prog 112 = some 65 ∧ plT Tryd.prog 112 = none := ⟨ld112, sz112, sl112, st112, zc112, by112, pl112⟩
theorem ld113 : ldK Tryd.prog 113 = some (none) := by kernel_rfl
theorem sz113 : szT Tryd.prog 113 = some 1 := by kernel_rfl
theorem sl113 : slT Tryd.prog 113 = none := by kernel_rfl
theorem st113 : stT Tryd.prog 113 = false := by kernel_rfl
theorem zc113 : zcT Tryd.prog 113 = some [.nilFunc] := by kernel_rfl
theorem by113 : byT Tryd.prog 113 = some 8 := by kernel_rfl
theorem pl113 : plT Tryd.prog 113 = none := by kernel_rfl
theorem t113 : ldK Tryd.prog 113 = some (none) ∧ szT Tryd.prog 113 = some 1 ∧ slT Tryd.prog 113 = none ∧ stT Tryd.prog 113 = false ∧ zcT Tryd.prog 113 = some [.nilFunc] ∧ byT Tryd.prog 113 = some 8 ∧ plT Tryd.prog 113 = none := ⟨ld113, sz113, sl113, st113, zc113, by113, pl113⟩
theorem ld115 : ldK Tryd.prog 115 = some (none) := by kernel_rfl
theorem sz115 : szT Tryd.prog 115 = some 1 := by kernel_rfl
theorem sl115 : slT Tryd.prog 115 = none := by kernel_rfl
theorem st115 : stT Tryd.prog 115 = false := by kernel_rfl
theorem zc115 : zcT Tryd.prog 115 = some [.nilFunc] := by kernel_rfl
theorem by115 : byT Tryd.prog 115 = some 8 := by kernel_rfl
theorem pl115 : plT Tryd.prog 115 = none := by kernel_rfl
theorem t115 : ldK Tryd.prog 115 = some (none) ∧ szT Tryd.prog 115 = some 1 ∧ slT Tryd.prog 115 = none ∧ stT Tryd.prog 115 = false ∧ zcT Tryd.prog 115 = some [.nilFunc] ∧ byT Tryd.prog 115 = some 8 ∧ plT Tryd.prog 115 = none := ⟨ld115, sz115, sl115, st115, zc115, by115, pl115⟩
theorem ld116 : ldK Tryd.prog 116 = some (none) := by kernel_rfl
theorem sz116 : szT Tryd.prog 116 = some 1 := by kernel_rfl
theorem sl116 : slT Tryd.prog 116 = none := by kernel_rfl
theorem st116 : stT Tryd.prog 116 = false := by kernel_rfl
theorem zc116 : zcT Tryd.prog 116 = some [.nilFunc] := by kernel_rfl
theorem by116 : byT Tryd.prog 116 = some 8 := by kernel_rfl
theorem pl116 : plT Tryd.prog 116 = none := by kernel_rfl
theorem t116 : ldK Tryd.prog 116 = some (none) ∧ szT Tryd.prog 116 = some 1 ∧ slT Tryd.prog 116 = none ∧ stT Tryd.prog 116 = false ∧ zcT Tryd.prog 116 = some [.nilFunc] ∧ byT Tryd.prog 116 = some 8 ∧ plT Tryd.prog 116 = none := ⟨ld116, sz116, sl116, st116, zc116, by116, pl116⟩
theorem ld117 : ldK Tryd.prog 117 = some (some 3) := by kernel_rfl
theorem sz117 : szT Tryd.prog 117 = some 3 := by kernel_rfl
theorem sl117 : slT Tryd.prog 117 = none := by kernel_rfl
theorem st117 : stT Tryd.prog 117 = false := by kernel_rfl
theorem zc117 : zcT Tryd.prog 117 = some [.string ByteArray.empty, .string ByteArray.empty, .nilIface] := by kernel_rfl
theorem by117 : byT Tryd.prog 117 = some 48 := by kernel_rfl
theorem pl117 : plT Tryd.prog 117 = some #[(0, 1), (1, 1), (2, 1)] := by kernel_rfl
theorem fl117_0 : fldT Tryd.prog 117 0 = some (0, 9) := by kernel_rfl
theorem fl117_1 : fldT Tryd.prog 117 1 = some (1, 9) := by kernel_rfl
theorem fl117_2 : fldT Tryd.prog 117 2 = some (2, 83) := by kernel_rfl
theorem t117 : ldK Tryd.prog 117 = some (some 3) ∧ szT Tryd.prog 117 = some 3 ∧ slT Tryd.prog 117 = none ∧ stT Tryd.prog 117 = false ∧ zcT Tryd.prog 117 = some [.string ByteArray.empty, .string ByteArray.empty, .nilIface] ∧ byT Tryd.prog 117 = some 48 ∧ plT Tryd.prog 117 = some #[(0, 1), (1, 1), (2, 1)] ∧ fldT Tryd.prog 117 0 = some (0, 9) ∧ fldT Tryd.prog 117 1 = some (1, 9) ∧ fldT Tryd.prog 117 2 = some (2, 83) := ⟨ld117, sz117, sl117, st117, zc117, by117, pl117, fl117_0, fl117_1, fl117_2⟩
theorem ld118 : ldK Tryd.prog 118 = some (some 3) := by kernel_rfl
theorem sz118 : szT Tryd.prog 118 = some 3 := by kernel_rfl
theorem sl118 : slT Tryd.prog 118 = none := by kernel_rfl
theorem st118 : stT Tryd.prog 118 = false := by kernel_rfl
theorem zc118 : zcT Tryd.prog 118 = some [.string ByteArray.empty, .string ByteArray.empty, .nilIface] := by kernel_rfl
theorem by118 : byT Tryd.prog 118 = some 48 := by kernel_rfl
theorem pl118 : plT Tryd.prog 118 = some #[(0, 1), (1, 1), (2, 1)] := by kernel_rfl
theorem fl118_0 : fldT Tryd.prog 118 0 = some (0, 9) := by kernel_rfl
theorem fl118_1 : fldT Tryd.prog 118 1 = some (1, 9) := by kernel_rfl
theorem fl118_2 : fldT Tryd.prog 118 2 = some (2, 83) := by kernel_rfl
theorem t118 : ldK Tryd.prog 118 = some (some 3) ∧ szT Tryd.prog 118 = some 3 ∧ slT Tryd.prog 118 = none ∧ stT Tryd.prog 118 = false ∧ zcT Tryd.prog 118 = some [.string ByteArray.empty, .string ByteArray.empty, .nilIface] ∧ byT Tryd.prog 118 = some 48 ∧ plT Tryd.prog 118 = some #[(0, 1), (1, 1), (2, 1)] ∧ fldT Tryd.prog 118 0 = some (0, 9) ∧ fldT Tryd.prog 118 1 = some (1, 9) ∧ fldT Tryd.prog 118 2 = some (2, 83) := ⟨ld118, sz118, sl118, st118, zc118, by118, pl118, fl118_0, fl118_1, fl118_2⟩
theorem ld119 : ldK Tryd.prog 119 = some (none) := by kernel_rfl
theorem sz119 : szT Tryd.prog 119 = some 1 := by kernel_rfl
theorem sl119 : slT Tryd.prog 119 = none := by kernel_rfl
theorem st119 : stT Tryd.prog 119 = false := by kernel_rfl
theorem zc119 : zcT Tryd.prog 119 = some [.nilFunc] := by kernel_rfl
theorem by119 : byT Tryd.prog 119 = some 8 := by kernel_rfl
theorem pl119 : plT Tryd.prog 119 = none := by kernel_rfl
theorem t119 : ldK Tryd.prog 119 = some (none) ∧ szT Tryd.prog 119 = some 1 ∧ slT Tryd.prog 119 = none ∧ stT Tryd.prog 119 = false ∧ zcT Tryd.prog 119 = some [.nilFunc] ∧ byT Tryd.prog 119 = some 8 ∧ plT Tryd.prog 119 = none := ⟨ld119, sz119, sl119, st119, zc119, by119, pl119⟩
theorem ld121 : ldK Tryd.prog 121 = some (none) := by kernel_rfl
theorem sz121 : szT Tryd.prog 121 = some 1 := by kernel_rfl
theorem sl121 : slT Tryd.prog 121 = none := by kernel_rfl
theorem st121 : stT Tryd.prog 121 = false := by kernel_rfl
theorem zc121 : zcT Tryd.prog 121 = some [.nilFunc] := by kernel_rfl
theorem by121 : byT Tryd.prog 121 = some 8 := by kernel_rfl
theorem pl121 : plT Tryd.prog 121 = none := by kernel_rfl
theorem t121 : ldK Tryd.prog 121 = some (none) ∧ szT Tryd.prog 121 = some 1 ∧ slT Tryd.prog 121 = none ∧ stT Tryd.prog 121 = false ∧ zcT Tryd.prog 121 = some [.nilFunc] ∧ byT Tryd.prog 121 = some 8 ∧ plT Tryd.prog 121 = none := ⟨ld121, sz121, sl121, st121, zc121, by121, pl121⟩
theorem ld123 : ldK Tryd.prog 123 = some (none) := by kernel_rfl
theorem sz123 : szT Tryd.prog 123 = some 1 := by kernel_rfl
theorem sl123 : slT Tryd.prog 123 = none := by kernel_rfl
theorem st123 : stT Tryd.prog 123 = false := by kernel_rfl
theorem zc123 : zcT Tryd.prog 123 = some [.nilFunc] := by kernel_rfl
theorem by123 : byT Tryd.prog 123 = some 8 := by kernel_rfl
theorem pl123 : plT Tryd.prog 123 = none := by kernel_rfl
theorem t123 : ldK Tryd.prog 123 = some (none) ∧ szT Tryd.prog 123 = some 1 ∧ slT Tryd.prog 123 = none ∧ stT Tryd.prog 123 = false ∧ zcT Tryd.prog 123 = some [.nilFunc] ∧ byT Tryd.prog 123 = some 8 ∧ plT Tryd.prog 123 = none := ⟨ld123, sz123, sl123, st123, zc123, by123, pl123⟩
theorem ld124 : ldK Tryd.prog 124 = some (none) := by kernel_rfl
theorem sz124 : szT Tryd.prog 124 = some 1 := by kernel_rfl
theorem sl124 : slT Tryd.prog 124 = none := by kernel_rfl
theorem st124 : stT Tryd.prog 124 = false := by kernel_rfl
theorem zc124 : zcT Tryd.prog 124 = some [.pointer none] := by kernel_rfl
theorem by124 : byT Tryd.prog 124 = some 8 := by kernel_rfl
theorem pl124 : plT Tryd.prog 124 = none := by kernel_rfl
theorem t124 : ldK Tryd.prog 124 = some (none) ∧ szT Tryd.prog 124 = some 1 ∧ slT Tryd.prog 124 = none ∧ stT Tryd.prog 124 = false ∧ zcT Tryd.prog 124 = some [.pointer none] ∧ byT Tryd.prog 124 = some 8 ∧ plT Tryd.prog 124 = none := ⟨ld124, sz124, sl124, st124, zc124, by124, pl124⟩
theorem ld125 : ldK Tryd.prog 125 = some (none) := by kernel_rfl
theorem sz125 : szT Tryd.prog 125 = some 1 := by kernel_rfl
theorem sl125 : slT Tryd.prog 125 = none := by kernel_rfl
theorem st125 : stT Tryd.prog 125 = false := by kernel_rfl
theorem zc125 : zcT Tryd.prog 125 = some [.nilFunc] := by kernel_rfl
theorem by125 : byT Tryd.prog 125 = some 8 := by kernel_rfl
theorem pl125 : plT Tryd.prog 125 = none := by kernel_rfl
theorem t125 : ldK Tryd.prog 125 = some (none) ∧ szT Tryd.prog 125 = some 1 ∧ slT Tryd.prog 125 = none ∧ stT Tryd.prog 125 = false ∧ zcT Tryd.prog 125 = some [.nilFunc] ∧ byT Tryd.prog 125 = some 8 ∧ plT Tryd.prog 125 = none := ⟨ld125, sz125, sl125, st125, zc125, by125, pl125⟩
theorem ld126 : ldK Tryd.prog 126 = some (none) := by kernel_rfl
theorem sz126 : szT Tryd.prog 126 = some 1 := by kernel_rfl
theorem sl126 : slT Tryd.prog 126 = none := by kernel_rfl
theorem st126 : stT Tryd.prog 126 = false := by kernel_rfl
theorem zc126 : zcT Tryd.prog 126 = some [.nilFunc] := by kernel_rfl
theorem by126 : byT Tryd.prog 126 = some 8 := by kernel_rfl
theorem pl126 : plT Tryd.prog 126 = none := by kernel_rfl
theorem t126 : ldK Tryd.prog 126 = some (none) ∧ szT Tryd.prog 126 = some 1 ∧ slT Tryd.prog 126 = none ∧ stT Tryd.prog 126 = false ∧ zcT Tryd.prog 126 = some [.nilFunc] ∧ byT Tryd.prog 126 = some 8 ∧ plT Tryd.prog 126 = none := ⟨ld126, sz126, sl126, st126, zc126, by126, pl126⟩
theorem ld127 : ldK Tryd.prog 127 = some (none) := by kernel_rfl
theorem sz127 : szT Tryd.prog 127 = some 1 := by kernel_rfl
theorem sl127 : slT Tryd.prog 127 = none := by kernel_rfl
theorem st127 : stT Tryd.prog 127 = false := by kernel_rfl
theorem zc127 : zcT Tryd.prog 127 = some [.nilFunc] := by kernel_rfl
theorem by127 : byT Tryd.prog 127 = some 8 := by kernel_rfl
theorem pl127 : plT Tryd.prog 127 = none := by kernel_rfl
theorem t127 : ldK Tryd.prog 127 = some (none) ∧ szT Tryd.prog 127 = some 1 ∧ slT Tryd.prog 127 = none ∧ stT Tryd.prog 127 = false ∧ zcT Tryd.prog 127 = some [.nilFunc] ∧ byT Tryd.prog 127 = some 8 ∧ plT Tryd.prog 127 = none := ⟨ld127, sz127, sl127, st127, zc127, by127, pl127⟩
theorem ld128 : ldK Tryd.prog 128 = some (none) := by kernel_rfl
theorem sz128 : szT Tryd.prog 128 = some 1 := by kernel_rfl
theorem sl128 : slT Tryd.prog 128 = none := by kernel_rfl
theorem st128 : stT Tryd.prog 128 = false := by kernel_rfl
theorem zc128 : zcT Tryd.prog 128 = some [.pointer none] := by kernel_rfl
theorem by128 : byT Tryd.prog 128 = some 8 := by kernel_rfl
theorem pl128 : plT Tryd.prog 128 = none := by kernel_rfl
theorem t128 : ldK Tryd.prog 128 = some (none) ∧ szT Tryd.prog 128 = some 1 ∧ slT Tryd.prog 128 = none ∧ stT Tryd.prog 128 = false ∧ zcT Tryd.prog 128 = some [.pointer none] ∧ byT Tryd.prog 128 = some 8 ∧ plT Tryd.prog 128 = none := ⟨ld128, sz128, sl128, st128, zc128, by128, pl128⟩
theorem ld129 : ldK Tryd.prog 129 = some (some 1) := by kernel_rfl
theorem sz129 : szT Tryd.prog 129 = some 1 := by kernel_rfl
theorem sl129 : slT Tryd.prog 129 = none := by kernel_rfl
theorem st129 : stT Tryd.prog 129 = false := by kernel_rfl
theorem zc129 : zcT Tryd.prog 129 = some [.string ByteArray.empty] := by kernel_rfl
theorem by129 : byT Tryd.prog 129 = some 16 := by kernel_rfl
theorem pl129 : plT Tryd.prog 129 = some #[(0, 1)] := by kernel_rfl
theorem fl129_0 : fldT Tryd.prog 129 0 = some (0, 9) := by kernel_rfl
theorem t129 : ldK Tryd.prog 129 = some (some 1) ∧ szT Tryd.prog 129 = some 1 ∧ slT Tryd.prog 129 = none ∧ stT Tryd.prog 129 = false ∧ zcT Tryd.prog 129 = some [.string ByteArray.empty] ∧ byT Tryd.prog 129 = some 16 ∧ plT Tryd.prog 129 = some #[(0, 1)] ∧ fldT Tryd.prog 129 0 = some (0, 9) := ⟨ld129, sz129, sl129, st129, zc129, by129, pl129, fl129_0⟩
theorem ld130 : ldK Tryd.prog 130 = some (some 1) := by kernel_rfl
theorem sz130 : szT Tryd.prog 130 = some 1 := by kernel_rfl
theorem sl130 : slT Tryd.prog 130 = none := by kernel_rfl
theorem st130 : stT Tryd.prog 130 = false := by kernel_rfl
theorem zc130 : zcT Tryd.prog 130 = some [.string ByteArray.empty] := by kernel_rfl
theorem by130 : byT Tryd.prog 130 = some 16 := by kernel_rfl
theorem pl130 : plT Tryd.prog 130 = some #[(0, 1)] := by kernel_rfl
theorem fl130_0 : fldT Tryd.prog 130 0 = some (0, 9) := by kernel_rfl
theorem t130 : ldK Tryd.prog 130 = some (some 1) ∧ szT Tryd.prog 130 = some 1 ∧ slT Tryd.prog 130 = none ∧ stT Tryd.prog 130 = false ∧ zcT Tryd.prog 130 = some [.string ByteArray.empty] ∧ byT Tryd.prog 130 = some 16 ∧ plT Tryd.prog 130 = some #[(0, 1)] ∧ fldT Tryd.prog 130 0 = some (0, 9) := ⟨ld130, sz130, sl130, st130, zc130, by130, pl130, fl130_0⟩
theorem ld132 : ldK Tryd.prog 132 = some (none) := by kernel_rfl
theorem sz132 : szT Tryd.prog 132 = some 1 := by kernel_rfl
theorem sl132 : slT Tryd.prog 132 = none := by kernel_rfl
theorem st132 : stT Tryd.prog 132 = false := by kernel_rfl
theorem zc132 : zcT Tryd.prog 132 = some [.nilFunc] := by kernel_rfl
theorem by132 : byT Tryd.prog 132 = some 8 := by kernel_rfl
theorem pl132 : plT Tryd.prog 132 = none := by kernel_rfl
theorem t132 : ldK Tryd.prog 132 = some (none) ∧ szT Tryd.prog 132 = some 1 ∧ slT Tryd.prog 132 = none ∧ stT Tryd.prog 132 = false ∧ zcT Tryd.prog 132 = some [.nilFunc] ∧ byT Tryd.prog 132 = some 8 ∧ plT Tryd.prog 132 = none := ⟨ld132, sz132, sl132, st132, zc132, by132, pl132⟩
theorem ld133 : ldK Tryd.prog 133 = some (none) := by kernel_rfl
theorem sz133 : szT Tryd.prog 133 = some 1 := by kernel_rfl
theorem sl133 : slT Tryd.prog 133 = none := by kernel_rfl
theorem st133 : stT Tryd.prog 133 = false := by kernel_rfl
theorem zc133 : zcT Tryd.prog 133 = some [.nilFunc] := by kernel_rfl
theorem by133 : byT Tryd.prog 133 = some 8 := by kernel_rfl
theorem pl133 : plT Tryd.prog 133 = none := by kernel_rfl
theorem t133 : ldK Tryd.prog 133 = some (none) ∧ szT Tryd.prog 133 = some 1 ∧ slT Tryd.prog 133 = none ∧ stT Tryd.prog 133 = false ∧ zcT Tryd.prog 133 = some [.nilFunc] ∧ byT Tryd.prog 133 = some 8 ∧ plT Tryd.prog 133 = none := ⟨ld133, sz133, sl133, st133, zc133, by133, pl133⟩
theorem ld134 : ldK Tryd.prog 134 = some (some 32) := by kernel_rfl
theorem sz134 : szT Tryd.prog 134 = some 32 := by kernel_rfl
theorem sl134 : slT Tryd.prog 134 = none := by kernel_rfl
theorem st134 : stT Tryd.prog 134 = false := by kernel_rfl
theorem zc134 : zcT Tryd.prog 134 = some [.int .u8 0, .int .u8 0, .int .u8 0, .int .u8 0, .int .u8 0, .int .u8 0, .int .u8 0, .int .u8 0, .int .u8 0, .int .u8 0, .int .u8 0, .int .u8 0, .int .u8 0, .int .u8 0, .int .u8 0, .int .u8 0, .int .u8 0, .int .u8 0, .int .u8 0, .int .u8 0, .int .u8 0, .int .u8 0, .int .u8 0, .int .u8 0, .int .u8 0, .int .u8 0, .int .u8 0, .int .u8 0, .int .u8 0, .int .u8 0, .int .u8 0, .int .u8 0] := by kernel_rfl
theorem by134 : byT Tryd.prog 134 = some 32 := by kernel_rfl
theorem pl134 : plT Tryd.prog 134 = none := by kernel_rfl
theorem t134 : ldK Tryd.prog 134 = some (some 32) ∧ szT Tryd.prog 134 = some 32 ∧ slT Tryd.prog 134 = none ∧ stT Tryd.prog 134 = false ∧ zcT Tryd.prog 134 = some [.int .u8 0, .int .u8 0, .int .u8 0, .int .u8 0, .int .u8 0, .int .u8 0, .int .u8 0, .int .u8 0, .int .u8 0, .int .u8 0, .int .u8 0, .int .u8 0, .int .u8 0, .int .u8 0, .int .u8 0, .int .u8 0, .int .u8 0, .int .u8 0, .int .u8 0, .int .u8 0, .int .u8 0, .int .u8 0, .int .u8 0, .int .u8 0, .int .u8 0, .int .u8 0, .int .u8 0, .int .u8 0, .int .u8 0, .int .u8 0, .int .u8 0, .int .u8 0] ∧ byT Tryd.prog 134 = some 32 ∧ plT Tryd.prog 134 = none := ⟨ld134, sz134, sl134, st134, zc134, by134, pl134⟩
theorem ld135 : ldK Tryd.prog 135 = some (some 64) := by kernel_rfl
theorem sz135 : szT Tryd.prog 135 = some 64 := by kernel_rfl
theorem sl135 : slT Tryd.prog 135 = none := by kernel_rfl
theorem st135 : stT Tryd.prog 135 = false := by kernel_rfl
theorem zc135 : zcT Tryd.prog 135 = some [.int .u8 0, .int .u8 0, .int .u8 0, .int .u8 0, .int .u8 0, .int .u8 0, .int .u8 0, .int .u8 0, .int .u8 0, .int .u8 0, .int .u8 0, .int .u8 0, .int .u8 0, .int .u8 0, .int .u8 0, .int .u8 0, .int .u8 0, .int .u8 0, .int .u8 0, .int .u8 0, .int .u8 0, .int .u8 0, .int .u8 0, .int .u8 0, .int .u8 0, .int .u8 0, .int .u8 0, .int .u8 0, .int .u8 0, .int .u8 0, .int .u8 0, .int .u8 0, .int .u8 0, .int .u8 0, .int .u8 0, .int .u8 0, .int .u8 0, .int .u8 0, .int .u8 0, .int .u8 0, .int .u8 0, .int .u8 0, .int .u8 0, .int .u8 0, .int .u8 0, .int .u8 0, .int .u8 0, .int .u8 0, .int .u8 0, .int .u8 0, .int .u8 0, .int .u8 0, .int .u8 0, .int .u8 0, .int .u8 0, .int .u8 0, .int .u8 0, .int .u8 0, .int .u8 0, .int .u8 0, .int .u8 0, .int .u8 0, .int .u8 0, .int .u8 0] := by kernel_rfl
theorem by135 : byT Tryd.prog 135 = some 64 := by kernel_rfl
theorem pl135 : plT Tryd.prog 135 = none := by kernel_rfl
theorem t135 : ldK Tryd.prog 135 = some (some 64) ∧ szT Tryd.prog 135 = some 64 ∧ slT Tryd.prog 135 = none ∧ stT Tryd.prog 135 = false ∧ zcT Tryd.prog 135 = some [.int .u8 0, .int .u8 0, .int .u8 0, .int .u8 0, .int .u8 0, .int .u8 0, .int .u8 0, .int .u8 0, .int .u8 0, .int .u8 0, .int .u8 0, .int .u8 0, .int .u8 0, .int .u8 0, .int .u8 0, .int .u8 0, .int .u8 0, .int .u8 0, .int .u8 0, .int .u8 0, .int .u8 0, .int .u8 0, .int .u8 0, .int .u8 0, .int .u8 0, .int .u8 0, .int .u8 0, .int .u8 0, .int .u8 0, .int .u8 0, .int .u8 0, .int .u8 0, .int .u8 0, .int .u8 0, .int .u8 0, .int .u8 0, .int .u8 0, .int .u8 0, .int .u8 0, .int .u8 0, .int .u8 0, .int .u8 0, .int .u8 0, .int .u8 0, .int .u8 0, .int .u8 0, .int .u8 0, .int .u8 0, .int .u8 0, .int .u8 0, .int .u8 0, .int .u8 0, .int .u8 0, .int .u8 0, .int .u8 0, .int .u8 0, .int .u8 0, .int .u8 0, .int .u8 0, .int .u8 0, .int .u8 0, .int .u8 0, .int .u8 0, .int .u8 0] ∧ byT Tryd.prog 135 = some 64 ∧ plT Tryd.prog 135 = none := ⟨ld135, sz135, sl135, st135, zc135, by135, pl135⟩
theorem ld136 : ldK Tryd.prog 136 = some (some 4) := by kernel_rfl
theorem sz136 : szT Tryd.prog 136 = some 4 := by kernel_rfl
theorem sl136 : slT Tryd.prog 136 = none := by kernel_rfl
theorem st136 : stT Tryd.prog 136 = false := by kernel_rfl
theorem zc136 : zcT Tryd.prog 136 = some [.pointer none, .pointer none, .pointer none, .string ByteArray.empty] := by kernel_rfl
theorem by136 : byT Tryd.prog 136 = some 40 := by kernel_rfl
theorem pl136 : plT Tryd.prog 136 = some #[(0, 1), (1, 1), (2, 1), (3, 1)] := by kernel_rfl
theorem fl136_0 : fldT Tryd.prog 136 0 = some (0, 17) := by kernel_rfl
theorem fl136_1 : fldT Tryd.prog 136 1 = some (1, 17) := by kernel_rfl
theorem fl136_2 : fldT Tryd.prog 136 2 = some (2, 17) := by kernel_rfl
theorem fl136_3 : fldT Tryd.prog 136 3 = some (3, 9) := by kernel_rfl
theorem t136 : ldK Tryd.prog 136 = some (some 4) ∧ szT Tryd.prog 136 = some 4 ∧ slT Tryd.prog 136 = none ∧ stT Tryd.prog 136 = false ∧ zcT Tryd.prog 136 = some [.pointer none, .pointer none, .pointer none, .string ByteArray.empty] ∧ byT Tryd.prog 136 = some 40 ∧ plT Tryd.prog 136 = some #[(0, 1), (1, 1), (2, 1), (3, 1)] ∧ fldT Tryd.prog 136 0 = some (0, 17) ∧ fldT Tryd.prog 136 1 = some (1, 17) ∧ fldT Tryd.prog 136 2 = some (2, 17) ∧ fldT Tryd.prog 136 3 = some (3, 9) := ⟨ld136, sz136, sl136, st136, zc136, by136, pl136, fl136_0, fl136_1, fl136_2, fl136_3⟩
theorem ld137 : ldK Tryd.prog 137 = some (some 4) := by kernel_rfl
theorem sz137 : szT Tryd.prog 137 = some 4 := by kernel_rfl
theorem sl137 : slT Tryd.prog 137 = none := by kernel_rfl
theorem st137 : stT Tryd.prog 137 = false := by kernel_rfl
theorem zc137 : zcT Tryd.prog 137 = some [.pointer none, .pointer none, .pointer none, .string ByteArray.empty] := by kernel_rfl
theorem by137 : byT Tryd.prog 137 = some 40 := by kernel_rfl
theorem pl137 : plT Tryd.prog 137 = some #[(0, 1), (1, 1), (2, 1), (3, 1)] := by kernel_rfl
theorem fl137_0 : fldT Tryd.prog 137 0 = some (0, 17) := by kernel_rfl
theorem fl137_1 : fldT Tryd.prog 137 1 = some (1, 17) := by kernel_rfl
theorem fl137_2 : fldT Tryd.prog 137 2 = some (2, 17) := by kernel_rfl
theorem fl137_3 : fldT Tryd.prog 137 3 = some (3, 9) := by kernel_rfl
theorem t137 : ldK Tryd.prog 137 = some (some 4) ∧ szT Tryd.prog 137 = some 4 ∧ slT Tryd.prog 137 = none ∧ stT Tryd.prog 137 = false ∧ zcT Tryd.prog 137 = some [.pointer none, .pointer none, .pointer none, .string ByteArray.empty] ∧ byT Tryd.prog 137 = some 40 ∧ plT Tryd.prog 137 = some #[(0, 1), (1, 1), (2, 1), (3, 1)] ∧ fldT Tryd.prog 137 0 = some (0, 17) ∧ fldT Tryd.prog 137 1 = some (1, 17) ∧ fldT Tryd.prog 137 2 = some (2, 17) ∧ fldT Tryd.prog 137 3 = some (3, 9) := ⟨ld137, sz137, sl137, st137, zc137, by137, pl137, fl137_0, fl137_1, fl137_2, fl137_3⟩
theorem ld138 : ldK Tryd.prog 138 = some (some 0) := by kernel_rfl
theorem sz138 : szT Tryd.prog 138 = some 0 := by kernel_rfl
theorem sl138 : slT Tryd.prog 138 = none := by kernel_rfl
theorem st138 : stT Tryd.prog 138 = false := by kernel_rfl
theorem zc138 : zcT Tryd.prog 138 = some [] := by kernel_rfl
theorem by138 : byT Tryd.prog 138 = some 0 := by kernel_rfl
theorem pl138 : plT Tryd.prog 138 = none := by kernel_rfl
theorem t138 : ldK Tryd.prog 138 = some (some 0) ∧ szT Tryd.prog 138 = some 0 ∧ slT Tryd.prog 138 = none ∧ stT Tryd.prog 138 = false ∧ zcT Tryd.prog 138 = some [] ∧ byT Tryd.prog 138 = some 0 ∧ plT Tryd.prog 138 = none := ⟨ld138, sz138, sl138, st138, zc138, by138, pl138⟩
theorem ld139 : ldK Tryd.prog 139 = some (some 0) := by kernel_rfl
theorem sz139 : szT Tryd.prog 139 = some 0 := by kernel_rfl
theorem sl139 : slT Tryd.prog 139 = none := by kernel_rfl
theorem st139 : stT Tryd.prog 139 = false := by kernel_rfl
theorem zc139 : zcT Tryd.prog 139 = some [] := by kernel_rfl
theorem by139 : byT Tryd.prog 139 = some 0 := by kernel_rfl
theorem pl139 : plT Tryd.prog 139 = some #[(0, 0)] := by kernel_rfl
theorem fl139_0 : fldT Tryd.prog 139 0 = some (0, 138) := by kernel_rfl
theorem t139 : ldK Tryd.prog 139 = some (some 0) ∧ szT Tryd.prog 139 = some 0 ∧ slT Tryd.prog 139 = none ∧ stT Tryd.prog 139 = false ∧ zcT Tryd.prog 139 = some [] ∧ byT Tryd.prog 139 = some 0 ∧ plT Tryd.prog 139 = some #[(0, 0)] ∧ fldT Tryd.prog 139 0 = some (0, 138) := ⟨ld139, sz139, sl139, st139, zc139, by139, pl139, fl139_0⟩
theorem ld140 : ldK Tryd.prog 140 = some (some 0) := by kernel_rfl
theorem sz140 : szT Tryd.prog 140 = some 0 := by kernel_rfl
theorem sl140 : slT Tryd.prog 140 = none := by kernel_rfl
theorem st140 : stT Tryd.prog 140 = false := by kernel_rfl
theorem zc140 : zcT Tryd.prog 140 = some [] := by kernel_rfl
theorem by140 : byT Tryd.prog 140 = some 0 := by kernel_rfl
theorem pl140 : plT Tryd.prog 140 = some #[(0, 0)] := by kernel_rfl
theorem fl140_0 : fldT Tryd.prog 140 0 = some (0, 138) := by kernel_rfl
theorem t140 : ldK Tryd.prog 140 = some (some 0) ∧ szT Tryd.prog 140 = some 0 ∧ slT Tryd.prog 140 = none ∧ stT Tryd.prog 140 = false ∧ zcT Tryd.prog 140 = some [] ∧ byT Tryd.prog 140 = some 0 ∧ plT Tryd.prog 140 = some #[(0, 0)] ∧ fldT Tryd.prog 140 0 = some (0, 138) := ⟨ld140, sz140, sl140, st140, zc140, by140, pl140, fl140_0⟩
theorem ld141 : ldK Tryd.prog 141 = some (none) := by kernel_rfl
theorem sz141 : szT Tryd.prog 141 = some 1 := by kernel_rfl
theorem sl141 : slT Tryd.prog 141 = none := by kernel_rfl
theorem st141 : stT Tryd.prog 141 = false := by kernel_rfl
theorem zc141 : zcT Tryd.prog 141 = some [.int .u8 0] := by kernel_rfl
theorem by141 : byT Tryd.prog 141 = some 1 := by kernel_rfl
theorem un141 : Program.underlying Tryd.prog 141 = some (TypeDesc.int IntKind.u8) := Tryd.underlying141
theorem pl141 : plT Tryd.prog 141 = none := by kernel_rfl
theorem t141 : ldK Tryd.prog 141 = some (none) ∧ szT Tryd.prog 141 = some 1 ∧ slT Tryd.prog 141 = none ∧ stT Tryd.prog 141 = false ∧ zcT Tryd.prog 141 = some [.int .u8 0] ∧ byT Tryd.prog 141 = some 1 ∧ plT Tryd.prog 141 = none := ⟨ld141, sz141, sl141, st141, zc141, by141, pl141⟩
theorem ld142 : ldK Tryd.prog 142 = some (none) := by kernel_rfl
theorem sz142 : szT Tryd.prog 142 = some 1 := by kernel_rfl
theorem sl142 : slT Tryd.prog 142 = none := by kernel_rfl
theorem st142 : stT Tryd.prog 142 = false := by kernel_rfl
theorem zc142 : zcT Tryd.prog 142 = some [.int .u8 0] := by kernel_rfl
theorem by142 : byT Tryd.prog 142 = some 1 := by kernel_rfl
theorem un142 : Program.underlying Tryd.prog 142 = some (TypeDesc.int IntKind.u8) := Tryd.underlying142
theorem pl142 : plT Tryd.prog 142 = none := by kernel_rfl
theorem t142 : ldK Tryd.prog 142 = some (none) ∧ szT Tryd.prog 142 = some 1 ∧ slT Tryd.prog 142 = none ∧ stT Tryd.prog 142 = false ∧ zcT Tryd.prog 142 = some [.int .u8 0] ∧ byT Tryd.prog 142 = some 1 ∧ plT Tryd.prog 142 = none := ⟨ld142, sz142, sl142, st142, zc142, by142, pl142⟩
theorem ld143 : ldK Tryd.prog 143 = some (none) := by kernel_rfl
theorem sz143 : szT Tryd.prog 143 = some 1 := by kernel_rfl
theorem sl143 : slT Tryd.prog 143 = none := by kernel_rfl
theorem st143 : stT Tryd.prog 143 = false := by kernel_rfl
theorem zc143 : zcT Tryd.prog 143 = some [.nilFunc] := by kernel_rfl
theorem by143 : byT Tryd.prog 143 = some 8 := by kernel_rfl
theorem pl143 : plT Tryd.prog 143 = none := by kernel_rfl
theorem t143 : ldK Tryd.prog 143 = some (none) ∧ szT Tryd.prog 143 = some 1 ∧ slT Tryd.prog 143 = none ∧ stT Tryd.prog 143 = false ∧ zcT Tryd.prog 143 = some [.nilFunc] ∧ byT Tryd.prog 143 = some 8 ∧ plT Tryd.prog 143 = none := ⟨ld143, sz143, sl143, st143, zc143, by143, pl143⟩
theorem ld144 : ldK Tryd.prog 144 = some (none) := by kernel_rfl
theorem sz144 : szT Tryd.prog 144 = some 1 := by kernel_rfl
theorem sl144 : slT Tryd.prog 144 = none := by kernel_rfl
theorem st144 : stT Tryd.prog 144 = false := by kernel_rfl
theorem zc144 : zcT Tryd.prog 144 = some [.int .i32 0] := by kernel_rfl
theorem by144 : byT Tryd.prog 144 = some 4 := by kernel_rfl
theorem un144 : Program.underlying Tryd.prog 144 = some (TypeDesc.int IntKind.i32) := Tryd.underlying144
theorem pl144 : plT Tryd.prog 144 = none := by kernel_rfl
theorem t144 : ldK Tryd.prog 144 = some (none) ∧ szT Tryd.prog 144 = some 1 ∧ slT Tryd.prog 144 = none ∧ stT Tryd.prog 144 = false ∧ zcT Tryd.prog 144 = some [.int .i32 0] ∧ byT Tryd.prog 144 = some 4 ∧ plT Tryd.prog 144 = none := ⟨ld144, sz144, sl144, st144, zc144, by144, pl144⟩
theorem ld145 : ldK Tryd.prog 145 = some (none) := by kernel_rfl
theorem sz145 : szT Tryd.prog 145 = some 1 := by kernel_rfl
theorem sl145 : slT Tryd.prog 145 = none := by kernel_rfl
theorem st145 : stT Tryd.prog 145 = false := by kernel_rfl
theorem zc145 : zcT Tryd.prog 145 = some [.int .i32 0] := by kernel_rfl
theorem by145 : byT Tryd.prog 145 = some 4 := by kernel_rfl
theorem un145 : Program.underlying Tryd.prog 145 = some (TypeDesc.int IntKind.i32) := Tryd.underlying145
theorem pl145 : plT Tryd.prog 145 = none := by kernel_rfl
theorem t145 : ldK Tryd.prog 145 = some (none) ∧ szT Tryd.prog 145 = some 1 ∧ slT Tryd.prog 145 = none ∧ stT Tryd.prog 145 = false ∧ zcT Tryd.prog 145 = some [.int .i32 0] ∧ byT Tryd.prog 145 = some 4 ∧ plT Tryd.prog 145 = none := ⟨ld145, sz145, sl145, st145, zc145, by145, pl145⟩
theorem ld146 : ldK Tryd.prog 146 = some (some 11) := by kernel_rfl
theorem sz146 : szT Tryd.prog 146 = some 11 := by kernel_rfl
theorem sl146 : slT Tryd.prog 146 = none := by kernel_rfl
theorem st146 : stT Tryd.prog 146 = false := by kernel_rfl
theorem zc146 : zcT Tryd.prog 146 = some [.int .u64 0, .int .u64 0, .int .u32 0, .int .u8 0, .int .u8 0, .int .u8 0, .int .u8 0, .nilFunc, .pointer none, .int .i32 0, .int .i32 0] := by kernel_rfl
theorem by146 : byT Tryd.prog 146 = some 48 := by kernel_rfl
theorem pl146 : plT Tryd.prog 146 = some #[(0, 1), (1, 1), (2, 1), (3, 1), (4, 1), (5, 1), (6, 1), (7, 1), (8, 1), (9, 1), (10, 1)] := by kernel_rfl
theorem fl146_0 : fldT Tryd.prog 146 0 = some (0, 12) := by kernel_rfl
theorem fl146_1 : fldT Tryd.prog 146 1 = some (1, 12) := by kernel_rfl
theorem fl146_2 : fldT Tryd.prog 146 2 = some (2, 111) := by kernel_rfl
theorem fl146_3 : fldT Tryd.prog 146 3 = some (3, 141) := by kernel_rfl
theorem fl146_4 : fldT Tryd.prog 146 4 = some (4, 5) := by kernel_rfl
theorem fl146_5 : fldT Tryd.prog 146 5 = some (5, 5) := by kernel_rfl
theorem fl146_6 : fldT Tryd.prog 146 6 = some (6, 142) := by kernel_rfl
theorem fl146_7 : fldT Tryd.prog 146 7 = some (7, 143) := by kernel_rfl
theorem fl146_8 : fldT Tryd.prog 146 8 = some (8, 124) := by kernel_rfl
theorem fl146_9 : fldT Tryd.prog 146 9 = some (9, 144) := by kernel_rfl
theorem fl146_10 : fldT Tryd.prog 146 10 = some (10, 145) := by kernel_rfl
theorem t146 : ldK Tryd.prog 146 = some (some 11) ∧ szT Tryd.prog 146 = some 11 ∧ slT Tryd.prog 146 = none ∧ stT Tryd.prog 146 = false ∧ zcT Tryd.prog 146 = some [.int .u64 0, .int .u64 0, .int .u32 0, .int .u8 0, .int .u8 0, .int .u8 0, .int .u8 0, .nilFunc, .pointer none, .int .i32 0, .int .i32 0] ∧ byT Tryd.prog 146 = some 48 ∧ plT Tryd.prog 146 = some #[(0, 1), (1, 1), (2, 1), (3, 1), (4, 1), (5, 1), (6, 1), (7, 1), (8, 1), (9, 1), (10, 1)] ∧ fldT Tryd.prog 146 0 = some (0, 12) ∧ fldT Tryd.prog 146 1 = some (1, 12) ∧ fldT Tryd.prog 146 2 = some (2, 111) ∧ fldT Tryd.prog 146 3 = some (3, 141) ∧ fldT Tryd.prog 146 4 = some (4, 5) ∧ fldT Tryd.prog 146 5 = some (5, 5) ∧ fldT Tryd.prog 146 6 = some (6, 142) ∧ fldT Tryd.prog 146 7 = some (7, 143) ∧ fldT Tryd.prog 146 8 = some (8, 124) ∧ fldT Tryd.prog 146 9 = some (9, 144) ∧ fldT Tryd.prog 146 10 = some (10, 145) := ⟨ld146, sz146, sl146, st146, zc146, by146, pl146, fl146_0, fl146_1, fl146_2, fl146_3, fl146_4, fl146_5, fl146_6, fl146_7, fl146_8, fl146_9, fl146_10⟩
theorem ld147 : ldK Tryd.prog 147 = some (some 11) := by kernel_rfl
theorem sz147 : szT Tryd.prog 147 = some 11 := by kernel_rfl
theorem sl147 : slT Tryd.prog 147 = none := by kernel_rfl
theorem st147 : stT Tryd.prog 147 = false := by kernel_rfl
theorem zc147 : zcT Tryd.prog 147 = some [.int .u64 0, .int .u64 0, .int .u32 0, .int .u8 0, .int .u8 0, .int .u8 0, .int .u8 0, .nilFunc, .pointer none, .int .i32 0, .int .i32 0] := by kernel_rfl
theorem by147 : byT Tryd.prog 147 = some 48 := by kernel_rfl
theorem pl147 : plT Tryd.prog 147 = some #[(0, 1), (1, 1), (2, 1), (3, 1), (4, 1), (5, 1), (6, 1), (7, 1), (8, 1), (9, 1), (10, 1)] := by kernel_rfl
theorem fl147_0 : fldT Tryd.prog 147 0 = some (0, 12) := by kernel_rfl
theorem fl147_1 : fldT Tryd.prog 147 1 = some (1, 12) := by kernel_rfl
theorem fl147_2 : fldT Tryd.prog 147 2 = some (2, 111) := by kernel_rfl
theorem fl147_3 : fldT Tryd.prog 147 3 = some (3, 141) := by kernel_rfl
theorem fl147_4 : fldT Tryd.prog 147 4 = some (4, 5) := by kernel_rfl
theorem fl147_5 : fldT Tryd.prog 147 5 = some (5, 5) := by kernel_rfl
theorem fl147_6 : fldT Tryd.prog 147 6 = some (6, 142) := by kernel_rfl
theorem fl147_7 : fldT Tryd.prog 147 7 = some (7, 143) := by kernel_rfl
theorem fl147_8 : fldT Tryd.prog 147 8 = some (8, 124) := by kernel_rfl
theorem fl147_9 : fldT Tryd.prog 147 9 = some (9, 144) := by kernel_rfl
theorem fl147_10 : fldT Tryd.prog 147 10 = some (10, 145) := by kernel_rfl
theorem t147 : ldK Tryd.prog 147 = some (some 11) ∧ szT Tryd.prog 147 = some 11 ∧ slT Tryd.prog 147 = none ∧ stT Tryd.prog 147 = false ∧ zcT Tryd.prog 147 = some [.int .u64 0, .int .u64 0, .int .u32 0, .int .u8 0, .int .u8 0, .int .u8 0, .int .u8 0, .nilFunc, .pointer none, .int .i32 0, .int .i32 0] ∧ byT Tryd.prog 147 = some 48 ∧ plT Tryd.prog 147 = some #[(0, 1), (1, 1), (2, 1), (3, 1), (4, 1), (5, 1), (6, 1), (7, 1), (8, 1), (9, 1), (10, 1)] ∧ fldT Tryd.prog 147 0 = some (0, 12) ∧ fldT Tryd.prog 147 1 = some (1, 12) ∧ fldT Tryd.prog 147 2 = some (2, 111) ∧ fldT Tryd.prog 147 3 = some (3, 141) ∧ fldT Tryd.prog 147 4 = some (4, 5) ∧ fldT Tryd.prog 147 5 = some (5, 5) ∧ fldT Tryd.prog 147 6 = some (6, 142) ∧ fldT Tryd.prog 147 7 = some (7, 143) ∧ fldT Tryd.prog 147 8 = some (8, 124) ∧ fldT Tryd.prog 147 9 = some (9, 144) ∧ fldT Tryd.prog 147 10 = some (10, 145) := ⟨ld147, sz147, sl147, st147, zc147, by147, pl147, fl147_0, fl147_1, fl147_2, fl147_3, fl147_4, fl147_5, fl147_6, fl147_7, fl147_8, fl147_9, fl147_10⟩
theorem ok3 : callOk Tryd.prog 3 = true := by kernel_rfl
theorem c3 : XRC Tryd.prog 3 := xrc ok3
theorem ok4 : callOk Tryd.prog 4 = true := by kernel_rfl
theorem c4 : XRC Tryd.prog 4 := xrc ok4
theorem ok5 : callOk Tryd.prog 5 = true := by kernel_rfl
theorem ok6 : callOk Tryd.prog 6 = true := by kernel_rfl
theorem ok7 : callOk Tryd.prog 7 = true := by kernel_rfl
theorem ok8 : callOk Tryd.prog 8 = true := by kernel_rfl
theorem ok9 : callOk Tryd.prog 9 = true := by kernel_rfl
theorem ok10 : callOk Tryd.prog 10 = true := by kernel_rfl
theorem ok11 : callOk Tryd.prog 11 = true := by kernel_rfl
theorem ok12 : callOk Tryd.prog 12 = true := by kernel_rfl
theorem ok13 : callOk Tryd.prog 13 = true := by kernel_rfl
theorem ok14 : callOk Tryd.prog 14 = true := by kernel_rfl
theorem ok15 : callOk Tryd.prog 15 = true := by kernel_rfl
theorem ok16 : callOk Tryd.prog 16 = true := by kernel_rfl
theorem ok17 : callOk Tryd.prog 17 = true := by kernel_rfl
theorem ok18 : callOk Tryd.prog 18 = true := by kernel_rfl
theorem ok19 : callOk Tryd.prog 19 = true := by kernel_rfl
theorem ok20 : callOk Tryd.prog 20 = true := by kernel_rfl
theorem ok21 : callOk Tryd.prog 21 = true := by kernel_rfl
theorem ok22 : callOk Tryd.prog 22 = true := by kernel_rfl
theorem ok23 : callOk Tryd.prog 23 = true := by kernel_rfl
theorem ok24 : callOk Tryd.prog 24 = true := by kernel_rfl
theorem ok25 : callOk Tryd.prog 25 = true := by kernel_rfl
theorem ok26 : callOk Tryd.prog 26 = true := by kernel_rfl
theorem ok27 : callOk Tryd.prog 27 = true := by kernel_rfl
theorem ok28 : callOk Tryd.prog 28 = true := by kernel_rfl
theorem ok29 : callOk Tryd.prog 29 = true := by kernel_rfl
theorem ok30 : callOk Tryd.prog 30 = true := by kernel_rfl
theorem ok31 : callOk Tryd.prog 31 = true := by kernel_rfl
theorem ok32 : callOk Tryd.prog 32 = true := by kernel_rfl
theorem ok33 : callOk Tryd.prog 33 = true := by kernel_rfl
theorem ok34 : callOk Tryd.prog 34 = true := by kernel_rfl
theorem ok35 : callOk Tryd.prog 35 = true := by kernel_rfl
theorem ok36 : callOk Tryd.prog 36 = true := by kernel_rfl
theorem ok37 : callOk Tryd.prog 37 = true := by kernel_rfl
theorem ok38 : callOk Tryd.prog 38 = true := by kernel_rfl
theorem ok39 : callOk Tryd.prog 39 = true := by kernel_rfl
theorem ok40 : callOk Tryd.prog 40 = true := by kernel_rfl
theorem ok41 : callOk Tryd.prog 41 = true := by kernel_rfl
theorem ok42 : callOk Tryd.prog 42 = true := by kernel_rfl
theorem ok43 : callOk Tryd.prog 43 = true := by kernel_rfl
theorem ok44 : callOk Tryd.prog 44 = true := by kernel_rfl
theorem ok45 : callOk Tryd.prog 45 = true := by kernel_rfl
theorem ok46 : callOk Tryd.prog 46 = true := by kernel_rfl
theorem ok47 : callOk Tryd.prog 47 = true := by kernel_rfl
theorem ok48 : callOk Tryd.prog 48 = true := by kernel_rfl
theorem ok49 : callOk Tryd.prog 49 = true := by kernel_rfl
theorem ok50 : callOk Tryd.prog 50 = true := by kernel_rfl
theorem ok51 : callOk Tryd.prog 51 = true := by kernel_rfl
theorem ok52 : callOk Tryd.prog 52 = true := by kernel_rfl
theorem ok53 : callOk Tryd.prog 53 = true := by kernel_rfl
theorem ok54 : callOk Tryd.prog 54 = true := by kernel_rfl
theorem ok55 : callOk Tryd.prog 55 = true := by kernel_rfl
theorem ok56 : callOk Tryd.prog 56 = true := by kernel_rfl
theorem ok58 : callOk Tryd.prog 58 = true := by kernel_rfl
theorem ok59 : callOk Tryd.prog 59 = true := by kernel_rfl
theorem ok60 : callOk Tryd.prog 60 = true := by kernel_rfl
theorem ok61 : callOk Tryd.prog 61 = true := by kernel_rfl
theorem ok62 : callOk Tryd.prog 62 = true := by kernel_rfl
theorem ok63 : callOk Tryd.prog 63 = true := by kernel_rfl
theorem ok64 : callOk Tryd.prog 64 = true := by kernel_rfl
theorem ok65 : callOk Tryd.prog 65 = true := by kernel_rfl
theorem ok66 : callOk Tryd.prog 66 = true := by kernel_rfl
theorem ok67 : callOk Tryd.prog 67 = true := by kernel_rfl
theorem ok68 : callOk Tryd.prog 68 = true := by kernel_rfl
theorem ok69 : callOk Tryd.prog 69 = true := by kernel_rfl
theorem ok70 : callOk Tryd.prog 70 = true := by kernel_rfl
theorem ok71 : callOk Tryd.prog 71 = true := by kernel_rfl
theorem ok72 : callOk Tryd.prog 72 = true := by kernel_rfl
theorem ok73 : callOk Tryd.prog 73 = true := by kernel_rfl
theorem ok74 : callOk Tryd.prog 74 = true := by kernel_rfl
theorem ok75 : callOk Tryd.prog 75 = true := by kernel_rfl
theorem ok76 : callOk Tryd.prog 76 = true := by kernel_rfl
theorem ok77 : callOk Tryd.prog 77 = true := by kernel_rfl
theorem ok78 : callOk Tryd.prog 78 = true := by kernel_rfl
theorem ok79 : callOk Tryd.prog 79 = true := by kernel_rfl
theorem ok80 : callOk Tryd.prog 80 = true := by kernel_rfl
theorem ok81 : callOk Tryd.prog 81 = true := by kernel_rfl
theorem ok82 : callOk Tryd.prog 82 = true := by kernel_rfl
theorem ok83 : callOk Tryd.prog 83 = true := by kernel_rfl
theorem ok84 : callOk Tryd.prog 84 = true := by kernel_rfl
theorem ok85 : callOk Tryd.prog 85 = true := by kernel_rfl
theorem ok86 : callOk Tryd.prog 86 = true := by kernel_rfl
theorem ok87 : callOk Tryd.prog 87 = true := by kernel_rfl
theorem ok88 : callOk Tryd.prog 88 = true := by kernel_rfl
theorem ok89 : callOk Tryd.prog 89 = true := by kernel_rfl
theorem ok90 : callOk Tryd.prog 90 = true := by kernel_rfl
theorem ok91 : callOk Tryd.prog 91 = true := by kernel_rfl
theorem ok92 : callOk Tryd.prog 92 = true := by kernel_rfl
end Go.Proofs.YtdldekkojjfllaaDoor.Ty
