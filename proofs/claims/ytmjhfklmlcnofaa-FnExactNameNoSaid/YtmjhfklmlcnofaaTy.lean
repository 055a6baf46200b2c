/- The facts of this claim's types, and of what may be called. Conditions: none. -/
import Derived.Test.YtmjhfklmlcnofaaProg
import Derived.Test.YtmjhfklmlcnofaaK3
import Derived.KernelRfl
namespace Go.Proofs.Ytmjhfklmlcnofaa.Ty
open Go Go.Proofs.Ytmjhfklmlcnofaa.Am
theorem mx : Try.prog.follows .mixedOrders = true := by kernel_rfl
theorem ld1 : ldK Try.prog 1 = some (none) := by kernel_rfl
theorem sz1 : szT Try.prog 1 = some 1 := by kernel_rfl
theorem sl1 : slT Try.prog 1 = none := by kernel_rfl
theorem st1 : stT Try.prog 1 = false := by kernel_rfl
theorem zc1 : zcT Try.prog 1 = some [.nilFunc] := by kernel_rfl
theorem by1 : byT Try.prog 1 = some 8 := by kernel_rfl
theorem pl1 : plT Try.prog 1 = none := by kernel_rfl
theorem t1 : ldK Try.prog 1 = some (none) ∧ szT Try.prog 1 = some 1 ∧ slT Try.prog 1 = none ∧ stT Try.prog 1 = false ∧ zcT Try.prog 1 = some [.nilFunc] ∧ byT Try.prog 1 = some 8 ∧ plT Try.prog 1 = none := ⟨ld1, sz1, sl1, st1, zc1, by1, pl1⟩
theorem ld2 : ldK Try.prog 2 = some (none) := by kernel_rfl
theorem sz2 : szT Try.prog 2 = some 1 := by kernel_rfl
theorem sl2 : slT Try.prog 2 = none := by kernel_rfl
theorem st2 : stT Try.prog 2 = false := by kernel_rfl
theorem zc2 : zcT Try.prog 2 = some [.int .i64 0] := by kernel_rfl
theorem by2 : byT Try.prog 2 = some 8 := by kernel_rfl
theorem pl2 : plT Try.prog 2 = none := by kernel_rfl
theorem t2 : ldK Try.prog 2 = some (none) ∧ szT Try.prog 2 = some 1 ∧ slT Try.prog 2 = none ∧ stT Try.prog 2 = false ∧ zcT Try.prog 2 = some [.int .i64 0] ∧ byT Try.prog 2 = some 8 ∧ plT Try.prog 2 = none := ⟨ld2, sz2, sl2, st2, zc2, by2, pl2⟩
theorem ld3 : ldK Try.prog 3 = some (none) := by kernel_rfl
theorem sz3 : szT Try.prog 3 = some 1 := by kernel_rfl
theorem sl3 : slT Try.prog 3 = none := by kernel_rfl
theorem st3 : stT Try.prog 3 = false := by kernel_rfl
theorem zc3 : zcT Try.prog 3 = some [.int .i64 0] := by kernel_rfl
theorem by3 : byT Try.prog 3 = some 8 := by kernel_rfl
theorem un3 : Program.underlying Try.prog 3 = some (TypeDesc.int IntKind.i64) := Try.underlying3
theorem pl3 : plT Try.prog 3 = none := by kernel_rfl
theorem t3 : ldK Try.prog 3 = some (none) ∧ szT Try.prog 3 = some 1 ∧ slT Try.prog 3 = none ∧ stT Try.prog 3 = false ∧ zcT Try.prog 3 = some [.int .i64 0] ∧ byT Try.prog 3 = some 8 ∧ plT Try.prog 3 = none := ⟨ld3, sz3, sl3, st3, zc3, by3, pl3⟩
theorem ld4 : ldK Try.prog 4 = some (none) := by kernel_rfl
theorem sz4 : szT Try.prog 4 = some 1 := by kernel_rfl
theorem sl4 : slT Try.prog 4 = none := by kernel_rfl
theorem st4 : stT Try.prog 4 = false := by kernel_rfl
theorem zc4 : zcT Try.prog 4 = some [.bool false] := by kernel_rfl
theorem by4 : byT Try.prog 4 = some 1 := by kernel_rfl
theorem un4 : Program.underlying Try.prog 4 = some TypeDesc.bool := Try.underlying4
theorem pl4 : plT Try.prog 4 = none := by kernel_rfl
theorem t4 : ldK Try.prog 4 = some (none) ∧ szT Try.prog 4 = some 1 ∧ slT Try.prog 4 = none ∧ stT Try.prog 4 = false ∧ zcT Try.prog 4 = some [.bool false] ∧ byT Try.prog 4 = some 1 ∧ plT Try.prog 4 = none := ⟨ld4, sz4, sl4, st4, zc4, by4, pl4⟩
theorem ld5 : ldK Try.prog 5 = some (none) := by kernel_rfl
theorem sz5 : szT Try.prog 5 = some 1 := by kernel_rfl
theorem sl5 : slT Try.prog 5 = none := by kernel_rfl
theorem st5 : stT Try.prog 5 = false := by kernel_rfl
theorem zc5 : zcT Try.prog 5 = some [.int .u8 0] := by kernel_rfl
theorem by5 : byT Try.prog 5 = some 1 := by kernel_rfl
theorem pl5 : plT Try.prog 5 = none := by kernel_rfl
theorem t5 : ldK Try.prog 5 = some (none) ∧ szT Try.prog 5 = some 1 ∧ slT Try.prog 5 = none ∧ stT Try.prog 5 = false ∧ zcT Try.prog 5 = some [.int .u8 0] ∧ byT Try.prog 5 = some 1 ∧ plT Try.prog 5 = none := ⟨ld5, sz5, sl5, st5, zc5, by5, pl5⟩
theorem ld6 : ldK Try.prog 6 = some (none) := by kernel_rfl
theorem sz6 : szT Try.prog 6 = some 1 := by kernel_rfl
theorem sl6 : slT Try.prog 6 = none := by kernel_rfl
theorem st6 : stT Try.prog 6 = false := by kernel_rfl
theorem zc6 : zcT Try.prog 6 = some [.int .u8 0] := by kernel_rfl
theorem by6 : byT Try.prog 6 = some 1 := by kernel_rfl
theorem pl6 : plT Try.prog 6 = none := by kernel_rfl
theorem t6 : ldK Try.prog 6 = some (none) ∧ szT Try.prog 6 = some 1 ∧ slT Try.prog 6 = none ∧ stT Try.prog 6 = false ∧ zcT Try.prog 6 = some [.int .u8 0] ∧ byT Try.prog 6 = some 1 ∧ plT Try.prog 6 = none := ⟨ld6, sz6, sl6, st6, zc6, by6, pl6⟩
theorem ld7 : ldK Try.prog 7 = some (some 4) := by kernel_rfl
theorem sz7 : szT Try.prog 7 = some 4 := by kernel_rfl
theorem sl7 : slT Try.prog 7 = none := by kernel_rfl
theorem st7 : stT Try.prog 7 = false := by kernel_rfl
theorem zc7 : zcT Try.prog 7 = some [.int .i64 0, .int .i64 0, .bool false, .int .u8 0] := by kernel_rfl
theorem by7 : byT Try.prog 7 = some 24 := by kernel_rfl
theorem pl7 : plT Try.prog 7 = some #[(0, 1), (1, 1), (2, 1), (3, 1)] := by kernel_rfl
theorem fl7_0 : fldT Try.prog 7 0 = some (0, 2) := by kernel_rfl
theorem fl7_1 : fldT Try.prog 7 1 = some (1, 3) := by kernel_rfl
theorem fl7_2 : fldT Try.prog 7 2 = some (2, 4) := by kernel_rfl
theorem fl7_3 : fldT Try.prog 7 3 = some (3, 6) := by kernel_rfl
theorem t7 : ldK Try.prog 7 = some (some 4) ∧ szT Try.prog 7 = some 4 ∧ slT Try.prog 7 = none ∧ stT Try.prog 7 = false ∧ zcT Try.prog 7 = some [.int .i64 0, .int .i64 0, .bool false, .int .u8 0] ∧ byT Try.prog 7 = some 24 ∧ plT Try.prog 7 = some #[(0, 1), (1, 1), (2, 1), (3, 1)] ∧ fldT Try.prog 7 0 = some (0, 2) ∧ fldT Try.prog 7 1 = some (1, 3) ∧ fldT Try.prog 7 2 = some (2, 4) ∧ fldT Try.prog 7 3 = some (3, 6) := ⟨ld7, sz7, sl7, st7, zc7, by7, pl7, fl7_0, fl7_1, fl7_2, fl7_3⟩
theorem ld8 : ldK Try.prog 8 = some (some 4) := by kernel_rfl
theorem sz8 : szT Try.prog 8 = some 4 := by kernel_rfl
theorem sl8 : slT Try.prog 8 = none := by kernel_rfl
theorem st8 : stT Try.prog 8 = false := by kernel_rfl
theorem zc8 : zcT Try.prog 8 = some [.int .i64 0, .int .i64 0, .bool false, .int .u8 0] := by kernel_rfl
theorem by8 : byT Try.prog 8 = some 24 := by kernel_rfl
theorem pl8 : plT Try.prog 8 = some #[(0, 1), (1, 1), (2, 1), (3, 1)] := by kernel_rfl
theorem fl8_0 : fldT Try.prog 8 0 = some (0, 2) := by kernel_rfl
theorem fl8_1 : fldT Try.prog 8 1 = some (1, 3) := by kernel_rfl
theorem fl8_2 : fldT Try.prog 8 2 = some (2, 4) := by kernel_rfl
theorem fl8_3 : fldT Try.prog 8 3 = some (3, 6) := by kernel_rfl
theorem t8 : ldK Try.prog 8 = some (some 4) ∧ szT Try.prog 8 = some 4 ∧ slT Try.prog 8 = none ∧ stT Try.prog 8 = false ∧ zcT Try.prog 8 = some [.int .i64 0, .int .i64 0, .bool false, .int .u8 0] ∧ byT Try.prog 8 = some 24 ∧ plT Try.prog 8 = some #[(0, 1), (1, 1), (2, 1), (3, 1)] ∧ fldT Try.prog 8 0 = some (0, 2) ∧ fldT Try.prog 8 1 = some (1, 3) ∧ fldT Try.prog 8 2 = some (2, 4) ∧ fldT Try.prog 8 3 = some (3, 6) := ⟨ld8, sz8, sl8, st8, zc8, by8, pl8, fl8_0, fl8_1, fl8_2, fl8_3⟩
theorem ld9 : ldK Try.prog 9 = some (none) := by kernel_rfl
theorem sz9 : szT Try.prog 9 = some 1 := by kernel_rfl
theorem sl9 : slT Try.prog 9 = none := by kernel_rfl
theorem st9 : stT Try.prog 9 = true := by kernel_rfl
theorem zc9 : zcT Try.prog 9 = some [.string ByteArray.empty] := by kernel_rfl
theorem by9 : byT Try.prog 9 = some 16 := by kernel_rfl
theorem pl9 : plT Try.prog 9 = none := by kernel_rfl
theorem t9 : ldK Try.prog 9 = some (none) ∧ szT Try.prog 9 = some 1 ∧ slT Try.prog 9 = none ∧ stT Try.prog 9 = true ∧ zcT Try.prog 9 = some [.string ByteArray.empty] ∧ byT Try.prog 9 = some 16 ∧ plT Try.prog 9 = none := ⟨ld9, sz9, sl9, st9, zc9, by9, pl9⟩
theorem ld21 : ldK Try.prog 21 = some (none) := by kernel_rfl
theorem sz21 : szT Try.prog 21 = some 1 := by kernel_rfl
theorem sl21 : slT Try.prog 21 = none := by kernel_rfl
theorem st21 : stT Try.prog 21 = false := by kernel_rfl
theorem zc21 : zcT Try.prog 21 = some [.int .i32 0] := by kernel_rfl
theorem by21 : byT Try.prog 21 = some 4 := by kernel_rfl
theorem pl21 : plT Try.prog 21 = none := by kernel_rfl
theorem t21 : ldK Try.prog 21 = some (none) ∧ szT Try.prog 21 = some 1 ∧ slT Try.prog 21 = none ∧ stT Try.prog 21 = false ∧ zcT Try.prog 21 = some [.int .i32 0] ∧ byT Try.prog 21 = some 4 ∧ plT Try.prog 21 = none := ⟨ld21, sz21, sl21, st21, zc21, by21, pl21⟩
theorem ld22 : ldK Try.prog 22 = some (none) := by kernel_rfl
theorem sz22 : szT Try.prog 22 = some 1 := by kernel_rfl
theorem sl22 : slT Try.prog 22 = some 88 := by kernel_rfl
theorem st22 : stT Try.prog 22 = false := by kernel_rfl
theorem zc22 : zcT Try.prog 22 = some [.slice none 0 0] := by kernel_rfl
theorem by22 : byT Try.prog 22 = some 24 := by kernel_rfl
theorem pl22 : plT Try.prog 22 = none := by kernel_rfl
theorem t22 : ldK Try.prog 22 = some (none) ∧ szT Try.prog 22 = some 1 ∧ slT Try.prog 22 = some 88 ∧ stT Try.prog 22 = false ∧ zcT Try.prog 22 = some [.slice none 0 0] ∧ byT Try.prog 22 = some 24 ∧ plT Try.prog 22 = none := ⟨ld22, sz22, sl22, st22, zc22, by22, pl22⟩
theorem ld24 : ldK Try.prog 24 = some (some 2) := by kernel_rfl
theorem sz24 : szT Try.prog 24 = some 2 := by kernel_rfl
theorem sl24 : slT Try.prog 24 = none := by kernel_rfl
theorem st24 : stT Try.prog 24 = false := by kernel_rfl
theorem zc24 : zcT Try.prog 24 = some [.int .i64 0, .slice none 0 0] := by kernel_rfl
theorem by24 : byT Try.prog 24 = some 32 := by kernel_rfl
theorem pl24 : plT Try.prog 24 = some #[(0, 1), (1, 1)] := by kernel_rfl
theorem fl24_0 : fldT Try.prog 24 0 = some (0, 3) := by kernel_rfl
theorem fl24_1 : fldT Try.prog 24 1 = some (1, 22) := by kernel_rfl
theorem t24 : ldK Try.prog 24 = some (some 2) ∧ szT Try.prog 24 = some 2 ∧ slT Try.prog 24 = none ∧ stT Try.prog 24 = false ∧ zcT Try.prog 24 = some [.int .i64 0, .slice none 0 0] ∧ byT Try.prog 24 = some 32 ∧ plT Try.prog 24 = some #[(0, 1), (1, 1)] ∧ fldT Try.prog 24 0 = some (0, 3) ∧ fldT Try.prog 24 1 = some (1, 22) := ⟨ld24, sz24, sl24, st24, zc24, by24, pl24, fl24_0, fl24_1⟩
theorem ld25 : ldK Try.prog 25 = some (none) := by kernel_rfl
theorem sz25 : szT Try.prog 25 = some 1 := by kernel_rfl
theorem sl25 : slT Try.prog 25 = some 9 := by kernel_rfl
theorem st25 : stT Try.prog 25 = false := by kernel_rfl
theorem zc25 : zcT Try.prog 25 = some [.slice none 0 0] := by kernel_rfl
theorem by25 : byT Try.prog 25 = some 24 := by kernel_rfl
theorem pl25 : plT Try.prog 25 = none := by kernel_rfl
theorem t25 : ldK Try.prog 25 = some (none) ∧ szT Try.prog 25 = some 1 ∧ slT Try.prog 25 = some 9 ∧ stT Try.prog 25 = false ∧ zcT Try.prog 25 = some [.slice none 0 0] ∧ byT Try.prog 25 = some 24 ∧ plT Try.prog 25 = none := ⟨ld25, sz25, sl25, st25, zc25, by25, pl25⟩
theorem ld27 : ldK Try.prog 27 = some (some 3) := by kernel_rfl
theorem sz27 : szT Try.prog 27 = some 3 := by kernel_rfl
theorem sl27 : slT Try.prog 27 = none := by kernel_rfl
theorem st27 : stT Try.prog 27 = false := by kernel_rfl
theorem zc27 : zcT Try.prog 27 = some [.int .i64 0, .slice none 0 0, .slice none 0 0] := by kernel_rfl
theorem by27 : byT Try.prog 27 = some 56 := by kernel_rfl
theorem pl27 : plT Try.prog 27 = some #[(0, 2), (2, 1)] := by kernel_rfl
theorem fl27_0 : fldT Try.prog 27 0 = some (0, 24) := by kernel_rfl
theorem fl27_1 : fldT Try.prog 27 1 = some (2, 25) := by kernel_rfl
theorem t27 : ldK Try.prog 27 = some (some 3) ∧ szT Try.prog 27 = some 3 ∧ slT Try.prog 27 = none ∧ stT Try.prog 27 = false ∧ zcT Try.prog 27 = some [.int .i64 0, .slice none 0 0, .slice none 0 0] ∧ byT Try.prog 27 = some 56 ∧ plT Try.prog 27 = some #[(0, 2), (2, 1)] ∧ fldT Try.prog 27 0 = some (0, 24) ∧ fldT Try.prog 27 1 = some (2, 25) := ⟨ld27, sz27, sl27, st27, zc27, by27, pl27, fl27_0, fl27_1⟩
theorem ld30 : ldK Try.prog 30 = some (none) := by kernel_rfl
theorem sz30 : szT Try.prog 30 = some 1 := by kernel_rfl
theorem sl30 : slT Try.prog 30 = some 89 := by kernel_rfl
theorem st30 : stT Try.prog 30 = false := by kernel_rfl
theorem zc30 : zcT Try.prog 30 = some [.slice none 0 0] := by kernel_rfl
theorem by30 : byT Try.prog 30 = some 24 := by kernel_rfl
theorem un30 : Program.underlying Try.prog 30 = some (TypeDesc.slice 89) := Try.underlying30
theorem pl30 : plT Try.prog 30 = none := by kernel_rfl
theorem t30 : ldK Try.prog 30 = some (none) ∧ szT Try.prog 30 = some 1 ∧ slT Try.prog 30 = some 89 ∧ stT Try.prog 30 = false ∧ zcT Try.prog 30 = some [.slice none 0 0] ∧ byT Try.prog 30 = some 24 ∧ plT Try.prog 30 = none := ⟨ld30, sz30, sl30, st30, zc30, by30, pl30⟩
theorem ld31 : ldK Try.prog 31 = some (some 2) := by kernel_rfl
theorem sz31 : szT Try.prog 31 = some 2 := by kernel_rfl
theorem sl31 : slT Try.prog 31 = none := by kernel_rfl
theorem st31 : stT Try.prog 31 = false := by kernel_rfl
theorem zc31 : zcT Try.prog 31 = some [.int .i64 0, .slice none 0 0] := by kernel_rfl
theorem by31 : byT Try.prog 31 = some 32 := by kernel_rfl
theorem pl31 : plT Try.prog 31 = some #[(0, 1), (1, 1)] := by kernel_rfl
theorem fl31_0 : fldT Try.prog 31 0 = some (0, 3) := by kernel_rfl
theorem fl31_1 : fldT Try.prog 31 1 = some (1, 30) := by kernel_rfl
theorem t31 : ldK Try.prog 31 = some (some 2) ∧ szT Try.prog 31 = some 2 ∧ slT Try.prog 31 = none ∧ stT Try.prog 31 = false ∧ zcT Try.prog 31 = some [.int .i64 0, .slice none 0 0] ∧ byT Try.prog 31 = some 32 ∧ plT Try.prog 31 = some #[(0, 1), (1, 1)] ∧ fldT Try.prog 31 0 = some (0, 3) ∧ fldT Try.prog 31 1 = some (1, 30) := ⟨ld31, sz31, sl31, st31, zc31, by31, pl31, fl31_0, fl31_1⟩
theorem ld32 : ldK Try.prog 32 = some (some 2) := by kernel_rfl
theorem sz32 : szT Try.prog 32 = some 2 := by kernel_rfl
theorem sl32 : slT Try.prog 32 = none := by kernel_rfl
theorem st32 : stT Try.prog 32 = false := by kernel_rfl
theorem zc32 : zcT Try.prog 32 = some [.int .i64 0, .slice none 0 0] := by kernel_rfl
theorem by32 : byT Try.prog 32 = some 32 := by kernel_rfl
theorem un32 : Program.underlying Try.prog 32 = some (TypeDesc.struct #[{ name := "Conds", type := 3, offset := 0, embedded := false, tag := "", pkgPath := "", byteOffset := 0 }, { name := "Tasks", type := 30, offset := 1, embedded := false, tag := "", pkgPath := "", byteOffset := 8 }]) := Try.underlying32
theorem pl32 : plT Try.prog 32 = some #[(0, 1), (1, 1)] := by kernel_rfl
theorem fl32_0 : fldT Try.prog 32 0 = some (0, 3) := by kernel_rfl
theorem fl32_1 : fldT Try.prog 32 1 = some (1, 30) := by kernel_rfl
theorem t32 : ldK Try.prog 32 = some (some 2) ∧ szT Try.prog 32 = some 2 ∧ slT Try.prog 32 = none ∧ stT Try.prog 32 = false ∧ zcT Try.prog 32 = some [.int .i64 0, .slice none 0 0] ∧ byT Try.prog 32 = some 32 ∧ plT Try.prog 32 = some #[(0, 1), (1, 1)] ∧ fldT Try.prog 32 0 = some (0, 3) ∧ fldT Try.prog 32 1 = some (1, 30) := ⟨ld32, sz32, sl32, st32, zc32, by32, pl32, fl32_0, fl32_1⟩
theorem ld34 : ldK Try.prog 34 = some (some 3) := by kernel_rfl
theorem sz34 : szT Try.prog 34 = some 3 := by kernel_rfl
theorem sl34 : slT Try.prog 34 = none := by kernel_rfl
theorem st34 : stT Try.prog 34 = false := by kernel_rfl
theorem zc34 : zcT Try.prog 34 = some [.int .i64 0, .slice none 0 0, .slice none 0 0] := by kernel_rfl
theorem by34 : byT Try.prog 34 = some 56 := by kernel_rfl
theorem pl34 : plT Try.prog 34 = some #[(0, 2), (2, 1)] := by kernel_rfl
theorem fl34_0 : fldT Try.prog 34 0 = some (0, 32) := by kernel_rfl
theorem fl34_1 : fldT Try.prog 34 1 = some (2, 25) := by kernel_rfl
theorem t34 : ldK Try.prog 34 = some (some 3) ∧ szT Try.prog 34 = some 3 ∧ slT Try.prog 34 = none ∧ stT Try.prog 34 = false ∧ zcT Try.prog 34 = some [.int .i64 0, .slice none 0 0, .slice none 0 0] ∧ byT Try.prog 34 = some 56 ∧ plT Try.prog 34 = some #[(0, 2), (2, 1)] ∧ fldT Try.prog 34 0 = some (0, 32) ∧ fldT Try.prog 34 1 = some (2, 25) := ⟨ld34, sz34, sl34, st34, zc34, by34, pl34, fl34_0, fl34_1⟩
theorem ld61 : ldK Try.prog 61 = some (none) := by kernel_rfl
theorem sz61 : szT Try.prog 61 = some 1 := by kernel_rfl
theorem sl61 : slT Try.prog 61 = none := by kernel_rfl
theorem st61 : stT Try.prog 61 = false := by kernel_rfl
theorem zc61 : zcT Try.prog 61 = some [.nilFunc] := by kernel_rfl
theorem by61 : byT Try.prog 61 = some 8 := by kernel_rfl
theorem pl61 : plT Try.prog 61 = none := by kernel_rfl
theorem t61 : ldK Try.prog 61 = some (none) ∧ szT Try.prog 61 = some 1 ∧ slT Try.prog 61 = none ∧ stT Try.prog 61 = false ∧ zcT Try.prog 61 = some [.nilFunc] ∧ byT Try.prog 61 = some 8 ∧ plT Try.prog 61 = none := ⟨ld61, sz61, sl61, st61, zc61, by61, pl61⟩
theorem ld68 : ldK Try.prog 68 = some (none) := by kernel_rfl
theorem sz68 : szT Try.prog 68 = some 1 := by kernel_rfl
theorem sl68 : slT Try.prog 68 = some 95 := by kernel_rfl
theorem st68 : stT Try.prog 68 = false := by kernel_rfl
theorem zc68 : zcT Try.prog 68 = some [.slice none 0 0] := by kernel_rfl
theorem by68 : byT Try.prog 68 = some 24 := by kernel_rfl
theorem un68 : Program.underlying Try.prog 68 = some (TypeDesc.slice 95) := Try.underlying68
theorem pl68 : plT Try.prog 68 = none := by kernel_rfl
theorem t68 : ldK Try.prog 68 = some (none) ∧ szT Try.prog 68 = some 1 ∧ slT Try.prog 68 = some 95 ∧ stT Try.prog 68 = false ∧ zcT Try.prog 68 = some [.slice none 0 0] ∧ byT Try.prog 68 = some 24 ∧ plT Try.prog 68 = none := ⟨ld68, sz68, sl68, st68, zc68, by68, pl68⟩
theorem ld70 : ldK Try.prog 70 = some (some 2) := by kernel_rfl
theorem sz70 : szT Try.prog 70 = some 2 := by kernel_rfl
theorem sl70 : slT Try.prog 70 = none := by kernel_rfl
theorem st70 : stT Try.prog 70 = false := by kernel_rfl
theorem zc70 : zcT Try.prog 70 = some [.int .i64 0, .slice none 0 0] := by kernel_rfl
theorem by70 : byT Try.prog 70 = some 32 := by kernel_rfl
theorem un70 : Program.underlying Try.prog 70 = some (TypeDesc.struct #[{ name := "Places", type := 3, offset := 0, embedded := false, tag := "", pkgPath := "", byteOffset := 0 }, { name := "Trans", type := 68, offset := 1, embedded := false, tag := "", pkgPath := "", byteOffset := 8 }]) := Try.underlying70
theorem pl70 : plT Try.prog 70 = some #[(0, 1), (1, 1)] := by kernel_rfl
theorem fl70_0 : fldT Try.prog 70 0 = some (0, 3) := by kernel_rfl
theorem fl70_1 : fldT Try.prog 70 1 = some (1, 68) := by kernel_rfl
theorem t70 : ldK Try.prog 70 = some (some 2) ∧ szT Try.prog 70 = some 2 ∧ slT Try.prog 70 = none ∧ stT Try.prog 70 = false ∧ zcT Try.prog 70 = some [.int .i64 0, .slice none 0 0] ∧ byT Try.prog 70 = some 32 ∧ plT Try.prog 70 = some #[(0, 1), (1, 1)] ∧ fldT Try.prog 70 0 = some (0, 3) ∧ fldT Try.prog 70 1 = some (1, 68) := ⟨ld70, sz70, sl70, st70, zc70, by70, pl70, fl70_0, fl70_1⟩
theorem ld72 : ldK Try.prog 72 = some (some 4) := by kernel_rfl
theorem sz72 : szT Try.prog 72 = some 4 := by kernel_rfl
theorem sl72 : slT Try.prog 72 = none := by kernel_rfl
theorem st72 : stT Try.prog 72 = false := by kernel_rfl
theorem zc72 : zcT Try.prog 72 = some [.int .i64 0, .slice none 0 0, .int .i64 0, .int .i64 0] := by kernel_rfl
theorem by72 : byT Try.prog 72 = some 48 := by kernel_rfl
theorem un72 : Program.underlying Try.prog 72 = some (TypeDesc.struct #[{ name := "Net", type := 70, offset := 0, embedded := false, tag := "", pkgPath := "", byteOffset := 0 }, { name := "From", type := 3, offset := 2, embedded := false, tag := "", pkgPath := "", byteOffset := 32 }, { name := "To", type := 3, offset := 3, embedded := false, tag := "", pkgPath := "", byteOffset := 40 }]) := Try.underlying72
theorem pl72 : plT Try.prog 72 = some #[(0, 2), (2, 1), (3, 1)] := by kernel_rfl
theorem fl72_0 : fldT Try.prog 72 0 = some (0, 70) := by kernel_rfl
theorem fl72_1 : fldT Try.prog 72 1 = some (2, 3) := by kernel_rfl
theorem fl72_2 : fldT Try.prog 72 2 = some (3, 3) := by kernel_rfl
theorem t72 : ldK Try.prog 72 = some (some 4) ∧ szT Try.prog 72 = some 4 ∧ slT Try.prog 72 = none ∧ stT Try.prog 72 = false ∧ zcT Try.prog 72 = some [.int .i64 0, .slice none 0 0, .int .i64 0, .int .i64 0] ∧ byT Try.prog 72 = some 48 ∧ plT Try.prog 72 = some #[(0, 2), (2, 1), (3, 1)] ∧ fldT Try.prog 72 0 = some (0, 70) ∧ fldT Try.prog 72 1 = some (2, 3) ∧ fldT Try.prog 72 2 = some (3, 3) := ⟨ld72, sz72, sl72, st72, zc72, by72, pl72, fl72_0, fl72_1, fl72_2⟩
theorem ld73 : ldK Try.prog 73 = some (none) := by kernel_rfl
theorem sz73 : szT Try.prog 73 = some 1 := by kernel_rfl
theorem sl73 : slT Try.prog 73 = some 97 := by kernel_rfl
theorem st73 : stT Try.prog 73 = false := by kernel_rfl
theorem zc73 : zcT Try.prog 73 = some [.slice none 0 0] := by kernel_rfl
theorem by73 : byT Try.prog 73 = some 24 := by kernel_rfl
theorem un73 : Program.underlying Try.prog 73 = some (TypeDesc.slice 97) := Try.underlying73
theorem pl73 : plT Try.prog 73 = none := by kernel_rfl
theorem t73 : ldK Try.prog 73 = some (none) ∧ szT Try.prog 73 = some 1 ∧ slT Try.prog 73 = some 97 ∧ stT Try.prog 73 = false ∧ zcT Try.prog 73 = some [.slice none 0 0] ∧ byT Try.prog 73 = some 24 ∧ plT Try.prog 73 = none := ⟨ld73, sz73, sl73, st73, zc73, by73, pl73⟩
theorem ld86 : ldK Try.prog 86 = some (none) := by kernel_rfl
theorem sz86 : szT Try.prog 86 = some 1 := by kernel_rfl
theorem sl86 : slT Try.prog 86 = some 3 := by kernel_rfl
theorem st86 : stT Try.prog 86 = false := by kernel_rfl
theorem zc86 : zcT Try.prog 86 = some [.slice none 0 0] := by kernel_rfl
theorem by86 : byT Try.prog 86 = some 24 := by kernel_rfl
theorem un86 : Program.underlying Try.prog 86 = some (TypeDesc.slice 3) := Try.underlying86
theorem pl86 : plT Try.prog 86 = none := by kernel_rfl
theorem t86 : ldK Try.prog 86 = some (none) ∧ szT Try.prog 86 = some 1 ∧ slT Try.prog 86 = some 3 ∧ stT Try.prog 86 = false ∧ zcT Try.prog 86 = some [.slice none 0 0] ∧ byT Try.prog 86 = some 24 ∧ plT Try.prog 86 = none := ⟨ld86, sz86, sl86, st86, zc86, by86, pl86⟩
theorem ld88 : ldK Try.prog 88 = some (some 7) := by kernel_rfl
theorem sz88 : szT Try.prog 88 = some 7 := by kernel_rfl
theorem sl88 : slT Try.prog 88 = none := by kernel_rfl
theorem st88 : stT Try.prog 88 = false := by kernel_rfl
theorem zc88 : zcT Try.prog 88 = some [.int .i64 0, .int .i64 0, .slice none 0 0, .slice none 0 0, .slice none 0 0, .slice none 0 0, .int .i64 0] := by kernel_rfl
theorem by88 : byT Try.prog 88 = some 120 := by kernel_rfl
theorem pl88 : plT Try.prog 88 = some #[(0, 1), (1, 1), (2, 1), (3, 1), (4, 1), (5, 1), (6, 1)] := by kernel_rfl
theorem fl88_0 : fldT Try.prog 88 0 = some (0, 3) := by kernel_rfl
theorem fl88_1 : fldT Try.prog 88 1 = some (1, 3) := by kernel_rfl
theorem fl88_2 : fldT Try.prog 88 2 = some (2, 86) := by kernel_rfl
theorem fl88_3 : fldT Try.prog 88 3 = some (3, 86) := by kernel_rfl
theorem fl88_4 : fldT Try.prog 88 4 = some (4, 86) := by kernel_rfl
theorem fl88_5 : fldT Try.prog 88 5 = some (5, 86) := by kernel_rfl
theorem fl88_6 : fldT Try.prog 88 6 = some (6, 3) := by kernel_rfl
theorem t88 : ldK Try.prog 88 = some (some 7) ∧ szT Try.prog 88 = some 7 ∧ slT Try.prog 88 = none ∧ stT Try.prog 88 = false ∧ zcT Try.prog 88 = some [.int .i64 0, .int .i64 0, .slice none 0 0, .slice none 0 0, .slice none 0 0, .slice none 0 0, .int .i64 0] ∧ byT Try.prog 88 = some 120 ∧ plT Try.prog 88 = some #[(0, 1), (1, 1), (2, 1), (3, 1), (4, 1), (5, 1), (6, 1)] ∧ fldT Try.prog 88 0 = some (0, 3) ∧ fldT Try.prog 88 1 = some (1, 3) ∧ fldT Try.prog 88 2 = some (2, 86) ∧ fldT Try.prog 88 3 = some (3, 86) ∧ fldT Try.prog 88 4 = some (4, 86) ∧ fldT Try.prog 88 5 = some (5, 86) ∧ fldT Try.prog 88 6 = some (6, 3) := ⟨ld88, sz88, sl88, st88, zc88, by88, pl88, fl88_0, fl88_1, fl88_2, fl88_3, fl88_4, fl88_5, fl88_6⟩
theorem ld89 : ldK Try.prog 89 = some (some 7) := by kernel_rfl
theorem sz89 : szT Try.prog 89 = some 7 := by kernel_rfl
theorem sl89 : slT Try.prog 89 = none := by kernel_rfl
theorem st89 : stT Try.prog 89 = false := by kernel_rfl
theorem zc89 : zcT Try.prog 89 = some [.int .i64 0, .int .i64 0, .slice none 0 0, .slice none 0 0, .slice none 0 0, .slice none 0 0, .int .i64 0] := by kernel_rfl
theorem by89 : byT Try.prog 89 = some 120 := by kernel_rfl
theorem un89 : Program.underlying Try.prog 89 = some (TypeDesc.struct #[{ name := "Join", type := 3, offset := 0, embedded := false, tag := "", pkgPath := "", byteOffset := 0 }, { name := "Split", type := 3, offset := 1, embedded := false, tag := "", pkgPath := "", byteOffset := 8 }, { name := "In", type := 86, offset := 2, embedded := false, tag := "", pkgPath := "", byteOffset := 16 }, { name := "Out", type := 86, offset := 3, embedded := false, tag := "", pkgPath := "", byteOffset := 40 }, { name := "Cuts", type := 86, offset := 4, embedded := false, tag := "", pkgPath := "", byteOffset := 64 }, { name := "Stops", type := 86, offset := 5, embedded := false, tag := "", pkgPath := "", byteOffset := 88 }, { name := "Role", type := 3, offset := 6, embedded := false, tag := "", pkgPath := "", byteOffset := 112 }]) := Try.underlying89
theorem pl89 : plT Try.prog 89 = some #[(0, 1), (1, 1), (2, 1), (3, 1), (4, 1), (5, 1), (6, 1)] := by kernel_rfl
theorem fl89_0 : fldT Try.prog 89 0 = some (0, 3) := by kernel_rfl
theorem fl89_1 : fldT Try.prog 89 1 = some (1, 3) := by kernel_rfl
theorem fl89_2 : fldT Try.prog 89 2 = some (2, 86) := by kernel_rfl
theorem fl89_3 : fldT Try.prog 89 3 = some (3, 86) := by kernel_rfl
theorem fl89_4 : fldT Try.prog 89 4 = some (4, 86) := by kernel_rfl
theorem fl89_5 : fldT Try.prog 89 5 = some (5, 86) := by kernel_rfl
theorem fl89_6 : fldT Try.prog 89 6 = some (6, 3) := by kernel_rfl
theorem t89 : ldK Try.prog 89 = some (some 7) ∧ szT Try.prog 89 = some 7 ∧ slT Try.prog 89 = none ∧ stT Try.prog 89 = false ∧ zcT Try.prog 89 = some [.int .i64 0, .int .i64 0, .slice none 0 0, .slice none 0 0, .slice none 0 0, .slice none 0 0, .int .i64 0] ∧ byT Try.prog 89 = some 120 ∧ plT Try.prog 89 = some #[(0, 1), (1, 1), (2, 1), (3, 1), (4, 1), (5, 1), (6, 1)] ∧ fldT Try.prog 89 0 = some (0, 3) ∧ fldT Try.prog 89 1 = some (1, 3) ∧ fldT Try.prog 89 2 = some (2, 86) ∧ fldT Try.prog 89 3 = some (3, 86) ∧ fldT Try.prog 89 4 = some (4, 86) ∧ fldT Try.prog 89 5 = some (5, 86) ∧ fldT Try.prog 89 6 = some (6, 3) := ⟨ld89, sz89, sl89, st89, zc89, by89, pl89, fl89_0, fl89_1, fl89_2, fl89_3, fl89_4, fl89_5, fl89_6⟩
theorem ld92 : ldK Try.prog 92 = some (none) := by kernel_rfl
theorem sz92 : szT Try.prog 92 = some 1 := by kernel_rfl
theorem sl92 : slT Try.prog 92 = some 86 := by kernel_rfl
theorem st92 : stT Try.prog 92 = false := by kernel_rfl
theorem zc92 : zcT Try.prog 92 = some [.slice none 0 0] := by kernel_rfl
theorem by92 : byT Try.prog 92 = some 24 := by kernel_rfl
theorem un92 : Program.underlying Try.prog 92 = some (TypeDesc.slice 86) := Try.underlying92
theorem pl92 : plT Try.prog 92 = none := by kernel_rfl
theorem t92 : ldK Try.prog 92 = some (none) ∧ szT Try.prog 92 = some 1 ∧ slT Try.prog 92 = some 86 ∧ stT Try.prog 92 = false ∧ zcT Try.prog 92 = some [.slice none 0 0] ∧ byT Try.prog 92 = some 24 ∧ plT Try.prog 92 = none := ⟨ld92, sz92, sl92, st92, zc92, by92, pl92⟩
theorem ld95 : ldK Try.prog 95 = some (some 3) := by kernel_rfl
theorem sz95 : szT Try.prog 95 = some 3 := by kernel_rfl
theorem sl95 : slT Try.prog 95 = none := by kernel_rfl
theorem st95 : stT Try.prog 95 = false := by kernel_rfl
theorem zc95 : zcT Try.prog 95 = some [.slice none 0 0, .slice none 0 0, .slice none 0 0] := by kernel_rfl
theorem by95 : byT Try.prog 95 = some 72 := by kernel_rfl
theorem un95 : Program.underlying Try.prog 95 = some (TypeDesc.struct #[{ name := "In", type := 86, offset := 0, embedded := false, tag := "", pkgPath := "", byteOffset := 0 }, { name := "Out", type := 86, offset := 1, embedded := false, tag := "", pkgPath := "", byteOffset := 24 }, { name := "Reset", type := 86, offset := 2, embedded := false, tag := "", pkgPath := "", byteOffset := 48 }]) := Try.underlying95
theorem pl95 : plT Try.prog 95 = some #[(0, 1), (1, 1), (2, 1)] := by kernel_rfl
theorem fl95_0 : fldT Try.prog 95 0 = some (0, 86) := by kernel_rfl
theorem fl95_1 : fldT Try.prog 95 1 = some (1, 86) := by kernel_rfl
theorem fl95_2 : fldT Try.prog 95 2 = some (2, 86) := by kernel_rfl
theorem t95 : ldK Try.prog 95 = some (some 3) ∧ szT Try.prog 95 = some 3 ∧ slT Try.prog 95 = none ∧ stT Try.prog 95 = false ∧ zcT Try.prog 95 = some [.slice none 0 0, .slice none 0 0, .slice none 0 0] ∧ byT Try.prog 95 = some 72 ∧ plT Try.prog 95 = some #[(0, 1), (1, 1), (2, 1)] ∧ fldT Try.prog 95 0 = some (0, 86) ∧ fldT Try.prog 95 1 = some (1, 86) ∧ fldT Try.prog 95 2 = some (2, 86) := ⟨ld95, sz95, sl95, st95, zc95, by95, pl95, fl95_0, fl95_1, fl95_2⟩
theorem ld97 : ldK Try.prog 97 = some (some 3) := by kernel_rfl
theorem sz97 : szT Try.prog 97 = some 3 := by kernel_rfl
theorem sl97 : slT Try.prog 97 = none := by kernel_rfl
theorem st97 : stT Try.prog 97 = false := by kernel_rfl
theorem zc97 : zcT Try.prog 97 = some [.int .i64 0, .bool false, .int .i64 0] := by kernel_rfl
theorem by97 : byT Try.prog 97 = some 24 := by kernel_rfl
theorem un97 : Program.underlying Try.prog 97 = some (TypeDesc.struct #[{ name := "Task", type := 3, offset := 0, embedded := false, tag := "", pkgPath := "", byteOffset := 0 }, { name := "Begin", type := 4, offset := 1, embedded := false, tag := "", pkgPath := "", byteOffset := 8 }, { name := "Pick", type := 3, offset := 2, embedded := false, tag := "", pkgPath := "", byteOffset := 16 }]) := Try.underlying97
theorem pl97 : plT Try.prog 97 = some #[(0, 1), (1, 1), (2, 1)] := by kernel_rfl
theorem fl97_0 : fldT Try.prog 97 0 = some (0, 3) := by kernel_rfl
theorem fl97_1 : fldT Try.prog 97 1 = some (1, 4) := by kernel_rfl
theorem fl97_2 : fldT Try.prog 97 2 = some (2, 3) := by kernel_rfl
theorem t97 : ldK Try.prog 97 = some (some 3) ∧ szT Try.prog 97 = some 3 ∧ slT Try.prog 97 = none ∧ stT Try.prog 97 = false ∧ zcT Try.prog 97 = some [.int .i64 0, .bool false, .int .i64 0] ∧ byT Try.prog 97 = some 24 ∧ plT Try.prog 97 = some #[(0, 1), (1, 1), (2, 1)] ∧ fldT Try.prog 97 0 = some (0, 3) ∧ fldT Try.prog 97 1 = some (1, 4) ∧ fldT Try.prog 97 2 = some (2, 3) := ⟨ld97, sz97, sl97, st97, zc97, by97, pl97, fl97_0, fl97_1, fl97_2⟩
theorem ld98 : ldK Try.prog 98 = some (none) := by kernel_rfl
theorem sz98 : szT Try.prog 98 = some 1 := by kernel_rfl
theorem sl98 : slT Try.prog 98 = none := by kernel_rfl
theorem st98 : stT Try.prog 98 = false := by kernel_rfl
theorem zc98 : zcT Try.prog 98 = some [.int .u64 0] := by kernel_rfl
theorem by98 : byT Try.prog 98 = some 8 := by kernel_rfl
theorem un98 : Program.underlying Try.prog 98 = some (TypeDesc.int IntKind.u64) := Try.underlying98
theorem pl98 : plT Try.prog 98 = none := by kernel_rfl
theorem t98 : ldK Try.prog 98 = some (none) ∧ szT Try.prog 98 = some 1 ∧ slT Try.prog 98 = none ∧ stT Try.prog 98 = false ∧ zcT Try.prog 98 = some [.int .u64 0] ∧ byT Try.prog 98 = some 8 ∧ plT Try.prog 98 = none := ⟨ld98, sz98, sl98, st98, zc98, by98, pl98⟩
theorem ld114 : ldK Try.prog 114 = some (none) := by kernel_rfl
theorem sz114 : szT Try.prog 114 = some 1 := by kernel_rfl
theorem sl114 : slT Try.prog 114 = some 4 := by kernel_rfl
theorem st114 : stT Try.prog 114 = false := by kernel_rfl
theorem zc114 : zcT Try.prog 114 = some [.slice none 0 0] := by kernel_rfl
theorem by114 : byT Try.prog 114 = some 24 := by kernel_rfl
theorem pl114 : plT Try.prog 114 = none := by kernel_rfl
theorem t114 : ldK Try.prog 114 = some (none) ∧ szT Try.prog 114 = some 1 ∧ slT Try.prog 114 = some 4 ∧ stT Try.prog 114 = false ∧ zcT Try.prog 114 = some [.slice none 0 0] ∧ byT Try.prog 114 = some 24 ∧ plT Try.prog 114 = none := ⟨ld114, sz114, sl114, st114, zc114, by114, pl114⟩
theorem ld127 : ldK Try.prog 127 = some (none) := by kernel_rfl
theorem sz127 : szT Try.prog 127 = some 1 := by kernel_rfl
theorem sl127 : slT Try.prog 127 = none := by kernel_rfl
theorem st127 : stT Try.prog 127 = false := by kernel_rfl
theorem zc127 : zcT Try.prog 127 = some [.nilFunc] := by kernel_rfl
theorem by127 : byT Try.prog 127 = some 8 := by kernel_rfl
theorem pl127 : plT Try.prog 127 = none := by kernel_rfl
theorem t127 : ldK Try.prog 127 = some (none) ∧ szT Try.prog 127 = some 1 ∧ slT Try.prog 127 = none ∧ stT Try.prog 127 = false ∧ zcT Try.prog 127 = some [.nilFunc] ∧ byT Try.prog 127 = some 8 ∧ plT Try.prog 127 = none := ⟨ld127, sz127, sl127, st127, zc127, by127, pl127⟩
theorem ok3 : callOk Try.prog 3 = true := by kernel_rfl
theorem c3 : XRC Try.prog 3 := xrc ok3
theorem n3 : XRN Try.prog 3 := xrn ok3
theorem d3 : XDC Try.prog 3 := xdc ok3
theorem l3 : XDL Try.prog 3 := xdl ok3
theorem ok4 : callOk Try.prog 4 = true := by kernel_rfl
theorem n4 : XRN Try.prog 4 := xrn ok4
theorem d4 : XDC Try.prog 4 := xdc ok4
theorem l4 : XDL Try.prog 4 := xdl ok4
theorem ok5 : callOk Try.prog 5 = true := by kernel_rfl
theorem n5 : XRN Try.prog 5 := xrn ok5
theorem l5 : XDL Try.prog 5 := xdl ok5
theorem ok6 : callOk Try.prog 6 = true := by kernel_rfl
theorem c6 : XRC Try.prog 6 := xrc ok6
theorem d6 : XDC Try.prog 6 := xdc ok6
theorem ok7 : callOk Try.prog 7 = true := by kernel_rfl
theorem c7 : XRC Try.prog 7 := xrc ok7
theorem ok8 : callOk Try.prog 8 = true := by kernel_rfl
theorem c8 : XRC Try.prog 8 := xrc ok8
theorem l8 : XDL Try.prog 8 := xdl ok8
theorem ok10 : callOk Try.prog 10 = true := by kernel_rfl
theorem c10 : XRC Try.prog 10 := xrc ok10
theorem d10 : XDC Try.prog 10 := xdc ok10
theorem ok11 : callOk Try.prog 11 = true := by kernel_rfl
theorem c11 : XRC Try.prog 11 := xrc ok11
theorem d11 : XDC Try.prog 11 := xdc ok11
theorem ok12 : callOk Try.prog 12 = true := by kernel_rfl
theorem c12 : XRC Try.prog 12 := xrc ok12
theorem d12 : XDC Try.prog 12 := xdc ok12
theorem ok20 : callOk Try.prog 20 = true := by kernel_rfl
theorem c20 : XRC Try.prog 20 := xrc ok20
theorem ok21 : callOk Try.prog 21 = true := by kernel_rfl
theorem c21 : XRC Try.prog 21 := xrc ok21
theorem ok22 : callOk Try.prog 22 = true := by kernel_rfl
theorem c22 : XRC Try.prog 22 := xrc ok22
theorem ok23 : callOk Try.prog 23 = true := by kernel_rfl
theorem c23 : XRC Try.prog 23 := xrc ok23
theorem ok24 : callOk Try.prog 24 = true := by kernel_rfl
theorem c24 : XRC Try.prog 24 := xrc ok24
theorem ok25 : callOk Try.prog 25 = true := by kernel_rfl
theorem c25 : XRC Try.prog 25 := xrc ok25
theorem ok26 : callOk Try.prog 26 = true := by kernel_rfl
theorem c26 : XRC Try.prog 26 := xrc ok26
theorem ok27 : callOk Try.prog 27 = true := by kernel_rfl
theorem c27 : XRC Try.prog 27 := xrc ok27
theorem ok28 : callOk Try.prog 28 = true := by kernel_rfl
theorem c28 : XRC Try.prog 28 := xrc ok28
theorem ok29 : callOk Try.prog 29 = true := by kernel_rfl
theorem c29 : XRC Try.prog 29 := xrc ok29
theorem ok30 : callOk Try.prog 30 = true := by kernel_rfl
theorem c30 : XRC Try.prog 30 := xrc ok30
theorem ok35 : callOk Try.prog 35 = true := by kernel_rfl
theorem c35 : XRC Try.prog 35 := xrc ok35
theorem ok38 : callOk Try.prog 38 = true := by kernel_rfl
theorem c38 : XRC Try.prog 38 := xrc ok38
theorem ok39 : callOk Try.prog 39 = true := by kernel_rfl
theorem c39 : XRC Try.prog 39 := xrc ok39
theorem ok40 : callOk Try.prog 40 = true := by kernel_rfl
theorem c40 : XRC Try.prog 40 := xrc ok40
theorem ok41 : callOk Try.prog 41 = true := by kernel_rfl
theorem c41 : XRC Try.prog 41 := xrc ok41
theorem ok42 : callOk Try.prog 42 = true := by kernel_rfl
theorem c42 : XRC Try.prog 42 := xrc ok42
theorem ok43 : callOk Try.prog 43 = true := by kernel_rfl
theorem c43 : XRC Try.prog 43 := xrc ok43
theorem ok44 : callOk Try.prog 44 = true := by kernel_rfl
theorem c44 : XRC Try.prog 44 := xrc ok44
theorem ok45 : callOk Try.prog 45 = true := by kernel_rfl
theorem c45 : XRC Try.prog 45 := xrc ok45
theorem ok46 : callOk Try.prog 46 = true := by kernel_rfl
theorem c46 : XRC Try.prog 46 := xrc ok46
theorem ok47 : callOk Try.prog 47 = true := by kernel_rfl
theorem c47 : XRC Try.prog 47 := xrc ok47
theorem ok48 : callOk Try.prog 48 = true := by kernel_rfl
theorem c48 : XRC Try.prog 48 := xrc ok48
theorem ok53 : callOk Try.prog 53 = true := by kernel_rfl
theorem c53 : XRC Try.prog 53 := xrc ok53
theorem ok55 : callOk Try.prog 55 = true := by kernel_rfl
theorem c55 : XRC Try.prog 55 := xrc ok55
theorem ok56 : callOk Try.prog 56 = true := by kernel_rfl
theorem c56 : XRC Try.prog 56 := xrc ok56
theorem ok57 : callOk Try.prog 57 = true := by kernel_rfl
theorem c57 : XRC Try.prog 57 := xrc ok57
theorem ok58 : callOk Try.prog 58 = true := by kernel_rfl
theorem c58 : XRC Try.prog 58 := xrc ok58
theorem ok59 : callOk Try.prog 59 = true := by kernel_rfl
theorem c59 : XRC Try.prog 59 := xrc ok59
theorem l59 : XDL Try.prog 59 := xdl ok59
theorem ok60 : callOk Try.prog 60 = true := by kernel_rfl
theorem c60 : XRC Try.prog 60 := xrc ok60
theorem l60 : XDL Try.prog 60 := xdl ok60
theorem ok61 : callOk Try.prog 61 = true := by kernel_rfl
theorem c61 : XRC Try.prog 61 := xrc ok61
theorem l61 : XDL Try.prog 61 := xdl ok61
theorem ok62 : callOk Try.prog 62 = true := by kernel_rfl
theorem c62 : XRC Try.prog 62 := xrc ok62
theorem ok63 : callOk Try.prog 63 = true := by kernel_rfl
theorem c63 : XRC Try.prog 63 := xrc ok63
theorem ok64 : callOk Try.prog 64 = true := by kernel_rfl
theorem c64 : XRC Try.prog 64 := xrc ok64
theorem ok65 : callOk Try.prog 65 = true := by kernel_rfl
theorem c65 : XRC Try.prog 65 := xrc ok65
theorem ok66 : callOk Try.prog 66 = true := by kernel_rfl
theorem c66 : XRC Try.prog 66 := xrc ok66
theorem ok67 : callOk Try.prog 67 = true := by kernel_rfl
theorem c67 : XRC Try.prog 67 := xrc ok67
theorem d67 : XDC Try.prog 67 := xdc ok67
theorem ok76 : callOk Try.prog 76 = true := by kernel_rfl
theorem c76 : XRC Try.prog 76 := xrc ok76
theorem ok77 : callOk Try.prog 77 = true := by kernel_rfl
theorem c77 : XRC Try.prog 77 := xrc ok77
theorem ok78 : callOk Try.prog 78 = true := by kernel_rfl
theorem c78 : XRC Try.prog 78 := xrc ok78
theorem ok79 : callOk Try.prog 79 = true := by kernel_rfl
theorem c79 : XRC Try.prog 79 := xrc ok79
theorem ok80 : callOk Try.prog 80 = true := by kernel_rfl
theorem c80 : XRC Try.prog 80 := xrc ok80
theorem ok81 : callOk Try.prog 81 = true := by kernel_rfl
theorem c81 : XRC Try.prog 81 := xrc ok81
theorem ok82 : callOk Try.prog 82 = true := by kernel_rfl
theorem c82 : XRC Try.prog 82 := xrc ok82
theorem ok83 : callOk Try.prog 83 = true := by kernel_rfl
theorem c83 : XRC Try.prog 83 := xrc ok83
theorem ok84 : callOk Try.prog 84 = true := by kernel_rfl
theorem c84 : XRC Try.prog 84 := xrc ok84
theorem ok85 : callOk Try.prog 85 = true := by kernel_rfl
theorem c85 : XRC Try.prog 85 := xrc ok85
theorem ok86 : callOk Try.prog 86 = true := by kernel_rfl
theorem c86 : XRC Try.prog 86 := xrc ok86
theorem ok87 : callOk Try.prog 87 = true := by kernel_rfl
theorem c87 : XRC Try.prog 87 := xrc ok87
theorem ok88 : callOk Try.prog 88 = true := by kernel_rfl
theorem c88 : XRC Try.prog 88 := xrc ok88
theorem ok89 : callOk Try.prog 89 = true := by kernel_rfl
theorem c89 : XRC Try.prog 89 := xrc ok89
theorem l89 : XDL Try.prog 89 := xdl ok89
theorem ok90 : callOk Try.prog 90 = true := by kernel_rfl
theorem c90 : XRC Try.prog 90 := xrc ok90
theorem l90 : XDL Try.prog 90 := xdl ok90
theorem ok91 : callOk Try.prog 91 = true := by kernel_rfl
theorem c91 : XRC Try.prog 91 := xrc ok91
theorem ok92 : callOk Try.prog 92 = true := by kernel_rfl
theorem c92 : XRC Try.prog 92 := xrc ok92
theorem ok93 : callOk Try.prog 93 = true := by kernel_rfl
theorem c93 : XRC Try.prog 93 := xrc ok93
theorem ok94 : callOk Try.prog 94 = true := by kernel_rfl
theorem c94 : XRC Try.prog 94 := xrc ok94
theorem ok95 : callOk Try.prog 95 = true := by kernel_rfl
theorem c95 : XRC Try.prog 95 := xrc ok95
theorem ok96 : callOk Try.prog 96 = true := by kernel_rfl
theorem c96 : XRC Try.prog 96 := xrc ok96
theorem ok97 : callOk Try.prog 97 = true := by kernel_rfl
theorem c97 : XRC Try.prog 97 := xrc ok97
theorem ok98 : callOk Try.prog 98 = true := by kernel_rfl
theorem c98 : XRC Try.prog 98 := xrc ok98
theorem ok99 : callOk Try.prog 99 = true := by kernel_rfl
theorem c99 : XRC Try.prog 99 := xrc ok99
theorem ok100 : callOk Try.prog 100 = true := by kernel_rfl
theorem c100 : XRC Try.prog 100 := xrc ok100
theorem ok101 : callOk Try.prog 101 = true := by kernel_rfl
theorem c101 : XRC Try.prog 101 := xrc ok101
theorem ok102 : callOk Try.prog 102 = true := by kernel_rfl
theorem c102 : XRC Try.prog 102 := xrc ok102
theorem ok103 : callOk Try.prog 103 = true := by kernel_rfl
theorem c103 : XRC Try.prog 103 := xrc ok103
theorem d103 : XDC Try.prog 103 := xdc ok103
theorem ok104 : callOk Try.prog 104 = true := by kernel_rfl
theorem ok105 : callOk Try.prog 105 = true := by kernel_rfl
theorem c105 : XRC Try.prog 105 := xrc ok105
end Go.Proofs.Ytmjhfklmlcnofaa.Ty
