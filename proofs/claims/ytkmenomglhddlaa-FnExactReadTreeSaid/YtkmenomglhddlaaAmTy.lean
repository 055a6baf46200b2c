/- The facts of this claim's types, and of what may be called. Conditions: none. -/
import Derived.Test.YtkmenomglhddlaaProg
import Derived.Test.YtkmenomglhddlaaAmQ
import Derived.KernelRfl
namespace Go.Proofs.Ytkmenomglhddlaa.Ty
open Go Go.Proofs.Ytkmenomglhddlaa.Am
theorem mx : Try.prog.follows .mixedOrders = true := by kernel_rfl
theorem ld1 : ldK Try.prog 1 = some (none) := by kernel_rfl
theorem sz1 : szT Try.prog 1 = some 1 := by kernel_rfl
theorem sl1 : slT Try.prog 1 = none := by kernel_rfl
theorem st1 : stT Try.prog 1 = false := by kernel_rfl
theorem zc1 : zcT Try.prog 1 = some [.nilFunc] := by kernel_rfl
theorem by1 : byT Try.prog 1 = some 8 := by kernel_rfl
theorem un1 : Program.underlying Try.prog 1 = some (TypeDesc.func #[] #[] false) := Try.underlying1
theorem pl1 : plT Try.prog 1 = none := by kernel_rfl
theorem ld2 : ldK Try.prog 2 = some (none) := by kernel_rfl
theorem sz2 : szT Try.prog 2 = some 1 := by kernel_rfl
theorem sl2 : slT Try.prog 2 = none := by kernel_rfl
theorem st2 : stT Try.prog 2 = false := by kernel_rfl
theorem zc2 : zcT Try.prog 2 = some [.int .i64 0] := by kernel_rfl
theorem by2 : byT Try.prog 2 = some 8 := by kernel_rfl
theorem un2 : Program.underlying Try.prog 2 = some (TypeDesc.int IntKind.i64) := Try.underlying2
theorem pl2 : plT Try.prog 2 = none := by kernel_rfl
theorem ld3 : ldK Try.prog 3 = some (none) := by kernel_rfl
theorem sz3 : szT Try.prog 3 = some 1 := by kernel_rfl
theorem sl3 : slT Try.prog 3 = none := by kernel_rfl
theorem st3 : stT Try.prog 3 = false := by kernel_rfl
theorem zc3 : zcT Try.prog 3 = some [.int .i64 0] := by kernel_rfl
theorem by3 : byT Try.prog 3 = some 8 := by kernel_rfl
theorem un3 : Program.underlying Try.prog 3 = some (TypeDesc.int IntKind.i64) := Try.underlying3
theorem pl3 : plT Try.prog 3 = none := by kernel_rfl
theorem ld4 : ldK Try.prog 4 = some (none) := by kernel_rfl
theorem sz4 : szT Try.prog 4 = some 1 := by kernel_rfl
theorem sl4 : slT Try.prog 4 = none := by kernel_rfl
theorem st4 : stT Try.prog 4 = false := by kernel_rfl
theorem zc4 : zcT Try.prog 4 = some [.bool false] := by kernel_rfl
theorem by4 : byT Try.prog 4 = some 1 := by kernel_rfl
theorem un4 : Program.underlying Try.prog 4 = some TypeDesc.bool := Try.underlying4
theorem pl4 : plT Try.prog 4 = none := by kernel_rfl
theorem ld5 : ldK Try.prog 5 = some (none) := by kernel_rfl
theorem sz5 : szT Try.prog 5 = some 1 := by kernel_rfl
theorem sl5 : slT Try.prog 5 = none := by kernel_rfl
theorem st5 : stT Try.prog 5 = false := by kernel_rfl
theorem zc5 : zcT Try.prog 5 = some [.int .u8 0] := by kernel_rfl
theorem by5 : byT Try.prog 5 = some 1 := by kernel_rfl
theorem un5 : Program.underlying Try.prog 5 = some (TypeDesc.int IntKind.u8) := Try.underlying5
theorem pl5 : plT Try.prog 5 = none := by kernel_rfl
theorem ld6 : ldK Try.prog 6 = some (none) := by kernel_rfl
theorem sz6 : szT Try.prog 6 = some 1 := by kernel_rfl
theorem sl6 : slT Try.prog 6 = none := by kernel_rfl
theorem st6 : stT Try.prog 6 = false := by kernel_rfl
theorem zc6 : zcT Try.prog 6 = some [.int .u8 0] := by kernel_rfl
theorem by6 : byT Try.prog 6 = some 1 := by kernel_rfl
theorem un6 : Program.underlying Try.prog 6 = some (TypeDesc.int IntKind.u8) := Try.underlying6
theorem pl6 : plT Try.prog 6 = none := by kernel_rfl
theorem ld7 : ldK Try.prog 7 = some (some 4) := by kernel_rfl
theorem sz7 : szT Try.prog 7 = some 4 := by kernel_rfl
theorem sl7 : slT Try.prog 7 = none := by kernel_rfl
theorem st7 : stT Try.prog 7 = false := by kernel_rfl
theorem zc7 : zcT Try.prog 7 = some [.int .i64 0, .int .i64 0, .bool false, .int .u8 0] := by kernel_rfl
theorem by7 : byT Try.prog 7 = some 24 := by kernel_rfl
theorem un7 : Program.underlying Try.prog 7 = some (TypeDesc.struct #[{ name := "x", type := 2, offset := 0, embedded := false, tag := "", pkgPath := "runtime", byteOffset := 0 }, { name := "y", type := 3, offset := 1, embedded := false, tag := "", pkgPath := "runtime", byteOffset := 8 }, { name := "signed", type := 4, offset := 2, embedded := false, tag := "", pkgPath := "runtime", byteOffset := 16 }, { name := "code", type := 6, offset := 3, embedded := false, tag := "", pkgPath := "runtime", byteOffset := 17 }]) := Try.underlying7
theorem pl7 : plT Try.prog 7 = some #[(0, 1), (1, 1), (2, 1), (3, 1)] := by kernel_rfl
theorem fl7_0 : fldT Try.prog 7 0 = some (0, 2) := by kernel_rfl
theorem fl7_1 : fldT Try.prog 7 1 = some (1, 3) := by kernel_rfl
theorem fl7_2 : fldT Try.prog 7 2 = some (2, 4) := by kernel_rfl
theorem fl7_3 : fldT Try.prog 7 3 = some (3, 6) := by kernel_rfl
theorem ld8 : ldK Try.prog 8 = some (some 4) := by kernel_rfl
theorem sz8 : szT Try.prog 8 = some 4 := by kernel_rfl
theorem sl8 : slT Try.prog 8 = none := by kernel_rfl
theorem st8 : stT Try.prog 8 = false := by kernel_rfl
theorem zc8 : zcT Try.prog 8 = some [.int .i64 0, .int .i64 0, .bool false, .int .u8 0] := by kernel_rfl
theorem by8 : byT Try.prog 8 = some 24 := by kernel_rfl
theorem un8 : Program.underlying Try.prog 8 = some (TypeDesc.struct #[{ name := "x", type := 2, offset := 0, embedded := false, tag := "", pkgPath := "runtime", byteOffset := 0 }, { name := "y", type := 3, offset := 1, embedded := false, tag := "", pkgPath := "runtime", byteOffset := 8 }, { name := "signed", type := 4, offset := 2, embedded := false, tag := "", pkgPath := "runtime", byteOffset := 16 }, { name := "code", type := 6, offset := 3, embedded := false, tag := "", pkgPath := "runtime", byteOffset := 17 }]) := Try.underlying8
theorem pl8 : plT Try.prog 8 = some #[(0, 1), (1, 1), (2, 1), (3, 1)] := by kernel_rfl
theorem fl8_0 : fldT Try.prog 8 0 = some (0, 2) := by kernel_rfl
theorem fl8_1 : fldT Try.prog 8 1 = some (1, 3) := by kernel_rfl
theorem fl8_2 : fldT Try.prog 8 2 = some (2, 4) := by kernel_rfl
theorem fl8_3 : fldT Try.prog 8 3 = some (3, 6) := by kernel_rfl
theorem ld9 : ldK Try.prog 9 = some (none) := by kernel_rfl
theorem sz9 : szT Try.prog 9 = some 1 := by kernel_rfl
theorem sl9 : slT Try.prog 9 = none := by kernel_rfl
theorem st9 : stT Try.prog 9 = true := by kernel_rfl
theorem zc9 : zcT Try.prog 9 = some [.string ByteArray.empty] := by kernel_rfl
theorem by9 : byT Try.prog 9 = some 16 := by kernel_rfl
theorem un9 : Program.underlying Try.prog 9 = some TypeDesc.string := Try.underlying9
theorem pl9 : plT Try.prog 9 = none := by kernel_rfl
theorem ld10 : ldK Try.prog 10 = some (none) := by kernel_rfl
theorem sz10 : szT Try.prog 10 = some 1 := by kernel_rfl
theorem sl10 : slT Try.prog 10 = none := by kernel_rfl
theorem st10 : stT Try.prog 10 = true := by kernel_rfl
theorem zc10 : zcT Try.prog 10 = some [.string ByteArray.empty] := by kernel_rfl
theorem by10 : byT Try.prog 10 = some 16 := by kernel_rfl
theorem un10 : Program.underlying Try.prog 10 = some TypeDesc.string := Try.underlying10
theorem pl10 : plT Try.prog 10 = none := by kernel_rfl
theorem ld11 : ldK Try.prog 11 = some (none) := by kernel_rfl
theorem sz11 : szT Try.prog 11 = some 1 := by kernel_rfl
theorem sl11 : slT Try.prog 11 = none := by kernel_rfl
theorem st11 : stT Try.prog 11 = true := by kernel_rfl
theorem zc11 : zcT Try.prog 11 = some [.string ByteArray.empty] := by kernel_rfl
theorem by11 : byT Try.prog 11 = some 16 := by kernel_rfl
theorem un11 : Program.underlying Try.prog 11 = some TypeDesc.string := Try.underlying11
theorem pl11 : plT Try.prog 11 = none := by kernel_rfl
theorem ld12 : ldK Try.prog 12 = some (none) := by kernel_rfl
theorem sz12 : szT Try.prog 12 = some 1 := by kernel_rfl
theorem sl12 : slT Try.prog 12 = none := by kernel_rfl
theorem st12 : stT Try.prog 12 = false := by kernel_rfl
theorem zc12 : zcT Try.prog 12 = some [.int .u64 0] := by kernel_rfl
theorem by12 : byT Try.prog 12 = some 8 := by kernel_rfl
theorem un12 : Program.underlying Try.prog 12 = some (TypeDesc.int IntKind.u64) := Try.underlying12
theorem pl12 : plT Try.prog 12 = none := by kernel_rfl
theorem ld13 : ldK Try.prog 13 = some (some 2) := by kernel_rfl
theorem sz13 : szT Try.prog 13 = some 2 := by kernel_rfl
theorem sl13 : slT Try.prog 13 = none := by kernel_rfl
theorem st13 : stT Try.prog 13 = false := by kernel_rfl
theorem zc13 : zcT Try.prog 13 = some [.string ByteArray.empty, .int .u64 0] := by kernel_rfl
theorem by13 : byT Try.prog 13 = some 24 := by kernel_rfl
theorem un13 : Program.underlying Try.prog 13 = some (TypeDesc.struct #[{ name := "msg", type := 9, offset := 0, embedded := false, tag := "", pkgPath := "runtime", byteOffset := 0 }, { name := "addr", type := 12, offset := 1, embedded := false, tag := "", pkgPath := "runtime", byteOffset := 16 }]) := Try.underlying13
theorem pl13 : plT Try.prog 13 = some #[(0, 1), (1, 1)] := by kernel_rfl
theorem fl13_0 : fldT Try.prog 13 0 = some (0, 9) := by kernel_rfl
theorem fl13_1 : fldT Try.prog 13 1 = some (1, 12) := by kernel_rfl
theorem ld14 : ldK Try.prog 14 = some (some 2) := by kernel_rfl
theorem sz14 : szT Try.prog 14 = some 2 := by kernel_rfl
theorem sl14 : slT Try.prog 14 = none := by kernel_rfl
theorem st14 : stT Try.prog 14 = false := by kernel_rfl
theorem zc14 : zcT Try.prog 14 = some [.string ByteArray.empty, .int .u64 0] := by kernel_rfl
theorem by14 : byT Try.prog 14 = some 24 := by kernel_rfl
theorem un14 : Program.underlying Try.prog 14 = some (TypeDesc.struct #[{ name := "msg", type := 9, offset := 0, embedded := false, tag := "", pkgPath := "runtime", byteOffset := 0 }, { name := "addr", type := 12, offset := 1, embedded := false, tag := "", pkgPath := "runtime", byteOffset := 16 }]) := Try.underlying14
theorem pl14 : plT Try.prog 14 = some #[(0, 1), (1, 1)] := by kernel_rfl
theorem fl14_0 : fldT Try.prog 14 0 = some (0, 9) := by kernel_rfl
theorem fl14_1 : fldT Try.prog 14 1 = some (1, 12) := by kernel_rfl
theorem ld15 : ldK Try.prog 15 = some (none) := by kernel_rfl
theorem sz15 : szT Try.prog 15 = some 1 := by kernel_rfl
theorem sl15 : slT Try.prog 15 = none := by kernel_rfl
theorem st15 : stT Try.prog 15 = false := by kernel_rfl
theorem zc15 : zcT Try.prog 15 = some [.pointer none] := by kernel_rfl
theorem by15 : byT Try.prog 15 = some 8 := by kernel_rfl
theorem un15 : Program.underlying Try.prog 15 = some (TypeDesc.pointer 81) := Try.underlying15
theorem pl15 : plT Try.prog 15 = none := by kernel_rfl
theorem ld16 : ldK Try.prog 16 = some (none) := by kernel_rfl
theorem sz16 : szT Try.prog 16 = some 1 := by kernel_rfl
theorem sl16 : slT Try.prog 16 = none := by kernel_rfl
theorem st16 : stT Try.prog 16 = false := by kernel_rfl
theorem zc16 : zcT Try.prog 16 = some [.pointer none] := by kernel_rfl
theorem by16 : byT Try.prog 16 = some 8 := by kernel_rfl
theorem un16 : Program.underlying Try.prog 16 = some (TypeDesc.pointer 84) := Try.underlying16
theorem pl16 : plT Try.prog 16 = none := by kernel_rfl
theorem ld17 : ldK Try.prog 17 = some (none) := by kernel_rfl
theorem sz17 : szT Try.prog 17 = some 1 := by kernel_rfl
theorem sl17 : slT Try.prog 17 = none := by kernel_rfl
theorem st17 : stT Try.prog 17 = false := by kernel_rfl
theorem zc17 : zcT Try.prog 17 = some [.pointer none] := by kernel_rfl
theorem by17 : byT Try.prog 17 = some 8 := by kernel_rfl
theorem un17 : Program.underlying Try.prog 17 = some (TypeDesc.pointer 93) := Try.underlying17
theorem pl17 : plT Try.prog 17 = none := by kernel_rfl
theorem ld20 : ldK Try.prog 20 = some (none) := by kernel_rfl
theorem sz20 : szT Try.prog 20 = some 1 := by kernel_rfl
theorem sl20 : slT Try.prog 20 = none := by kernel_rfl
theorem st20 : stT Try.prog 20 = false := by kernel_rfl
theorem zc20 : zcT Try.prog 20 = some [.nilIface] := by kernel_rfl
theorem by20 : byT Try.prog 20 = some 16 := by kernel_rfl
theorem un20 : Program.underlying Try.prog 20 = some (TypeDesc.interface #[]) := Try.underlying20
theorem pl20 : plT Try.prog 20 = none := by kernel_rfl
theorem ld21 : ldK Try.prog 21 = some (none) := by kernel_rfl
theorem sz21 : szT Try.prog 21 = some 1 := by kernel_rfl
theorem sl21 : slT Try.prog 21 = none := by kernel_rfl
theorem st21 : stT Try.prog 21 = false := by kernel_rfl
theorem zc21 : zcT Try.prog 21 = some [.int .i32 0] := by kernel_rfl
theorem by21 : byT Try.prog 21 = some 4 := by kernel_rfl
theorem un21 : Program.underlying Try.prog 21 = some (TypeDesc.int IntKind.i32) := Try.underlying21
theorem pl21 : plT Try.prog 21 = none := by kernel_rfl
theorem ld22 : ldK Try.prog 22 = some (none) := by kernel_rfl
theorem sz22 : szT Try.prog 22 = some 1 := by kernel_rfl
theorem sl22 : slT Try.prog 22 = none := by kernel_rfl
theorem st22 : stT Try.prog 22 = false := by kernel_rfl
theorem zc22 : zcT Try.prog 22 = some [.nilFunc] := by kernel_rfl
theorem by22 : byT Try.prog 22 = some 8 := by kernel_rfl
theorem un22 : Program.underlying Try.prog 22 = some (TypeDesc.func #[9] #[3] false) := Try.underlying22
theorem pl22 : plT Try.prog 22 = none := by kernel_rfl
theorem ld23 : ldK Try.prog 23 = some (none) := by kernel_rfl
theorem sz23 : szT Try.prog 23 = some 1 := by kernel_rfl
theorem sl23 : slT Try.prog 23 = none := by kernel_rfl
theorem st23 : stT Try.prog 23 = false := by kernel_rfl
theorem zc23 : zcT Try.prog 23 = some [.nilFunc] := by kernel_rfl
theorem by23 : byT Try.prog 23 = some 8 := by kernel_rfl
theorem un23 : Program.underlying Try.prog 23 = some (TypeDesc.func #[9] #[4] false) := Try.underlying23
theorem pl23 : plT Try.prog 23 = none := by kernel_rfl
theorem ld24 : ldK Try.prog 24 = some (some 3) := by kernel_rfl
theorem sz24 : szT Try.prog 24 = some 3 := by kernel_rfl
theorem sl24 : slT Try.prog 24 = none := by kernel_rfl
theorem st24 : stT Try.prog 24 = false := by kernel_rfl
theorem zc24 : zcT Try.prog 24 = some [.int .i64 0, .string ByteArray.empty, .string ByteArray.empty] := by kernel_rfl
theorem by24 : byT Try.prog 24 = some 40 := by kernel_rfl
theorem un24 : Program.underlying Try.prog 24 = some (TypeDesc.struct #[{ name := "Room", type := 3, offset := 0, embedded := false, tag := "", pkgPath := "", byteOffset := 0 }, { name := "Sure", type := 9, offset := 1, embedded := false, tag := "", pkgPath := "", byteOffset := 8 }, { name := "Later", type := 9, offset := 2, embedded := false, tag := "", pkgPath := "", byteOffset := 24 }]) := Try.underlying24
theorem pl24 : plT Try.prog 24 = some #[(0, 1), (1, 1), (2, 1)] := by kernel_rfl
theorem fl24_0 : fldT Try.prog 24 0 = some (0, 3) := by kernel_rfl
theorem fl24_1 : fldT Try.prog 24 1 = some (1, 9) := by kernel_rfl
theorem fl24_2 : fldT Try.prog 24 2 = some (2, 9) := by kernel_rfl
theorem ld25 : ldK Try.prog 25 = some (some 3) := by kernel_rfl
theorem sz25 : szT Try.prog 25 = some 3 := by kernel_rfl
theorem sl25 : slT Try.prog 25 = none := by kernel_rfl
theorem st25 : stT Try.prog 25 = false := by kernel_rfl
theorem zc25 : zcT Try.prog 25 = some [.int .i64 0, .string ByteArray.empty, .string ByteArray.empty] := by kernel_rfl
theorem by25 : byT Try.prog 25 = some 40 := by kernel_rfl
theorem un25 : Program.underlying Try.prog 25 = some (TypeDesc.struct #[{ name := "Room", type := 3, offset := 0, embedded := false, tag := "", pkgPath := "", byteOffset := 0 }, { name := "Sure", type := 9, offset := 1, embedded := false, tag := "", pkgPath := "", byteOffset := 8 }, { name := "Later", type := 9, offset := 2, embedded := false, tag := "", pkgPath := "", byteOffset := 24 }]) := Try.underlying25
theorem pl25 : plT Try.prog 25 = some #[(0, 1), (1, 1), (2, 1)] := by kernel_rfl
theorem fl25_0 : fldT Try.prog 25 0 = some (0, 3) := by kernel_rfl
theorem fl25_1 : fldT Try.prog 25 1 = some (1, 9) := by kernel_rfl
theorem fl25_2 : fldT Try.prog 25 2 = some (2, 9) := by kernel_rfl
theorem ld26 : ldK Try.prog 26 = some (none) := by kernel_rfl
theorem sz26 : szT Try.prog 26 = some 1 := by kernel_rfl
theorem sl26 : slT Try.prog 26 = none := by kernel_rfl
theorem st26 : stT Try.prog 26 = false := by kernel_rfl
theorem zc26 : zcT Try.prog 26 = some [.nilFunc] := by kernel_rfl
theorem by26 : byT Try.prog 26 = some 8 := by kernel_rfl
theorem un26 : Program.underlying Try.prog 26 = some (TypeDesc.func #[25, 3] #[3] false) := Try.underlying26
theorem pl26 : plT Try.prog 26 = none := by kernel_rfl
theorem ld27 : ldK Try.prog 27 = some (some 3) := by kernel_rfl
theorem sz27 : szT Try.prog 27 = some 3 := by kernel_rfl
theorem sl27 : slT Try.prog 27 = none := by kernel_rfl
theorem st27 : stT Try.prog 27 = false := by kernel_rfl
theorem zc27 : zcT Try.prog 27 = some [.int .i64 0, .string ByteArray.empty, .string ByteArray.empty] := by kernel_rfl
theorem by27 : byT Try.prog 27 = some 40 := by kernel_rfl
theorem un27 : Program.underlying Try.prog 27 = some (TypeDesc.struct #[{ name := "Room", type := 3, offset := 0, embedded := false, tag := "", pkgPath := "", byteOffset := 0 }, { name := "Sure", type := 9, offset := 1, embedded := false, tag := "", pkgPath := "", byteOffset := 8 }, { name := "Later", type := 9, offset := 2, embedded := false, tag := "", pkgPath := "", byteOffset := 24 }]) := Try.underlying27
theorem pl27 : plT Try.prog 27 = some #[(0, 1), (1, 1), (2, 1)] := by kernel_rfl
theorem fl27_0 : fldT Try.prog 27 0 = some (0, 3) := by kernel_rfl
theorem fl27_1 : fldT Try.prog 27 1 = some (1, 9) := by kernel_rfl
theorem fl27_2 : fldT Try.prog 27 2 = some (2, 9) := by kernel_rfl
theorem ld29 : ldK Try.prog 29 = some (none) := by kernel_rfl
theorem sz29 : szT Try.prog 29 = some 1 := by kernel_rfl
theorem sl29 : slT Try.prog 29 = none := by kernel_rfl
theorem st29 : stT Try.prog 29 = false := by kernel_rfl
theorem zc29 : zcT Try.prog 29 = some [.nilFunc] := by kernel_rfl
theorem by29 : byT Try.prog 29 = some 8 := by kernel_rfl
theorem un29 : Program.underlying Try.prog 29 = some (TypeDesc.func #[27, 3] #[27, 4] false) := Try.underlying29
theorem pl29 : plT Try.prog 29 = none := by kernel_rfl
theorem ld30 : ldK Try.prog 30 = some (none) := by kernel_rfl
theorem sz30 : szT Try.prog 30 = some 1 := by kernel_rfl
theorem sl30 : slT Try.prog 30 = none := by kernel_rfl
theorem st30 : stT Try.prog 30 = false := by kernel_rfl
theorem zc30 : zcT Try.prog 30 = some [.nilFunc] := by kernel_rfl
theorem by30 : byT Try.prog 30 = some 8 := by kernel_rfl
theorem un30 : Program.underlying Try.prog 30 = some (TypeDesc.func #[25] #[27] false) := Try.underlying30
theorem pl30 : plT Try.prog 30 = none := by kernel_rfl
theorem ld31 : ldK Try.prog 31 = some (none) := by kernel_rfl
theorem sz31 : szT Try.prog 31 = some 1 := by kernel_rfl
theorem sl31 : slT Try.prog 31 = none := by kernel_rfl
theorem st31 : stT Try.prog 31 = false := by kernel_rfl
theorem zc31 : zcT Try.prog 31 = some [.nilFunc] := by kernel_rfl
theorem by31 : byT Try.prog 31 = some 8 := by kernel_rfl
theorem un31 : Program.underlying Try.prog 31 = some (TypeDesc.func #[27, 27] #[4] false) := Try.underlying31
theorem pl31 : plT Try.prog 31 = none := by kernel_rfl
theorem ld32 : ldK Try.prog 32 = some (none) := by kernel_rfl
theorem sz32 : szT Try.prog 32 = some 1 := by kernel_rfl
theorem sl32 : slT Try.prog 32 = none := by kernel_rfl
theorem st32 : stT Try.prog 32 = false := by kernel_rfl
theorem zc32 : zcT Try.prog 32 = some [.nilFunc] := by kernel_rfl
theorem by32 : byT Try.prog 32 = some 8 := by kernel_rfl
theorem un32 : Program.underlying Try.prog 32 = some (TypeDesc.func #[25, 3] #[4] false) := Try.underlying32
theorem pl32 : plT Try.prog 32 = none := by kernel_rfl
theorem ld33 : ldK Try.prog 33 = some (none) := by kernel_rfl
theorem sz33 : szT Try.prog 33 = some 1 := by kernel_rfl
theorem sl33 : slT Try.prog 33 = some 5 := by kernel_rfl
theorem st33 : stT Try.prog 33 = false := by kernel_rfl
theorem zc33 : zcT Try.prog 33 = some [.slice none 0 0] := by kernel_rfl
theorem by33 : byT Try.prog 33 = some 24 := by kernel_rfl
theorem un33 : Program.underlying Try.prog 33 = some (TypeDesc.slice 5) := Try.underlying33
theorem pl33 : plT Try.prog 33 = none := by kernel_rfl
theorem ld34 : ldK Try.prog 34 = some (none) := by kernel_rfl
theorem sz34 : szT Try.prog 34 = some 1 := by kernel_rfl
theorem sl34 : slT Try.prog 34 = none := by kernel_rfl
theorem st34 : stT Try.prog 34 = false := by kernel_rfl
theorem zc34 : zcT Try.prog 34 = some [.nilFunc] := by kernel_rfl
theorem by34 : byT Try.prog 34 = some 8 := by kernel_rfl
theorem un34 : Program.underlying Try.prog 34 = some (TypeDesc.func #[33, 33] #[4] false) := Try.underlying34
theorem pl34 : plT Try.prog 34 = none := by kernel_rfl
theorem ld36 : ldK Try.prog 36 = some (none) := by kernel_rfl
theorem sz36 : szT Try.prog 36 = some 1 := by kernel_rfl
theorem sl36 : slT Try.prog 36 = none := by kernel_rfl
theorem st36 : stT Try.prog 36 = false := by kernel_rfl
theorem zc36 : zcT Try.prog 36 = some [.nilFunc] := by kernel_rfl
theorem by36 : byT Try.prog 36 = some 8 := by kernel_rfl
theorem un36 : Program.underlying Try.prog 36 = some (TypeDesc.func #[33] #[3, 3, 3, 3, 4] false) := Try.underlying36
theorem pl36 : plT Try.prog 36 = none := by kernel_rfl
theorem ld37 : ldK Try.prog 37 = some (some 6) := by kernel_rfl
theorem sz37 : szT Try.prog 37 = some 6 := by kernel_rfl
theorem sl37 : slT Try.prog 37 = none := by kernel_rfl
theorem st37 : stT Try.prog 37 = false := by kernel_rfl
theorem zc37 : zcT Try.prog 37 = some [.int .i64 0, .int .i64 0, .int .i64 0, .int .i64 0, .int .i64 0, .bool false] := by kernel_rfl
theorem by37 : byT Try.prog 37 = some 48 := by kernel_rfl
theorem un37 : Program.underlying Try.prog 37 = some (TypeDesc.struct #[{ name := "Least", type := 3, offset := 0, embedded := false, tag := "", pkgPath := "", byteOffset := 0 }, { name := "Most", type := 3, offset := 1, embedded := false, tag := "", pkgPath := "", byteOffset := 8 }, { name := "Enough", type := 3, offset := 2, embedded := false, tag := "", pkgPath := "", byteOffset := 16 }, { name := "Made", type := 3, offset := 3, embedded := false, tag := "", pkgPath := "", byteOffset := 24 }, { name := "Done", type := 3, offset := 4, embedded := false, tag := "", pkgPath := "", byteOffset := 32 }, { name := "Open", type := 4, offset := 5, embedded := false, tag := "", pkgPath := "", byteOffset := 40 }]) := Try.underlying37
theorem pl37 : plT Try.prog 37 = some #[(0, 1), (1, 1), (2, 1), (3, 1), (4, 1), (5, 1)] := by kernel_rfl
theorem fl37_0 : fldT Try.prog 37 0 = some (0, 3) := by kernel_rfl
theorem fl37_1 : fldT Try.prog 37 1 = some (1, 3) := by kernel_rfl
theorem fl37_2 : fldT Try.prog 37 2 = some (2, 3) := by kernel_rfl
theorem fl37_3 : fldT Try.prog 37 3 = some (3, 3) := by kernel_rfl
theorem fl37_4 : fldT Try.prog 37 4 = some (4, 3) := by kernel_rfl
theorem fl37_5 : fldT Try.prog 37 5 = some (5, 4) := by kernel_rfl
theorem ld38 : ldK Try.prog 38 = some (some 6) := by kernel_rfl
theorem sz38 : szT Try.prog 38 = some 6 := by kernel_rfl
theorem sl38 : slT Try.prog 38 = none := by kernel_rfl
theorem st38 : stT Try.prog 38 = false := by kernel_rfl
theorem zc38 : zcT Try.prog 38 = some [.int .i64 0, .int .i64 0, .int .i64 0, .int .i64 0, .int .i64 0, .bool false] := by kernel_rfl
theorem by38 : byT Try.prog 38 = some 48 := by kernel_rfl
theorem un38 : Program.underlying Try.prog 38 = some (TypeDesc.struct #[{ name := "Least", type := 3, offset := 0, embedded := false, tag := "", pkgPath := "", byteOffset := 0 }, { name := "Most", type := 3, offset := 1, embedded := false, tag := "", pkgPath := "", byteOffset := 8 }, { name := "Enough", type := 3, offset := 2, embedded := false, tag := "", pkgPath := "", byteOffset := 16 }, { name := "Made", type := 3, offset := 3, embedded := false, tag := "", pkgPath := "", byteOffset := 24 }, { name := "Done", type := 3, offset := 4, embedded := false, tag := "", pkgPath := "", byteOffset := 32 }, { name := "Open", type := 4, offset := 5, embedded := false, tag := "", pkgPath := "", byteOffset := 40 }]) := Try.underlying38
theorem pl38 : plT Try.prog 38 = some #[(0, 1), (1, 1), (2, 1), (3, 1), (4, 1), (5, 1)] := by kernel_rfl
theorem fl38_0 : fldT Try.prog 38 0 = some (0, 3) := by kernel_rfl
theorem fl38_1 : fldT Try.prog 38 1 = some (1, 3) := by kernel_rfl
theorem fl38_2 : fldT Try.prog 38 2 = some (2, 3) := by kernel_rfl
theorem fl38_3 : fldT Try.prog 38 3 = some (3, 3) := by kernel_rfl
theorem fl38_4 : fldT Try.prog 38 4 = some (4, 3) := by kernel_rfl
theorem fl38_5 : fldT Try.prog 38 5 = some (5, 4) := by kernel_rfl
theorem ld40 : ldK Try.prog 40 = some (none) := by kernel_rfl
theorem sz40 : szT Try.prog 40 = some 1 := by kernel_rfl
theorem sl40 : slT Try.prog 40 = none := by kernel_rfl
theorem st40 : stT Try.prog 40 = false := by kernel_rfl
theorem zc40 : zcT Try.prog 40 = some [.nilFunc] := by kernel_rfl
theorem by40 : byT Try.prog 40 = some 8 := by kernel_rfl
theorem un40 : Program.underlying Try.prog 40 = some (TypeDesc.func #[3, 3, 3, 3, 4] #[38, 4] false) := Try.underlying40
theorem pl40 : plT Try.prog 40 = none := by kernel_rfl
theorem ld41 : ldK Try.prog 41 = some (none) := by kernel_rfl
theorem sz41 : szT Try.prog 41 = some 1 := by kernel_rfl
theorem sl41 : slT Try.prog 41 = some 3 := by kernel_rfl
theorem st41 : stT Try.prog 41 = false := by kernel_rfl
theorem zc41 : zcT Try.prog 41 = some [.slice none 0 0] := by kernel_rfl
theorem by41 : byT Try.prog 41 = some 24 := by kernel_rfl
theorem un41 : Program.underlying Try.prog 41 = some (TypeDesc.slice 3) := Try.underlying41
theorem pl41 : plT Try.prog 41 = none := by kernel_rfl
theorem ld42 : ldK Try.prog 42 = some (none) := by kernel_rfl
theorem sz42 : szT Try.prog 42 = some 1 := by kernel_rfl
theorem sl42 : slT Try.prog 42 = some 4 := by kernel_rfl
theorem st42 : stT Try.prog 42 = false := by kernel_rfl
theorem zc42 : zcT Try.prog 42 = some [.slice none 0 0] := by kernel_rfl
theorem by42 : byT Try.prog 42 = some 24 := by kernel_rfl
theorem un42 : Program.underlying Try.prog 42 = some (TypeDesc.slice 4) := Try.underlying42
theorem pl42 : plT Try.prog 42 = none := by kernel_rfl
theorem ld44 : ldK Try.prog 44 = some (none) := by kernel_rfl
theorem sz44 : szT Try.prog 44 = some 1 := by kernel_rfl
theorem sl44 : slT Try.prog 44 = none := by kernel_rfl
theorem st44 : stT Try.prog 44 = false := by kernel_rfl
theorem zc44 : zcT Try.prog 44 = some [.nilFunc] := by kernel_rfl
theorem by44 : byT Try.prog 44 = some 8 := by kernel_rfl
theorem un44 : Program.underlying Try.prog 44 = some (TypeDesc.func #[38, 41] #[38, 42, 4] false) := Try.underlying44
theorem pl44 : plT Try.prog 44 = none := by kernel_rfl
theorem ld46 : ldK Try.prog 46 = some (none) := by kernel_rfl
theorem sz46 : szT Try.prog 46 = some 1 := by kernel_rfl
theorem sl46 : slT Try.prog 46 = none := by kernel_rfl
theorem st46 : stT Try.prog 46 = false := by kernel_rfl
theorem zc46 : zcT Try.prog 46 = some [.nilFunc] := by kernel_rfl
theorem by46 : byT Try.prog 46 = some 8 := by kernel_rfl
theorem un46 : Program.underlying Try.prog 46 = some (TypeDesc.func #[38] #[4, 4] false) := Try.underlying46
theorem pl46 : plT Try.prog 46 = none := by kernel_rfl
theorem ld47 : ldK Try.prog 47 = some (none) := by kernel_rfl
theorem sz47 : szT Try.prog 47 = some 1 := by kernel_rfl
theorem sl47 : slT Try.prog 47 = none := by kernel_rfl
theorem st47 : stT Try.prog 47 = false := by kernel_rfl
theorem zc47 : zcT Try.prog 47 = some [.nilFunc] := by kernel_rfl
theorem by47 : byT Try.prog 47 = some 8 := by kernel_rfl
theorem un47 : Program.underlying Try.prog 47 = some (TypeDesc.func #[33] #[38] false) := Try.underlying47
theorem pl47 : plT Try.prog 47 = none := by kernel_rfl
theorem ld48 : ldK Try.prog 48 = some (none) := by kernel_rfl
theorem sz48 : szT Try.prog 48 = some 1 := by kernel_rfl
theorem sl48 : slT Try.prog 48 = some 70 := by kernel_rfl
theorem st48 : stT Try.prog 48 = false := by kernel_rfl
theorem zc48 : zcT Try.prog 48 = some [.slice none 0 0] := by kernel_rfl
theorem by48 : byT Try.prog 48 = some 24 := by kernel_rfl
theorem un48 : Program.underlying Try.prog 48 = some (TypeDesc.slice 70) := Try.underlying48
theorem pl48 : plT Try.prog 48 = none := by kernel_rfl
theorem ld50 : ldK Try.prog 50 = some (none) := by kernel_rfl
theorem sz50 : szT Try.prog 50 = some 1 := by kernel_rfl
theorem sl50 : slT Try.prog 50 = none := by kernel_rfl
theorem st50 : stT Try.prog 50 = false := by kernel_rfl
theorem zc50 : zcT Try.prog 50 = some [.nilFunc] := by kernel_rfl
theorem by50 : byT Try.prog 50 = some 8 := by kernel_rfl
theorem un50 : Program.underlying Try.prog 50 = some (TypeDesc.func #[9] #[48, 3, 4] false) := Try.underlying50
theorem pl50 : plT Try.prog 50 = none := by kernel_rfl
theorem ld51 : ldK Try.prog 51 = some (none) := by kernel_rfl
theorem sz51 : szT Try.prog 51 = some 1 := by kernel_rfl
theorem sl51 : slT Try.prog 51 = none := by kernel_rfl
theorem st51 : stT Try.prog 51 = false := by kernel_rfl
theorem zc51 : zcT Try.prog 51 = some [.nilFunc] := by kernel_rfl
theorem by51 : byT Try.prog 51 = some 8 := by kernel_rfl
theorem un51 : Program.underlying Try.prog 51 = some (TypeDesc.func #[48, 48] #[4] false) := Try.underlying51
theorem pl51 : plT Try.prog 51 = none := by kernel_rfl
theorem ld52 : ldK Try.prog 52 = some (none) := by kernel_rfl
theorem sz52 : szT Try.prog 52 = some 1 := by kernel_rfl
theorem sl52 : slT Try.prog 52 = none := by kernel_rfl
theorem st52 : stT Try.prog 52 = false := by kernel_rfl
theorem zc52 : zcT Try.prog 52 = some [.nilFunc] := by kernel_rfl
theorem by52 : byT Try.prog 52 = some 8 := by kernel_rfl
theorem un52 : Program.underlying Try.prog 52 = some (TypeDesc.func #[48, 3] #[3] false) := Try.underlying52
theorem pl52 : plT Try.prog 52 = none := by kernel_rfl
theorem ld53 : ldK Try.prog 53 = some (none) := by kernel_rfl
theorem sz53 : szT Try.prog 53 = some 1 := by kernel_rfl
theorem sl53 : slT Try.prog 53 = none := by kernel_rfl
theorem st53 : stT Try.prog 53 = false := by kernel_rfl
theorem zc53 : zcT Try.prog 53 = some [.nilFunc] := by kernel_rfl
theorem by53 : byT Try.prog 53 = some 8 := by kernel_rfl
theorem un53 : Program.underlying Try.prog 53 = some (TypeDesc.func #[3, 3, 3] #[4] false) := Try.underlying53
theorem pl53 : plT Try.prog 53 = none := by kernel_rfl
theorem ld54 : ldK Try.prog 54 = some (none) := by kernel_rfl
theorem sz54 : szT Try.prog 54 = some 1 := by kernel_rfl
theorem sl54 : slT Try.prog 54 = none := by kernel_rfl
theorem st54 : stT Try.prog 54 = false := by kernel_rfl
theorem zc54 : zcT Try.prog 54 = some [.nilFunc] := by kernel_rfl
theorem by54 : byT Try.prog 54 = some 8 := by kernel_rfl
theorem un54 : Program.underlying Try.prog 54 = some (TypeDesc.func #[27] #[4] false) := Try.underlying54
theorem pl54 : plT Try.prog 54 = none := by kernel_rfl
theorem ld55 : ldK Try.prog 55 = some (none) := by kernel_rfl
theorem sz55 : szT Try.prog 55 = some 1 := by kernel_rfl
theorem sl55 : slT Try.prog 55 = none := by kernel_rfl
theorem st55 : stT Try.prog 55 = false := by kernel_rfl
theorem zc55 : zcT Try.prog 55 = some [.pointer none] := by kernel_rfl
theorem by55 : byT Try.prog 55 = some 8 := by kernel_rfl
theorem un55 : Program.underlying Try.prog 55 = some (TypeDesc.pointer 58) := Try.underlying55
theorem pl55 : plT Try.prog 55 = none := by kernel_rfl
theorem ld56 : ldK Try.prog 56 = some (none) := by kernel_rfl
theorem sz56 : szT Try.prog 56 = some 1 := by kernel_rfl
theorem sl56 : slT Try.prog 56 = none := by kernel_rfl
theorem st56 : stT Try.prog 56 = false := by kernel_rfl
theorem zc56 : zcT Try.prog 56 = some [.int .u64 0] := by kernel_rfl
theorem by56 : byT Try.prog 56 = some 8 := by kernel_rfl
theorem un56 : Program.underlying Try.prog 56 = some (TypeDesc.int IntKind.u64) := Try.underlying56
theorem pl56 : plT Try.prog 56 = none := by kernel_rfl
theorem ld57 : ldK Try.prog 57 = some (some 3) := by kernel_rfl
theorem sz57 : szT Try.prog 57 = some 3 := by kernel_rfl
theorem sl57 : slT Try.prog 57 = none := by kernel_rfl
theorem st57 : stT Try.prog 57 = false := by kernel_rfl
theorem zc57 : zcT Try.prog 57 = some [.slice none 0 0, .int .i64 0, .int .u64 0] := by kernel_rfl
theorem by57 : byT Try.prog 57 = some 40 := by kernel_rfl
theorem un57 : Program.underlying Try.prog 57 = some (TypeDesc.struct #[{ name := "code", type := 33, offset := 0, embedded := false, tag := "", pkgPath := "loop.example/g00662/spec", byteOffset := 0 }, { name := "at", type := 3, offset := 1, embedded := false, tag := "", pkgPath := "loop.example/g00662/spec", byteOffset := 24 }, { name := "seed", type := 56, offset := 2, embedded := false, tag := "", pkgPath := "loop.example/g00662/spec", byteOffset := 32 }]) := Try.underlying57
theorem pl57 : plT Try.prog 57 = some #[(0, 1), (1, 1), (2, 1)] := by kernel_rfl
theorem fl57_0 : fldT Try.prog 57 0 = some (0, 33) := by kernel_rfl
theorem fl57_1 : fldT Try.prog 57 1 = some (1, 3) := by kernel_rfl
theorem fl57_2 : fldT Try.prog 57 2 = some (2, 56) := by kernel_rfl
theorem ld58 : ldK Try.prog 58 = some (some 3) := by kernel_rfl
theorem sz58 : szT Try.prog 58 = some 3 := by kernel_rfl
theorem sl58 : slT Try.prog 58 = none := by kernel_rfl
theorem st58 : stT Try.prog 58 = false := by kernel_rfl
theorem zc58 : zcT Try.prog 58 = some [.slice none 0 0, .int .i64 0, .int .u64 0] := by kernel_rfl
theorem by58 : byT Try.prog 58 = some 40 := by kernel_rfl
theorem un58 : Program.underlying Try.prog 58 = some (TypeDesc.struct #[{ name := "code", type := 33, offset := 0, embedded := false, tag := "", pkgPath := "loop.example/g00662/spec", byteOffset := 0 }, { name := "at", type := 3, offset := 1, embedded := false, tag := "", pkgPath := "loop.example/g00662/spec", byteOffset := 24 }, { name := "seed", type := 56, offset := 2, embedded := false, tag := "", pkgPath := "loop.example/g00662/spec", byteOffset := 32 }]) := Try.underlying58
theorem pl58 : plT Try.prog 58 = some #[(0, 1), (1, 1), (2, 1)] := by kernel_rfl
theorem fl58_0 : fldT Try.prog 58 0 = some (0, 33) := by kernel_rfl
theorem fl58_1 : fldT Try.prog 58 1 = some (1, 3) := by kernel_rfl
theorem fl58_2 : fldT Try.prog 58 2 = some (2, 56) := by kernel_rfl
theorem ld59 : ldK Try.prog 59 = some (none) := by kernel_rfl
theorem sz59 : szT Try.prog 59 = some 1 := by kernel_rfl
theorem sl59 : slT Try.prog 59 = none := by kernel_rfl
theorem st59 : stT Try.prog 59 = false := by kernel_rfl
theorem zc59 : zcT Try.prog 59 = some [.nilFunc] := by kernel_rfl
theorem by59 : byT Try.prog 59 = some 8 := by kernel_rfl
theorem un59 : Program.underlying Try.prog 59 = some (TypeDesc.func #[] #[38] false) := Try.underlying59
theorem pl59 : plT Try.prog 59 = none := by kernel_rfl
theorem ld60 : ldK Try.prog 60 = some (none) := by kernel_rfl
theorem sz60 : szT Try.prog 60 = some 1 := by kernel_rfl
theorem sl60 : slT Try.prog 60 = none := by kernel_rfl
theorem st60 : stT Try.prog 60 = false := by kernel_rfl
theorem zc60 : zcT Try.prog 60 = some [.nilFunc] := by kernel_rfl
theorem by60 : byT Try.prog 60 = some 8 := by kernel_rfl
theorem un60 : Program.underlying Try.prog 60 = some (TypeDesc.func #[38] #[4] false) := Try.underlying60
theorem pl60 : plT Try.prog 60 = none := by kernel_rfl
theorem ld61 : ldK Try.prog 61 = some (none) := by kernel_rfl
theorem sz61 : szT Try.prog 61 = some 1 := by kernel_rfl
theorem sl61 : slT Try.prog 61 = none := by kernel_rfl
theorem st61 : stT Try.prog 61 = false := by kernel_rfl
theorem zc61 : zcT Try.prog 61 = some [.nilFunc] := by kernel_rfl
theorem by61 : byT Try.prog 61 = some 8 := by kernel_rfl
theorem un61 : Program.underlying Try.prog 61 = some (TypeDesc.func #[38, 3] #[38, 4] false) := Try.underlying61
theorem pl61 : plT Try.prog 61 = none := by kernel_rfl
theorem ld62 : ldK Try.prog 62 = some (none) := by kernel_rfl
theorem sz62 : szT Try.prog 62 = some 1 := by kernel_rfl
theorem sl62 : slT Try.prog 62 = none := by kernel_rfl
theorem st62 : stT Try.prog 62 = false := by kernel_rfl
theorem zc62 : zcT Try.prog 62 = some [.nilFunc] := by kernel_rfl
theorem by62 : byT Try.prog 62 = some 8 := by kernel_rfl
theorem un62 : Program.underlying Try.prog 62 = some (TypeDesc.func #[9, 3] #[48, 3, 4] false) := Try.underlying62
theorem pl62 : plT Try.prog 62 = none := by kernel_rfl
theorem ld63 : ldK Try.prog 63 = some (none) := by kernel_rfl
theorem sz63 : szT Try.prog 63 = some 1 := by kernel_rfl
theorem sl63 : slT Try.prog 63 = none := by kernel_rfl
theorem st63 : stT Try.prog 63 = false := by kernel_rfl
theorem zc63 : zcT Try.prog 63 = some [.nilFunc] := by kernel_rfl
theorem by63 : byT Try.prog 63 = some 8 := by kernel_rfl
theorem un63 : Program.underlying Try.prog 63 = some (TypeDesc.func #[48] #[4] false) := Try.underlying63
theorem pl63 : plT Try.prog 63 = none := by kernel_rfl
theorem ld64 : ldK Try.prog 64 = some (none) := by kernel_rfl
theorem sz64 : szT Try.prog 64 = some 1 := by kernel_rfl
theorem sl64 : slT Try.prog 64 = none := by kernel_rfl
theorem st64 : stT Try.prog 64 = false := by kernel_rfl
theorem zc64 : zcT Try.prog 64 = some [.pointer none] := by kernel_rfl
theorem by64 : byT Try.prog 64 = some 8 := by kernel_rfl
theorem un64 : Program.underlying Try.prog 64 = some (TypeDesc.pointer 66) := Try.underlying64
theorem pl64 : plT Try.prog 64 = none := by kernel_rfl
theorem ld65 : ldK Try.prog 65 = some (some 3) := by kernel_rfl
theorem sz65 : szT Try.prog 65 = some 3 := by kernel_rfl
theorem sl65 : slT Try.prog 65 = none := by kernel_rfl
theorem st65 : stT Try.prog 65 = false := by kernel_rfl
theorem zc65 : zcT Try.prog 65 = some [.string ByteArray.empty, .int .i64 0, .slice none 0 0] := by kernel_rfl
theorem by65 : byT Try.prog 65 = some 48 := by kernel_rfl
theorem un65 : Program.underlying Try.prog 65 = some (TypeDesc.struct #[{ name := "s", type := 9, offset := 0, embedded := false, tag := "", pkgPath := "loop.example/g00662/impl", byteOffset := 0 }, { name := "at", type := 3, offset := 1, embedded := false, tag := "", pkgPath := "loop.example/g00662/impl", byteOffset := 16 }, { name := "tree", type := 48, offset := 2, embedded := false, tag := "", pkgPath := "loop.example/g00662/impl", byteOffset := 24 }]) := Try.underlying65
theorem pl65 : plT Try.prog 65 = some #[(0, 1), (1, 1), (2, 1)] := by kernel_rfl
theorem fl65_0 : fldT Try.prog 65 0 = some (0, 9) := by kernel_rfl
theorem fl65_1 : fldT Try.prog 65 1 = some (1, 3) := by kernel_rfl
theorem fl65_2 : fldT Try.prog 65 2 = some (2, 48) := by kernel_rfl
theorem ld66 : ldK Try.prog 66 = some (some 3) := by kernel_rfl
theorem sz66 : szT Try.prog 66 = some 3 := by kernel_rfl
theorem sl66 : slT Try.prog 66 = none := by kernel_rfl
theorem st66 : stT Try.prog 66 = false := by kernel_rfl
theorem zc66 : zcT Try.prog 66 = some [.string ByteArray.empty, .int .i64 0, .slice none 0 0] := by kernel_rfl
theorem by66 : byT Try.prog 66 = some 48 := by kernel_rfl
theorem un66 : Program.underlying Try.prog 66 = some (TypeDesc.struct #[{ name := "s", type := 9, offset := 0, embedded := false, tag := "", pkgPath := "loop.example/g00662/impl", byteOffset := 0 }, { name := "at", type := 3, offset := 1, embedded := false, tag := "", pkgPath := "loop.example/g00662/impl", byteOffset := 16 }, { name := "tree", type := 48, offset := 2, embedded := false, tag := "", pkgPath := "loop.example/g00662/impl", byteOffset := 24 }]) := Try.underlying66
theorem pl66 : plT Try.prog 66 = some #[(0, 1), (1, 1), (2, 1)] := by kernel_rfl
theorem fl66_0 : fldT Try.prog 66 0 = some (0, 9) := by kernel_rfl
theorem fl66_1 : fldT Try.prog 66 1 = some (1, 3) := by kernel_rfl
theorem fl66_2 : fldT Try.prog 66 2 = some (2, 48) := by kernel_rfl
theorem ld67 : ldK Try.prog 67 = some (none) := by kernel_rfl
theorem sz67 : szT Try.prog 67 = some 1 := by kernel_rfl
theorem sl67 : slT Try.prog 67 = none := by kernel_rfl
theorem st67 : stT Try.prog 67 = false := by kernel_rfl
theorem zc67 : zcT Try.prog 67 = some [.nilFunc] := by kernel_rfl
theorem by67 : byT Try.prog 67 = some 8 := by kernel_rfl
theorem un67 : Program.underlying Try.prog 67 = some (TypeDesc.func #[] #[4] false) := Try.underlying67
theorem pl67 : plT Try.prog 67 = none := by kernel_rfl
theorem ld68 : ldK Try.prog 68 = some (none) := by kernel_rfl
theorem sz68 : szT Try.prog 68 = some 1 := by kernel_rfl
theorem sl68 : slT Try.prog 68 = none := by kernel_rfl
theorem st68 : stT Try.prog 68 = false := by kernel_rfl
theorem zc68 : zcT Try.prog 68 = some [.nilFunc] := by kernel_rfl
theorem by68 : byT Try.prog 68 = some 8 := by kernel_rfl
theorem un68 : Program.underlying Try.prog 68 = some (TypeDesc.func #[70, 70] #[4] false) := Try.underlying68
theorem pl68 : plT Try.prog 68 = none := by kernel_rfl
theorem ld69 : ldK Try.prog 69 = some (some 2) := by kernel_rfl
theorem sz69 : szT Try.prog 69 = some 2 := by kernel_rfl
theorem sl69 : slT Try.prog 69 = none := by kernel_rfl
theorem st69 : stT Try.prog 69 = false := by kernel_rfl
theorem zc69 : zcT Try.prog 69 = some [.int .i64 0, .int .i64 0] := by kernel_rfl
theorem by69 : byT Try.prog 69 = some 16 := by kernel_rfl
theorem un69 : Program.underlying Try.prog 69 = some (TypeDesc.struct #[{ name := "Op", type := 3, offset := 0, embedded := false, tag := "", pkgPath := "", byteOffset := 0 }, { name := "N", type := 3, offset := 1, embedded := false, tag := "", pkgPath := "", byteOffset := 8 }]) := Try.underlying69
theorem pl69 : plT Try.prog 69 = some #[(0, 1), (1, 1)] := by kernel_rfl
theorem fl69_0 : fldT Try.prog 69 0 = some (0, 3) := by kernel_rfl
theorem fl69_1 : fldT Try.prog 69 1 = some (1, 3) := by kernel_rfl
theorem ld70 : ldK Try.prog 70 = some (some 2) := by kernel_rfl
theorem sz70 : szT Try.prog 70 = some 2 := by kernel_rfl
theorem sl70 : slT Try.prog 70 = none := by kernel_rfl
theorem st70 : stT Try.prog 70 = false := by kernel_rfl
theorem zc70 : zcT Try.prog 70 = some [.int .i64 0, .int .i64 0] := by kernel_rfl
theorem by70 : byT Try.prog 70 = some 16 := by kernel_rfl
theorem un70 : Program.underlying Try.prog 70 = some (TypeDesc.struct #[{ name := "Op", type := 3, offset := 0, embedded := false, tag := "", pkgPath := "", byteOffset := 0 }, { name := "N", type := 3, offset := 1, embedded := false, tag := "", pkgPath := "", byteOffset := 8 }]) := Try.underlying70
theorem pl70 : plT Try.prog 70 = some #[(0, 1), (1, 1)] := by kernel_rfl
theorem fl70_0 : fldT Try.prog 70 0 = some (0, 3) := by kernel_rfl
theorem fl70_1 : fldT Try.prog 70 1 = some (1, 3) := by kernel_rfl
theorem ld71 : ldK Try.prog 71 = some (none) := by kernel_rfl
theorem sz71 : szT Try.prog 71 = some 1 := by kernel_rfl
theorem sl71 : slT Try.prog 71 = none := by kernel_rfl
theorem st71 : stT Try.prog 71 = false := by kernel_rfl
theorem zc71 : zcT Try.prog 71 = some [.nilFunc] := by kernel_rfl
theorem by71 : byT Try.prog 71 = some 8 := by kernel_rfl
theorem un71 : Program.underlying Try.prog 71 = some (TypeDesc.func #[3] #[4] false) := Try.underlying71
theorem pl71 : plT Try.prog 71 = none := by kernel_rfl
theorem ld72 : ldK Try.prog 72 = some (none) := by kernel_rfl
theorem sz72 : szT Try.prog 72 = some 1 := by kernel_rfl
theorem sl72 : slT Try.prog 72 = none := by kernel_rfl
theorem st72 : stT Try.prog 72 = false := by kernel_rfl
theorem zc72 : zcT Try.prog 72 = some [.nilFunc] := by kernel_rfl
theorem by72 : byT Try.prog 72 = some 8 := by kernel_rfl
theorem un72 : Program.underlying Try.prog 72 = some (TypeDesc.func #[3] #[3] false) := Try.underlying72
theorem pl72 : plT Try.prog 72 = none := by kernel_rfl
theorem ld73 : ldK Try.prog 73 = some (none) := by kernel_rfl
theorem sz73 : szT Try.prog 73 = some 1 := by kernel_rfl
theorem sl73 : slT Try.prog 73 = none := by kernel_rfl
theorem st73 : stT Try.prog 73 = false := by kernel_rfl
theorem zc73 : zcT Try.prog 73 = some [.nilFunc] := by kernel_rfl
theorem by73 : byT Try.prog 73 = some 8 := by kernel_rfl
theorem un73 : Program.underlying Try.prog 73 = some (TypeDesc.func #[3, 3] #[3] false) := Try.underlying73
theorem pl73 : plT Try.prog 73 = none := by kernel_rfl
theorem ld74 : ldK Try.prog 74 = some (none) := by kernel_rfl
theorem sz74 : szT Try.prog 74 = some 1 := by kernel_rfl
theorem sl74 : slT Try.prog 74 = none := by kernel_rfl
theorem st74 : stT Try.prog 74 = false := by kernel_rfl
theorem zc74 : zcT Try.prog 74 = some [.nilFunc] := by kernel_rfl
theorem by74 : byT Try.prog 74 = some 8 := by kernel_rfl
theorem un74 : Program.underlying Try.prog 74 = some (TypeDesc.func #[41] #[3] false) := Try.underlying74
theorem pl74 : plT Try.prog 74 = none := by kernel_rfl
theorem ld75 : ldK Try.prog 75 = some (none) := by kernel_rfl
theorem sz75 : szT Try.prog 75 = some 1 := by kernel_rfl
theorem sl75 : slT Try.prog 75 = none := by kernel_rfl
theorem st75 : stT Try.prog 75 = false := by kernel_rfl
theorem zc75 : zcT Try.prog 75 = some [.nilFunc] := by kernel_rfl
theorem by75 : byT Try.prog 75 = some 8 := by kernel_rfl
theorem un75 : Program.underlying Try.prog 75 = some (TypeDesc.func #[] #[5] false) := Try.underlying75
theorem pl75 : plT Try.prog 75 = none := by kernel_rfl
theorem ld76 : ldK Try.prog 76 = some (none) := by kernel_rfl
theorem sz76 : szT Try.prog 76 = some 1 := by kernel_rfl
theorem sl76 : slT Try.prog 76 = none := by kernel_rfl
theorem st76 : stT Try.prog 76 = false := by kernel_rfl
theorem zc76 : zcT Try.prog 76 = some [.nilFunc] := by kernel_rfl
theorem by76 : byT Try.prog 76 = some 8 := by kernel_rfl
theorem un76 : Program.underlying Try.prog 76 = some (TypeDesc.func #[9, 5] #[3] false) := Try.underlying76
theorem pl76 : plT Try.prog 76 = none := by kernel_rfl
theorem ld77 : ldK Try.prog 77 = some (none) := by kernel_rfl
theorem sz77 : szT Try.prog 77 = some 1 := by kernel_rfl
theorem sl77 : slT Try.prog 77 = none := by kernel_rfl
theorem st77 : stT Try.prog 77 = false := by kernel_rfl
theorem zc77 : zcT Try.prog 77 = some [.nilFunc] := by kernel_rfl
theorem by77 : byT Try.prog 77 = some 8 := by kernel_rfl
theorem un77 : Program.underlying Try.prog 77 = some (TypeDesc.func #[] #[3] false) := Try.underlying77
theorem pl77 : plT Try.prog 77 = none := by kernel_rfl
theorem ld78 : ldK Try.prog 78 = some (none) := by kernel_rfl
theorem sz78 : szT Try.prog 78 = some 1 := by kernel_rfl
theorem sl78 : slT Try.prog 78 = none := by kernel_rfl
theorem st78 : stT Try.prog 78 = false := by kernel_rfl
theorem zc78 : zcT Try.prog 78 = some [.int .u64 0] := by kernel_rfl
theorem by78 : byT Try.prog 78 = some 8 := by kernel_rfl
theorem un78 : Program.underlying Try.prog 78 = some (TypeDesc.int IntKind.u64) := Try.underlying78
theorem pl78 : plT Try.prog 78 = none := by kernel_rfl
theorem ld79 : ldK Try.prog 79 = some (none) := by kernel_rfl
theorem sz79 : szT Try.prog 79 = some 1 := by kernel_rfl
theorem sl79 : slT Try.prog 79 = none := by kernel_rfl
theorem st79 : stT Try.prog 79 = false := by kernel_rfl
theorem zc79 : zcT Try.prog 79 = some [.nilFunc] := by kernel_rfl
theorem by79 : byT Try.prog 79 = some 8 := by kernel_rfl
theorem un79 : Program.underlying Try.prog 79 = some (TypeDesc.func #[] #[9] false) := Try.underlying79
theorem pl79 : plT Try.prog 79 = none := by kernel_rfl
theorem ld80 : ldK Try.prog 80 = some (some 4) := by kernel_rfl
theorem sz80 : szT Try.prog 80 = some 4 := by kernel_rfl
theorem sl80 : slT Try.prog 80 = none := by kernel_rfl
theorem st80 : stT Try.prog 80 = false := by kernel_rfl
theorem zc80 : zcT Try.prog 80 = some [.pointer none, .pointer none, .pointer none, .string ByteArray.empty] := by kernel_rfl
theorem by80 : byT Try.prog 80 = some 40 := by kernel_rfl
theorem un80 : Program.underlying Try.prog 80 = some (TypeDesc.struct #[{ name := "_interface", type := 17, offset := 0, embedded := false, tag := "", pkgPath := "runtime", byteOffset := 0 }, { name := "concrete", type := 17, offset := 1, embedded := false, tag := "", pkgPath := "runtime", byteOffset := 8 }, { name := "asserted", type := 17, offset := 2, embedded := false, tag := "", pkgPath := "runtime", byteOffset := 16 }, { name := "missingMethod", type := 9, offset := 3, embedded := false, tag := "", pkgPath := "runtime", byteOffset := 24 }]) := Try.underlying80
theorem pl80 : plT Try.prog 80 = some #[(0, 1), (1, 1), (2, 1), (3, 1)] := by kernel_rfl
theorem fl80_0 : fldT Try.prog 80 0 = some (0, 17) := by kernel_rfl
theorem fl80_1 : fldT Try.prog 80 1 = some (1, 17) := by kernel_rfl
theorem fl80_2 : fldT Try.prog 80 2 = some (2, 17) := by kernel_rfl
theorem fl80_3 : fldT Try.prog 80 3 = some (3, 9) := by kernel_rfl
theorem ld81 : ldK Try.prog 81 = some (some 4) := by kernel_rfl
theorem sz81 : szT Try.prog 81 = some 4 := by kernel_rfl
theorem sl81 : slT Try.prog 81 = none := by kernel_rfl
theorem st81 : stT Try.prog 81 = false := by kernel_rfl
theorem zc81 : zcT Try.prog 81 = some [.pointer none, .pointer none, .pointer none, .string ByteArray.empty] := by kernel_rfl
theorem by81 : byT Try.prog 81 = some 40 := by kernel_rfl
theorem un81 : Program.underlying Try.prog 81 = some (TypeDesc.struct #[{ name := "_interface", type := 17, offset := 0, embedded := false, tag := "", pkgPath := "runtime", byteOffset := 0 }, { name := "concrete", type := 17, offset := 1, embedded := false, tag := "", pkgPath := "runtime", byteOffset := 8 }, { name := "asserted", type := 17, offset := 2, embedded := false, tag := "", pkgPath := "runtime", byteOffset := 16 }, { name := "missingMethod", type := 9, offset := 3, embedded := false, tag := "", pkgPath := "runtime", byteOffset := 24 }]) := Try.underlying81
theorem pl81 : plT Try.prog 81 = some #[(0, 1), (1, 1), (2, 1), (3, 1)] := by kernel_rfl
theorem fl81_0 : fldT Try.prog 81 0 = some (0, 17) := by kernel_rfl
theorem fl81_1 : fldT Try.prog 81 1 = some (1, 17) := by kernel_rfl
theorem fl81_2 : fldT Try.prog 81 2 = some (2, 17) := by kernel_rfl
theorem fl81_3 : fldT Try.prog 81 3 = some (3, 9) := by kernel_rfl
theorem ld82 : ldK Try.prog 82 = some (some 0) := by kernel_rfl
theorem sz82 : szT Try.prog 82 = some 0 := by kernel_rfl
theorem sl82 : slT Try.prog 82 = none := by kernel_rfl
theorem st82 : stT Try.prog 82 = false := by kernel_rfl
theorem zc82 : zcT Try.prog 82 = some [] := by kernel_rfl
theorem by82 : byT Try.prog 82 = some 0 := by kernel_rfl
theorem un82 : Program.underlying Try.prog 82 = some (TypeDesc.array 0 16) := Try.underlying82
theorem pl82 : plT Try.prog 82 = none := by kernel_rfl
theorem ld83 : ldK Try.prog 83 = some (some 0) := by kernel_rfl
theorem sz83 : szT Try.prog 83 = some 0 := by kernel_rfl
theorem sl83 : slT Try.prog 83 = none := by kernel_rfl
theorem st83 : stT Try.prog 83 = false := by kernel_rfl
theorem zc83 : zcT Try.prog 83 = some [] := by kernel_rfl
theorem by83 : byT Try.prog 83 = some 0 := by kernel_rfl
theorem un83 : Program.underlying Try.prog 83 = some (TypeDesc.struct #[{ name := "_", type := 82, offset := 0, embedded := false, tag := "", pkgPath := "runtime", byteOffset := 0 }]) := Try.underlying83
theorem pl83 : plT Try.prog 83 = some #[(0, 0)] := by kernel_rfl
theorem fl83_0 : fldT Try.prog 83 0 = some (0, 82) := by kernel_rfl
theorem ld84 : ldK Try.prog 84 = some (some 0) := by kernel_rfl
theorem sz84 : szT Try.prog 84 = some 0 := by kernel_rfl
theorem sl84 : slT Try.prog 84 = none := by kernel_rfl
theorem st84 : stT Try.prog 84 = false := by kernel_rfl
theorem zc84 : zcT Try.prog 84 = some [] := by kernel_rfl
theorem by84 : byT Try.prog 84 = some 0 := by kernel_rfl
theorem un84 : Program.underlying Try.prog 84 = some (TypeDesc.struct #[{ name := "_", type := 82, offset := 0, embedded := false, tag := "", pkgPath := "runtime", byteOffset := 0 }]) := Try.underlying84
theorem pl84 : plT Try.prog 84 = some #[(0, 0)] := by kernel_rfl
theorem fl84_0 : fldT Try.prog 84 0 = some (0, 82) := by kernel_rfl
theorem ld85 : ldK Try.prog 85 = some (none) := by kernel_rfl
theorem sz85 : szT Try.prog 85 = some 1 := by kernel_rfl
theorem sl85 : slT Try.prog 85 = none := by kernel_rfl
theorem st85 : stT Try.prog 85 = false := by kernel_rfl
theorem zc85 : zcT Try.prog 85 = some [.int .u32 0] := by kernel_rfl
theorem by85 : byT Try.prog 85 = some 4 := by kernel_rfl
theorem un85 : Program.underlying Try.prog 85 = some (TypeDesc.int IntKind.u32) := Try.underlying85
theorem pl85 : plT Try.prog 85 = none := by kernel_rfl
theorem ld86 : ldK Try.prog 86 = some (none) := by kernel_rfl
theorem sz86 : szT Try.prog 86 = some 1 := by kernel_rfl
theorem sl86 : slT Try.prog 86 = none := by kernel_rfl
theorem st86 : stT Try.prog 86 = false := by kernel_rfl
theorem zc86 : zcT Try.prog 86 = some [.int .u8 0] := by kernel_rfl
theorem by86 : byT Try.prog 86 = some 1 := by kernel_rfl
theorem un86 : Program.underlying Try.prog 86 = some (TypeDesc.int IntKind.u8) := Try.underlying86
theorem pl86 : plT Try.prog 86 = none := by kernel_rfl
theorem ld87 : ldK Try.prog 87 = some (none) := by kernel_rfl
theorem sz87 : szT Try.prog 87 = some 1 := by kernel_rfl
theorem sl87 : slT Try.prog 87 = none := by kernel_rfl
theorem st87 : stT Try.prog 87 = false := by kernel_rfl
theorem zc87 : zcT Try.prog 87 = some [.int .u8 0] := by kernel_rfl
theorem by87 : byT Try.prog 87 = some 1 := by kernel_rfl
theorem un87 : Program.underlying Try.prog 87 = some (TypeDesc.int IntKind.u8) := Try.underlying87
theorem pl87 : plT Try.prog 87 = none := by kernel_rfl
theorem ld88 : ldK Try.prog 88 = some (none) := by kernel_rfl
theorem sz88 : szT Try.prog 88 = some 1 := by kernel_rfl
theorem sl88 : slT Try.prog 88 = none := by kernel_rfl
theorem st88 : stT Try.prog 88 = false := by kernel_rfl
theorem zc88 : zcT Try.prog 88 = some [.nilFunc] := by kernel_rfl
theorem by88 : byT Try.prog 88 = some 8 := by kernel_rfl
theorem un88 : Program.underlying Try.prog 88 = some (TypeDesc.func #[94, 94] #[4] false) := Try.underlying88
theorem pl88 : plT Try.prog 88 = none := by kernel_rfl
theorem ld89 : ldK Try.prog 89 = some (none) := by kernel_rfl
theorem sz89 : szT Try.prog 89 = some 1 := by kernel_rfl
theorem sl89 : slT Try.prog 89 = none := by kernel_rfl
theorem st89 : stT Try.prog 89 = false := by kernel_rfl
theorem zc89 : zcT Try.prog 89 = some [.pointer none] := by kernel_rfl
theorem by89 : byT Try.prog 89 = some 8 := by kernel_rfl
theorem un89 : Program.underlying Try.prog 89 = some (TypeDesc.pointer 5) := Try.underlying89
theorem pl89 : plT Try.prog 89 = none := by kernel_rfl
theorem ld90 : ldK Try.prog 90 = some (none) := by kernel_rfl
theorem sz90 : szT Try.prog 90 = some 1 := by kernel_rfl
theorem sl90 : slT Try.prog 90 = none := by kernel_rfl
theorem st90 : stT Try.prog 90 = false := by kernel_rfl
theorem zc90 : zcT Try.prog 90 = some [.int .i32 0] := by kernel_rfl
theorem by90 : byT Try.prog 90 = some 4 := by kernel_rfl
theorem un90 : Program.underlying Try.prog 90 = some (TypeDesc.int IntKind.i32) := Try.underlying90
theorem pl90 : plT Try.prog 90 = none := by kernel_rfl
theorem ld91 : ldK Try.prog 91 = some (none) := by kernel_rfl
theorem sz91 : szT Try.prog 91 = some 1 := by kernel_rfl
theorem sl91 : slT Try.prog 91 = none := by kernel_rfl
theorem st91 : stT Try.prog 91 = false := by kernel_rfl
theorem zc91 : zcT Try.prog 91 = some [.int .i32 0] := by kernel_rfl
theorem by91 : byT Try.prog 91 = some 4 := by kernel_rfl
theorem un91 : Program.underlying Try.prog 91 = some (TypeDesc.int IntKind.i32) := Try.underlying91
theorem pl91 : plT Try.prog 91 = none := by kernel_rfl
theorem ld92 : ldK Try.prog 92 = some (some 11) := by kernel_rfl
theorem sz92 : szT Try.prog 92 = some 11 := by kernel_rfl
theorem sl92 : slT Try.prog 92 = none := by kernel_rfl
theorem st92 : stT Try.prog 92 = false := by kernel_rfl
theorem zc92 : zcT Try.prog 92 = some [.int .u64 0, .int .u64 0, .int .u32 0, .int .u8 0, .int .u8 0, .int .u8 0, .int .u8 0, .nilFunc, .pointer none, .int .i32 0, .int .i32 0] := by kernel_rfl
theorem by92 : byT Try.prog 92 = some 48 := by kernel_rfl
theorem un92 : Program.underlying Try.prog 92 = some (TypeDesc.struct #[{ name := "Size_", type := 12, offset := 0, embedded := false, tag := "", pkgPath := "", byteOffset := 0 }, { name := "PtrBytes", type := 12, offset := 1, embedded := false, tag := "", pkgPath := "", byteOffset := 8 }, { name := "Hash", type := 85, offset := 2, embedded := false, tag := "", pkgPath := "", byteOffset := 16 }, { name := "TFlag", type := 86, offset := 3, embedded := false, tag := "", pkgPath := "", byteOffset := 20 }, { name := "Align_", type := 5, offset := 4, embedded := false, tag := "", pkgPath := "", byteOffset := 21 }, { name := "FieldAlign_", type := 5, offset := 5, embedded := false, tag := "", pkgPath := "", byteOffset := 22 }, { name := "Kind_", type := 87, offset := 6, embedded := false, tag := "", pkgPath := "", byteOffset := 23 }, { name := "Equal", type := 88, offset := 7, embedded := false, tag := "", pkgPath := "", byteOffset := 24 }, { name := "GCData", type := 89, offset := 8, embedded := false, tag := "", pkgPath := "", byteOffset := 32 }, { name := "Str", type := 90, offset := 9, embedded := false, tag := "", pkgPath := "", byteOffset := 40 }, { name := "PtrToThis", type := 91, offset := 10, embedded := false, tag := "", pkgPath := "", byteOffset := 44 }]) := Try.underlying92
theorem pl92 : plT Try.prog 92 = some #[(0, 1), (1, 1), (2, 1), (3, 1), (4, 1), (5, 1), (6, 1), (7, 1), (8, 1), (9, 1), (10, 1)] := by kernel_rfl
theorem fl92_0 : fldT Try.prog 92 0 = some (0, 12) := by kernel_rfl
theorem fl92_1 : fldT Try.prog 92 1 = some (1, 12) := by kernel_rfl
theorem fl92_2 : fldT Try.prog 92 2 = some (2, 85) := by kernel_rfl
theorem fl92_3 : fldT Try.prog 92 3 = some (3, 86) := by kernel_rfl
theorem fl92_4 : fldT Try.prog 92 4 = some (4, 5) := by kernel_rfl
theorem fl92_5 : fldT Try.prog 92 5 = some (5, 5) := by kernel_rfl
theorem fl92_6 : fldT Try.prog 92 6 = some (6, 87) := by kernel_rfl
theorem fl92_7 : fldT Try.prog 92 7 = some (7, 88) := by kernel_rfl
theorem fl92_8 : fldT Try.prog 92 8 = some (8, 89) := by kernel_rfl
theorem fl92_9 : fldT Try.prog 92 9 = some (9, 90) := by kernel_rfl
theorem fl92_10 : fldT Try.prog 92 10 = some (10, 91) := by kernel_rfl
theorem ld93 : ldK Try.prog 93 = some (some 11) := by kernel_rfl
theorem sz93 : szT Try.prog 93 = some 11 := by kernel_rfl
theorem sl93 : slT Try.prog 93 = none := by kernel_rfl
theorem st93 : stT Try.prog 93 = false := by kernel_rfl
theorem zc93 : zcT Try.prog 93 = some [.int .u64 0, .int .u64 0, .int .u32 0, .int .u8 0, .int .u8 0, .int .u8 0, .int .u8 0, .nilFunc, .pointer none, .int .i32 0, .int .i32 0] := by kernel_rfl
theorem by93 : byT Try.prog 93 = some 48 := by kernel_rfl
theorem un93 : Program.underlying Try.prog 93 = some (TypeDesc.struct #[{ name := "Size_", type := 12, offset := 0, embedded := false, tag := "", pkgPath := "", byteOffset := 0 }, { name := "PtrBytes", type := 12, offset := 1, embedded := false, tag := "", pkgPath := "", byteOffset := 8 }, { name := "Hash", type := 85, offset := 2, embedded := false, tag := "", pkgPath := "", byteOffset := 16 }, { name := "TFlag", type := 86, offset := 3, embedded := false, tag := "", pkgPath := "", byteOffset := 20 }, { name := "Align_", type := 5, offset := 4, embedded := false, tag := "", pkgPath := "", byteOffset := 21 }, { name := "FieldAlign_", type := 5, offset := 5, embedded := false, tag := "", pkgPath := "", byteOffset := 22 }, { name := "Kind_", type := 87, offset := 6, embedded := false, tag := "", pkgPath := "", byteOffset := 23 }, { name := "Equal", type := 88, offset := 7, embedded := false, tag := "", pkgPath := "", byteOffset := 24 }, { name := "GCData", type := 89, offset := 8, embedded := false, tag := "", pkgPath := "", byteOffset := 32 }, { name := "Str", type := 90, offset := 9, embedded := false, tag := "", pkgPath := "", byteOffset := 40 }, { name := "PtrToThis", type := 91, offset := 10, embedded := false, tag := "", pkgPath := "", byteOffset := 44 }]) := Try.underlying93
theorem pl93 : plT Try.prog 93 = some #[(0, 1), (1, 1), (2, 1), (3, 1), (4, 1), (5, 1), (6, 1), (7, 1), (8, 1), (9, 1), (10, 1)] := by kernel_rfl
theorem fl93_0 : fldT Try.prog 93 0 = some (0, 12) := by kernel_rfl
theorem fl93_1 : fldT Try.prog 93 1 = some (1, 12) := by kernel_rfl
theorem fl93_2 : fldT Try.prog 93 2 = some (2, 85) := by kernel_rfl
theorem fl93_3 : fldT Try.prog 93 3 = some (3, 86) := by kernel_rfl
theorem fl93_4 : fldT Try.prog 93 4 = some (4, 5) := by kernel_rfl
theorem fl93_5 : fldT Try.prog 93 5 = some (5, 5) := by kernel_rfl
theorem fl93_6 : fldT Try.prog 93 6 = some (6, 87) := by kernel_rfl
theorem fl93_7 : fldT Try.prog 93 7 = some (7, 88) := by kernel_rfl
theorem fl93_8 : fldT Try.prog 93 8 = some (8, 89) := by kernel_rfl
theorem fl93_9 : fldT Try.prog 93 9 = some (9, 90) := by kernel_rfl
theorem fl93_10 : fldT Try.prog 93 10 = some (10, 91) := by kernel_rfl
theorem ok3 : callOk Try.prog 3 = true := by kernel_rfl
theorem ok4 : callOk Try.prog 4 = true := by kernel_rfl
theorem ok5 : callOk Try.prog 5 = true := by kernel_rfl
theorem ok6 : callOk Try.prog 6 = true := by kernel_rfl
theorem ok7 : callOk Try.prog 7 = true := by kernel_rfl
theorem ok8 : callOk Try.prog 8 = true := by kernel_rfl
theorem ok9 : callOk Try.prog 9 = true := by kernel_rfl
theorem ok10 : callOk Try.prog 10 = true := by kernel_rfl
theorem ok11 : callOk Try.prog 11 = true := by kernel_rfl
theorem ok12 : callOk Try.prog 12 = true := by kernel_rfl
theorem ok13 : callOk Try.prog 13 = true := by kernel_rfl
theorem ok14 : callOk Try.prog 14 = true := by kernel_rfl
theorem ok15 : callOk Try.prog 15 = true := by kernel_rfl
theorem ok16 : callOk Try.prog 16 = true := by kernel_rfl
theorem ok17 : callOk Try.prog 17 = true := by kernel_rfl
theorem ok18 : callOk Try.prog 18 = true := by kernel_rfl
theorem ok19 : callOk Try.prog 19 = true := by kernel_rfl
theorem ok20 : callOk Try.prog 20 = true := by kernel_rfl
theorem ok21 : callOk Try.prog 21 = true := by kernel_rfl
theorem ok22 : callOk Try.prog 22 = true := by kernel_rfl
theorem ok23 : callOk Try.prog 23 = true := by kernel_rfl
theorem ok24 : callOk Try.prog 24 = true := by kernel_rfl
theorem ok25 : callOk Try.prog 25 = true := by kernel_rfl
theorem ok26 : callOk Try.prog 26 = true := by kernel_rfl
theorem ok27 : callOk Try.prog 27 = true := by kernel_rfl
theorem ok28 : callOk Try.prog 28 = true := by kernel_rfl
theorem ok29 : callOk Try.prog 29 = true := by kernel_rfl
theorem ok30 : callOk Try.prog 30 = true := by kernel_rfl
theorem ok31 : callOk Try.prog 31 = true := by kernel_rfl
theorem ok32 : callOk Try.prog 32 = true := by kernel_rfl
theorem ok33 : callOk Try.prog 33 = true := by kernel_rfl
theorem ok34 : callOk Try.prog 34 = true := by kernel_rfl
theorem ok35 : callOk Try.prog 35 = true := by kernel_rfl
theorem ok36 : callOk Try.prog 36 = true := by kernel_rfl
theorem ok37 : callOk Try.prog 37 = true := by kernel_rfl
theorem ok38 : callOk Try.prog 38 = true := by kernel_rfl
theorem ok39 : callOk Try.prog 39 = true := by kernel_rfl
theorem ok40 : callOk Try.prog 40 = true := by kernel_rfl
theorem ok41 : callOk Try.prog 41 = true := by kernel_rfl
theorem ok42 : callOk Try.prog 42 = true := by kernel_rfl
theorem ok43 : callOk Try.prog 43 = true := by kernel_rfl
theorem ok44 : callOk Try.prog 44 = true := by kernel_rfl
theorem ok45 : callOk Try.prog 45 = true := by kernel_rfl
theorem ok46 : callOk Try.prog 46 = true := by kernel_rfl
theorem ok47 : callOk Try.prog 47 = true := by kernel_rfl
theorem ok48 : callOk Try.prog 48 = true := by kernel_rfl
theorem ok49 : callOk Try.prog 49 = true := by kernel_rfl
theorem ok50 : callOk Try.prog 50 = true := by kernel_rfl
theorem ok51 : callOk Try.prog 51 = true := by kernel_rfl
theorem ok52 : callOk Try.prog 52 = true := by kernel_rfl
theorem ok53 : callOk Try.prog 53 = true := by kernel_rfl
theorem ok54 : callOk Try.prog 54 = true := by kernel_rfl
theorem ok55 : callOk Try.prog 55 = true := by kernel_rfl
theorem ok56 : callOk Try.prog 56 = true := by kernel_rfl
theorem ok57 : callOk Try.prog 57 = true := by kernel_rfl
end Go.Proofs.Ytkmenomglhddlaa.Ty
