/- The facts of this claim's types, and of what may be called. Conditions: none. -/
import Derived.Test.YtiddnhhjlipebaaProg
import Derived.Test.YtiddnhhjlipebaaAmQ
import Derived.KernelRfl
namespace Go.Proofs.Ytiddnhhjlipebaa.Ty
open Go Go.Proofs.Ytiddnhhjlipebaa.Am
theorem mx : Try.prog.follows .mixedOrders = true := by kernel_rfl
theorem ld1 : ldK Try.prog 1 = some (none) := by kernel_rfl
theorem sz1 : szT Try.prog 1 = some 1 := by kernel_rfl
theorem sl1 : slT Try.prog 1 = none := by kernel_rfl
theorem st1 : stT Try.prog 1 = false := by kernel_rfl
theorem zc1 : zcT Try.prog 1 = some [.nilFunc] := by kernel_rfl
theorem by1 : byT Try.prog 1 = some 8 := by kernel_rfl
theorem un1 : Program.underlying Try.prog 1 = some (TypeDesc.func #[] #[] false) := Try.underlying1
theorem pl1 : plT Try.prog 1 = none := by kernel_rfl
theorem ld2 : ldK Try.prog 2 = some (none) := by kernel_rfl
theorem sz2 : szT Try.prog 2 = some 1 := by kernel_rfl
theorem sl2 : slT Try.prog 2 = none := by kernel_rfl
theorem st2 : stT Try.prog 2 = false := by kernel_rfl
theorem zc2 : zcT Try.prog 2 = some [.int .i64 0] := by kernel_rfl
theorem by2 : byT Try.prog 2 = some 8 := by kernel_rfl
theorem un2 : Program.underlying Try.prog 2 = some (TypeDesc.int IntKind.i64) := Try.underlying2
theorem pl2 : plT Try.prog 2 = none := by kernel_rfl
theorem ld3 : ldK Try.prog 3 = some (none) := by kernel_rfl
theorem sz3 : szT Try.prog 3 = some 1 := by kernel_rfl
theorem sl3 : slT Try.prog 3 = none := by kernel_rfl
theorem st3 : stT Try.prog 3 = false := by kernel_rfl
theorem zc3 : zcT Try.prog 3 = some [.int .i64 0] := by kernel_rfl
theorem by3 : byT Try.prog 3 = some 8 := by kernel_rfl
theorem un3 : Program.underlying Try.prog 3 = some (TypeDesc.int IntKind.i64) := Try.underlying3
theorem pl3 : plT Try.prog 3 = none := by kernel_rfl
theorem ld4 : ldK Try.prog 4 = some (none) := by kernel_rfl
theorem sz4 : szT Try.prog 4 = some 1 := by kernel_rfl
theorem sl4 : slT Try.prog 4 = none := by kernel_rfl
theorem st4 : stT Try.prog 4 = false := by kernel_rfl
theorem zc4 : zcT Try.prog 4 = some [.bool false] := by kernel_rfl
theorem by4 : byT Try.prog 4 = some 1 := by kernel_rfl
theorem un4 : Program.underlying Try.prog 4 = some TypeDesc.bool := Try.underlying4
theorem pl4 : plT Try.prog 4 = none := by kernel_rfl
theorem ld5 : ldK Try.prog 5 = some (none) := by kernel_rfl
theorem sz5 : szT Try.prog 5 = some 1 := by kernel_rfl
theorem sl5 : slT Try.prog 5 = none := by kernel_rfl
theorem st5 : stT Try.prog 5 = false := by kernel_rfl
theorem zc5 : zcT Try.prog 5 = some [.int .u8 0] := by kernel_rfl
theorem by5 : byT Try.prog 5 = some 1 := by kernel_rfl
theorem un5 : Program.underlying Try.prog 5 = some (TypeDesc.int IntKind.u8) := Try.underlying5
theorem pl5 : plT Try.prog 5 = none := by kernel_rfl
theorem ld6 : ldK Try.prog 6 = some (none) := by kernel_rfl
theorem sz6 : szT Try.prog 6 = some 1 := by kernel_rfl
theorem sl6 : slT Try.prog 6 = none := by kernel_rfl
theorem st6 : stT Try.prog 6 = false := by kernel_rfl
theorem zc6 : zcT Try.prog 6 = some [.int .u8 0] := by kernel_rfl
theorem by6 : byT Try.prog 6 = some 1 := by kernel_rfl
theorem un6 : Program.underlying Try.prog 6 = some (TypeDesc.int IntKind.u8) := Try.underlying6
theorem pl6 : plT Try.prog 6 = none := by kernel_rfl
theorem ld7 : ldK Try.prog 7 = some (some 4) := by kernel_rfl
theorem sz7 : szT Try.prog 7 = some 4 := by kernel_rfl
theorem sl7 : slT Try.prog 7 = none := by kernel_rfl
theorem st7 : stT Try.prog 7 = false := by kernel_rfl
theorem zc7 : zcT Try.prog 7 = some [.int .i64 0, .int .i64 0, .bool false, .int .u8 0] := by kernel_rfl
theorem by7 : byT Try.prog 7 = some 24 := by kernel_rfl
theorem un7 : Program.underlying Try.prog 7 = some (TypeDesc.struct #[{ name := "x", type := 2, offset := 0, embedded := false, tag := "", pkgPath := "runtime", byteOffset := 0 }, { name := "y", type := 3, offset := 1, embedded := false, tag := "", pkgPath := "runtime", byteOffset := 8 }, { name := "signed", type := 4, offset := 2, embedded := false, tag := "", pkgPath := "runtime", byteOffset := 16 }, { name := "code", type := 6, offset := 3, embedded := false, tag := "", pkgPath := "runtime", byteOffset := 17 }]) := Try.underlying7
theorem pl7 : plT Try.prog 7 = some #[(0, 1), (1, 1), (2, 1), (3, 1)] := by kernel_rfl
theorem fl7_0 : fldT Try.prog 7 0 = some (0, 2) := by kernel_rfl
theorem fl7_1 : fldT Try.prog 7 1 = some (1, 3) := by kernel_rfl
theorem fl7_2 : fldT Try.prog 7 2 = some (2, 4) := by kernel_rfl
theorem fl7_3 : fldT Try.prog 7 3 = some (3, 6) := by kernel_rfl
theorem ld8 : ldK Try.prog 8 = some (some 4) := by kernel_rfl
theorem sz8 : szT Try.prog 8 = some 4 := by kernel_rfl
theorem sl8 : slT Try.prog 8 = none := by kernel_rfl
theorem st8 : stT Try.prog 8 = false := by kernel_rfl
theorem zc8 : zcT Try.prog 8 = some [.int .i64 0, .int .i64 0, .bool false, .int .u8 0] := by kernel_rfl
theorem by8 : byT Try.prog 8 = some 24 := by kernel_rfl
theorem un8 : Program.underlying Try.prog 8 = some (TypeDesc.struct #[{ name := "x", type := 2, offset := 0, embedded := false, tag := "", pkgPath := "runtime", byteOffset := 0 }, { name := "y", type := 3, offset := 1, embedded := false, tag := "", pkgPath := "runtime", byteOffset := 8 }, { name := "signed", type := 4, offset := 2, embedded := false, tag := "", pkgPath := "runtime", byteOffset := 16 }, { name := "code", type := 6, offset := 3, embedded := false, tag := "", pkgPath := "runtime", byteOffset := 17 }]) := Try.underlying8
theorem pl8 : plT Try.prog 8 = some #[(0, 1), (1, 1), (2, 1), (3, 1)] := by kernel_rfl
theorem fl8_0 : fldT Try.prog 8 0 = some (0, 2) := by kernel_rfl
theorem fl8_1 : fldT Try.prog 8 1 = some (1, 3) := by kernel_rfl
theorem fl8_2 : fldT Try.prog 8 2 = some (2, 4) := by kernel_rfl
theorem fl8_3 : fldT Try.prog 8 3 = some (3, 6) := by kernel_rfl
theorem ld9 : ldK Try.prog 9 = some (none) := by kernel_rfl
theorem sz9 : szT Try.prog 9 = some 1 := by kernel_rfl
theorem sl9 : slT Try.prog 9 = none := by kernel_rfl
theorem st9 : stT Try.prog 9 = true := by kernel_rfl
theorem zc9 : zcT Try.prog 9 = some [.string ByteArray.empty] := by kernel_rfl
theorem by9 : byT Try.prog 9 = some 16 := by kernel_rfl
theorem un9 : Program.underlying Try.prog 9 = some TypeDesc.string := Try.underlying9
theorem pl9 : plT Try.prog 9 = none := by kernel_rfl
theorem ld10 : ldK Try.prog 10 = some (none) := by kernel_rfl
theorem sz10 : szT Try.prog 10 = some 1 := by kernel_rfl
theorem sl10 : slT Try.prog 10 = none := by kernel_rfl
theorem st10 : stT Try.prog 10 = true := by kernel_rfl
theorem zc10 : zcT Try.prog 10 = some [.string ByteArray.empty] := by kernel_rfl
theorem by10 : byT Try.prog 10 = some 16 := by kernel_rfl
theorem un10 : Program.underlying Try.prog 10 = some TypeDesc.string := Try.underlying10
theorem pl10 : plT Try.prog 10 = none := by kernel_rfl
theorem ld11 : ldK Try.prog 11 = some (none) := by kernel_rfl
theorem sz11 : szT Try.prog 11 = some 1 := by kernel_rfl
theorem sl11 : slT Try.prog 11 = none := by kernel_rfl
theorem st11 : stT Try.prog 11 = true := by kernel_rfl
theorem zc11 : zcT Try.prog 11 = some [.string ByteArray.empty] := by kernel_rfl
theorem by11 : byT Try.prog 11 = some 16 := by kernel_rfl
theorem un11 : Program.underlying Try.prog 11 = some TypeDesc.string := Try.underlying11
theorem pl11 : plT Try.prog 11 = none := by kernel_rfl
theorem ld12 : ldK Try.prog 12 = some (none) := by kernel_rfl
theorem sz12 : szT Try.prog 12 = some 1 := by kernel_rfl
theorem sl12 : slT Try.prog 12 = none := by kernel_rfl
theorem st12 : stT Try.prog 12 = false := by kernel_rfl
theorem zc12 : zcT Try.prog 12 = some [.int .u64 0] := by kernel_rfl
theorem by12 : byT Try.prog 12 = some 8 := by kernel_rfl
theorem un12 : Program.underlying Try.prog 12 = some (TypeDesc.int IntKind.u64) := Try.underlying12
theorem pl12 : plT Try.prog 12 = none := by kernel_rfl
theorem ld13 : ldK Try.prog 13 = some (some 2) := by kernel_rfl
theorem sz13 : szT Try.prog 13 = some 2 := by kernel_rfl
theorem sl13 : slT Try.prog 13 = none := by kernel_rfl
theorem st13 : stT Try.prog 13 = false := by kernel_rfl
theorem zc13 : zcT Try.prog 13 = some [.string ByteArray.empty, .int .u64 0] := by kernel_rfl
theorem by13 : byT Try.prog 13 = some 24 := by kernel_rfl
theorem un13 : Program.underlying Try.prog 13 = some (TypeDesc.struct #[{ name := "msg", type := 9, offset := 0, embedded := false, tag := "", pkgPath := "runtime", byteOffset := 0 }, { name := "addr", type := 12, offset := 1, embedded := false, tag := "", pkgPath := "runtime", byteOffset := 16 }]) := Try.underlying13
theorem pl13 : plT Try.prog 13 = some #[(0, 1), (1, 1)] := by kernel_rfl
theorem fl13_0 : fldT Try.prog 13 0 = some (0, 9) := by kernel_rfl
theorem fl13_1 : fldT Try.prog 13 1 = some (1, 12) := by kernel_rfl
theorem ld14 : ldK Try.prog 14 = some (some 2) := by kernel_rfl
theorem sz14 : szT Try.prog 14 = some 2 := by kernel_rfl
theorem sl14 : slT Try.prog 14 = none := by kernel_rfl
theorem st14 : stT Try.prog 14 = false := by kernel_rfl
theorem zc14 : zcT Try.prog 14 = some [.string ByteArray.empty, .int .u64 0] := by kernel_rfl
theorem by14 : byT Try.prog 14 = some 24 := by kernel_rfl
theorem un14 : Program.underlying Try.prog 14 = some (TypeDesc.struct #[{ name := "msg", type := 9, offset := 0, embedded := false, tag := "", pkgPath := "runtime", byteOffset := 0 }, { name := "addr", type := 12, offset := 1, embedded := false, tag := "", pkgPath := "runtime", byteOffset := 16 }]) := Try.underlying14
theorem pl14 : plT Try.prog 14 = some #[(0, 1), (1, 1)] := by kernel_rfl
theorem fl14_0 : fldT Try.prog 14 0 = some (0, 9) := by kernel_rfl
theorem fl14_1 : fldT Try.prog 14 1 = some (1, 12) := by kernel_rfl
theorem ld15 : ldK Try.prog 15 = some (none) := by kernel_rfl
theorem sz15 : szT Try.prog 15 = some 1 := by kernel_rfl
theorem sl15 : slT Try.prog 15 = none := by kernel_rfl
theorem st15 : stT Try.prog 15 = false := by kernel_rfl
theorem zc15 : zcT Try.prog 15 = some [.pointer none] := by kernel_rfl
theorem by15 : byT Try.prog 15 = some 8 := by kernel_rfl
theorem un15 : Program.underlying Try.prog 15 = some (TypeDesc.pointer 148) := Try.underlying15
theorem pl15 : plT Try.prog 15 = none := by kernel_rfl
theorem ld16 : ldK Try.prog 16 = some (none) := by kernel_rfl
theorem sz16 : szT Try.prog 16 = some 1 := by kernel_rfl
theorem sl16 : slT Try.prog 16 = none := by kernel_rfl
theorem st16 : stT Try.prog 16 = false := by kernel_rfl
theorem zc16 : zcT Try.prog 16 = some [.pointer none] := by kernel_rfl
theorem by16 : byT Try.prog 16 = some 8 := by kernel_rfl
theorem un16 : Program.underlying Try.prog 16 = some (TypeDesc.pointer 151) := Try.underlying16
theorem pl16 : plT Try.prog 16 = none := by kernel_rfl
theorem ld17 : ldK Try.prog 17 = some (none) := by kernel_rfl
theorem sz17 : szT Try.prog 17 = some 1 := by kernel_rfl
theorem sl17 : slT Try.prog 17 = none := by kernel_rfl
theorem st17 : stT Try.prog 17 = false := by kernel_rfl
theorem zc17 : zcT Try.prog 17 = some [.pointer none] := by kernel_rfl
theorem by17 : byT Try.prog 17 = some 8 := by kernel_rfl
theorem un17 : Program.underlying Try.prog 17 = some (TypeDesc.pointer 160) := Try.underlying17
theorem pl17 : plT Try.prog 17 = none := by kernel_rfl
theorem ld20 : ldK Try.prog 20 = some (none) := by kernel_rfl
theorem sz20 : szT Try.prog 20 = some 1 := by kernel_rfl
theorem sl20 : slT Try.prog 20 = none := by kernel_rfl
theorem st20 : stT Try.prog 20 = false := by kernel_rfl
theorem zc20 : zcT Try.prog 20 = some [.nilIface] := by kernel_rfl
theorem by20 : byT Try.prog 20 = some 16 := by kernel_rfl
theorem un20 : Program.underlying Try.prog 20 = some (TypeDesc.interface #[]) := Try.underlying20
theorem pl20 : plT Try.prog 20 = none := by kernel_rfl
theorem ld21 : ldK Try.prog 21 = some (none) := by kernel_rfl
theorem sz21 : szT Try.prog 21 = some 1 := by kernel_rfl
theorem sl21 : slT Try.prog 21 = none := by kernel_rfl
theorem st21 : stT Try.prog 21 = false := by kernel_rfl
theorem zc21 : zcT Try.prog 21 = some [.int .i32 0] := by kernel_rfl
theorem by21 : byT Try.prog 21 = some 4 := by kernel_rfl
theorem un21 : Program.underlying Try.prog 21 = some (TypeDesc.int IntKind.i32) := Try.underlying21
theorem pl21 : plT Try.prog 21 = none := by kernel_rfl
theorem ld22 : ldK Try.prog 22 = some (some 6) := by kernel_rfl
theorem sz22 : szT Try.prog 22 = some 6 := by kernel_rfl
theorem sl22 : slT Try.prog 22 = none := by kernel_rfl
theorem st22 : stT Try.prog 22 = false := by kernel_rfl
theorem zc22 : zcT Try.prog 22 = some [.int .i64 0, .int .i64 0, .int .i64 0, .int .i64 0, .int .i64 0, .bool false] := by kernel_rfl
theorem by22 : byT Try.prog 22 = some 48 := by kernel_rfl
theorem un22 : Program.underlying Try.prog 22 = some (TypeDesc.struct #[{ name := "Least", type := 3, offset := 0, embedded := false, tag := "", pkgPath := "", byteOffset := 0 }, { name := "Most", type := 3, offset := 1, embedded := false, tag := "", pkgPath := "", byteOffset := 8 }, { name := "Enough", type := 3, offset := 2, embedded := false, tag := "", pkgPath := "", byteOffset := 16 }, { name := "Made", type := 3, offset := 3, embedded := false, tag := "", pkgPath := "", byteOffset := 24 }, { name := "Done", type := 3, offset := 4, embedded := false, tag := "", pkgPath := "", byteOffset := 32 }, { name := "Open", type := 4, offset := 5, embedded := false, tag := "", pkgPath := "", byteOffset := 40 }]) := Try.underlying22
theorem pl22 : plT Try.prog 22 = some #[(0, 1), (1, 1), (2, 1), (3, 1), (4, 1), (5, 1)] := by kernel_rfl
theorem fl22_0 : fldT Try.prog 22 0 = some (0, 3) := by kernel_rfl
theorem fl22_1 : fldT Try.prog 22 1 = some (1, 3) := by kernel_rfl
theorem fl22_2 : fldT Try.prog 22 2 = some (2, 3) := by kernel_rfl
theorem fl22_3 : fldT Try.prog 22 3 = some (3, 3) := by kernel_rfl
theorem fl22_4 : fldT Try.prog 22 4 = some (4, 3) := by kernel_rfl
theorem fl22_5 : fldT Try.prog 22 5 = some (5, 4) := by kernel_rfl
theorem ld23 : ldK Try.prog 23 = some (some 6) := by kernel_rfl
theorem sz23 : szT Try.prog 23 = some 6 := by kernel_rfl
theorem sl23 : slT Try.prog 23 = none := by kernel_rfl
theorem st23 : stT Try.prog 23 = false := by kernel_rfl
theorem zc23 : zcT Try.prog 23 = some [.int .i64 0, .int .i64 0, .int .i64 0, .int .i64 0, .int .i64 0, .bool false] := by kernel_rfl
theorem by23 : byT Try.prog 23 = some 48 := by kernel_rfl
theorem un23 : Program.underlying Try.prog 23 = some (TypeDesc.struct #[{ name := "Least", type := 3, offset := 0, embedded := false, tag := "", pkgPath := "", byteOffset := 0 }, { name := "Most", type := 3, offset := 1, embedded := false, tag := "", pkgPath := "", byteOffset := 8 }, { name := "Enough", type := 3, offset := 2, embedded := false, tag := "", pkgPath := "", byteOffset := 16 }, { name := "Made", type := 3, offset := 3, embedded := false, tag := "", pkgPath := "", byteOffset := 24 }, { name := "Done", type := 3, offset := 4, embedded := false, tag := "", pkgPath := "", byteOffset := 32 }, { name := "Open", type := 4, offset := 5, embedded := false, tag := "", pkgPath := "", byteOffset := 40 }]) := Try.underlying23
theorem pl23 : plT Try.prog 23 = some #[(0, 1), (1, 1), (2, 1), (3, 1), (4, 1), (5, 1)] := by kernel_rfl
theorem fl23_0 : fldT Try.prog 23 0 = some (0, 3) := by kernel_rfl
theorem fl23_1 : fldT Try.prog 23 1 = some (1, 3) := by kernel_rfl
theorem fl23_2 : fldT Try.prog 23 2 = some (2, 3) := by kernel_rfl
theorem fl23_3 : fldT Try.prog 23 3 = some (3, 3) := by kernel_rfl
theorem fl23_4 : fldT Try.prog 23 4 = some (4, 3) := by kernel_rfl
theorem fl23_5 : fldT Try.prog 23 5 = some (5, 4) := by kernel_rfl
theorem ld24 : ldK Try.prog 24 = some (none) := by kernel_rfl
theorem sz24 : szT Try.prog 24 = some 1 := by kernel_rfl
theorem sl24 : slT Try.prog 24 = some 3 := by kernel_rfl
theorem st24 : stT Try.prog 24 = false := by kernel_rfl
theorem zc24 : zcT Try.prog 24 = some [.slice none 0 0] := by kernel_rfl
theorem by24 : byT Try.prog 24 = some 24 := by kernel_rfl
theorem un24 : Program.underlying Try.prog 24 = some (TypeDesc.slice 3) := Try.underlying24
theorem pl24 : plT Try.prog 24 = none := by kernel_rfl
theorem ld25 : ldK Try.prog 25 = some (some 6) := by kernel_rfl
theorem sz25 : szT Try.prog 25 = some 6 := by kernel_rfl
theorem sl25 : slT Try.prog 25 = none := by kernel_rfl
theorem st25 : stT Try.prog 25 = false := by kernel_rfl
theorem zc25 : zcT Try.prog 25 = some [.int .i64 0, .int .i64 0, .int .i64 0, .int .i64 0, .int .i64 0, .bool false] := by kernel_rfl
theorem by25 : byT Try.prog 25 = some 48 := by kernel_rfl
theorem un25 : Program.underlying Try.prog 25 = some (TypeDesc.struct #[{ name := "Least", type := 3, offset := 0, embedded := false, tag := "", pkgPath := "", byteOffset := 0 }, { name := "Most", type := 3, offset := 1, embedded := false, tag := "", pkgPath := "", byteOffset := 8 }, { name := "Enough", type := 3, offset := 2, embedded := false, tag := "", pkgPath := "", byteOffset := 16 }, { name := "Made", type := 3, offset := 3, embedded := false, tag := "", pkgPath := "", byteOffset := 24 }, { name := "Done", type := 3, offset := 4, embedded := false, tag := "", pkgPath := "", byteOffset := 32 }, { name := "Open", type := 4, offset := 5, embedded := false, tag := "", pkgPath := "", byteOffset := 40 }]) := Try.underlying25
theorem pl25 : plT Try.prog 25 = some #[(0, 1), (1, 1), (2, 1), (3, 1), (4, 1), (5, 1)] := by kernel_rfl
theorem fl25_0 : fldT Try.prog 25 0 = some (0, 3) := by kernel_rfl
theorem fl25_1 : fldT Try.prog 25 1 = some (1, 3) := by kernel_rfl
theorem fl25_2 : fldT Try.prog 25 2 = some (2, 3) := by kernel_rfl
theorem fl25_3 : fldT Try.prog 25 3 = some (3, 3) := by kernel_rfl
theorem fl25_4 : fldT Try.prog 25 4 = some (4, 3) := by kernel_rfl
theorem fl25_5 : fldT Try.prog 25 5 = some (5, 4) := by kernel_rfl
theorem ld26 : ldK Try.prog 26 = some (none) := by kernel_rfl
theorem sz26 : szT Try.prog 26 = some 1 := by kernel_rfl
theorem sl26 : slT Try.prog 26 = some 4 := by kernel_rfl
theorem st26 : stT Try.prog 26 = false := by kernel_rfl
theorem zc26 : zcT Try.prog 26 = some [.slice none 0 0] := by kernel_rfl
theorem by26 : byT Try.prog 26 = some 24 := by kernel_rfl
theorem un26 : Program.underlying Try.prog 26 = some (TypeDesc.slice 4) := Try.underlying26
theorem pl26 : plT Try.prog 26 = none := by kernel_rfl
theorem ld28 : ldK Try.prog 28 = some (none) := by kernel_rfl
theorem sz28 : szT Try.prog 28 = some 1 := by kernel_rfl
theorem sl28 : slT Try.prog 28 = none := by kernel_rfl
theorem st28 : stT Try.prog 28 = false := by kernel_rfl
theorem zc28 : zcT Try.prog 28 = some [.nilFunc] := by kernel_rfl
theorem by28 : byT Try.prog 28 = some 8 := by kernel_rfl
theorem un28 : Program.underlying Try.prog 28 = some (TypeDesc.func #[25, 24] #[25, 26, 4] false) := Try.underlying28
theorem pl28 : plT Try.prog 28 = none := by kernel_rfl
theorem ld29 : ldK Try.prog 29 = some (none) := by kernel_rfl
theorem sz29 : szT Try.prog 29 = some 1 := by kernel_rfl
theorem sl29 : slT Try.prog 29 = none := by kernel_rfl
theorem st29 : stT Try.prog 29 = false := by kernel_rfl
theorem zc29 : zcT Try.prog 29 = some [.nilFunc] := by kernel_rfl
theorem by29 : byT Try.prog 29 = some 8 := by kernel_rfl
theorem un29 : Program.underlying Try.prog 29 = some (TypeDesc.func #[23] #[25] false) := Try.underlying29
theorem pl29 : plT Try.prog 29 = none := by kernel_rfl
theorem ld30 : ldK Try.prog 30 = some (none) := by kernel_rfl
theorem sz30 : szT Try.prog 30 = some 1 := by kernel_rfl
theorem sl30 : slT Try.prog 30 = none := by kernel_rfl
theorem st30 : stT Try.prog 30 = false := by kernel_rfl
theorem zc30 : zcT Try.prog 30 = some [.nilFunc] := by kernel_rfl
theorem by30 : byT Try.prog 30 = some 8 := by kernel_rfl
theorem un30 : Program.underlying Try.prog 30 = some (TypeDesc.func #[24] #[24] false) := Try.underlying30
theorem pl30 : plT Try.prog 30 = none := by kernel_rfl
theorem ld31 : ldK Try.prog 31 = some (none) := by kernel_rfl
theorem sz31 : szT Try.prog 31 = some 1 := by kernel_rfl
theorem sl31 : slT Try.prog 31 = none := by kernel_rfl
theorem st31 : stT Try.prog 31 = false := by kernel_rfl
theorem zc31 : zcT Try.prog 31 = some [.nilFunc] := by kernel_rfl
theorem by31 : byT Try.prog 31 = some 8 := by kernel_rfl
theorem un31 : Program.underlying Try.prog 31 = some (TypeDesc.func #[25, 25] #[4] false) := Try.underlying31
theorem pl31 : plT Try.prog 31 = none := by kernel_rfl
theorem ld32 : ldK Try.prog 32 = some (none) := by kernel_rfl
theorem sz32 : szT Try.prog 32 = some 1 := by kernel_rfl
theorem sl32 : slT Try.prog 32 = none := by kernel_rfl
theorem st32 : stT Try.prog 32 = false := by kernel_rfl
theorem zc32 : zcT Try.prog 32 = some [.nilFunc] := by kernel_rfl
theorem by32 : byT Try.prog 32 = some 8 := by kernel_rfl
theorem un32 : Program.underlying Try.prog 32 = some (TypeDesc.func #[26, 26] #[4] false) := Try.underlying32
theorem pl32 : plT Try.prog 32 = none := by kernel_rfl
theorem ld33 : ldK Try.prog 33 = some (none) := by kernel_rfl
theorem sz33 : szT Try.prog 33 = some 1 := by kernel_rfl
theorem sl33 : slT Try.prog 33 = none := by kernel_rfl
theorem st33 : stT Try.prog 33 = false := by kernel_rfl
theorem zc33 : zcT Try.prog 33 = some [.nilFunc] := by kernel_rfl
theorem by33 : byT Try.prog 33 = some 8 := by kernel_rfl
theorem un33 : Program.underlying Try.prog 33 = some (TypeDesc.func #[24, 24] #[4] false) := Try.underlying33
theorem pl33 : plT Try.prog 33 = none := by kernel_rfl
theorem ld34 : ldK Try.prog 34 = some (none) := by kernel_rfl
theorem sz34 : szT Try.prog 34 = some 1 := by kernel_rfl
theorem sl34 : slT Try.prog 34 = none := by kernel_rfl
theorem st34 : stT Try.prog 34 = false := by kernel_rfl
theorem zc34 : zcT Try.prog 34 = some [.nilFunc] := by kernel_rfl
theorem by34 : byT Try.prog 34 = some 8 := by kernel_rfl
theorem un34 : Program.underlying Try.prog 34 = some (TypeDesc.func #[24, 3] #[3] false) := Try.underlying34
theorem pl34 : plT Try.prog 34 = none := by kernel_rfl
theorem ld35 : ldK Try.prog 35 = some (none) := by kernel_rfl
theorem sz35 : szT Try.prog 35 = some 1 := by kernel_rfl
theorem sl35 : slT Try.prog 35 = none := by kernel_rfl
theorem st35 : stT Try.prog 35 = false := by kernel_rfl
theorem zc35 : zcT Try.prog 35 = some [.nilFunc] := by kernel_rfl
theorem by35 : byT Try.prog 35 = some 8 := by kernel_rfl
theorem un35 : Program.underlying Try.prog 35 = some (TypeDesc.func #[26, 3] #[3] false) := Try.underlying35
theorem pl35 : plT Try.prog 35 = none := by kernel_rfl
theorem ld36 : ldK Try.prog 36 = some (none) := by kernel_rfl
theorem sz36 : szT Try.prog 36 = some 1 := by kernel_rfl
theorem sl36 : slT Try.prog 36 = none := by kernel_rfl
theorem st36 : stT Try.prog 36 = false := by kernel_rfl
theorem zc36 : zcT Try.prog 36 = some [.nilFunc] := by kernel_rfl
theorem by36 : byT Try.prog 36 = some 8 := by kernel_rfl
theorem un36 : Program.underlying Try.prog 36 = some (TypeDesc.func #[23, 24] #[4] false) := Try.underlying36
theorem pl36 : plT Try.prog 36 = none := by kernel_rfl
theorem ld37 : ldK Try.prog 37 = some (none) := by kernel_rfl
theorem sz37 : szT Try.prog 37 = some 1 := by kernel_rfl
theorem sl37 : slT Try.prog 37 = some 5 := by kernel_rfl
theorem st37 : stT Try.prog 37 = false := by kernel_rfl
theorem zc37 : zcT Try.prog 37 = some [.slice none 0 0] := by kernel_rfl
theorem by37 : byT Try.prog 37 = some 24 := by kernel_rfl
theorem un37 : Program.underlying Try.prog 37 = some (TypeDesc.slice 5) := Try.underlying37
theorem pl37 : plT Try.prog 37 = none := by kernel_rfl
theorem ld38 : ldK Try.prog 38 = some (none) := by kernel_rfl
theorem sz38 : szT Try.prog 38 = some 1 := by kernel_rfl
theorem sl38 : slT Try.prog 38 = none := by kernel_rfl
theorem st38 : stT Try.prog 38 = false := by kernel_rfl
theorem zc38 : zcT Try.prog 38 = some [.nilFunc] := by kernel_rfl
theorem by38 : byT Try.prog 38 = some 8 := by kernel_rfl
theorem un38 : Program.underlying Try.prog 38 = some (TypeDesc.func #[37, 37] #[4] false) := Try.underlying38
theorem pl38 : plT Try.prog 38 = none := by kernel_rfl
theorem ld40 : ldK Try.prog 40 = some (none) := by kernel_rfl
theorem sz40 : szT Try.prog 40 = some 1 := by kernel_rfl
theorem sl40 : slT Try.prog 40 = none := by kernel_rfl
theorem st40 : stT Try.prog 40 = false := by kernel_rfl
theorem zc40 : zcT Try.prog 40 = some [.nilFunc] := by kernel_rfl
theorem by40 : byT Try.prog 40 = some 8 := by kernel_rfl
theorem un40 : Program.underlying Try.prog 40 = some (TypeDesc.func #[37] #[25, 24] false) := Try.underlying40
theorem pl40 : plT Try.prog 40 = none := by kernel_rfl
theorem ld41 : ldK Try.prog 41 = some (none) := by kernel_rfl
theorem sz41 : szT Try.prog 41 = some 1 := by kernel_rfl
theorem sl41 : slT Try.prog 41 = none := by kernel_rfl
theorem st41 : stT Try.prog 41 = false := by kernel_rfl
theorem zc41 : zcT Try.prog 41 = some [.nilFunc] := by kernel_rfl
theorem by41 : byT Try.prog 41 = some 8 := by kernel_rfl
theorem un41 : Program.underlying Try.prog 41 = some (TypeDesc.func #[25] #[4] false) := Try.underlying41
theorem pl41 : plT Try.prog 41 = none := by kernel_rfl
theorem ld43 : ldK Try.prog 43 = some (none) := by kernel_rfl
theorem sz43 : szT Try.prog 43 = some 1 := by kernel_rfl
theorem sl43 : slT Try.prog 43 = none := by kernel_rfl
theorem st43 : stT Try.prog 43 = false := by kernel_rfl
theorem zc43 : zcT Try.prog 43 = some [.nilFunc] := by kernel_rfl
theorem by43 : byT Try.prog 43 = some 8 := by kernel_rfl
theorem un43 : Program.underlying Try.prog 43 = some (TypeDesc.func #[25] #[4, 4] false) := Try.underlying43
theorem pl43 : plT Try.prog 43 = none := by kernel_rfl
theorem ld45 : ldK Try.prog 45 = some (none) := by kernel_rfl
theorem sz45 : szT Try.prog 45 = some 1 := by kernel_rfl
theorem sl45 : slT Try.prog 45 = none := by kernel_rfl
theorem st45 : stT Try.prog 45 = false := by kernel_rfl
theorem zc45 : zcT Try.prog 45 = some [.nilFunc] := by kernel_rfl
theorem by45 : byT Try.prog 45 = some 8 := by kernel_rfl
theorem un45 : Program.underlying Try.prog 45 = some (TypeDesc.func #[25] #[3, 4] false) := Try.underlying45
theorem pl45 : plT Try.prog 45 = none := by kernel_rfl
theorem ld47 : ldK Try.prog 47 = some (none) := by kernel_rfl
theorem sz47 : szT Try.prog 47 = some 1 := by kernel_rfl
theorem sl47 : slT Try.prog 47 = none := by kernel_rfl
theorem st47 : stT Try.prog 47 = false := by kernel_rfl
theorem zc47 : zcT Try.prog 47 = some [.nilFunc] := by kernel_rfl
theorem by47 : byT Try.prog 47 = some 8 := by kernel_rfl
theorem un47 : Program.underlying Try.prog 47 = some (TypeDesc.func #[25, 3] #[25, 4] false) := Try.underlying47
theorem pl47 : plT Try.prog 47 = none := by kernel_rfl
theorem ld49 : ldK Try.prog 49 = some (none) := by kernel_rfl
theorem sz49 : szT Try.prog 49 = some 1 := by kernel_rfl
theorem sl49 : slT Try.prog 49 = none := by kernel_rfl
theorem st49 : stT Try.prog 49 = false := by kernel_rfl
theorem zc49 : zcT Try.prog 49 = some [.nilFunc] := by kernel_rfl
theorem by49 : byT Try.prog 49 = some 8 := by kernel_rfl
theorem un49 : Program.underlying Try.prog 49 = some (TypeDesc.func #[37] #[25, 3] false) := Try.underlying49
theorem pl49 : plT Try.prog 49 = none := by kernel_rfl
theorem ld50 : ldK Try.prog 50 = some (none) := by kernel_rfl
theorem sz50 : szT Try.prog 50 = some 1 := by kernel_rfl
theorem sl50 : slT Try.prog 50 = none := by kernel_rfl
theorem st50 : stT Try.prog 50 = false := by kernel_rfl
theorem zc50 : zcT Try.prog 50 = some [.nilFunc] := by kernel_rfl
theorem by50 : byT Try.prog 50 = some 8 := by kernel_rfl
theorem un50 : Program.underlying Try.prog 50 = some (TypeDesc.func #[37] #[25] false) := Try.underlying50
theorem pl50 : plT Try.prog 50 = none := by kernel_rfl
theorem ld51 : ldK Try.prog 51 = some (none) := by kernel_rfl
theorem sz51 : szT Try.prog 51 = some 1 := by kernel_rfl
theorem sl51 : slT Try.prog 51 = some 132 := by kernel_rfl
theorem st51 : stT Try.prog 51 = false := by kernel_rfl
theorem zc51 : zcT Try.prog 51 = some [.slice none 0 0] := by kernel_rfl
theorem by51 : byT Try.prog 51 = some 24 := by kernel_rfl
theorem un51 : Program.underlying Try.prog 51 = some (TypeDesc.slice 132) := Try.underlying51
theorem pl51 : plT Try.prog 51 = none := by kernel_rfl
theorem ld52 : ldK Try.prog 52 = some (some 3) := by kernel_rfl
theorem sz52 : szT Try.prog 52 = some 3 := by kernel_rfl
theorem sl52 : slT Try.prog 52 = none := by kernel_rfl
theorem st52 : stT Try.prog 52 = false := by kernel_rfl
theorem zc52 : zcT Try.prog 52 = some [.int .i64 0, .slice none 0 0, .slice none 0 0] := by kernel_rfl
theorem by52 : byT Try.prog 52 = some 56 := by kernel_rfl
theorem un52 : Program.underlying Try.prog 52 = some (TypeDesc.struct #[{ name := "Now", type := 3, offset := 0, embedded := false, tag := "", pkgPath := "", byteOffset := 0 }, { name := "People", type := 24, offset := 1, embedded := false, tag := "", pkgPath := "", byteOffset := 8 }, { name := "Items", type := 51, offset := 2, embedded := false, tag := "", pkgPath := "", byteOffset := 32 }]) := Try.underlying52
theorem pl52 : plT Try.prog 52 = some #[(0, 1), (1, 1), (2, 1)] := by kernel_rfl
theorem fl52_0 : fldT Try.prog 52 0 = some (0, 3) := by kernel_rfl
theorem fl52_1 : fldT Try.prog 52 1 = some (1, 24) := by kernel_rfl
theorem fl52_2 : fldT Try.prog 52 2 = some (2, 51) := by kernel_rfl
theorem ld53 : ldK Try.prog 53 = some (some 3) := by kernel_rfl
theorem sz53 : szT Try.prog 53 = some 3 := by kernel_rfl
theorem sl53 : slT Try.prog 53 = none := by kernel_rfl
theorem st53 : stT Try.prog 53 = false := by kernel_rfl
theorem zc53 : zcT Try.prog 53 = some [.int .i64 0, .slice none 0 0, .slice none 0 0] := by kernel_rfl
theorem by53 : byT Try.prog 53 = some 56 := by kernel_rfl
theorem un53 : Program.underlying Try.prog 53 = some (TypeDesc.struct #[{ name := "Now", type := 3, offset := 0, embedded := false, tag := "", pkgPath := "", byteOffset := 0 }, { name := "People", type := 24, offset := 1, embedded := false, tag := "", pkgPath := "", byteOffset := 8 }, { name := "Items", type := 51, offset := 2, embedded := false, tag := "", pkgPath := "", byteOffset := 32 }]) := Try.underlying53
theorem pl53 : plT Try.prog 53 = some #[(0, 1), (1, 1), (2, 1)] := by kernel_rfl
theorem fl53_0 : fldT Try.prog 53 0 = some (0, 3) := by kernel_rfl
theorem fl53_1 : fldT Try.prog 53 1 = some (1, 24) := by kernel_rfl
theorem fl53_2 : fldT Try.prog 53 2 = some (2, 51) := by kernel_rfl
theorem ld54 : ldK Try.prog 54 = some (none) := by kernel_rfl
theorem sz54 : szT Try.prog 54 = some 1 := by kernel_rfl
theorem sl54 : slT Try.prog 54 = none := by kernel_rfl
theorem st54 : stT Try.prog 54 = false := by kernel_rfl
theorem zc54 : zcT Try.prog 54 = some [.nilFunc] := by kernel_rfl
theorem by54 : byT Try.prog 54 = some 8 := by kernel_rfl
theorem un54 : Program.underlying Try.prog 54 = some (TypeDesc.func #[53, 3] #[3] false) := Try.underlying54
theorem pl54 : plT Try.prog 54 = none := by kernel_rfl
theorem ld55 : ldK Try.prog 55 = some (none) := by kernel_rfl
theorem sz55 : szT Try.prog 55 = some 1 := by kernel_rfl
theorem sl55 : slT Try.prog 55 = none := by kernel_rfl
theorem st55 : stT Try.prog 55 = false := by kernel_rfl
theorem zc55 : zcT Try.prog 55 = some [.nilFunc] := by kernel_rfl
theorem by55 : byT Try.prog 55 = some 8 := by kernel_rfl
theorem un55 : Program.underlying Try.prog 55 = some (TypeDesc.func #[58] #[4] false) := Try.underlying55
theorem pl55 : plT Try.prog 55 = none := by kernel_rfl
theorem ld56 : ldK Try.prog 56 = some (none) := by kernel_rfl
theorem sz56 : szT Try.prog 56 = some 1 := by kernel_rfl
theorem sl56 : slT Try.prog 56 = some 77 := by kernel_rfl
theorem st56 : stT Try.prog 56 = false := by kernel_rfl
theorem zc56 : zcT Try.prog 56 = some [.slice none 0 0] := by kernel_rfl
theorem by56 : byT Try.prog 56 = some 24 := by kernel_rfl
theorem un56 : Program.underlying Try.prog 56 = some (TypeDesc.slice 77) := Try.underlying56
theorem pl56 : plT Try.prog 56 = none := by kernel_rfl
theorem ld57 : ldK Try.prog 57 = some (some 3) := by kernel_rfl
theorem sz57 : szT Try.prog 57 = some 3 := by kernel_rfl
theorem sl57 : slT Try.prog 57 = none := by kernel_rfl
theorem st57 : stT Try.prog 57 = false := by kernel_rfl
theorem zc57 : zcT Try.prog 57 = some [.int .i64 0, .slice none 0 0, .slice none 0 0] := by kernel_rfl
theorem by57 : byT Try.prog 57 = some 56 := by kernel_rfl
theorem un57 : Program.underlying Try.prog 57 = some (TypeDesc.struct #[{ name := "Now", type := 3, offset := 0, embedded := false, tag := "", pkgPath := "", byteOffset := 0 }, { name := "People", type := 24, offset := 1, embedded := false, tag := "", pkgPath := "", byteOffset := 8 }, { name := "Items", type := 56, offset := 2, embedded := false, tag := "", pkgPath := "", byteOffset := 32 }]) := Try.underlying57
theorem pl57 : plT Try.prog 57 = some #[(0, 1), (1, 1), (2, 1)] := by kernel_rfl
theorem fl57_0 : fldT Try.prog 57 0 = some (0, 3) := by kernel_rfl
theorem fl57_1 : fldT Try.prog 57 1 = some (1, 24) := by kernel_rfl
theorem fl57_2 : fldT Try.prog 57 2 = some (2, 56) := by kernel_rfl
theorem ld58 : ldK Try.prog 58 = some (some 3) := by kernel_rfl
theorem sz58 : szT Try.prog 58 = some 3 := by kernel_rfl
theorem sl58 : slT Try.prog 58 = none := by kernel_rfl
theorem st58 : stT Try.prog 58 = false := by kernel_rfl
theorem zc58 : zcT Try.prog 58 = some [.int .i64 0, .slice none 0 0, .slice none 0 0] := by kernel_rfl
theorem by58 : byT Try.prog 58 = some 56 := by kernel_rfl
theorem un58 : Program.underlying Try.prog 58 = some (TypeDesc.struct #[{ name := "Now", type := 3, offset := 0, embedded := false, tag := "", pkgPath := "", byteOffset := 0 }, { name := "People", type := 24, offset := 1, embedded := false, tag := "", pkgPath := "", byteOffset := 8 }, { name := "Items", type := 56, offset := 2, embedded := false, tag := "", pkgPath := "", byteOffset := 32 }]) := Try.underlying58
theorem pl58 : plT Try.prog 58 = some #[(0, 1), (1, 1), (2, 1)] := by kernel_rfl
theorem fl58_0 : fldT Try.prog 58 0 = some (0, 3) := by kernel_rfl
theorem fl58_1 : fldT Try.prog 58 1 = some (1, 24) := by kernel_rfl
theorem fl58_2 : fldT Try.prog 58 2 = some (2, 56) := by kernel_rfl
theorem ld59 : ldK Try.prog 59 = some (none) := by kernel_rfl
theorem sz59 : szT Try.prog 59 = some 1 := by kernel_rfl
theorem sl59 : slT Try.prog 59 = none := by kernel_rfl
theorem st59 : stT Try.prog 59 = false := by kernel_rfl
theorem zc59 : zcT Try.prog 59 = some [.nilFunc] := by kernel_rfl
theorem by59 : byT Try.prog 59 = some 8 := by kernel_rfl
theorem un59 : Program.underlying Try.prog 59 = some (TypeDesc.func #[53] #[58] false) := Try.underlying59
theorem pl59 : plT Try.prog 59 = none := by kernel_rfl
theorem ld60 : ldK Try.prog 60 = some (none) := by kernel_rfl
theorem sz60 : szT Try.prog 60 = some 1 := by kernel_rfl
theorem sl60 : slT Try.prog 60 = none := by kernel_rfl
theorem st60 : stT Try.prog 60 = false := by kernel_rfl
theorem zc60 : zcT Try.prog 60 = some [.nilFunc] := by kernel_rfl
theorem by60 : byT Try.prog 60 = some 8 := by kernel_rfl
theorem un60 : Program.underlying Try.prog 60 = some (TypeDesc.func #[58, 58] #[4] false) := Try.underlying60
theorem pl60 : plT Try.prog 60 = none := by kernel_rfl
theorem ld61 : ldK Try.prog 61 = some (none) := by kernel_rfl
theorem sz61 : szT Try.prog 61 = some 1 := by kernel_rfl
theorem sl61 : slT Try.prog 61 = none := by kernel_rfl
theorem st61 : stT Try.prog 61 = false := by kernel_rfl
theorem zc61 : zcT Try.prog 61 = some [.nilFunc] := by kernel_rfl
theorem by61 : byT Try.prog 61 = some 8 := by kernel_rfl
theorem un61 : Program.underlying Try.prog 61 = some (TypeDesc.func #[53] #[4] false) := Try.underlying61
theorem pl61 : plT Try.prog 61 = none := by kernel_rfl
theorem ld62 : ldK Try.prog 62 = some (none) := by kernel_rfl
theorem sz62 : szT Try.prog 62 = some 1 := by kernel_rfl
theorem sl62 : slT Try.prog 62 = none := by kernel_rfl
theorem st62 : stT Try.prog 62 = false := by kernel_rfl
theorem zc62 : zcT Try.prog 62 = some [.nilFunc] := by kernel_rfl
theorem by62 : byT Try.prog 62 = some 8 := by kernel_rfl
theorem un62 : Program.underlying Try.prog 62 = some (TypeDesc.func #[58, 3, 3] #[4, 4] false) := Try.underlying62
theorem pl62 : plT Try.prog 62 = none := by kernel_rfl
theorem ld63 : ldK Try.prog 63 = some (none) := by kernel_rfl
theorem sz63 : szT Try.prog 63 = some 1 := by kernel_rfl
theorem sl63 : slT Try.prog 63 = none := by kernel_rfl
theorem st63 : stT Try.prog 63 = false := by kernel_rfl
theorem zc63 : zcT Try.prog 63 = some [.nilFunc] := by kernel_rfl
theorem by63 : byT Try.prog 63 = some 8 := by kernel_rfl
theorem un63 : Program.underlying Try.prog 63 = some (TypeDesc.func #[53, 3, 3] #[4] false) := Try.underlying63
theorem pl63 : plT Try.prog 63 = none := by kernel_rfl
theorem ld65 : ldK Try.prog 65 = some (none) := by kernel_rfl
theorem sz65 : szT Try.prog 65 = some 1 := by kernel_rfl
theorem sl65 : slT Try.prog 65 = none := by kernel_rfl
theorem st65 : stT Try.prog 65 = false := by kernel_rfl
theorem zc65 : zcT Try.prog 65 = some [.nilFunc] := by kernel_rfl
theorem by65 : byT Try.prog 65 = some 8 := by kernel_rfl
theorem un65 : Program.underlying Try.prog 65 = some (TypeDesc.func #[24] #[58, 4] false) := Try.underlying65
theorem pl65 : plT Try.prog 65 = none := by kernel_rfl
theorem ld66 : ldK Try.prog 66 = some (none) := by kernel_rfl
theorem sz66 : szT Try.prog 66 = some 1 := by kernel_rfl
theorem sl66 : slT Try.prog 66 = none := by kernel_rfl
theorem st66 : stT Try.prog 66 = false := by kernel_rfl
theorem zc66 : zcT Try.prog 66 = some [.nilFunc] := by kernel_rfl
theorem by66 : byT Try.prog 66 = some 8 := by kernel_rfl
theorem un66 : Program.underlying Try.prog 66 = some (TypeDesc.func #[58, 3] #[3] false) := Try.underlying66
theorem pl66 : plT Try.prog 66 = none := by kernel_rfl
theorem ld67 : ldK Try.prog 67 = some (none) := by kernel_rfl
theorem sz67 : szT Try.prog 67 = some 1 := by kernel_rfl
theorem sl67 : slT Try.prog 67 = none := by kernel_rfl
theorem st67 : stT Try.prog 67 = false := by kernel_rfl
theorem zc67 : zcT Try.prog 67 = some [.nilFunc] := by kernel_rfl
theorem by67 : byT Try.prog 67 = some 8 := by kernel_rfl
theorem un67 : Program.underlying Try.prog 67 = some (TypeDesc.func #[24] #[4] false) := Try.underlying67
theorem pl67 : plT Try.prog 67 = none := by kernel_rfl
theorem ld69 : ldK Try.prog 69 = some (none) := by kernel_rfl
theorem sz69 : szT Try.prog 69 = some 1 := by kernel_rfl
theorem sl69 : slT Try.prog 69 = none := by kernel_rfl
theorem st69 : stT Try.prog 69 = false := by kernel_rfl
theorem zc69 : zcT Try.prog 69 = some [.nilFunc] := by kernel_rfl
theorem by69 : byT Try.prog 69 = some 8 := by kernel_rfl
theorem un69 : Program.underlying Try.prog 69 = some (TypeDesc.func #[58, 3] #[24, 4] false) := Try.underlying69
theorem pl69 : plT Try.prog 69 = none := by kernel_rfl
theorem ld70 : ldK Try.prog 70 = some (none) := by kernel_rfl
theorem sz70 : szT Try.prog 70 = some 1 := by kernel_rfl
theorem sl70 : slT Try.prog 70 = none := by kernel_rfl
theorem st70 : stT Try.prog 70 = false := by kernel_rfl
theorem zc70 : zcT Try.prog 70 = some [.nilFunc] := by kernel_rfl
theorem by70 : byT Try.prog 70 = some 8 := by kernel_rfl
theorem un70 : Program.underlying Try.prog 70 = some (TypeDesc.func #[53, 3] #[4] false) := Try.underlying70
theorem pl70 : plT Try.prog 70 = none := by kernel_rfl
theorem ld71 : ldK Try.prog 71 = some (none) := by kernel_rfl
theorem sz71 : szT Try.prog 71 = some 1 := by kernel_rfl
theorem sl71 : slT Try.prog 71 = some 80 := by kernel_rfl
theorem st71 : stT Try.prog 71 = false := by kernel_rfl
theorem zc71 : zcT Try.prog 71 = some [.slice none 0 0] := by kernel_rfl
theorem by71 : byT Try.prog 71 = some 24 := by kernel_rfl
theorem un71 : Program.underlying Try.prog 71 = some (TypeDesc.slice 80) := Try.underlying71
theorem pl71 : plT Try.prog 71 = none := by kernel_rfl
theorem ld73 : ldK Try.prog 73 = some (none) := by kernel_rfl
theorem sz73 : szT Try.prog 73 = some 1 := by kernel_rfl
theorem sl73 : slT Try.prog 73 = none := by kernel_rfl
theorem st73 : stT Try.prog 73 = false := by kernel_rfl
theorem zc73 : zcT Try.prog 73 = some [.nilFunc] := by kernel_rfl
theorem by73 : byT Try.prog 73 = some 8 := by kernel_rfl
theorem un73 : Program.underlying Try.prog 73 = some (TypeDesc.func #[37] #[24, 71] false) := Try.underlying73
theorem pl73 : plT Try.prog 73 = none := by kernel_rfl
theorem ld75 : ldK Try.prog 75 = some (none) := by kernel_rfl
theorem sz75 : szT Try.prog 75 = some 1 := by kernel_rfl
theorem sl75 : slT Try.prog 75 = none := by kernel_rfl
theorem st75 : stT Try.prog 75 = false := by kernel_rfl
theorem zc75 : zcT Try.prog 75 = some [.nilFunc] := by kernel_rfl
theorem by75 : byT Try.prog 75 = some 8 := by kernel_rfl
theorem un75 : Program.underlying Try.prog 75 = some (TypeDesc.func #[24, 71] #[58, 24, 4] false) := Try.underlying75
theorem pl75 : plT Try.prog 75 = none := by kernel_rfl
theorem ld76 : ldK Try.prog 76 = some (some 6) := by kernel_rfl
theorem sz76 : szT Try.prog 76 = some 6 := by kernel_rfl
theorem sl76 : slT Try.prog 76 = none := by kernel_rfl
theorem st76 : stT Try.prog 76 = false := by kernel_rfl
theorem zc76 : zcT Try.prog 76 = some [.int .i64 0, .int .i64 0, .int .i64 0, .int .i64 0, .int .i64 0, .int .i64 0] := by kernel_rfl
theorem by76 : byT Try.prog 76 = some 48 := by kernel_rfl
theorem un76 : Program.underlying Try.prog 76 = some (TypeDesc.struct #[{ name := "Case", type := 3, offset := 0, embedded := false, tag := "", pkgPath := "", byteOffset := 0 }, { name := "Task", type := 3, offset := 1, embedded := false, tag := "", pkgPath := "", byteOffset := 8 }, { name := "Role", type := 3, offset := 2, embedded := false, tag := "", pkgPath := "", byteOffset := 16 }, { name := "State", type := 3, offset := 3, embedded := false, tag := "", pkgPath := "", byteOffset := 24 }, { name := "Who", type := 3, offset := 4, embedded := false, tag := "", pkgPath := "", byteOffset := 32 }, { name := "Until", type := 3, offset := 5, embedded := false, tag := "", pkgPath := "", byteOffset := 40 }]) := Try.underlying76
theorem pl76 : plT Try.prog 76 = some #[(0, 1), (1, 1), (2, 1), (3, 1), (4, 1), (5, 1)] := by kernel_rfl
theorem fl76_0 : fldT Try.prog 76 0 = some (0, 3) := by kernel_rfl
theorem fl76_1 : fldT Try.prog 76 1 = some (1, 3) := by kernel_rfl
theorem fl76_2 : fldT Try.prog 76 2 = some (2, 3) := by kernel_rfl
theorem fl76_3 : fldT Try.prog 76 3 = some (3, 3) := by kernel_rfl
theorem fl76_4 : fldT Try.prog 76 4 = some (4, 3) := by kernel_rfl
theorem fl76_5 : fldT Try.prog 76 5 = some (5, 3) := by kernel_rfl
theorem ld77 : ldK Try.prog 77 = some (some 6) := by kernel_rfl
theorem sz77 : szT Try.prog 77 = some 6 := by kernel_rfl
theorem sl77 : slT Try.prog 77 = none := by kernel_rfl
theorem st77 : stT Try.prog 77 = false := by kernel_rfl
theorem zc77 : zcT Try.prog 77 = some [.int .i64 0, .int .i64 0, .int .i64 0, .int .i64 0, .int .i64 0, .int .i64 0] := by kernel_rfl
theorem by77 : byT Try.prog 77 = some 48 := by kernel_rfl
theorem un77 : Program.underlying Try.prog 77 = some (TypeDesc.struct #[{ name := "Case", type := 3, offset := 0, embedded := false, tag := "", pkgPath := "", byteOffset := 0 }, { name := "Task", type := 3, offset := 1, embedded := false, tag := "", pkgPath := "", byteOffset := 8 }, { name := "Role", type := 3, offset := 2, embedded := false, tag := "", pkgPath := "", byteOffset := 16 }, { name := "State", type := 3, offset := 3, embedded := false, tag := "", pkgPath := "", byteOffset := 24 }, { name := "Who", type := 3, offset := 4, embedded := false, tag := "", pkgPath := "", byteOffset := 32 }, { name := "Until", type := 3, offset := 5, embedded := false, tag := "", pkgPath := "", byteOffset := 40 }]) := Try.underlying77
theorem pl77 : plT Try.prog 77 = some #[(0, 1), (1, 1), (2, 1), (3, 1), (4, 1), (5, 1)] := by kernel_rfl
theorem fl77_0 : fldT Try.prog 77 0 = some (0, 3) := by kernel_rfl
theorem fl77_1 : fldT Try.prog 77 1 = some (1, 3) := by kernel_rfl
theorem fl77_2 : fldT Try.prog 77 2 = some (2, 3) := by kernel_rfl
theorem fl77_3 : fldT Try.prog 77 3 = some (3, 3) := by kernel_rfl
theorem fl77_4 : fldT Try.prog 77 4 = some (4, 3) := by kernel_rfl
theorem fl77_5 : fldT Try.prog 77 5 = some (5, 3) := by kernel_rfl
theorem ld78 : ldK Try.prog 78 = some (none) := by kernel_rfl
theorem sz78 : szT Try.prog 78 = some 1 := by kernel_rfl
theorem sl78 : slT Try.prog 78 = none := by kernel_rfl
theorem st78 : stT Try.prog 78 = false := by kernel_rfl
theorem zc78 : zcT Try.prog 78 = some [.nilFunc] := by kernel_rfl
theorem by78 : byT Try.prog 78 = some 8 := by kernel_rfl
theorem un78 : Program.underlying Try.prog 78 = some (TypeDesc.func #[24, 3] #[4] false) := Try.underlying78
theorem pl78 : plT Try.prog 78 = none := by kernel_rfl
theorem ld79 : ldK Try.prog 79 = some (some 8) := by kernel_rfl
theorem sz79 : szT Try.prog 79 = some 8 := by kernel_rfl
theorem sl79 : slT Try.prog 79 = none := by kernel_rfl
theorem st79 : stT Try.prog 79 = false := by kernel_rfl
theorem zc79 : zcT Try.prog 79 = some [.int .i64 0, .int .i64 0, .int .i64 0, .int .i64 0, .int .i64 0, .int .i64 0, .int .i64 0, .int .i64 0] := by kernel_rfl
theorem by79 : byT Try.prog 79 = some 64 := by kernel_rfl
theorem un79 : Program.underlying Try.prog 79 = some (TypeDesc.struct #[{ name := "Kind", type := 3, offset := 0, embedded := false, tag := "", pkgPath := "", byteOffset := 0 }, { name := "Item", type := 3, offset := 1, embedded := false, tag := "", pkgPath := "", byteOffset := 8 }, { name := "Who", type := 3, offset := 2, embedded := false, tag := "", pkgPath := "", byteOffset := 16 }, { name := "To", type := 3, offset := 3, embedded := false, tag := "", pkgPath := "", byteOffset := 24 }, { name := "Case", type := 3, offset := 4, embedded := false, tag := "", pkgPath := "", byteOffset := 32 }, { name := "Task", type := 3, offset := 5, embedded := false, tag := "", pkgPath := "", byteOffset := 40 }, { name := "Role", type := 3, offset := 6, embedded := false, tag := "", pkgPath := "", byteOffset := 48 }, { name := "Many", type := 3, offset := 7, embedded := false, tag := "", pkgPath := "", byteOffset := 56 }]) := Try.underlying79
theorem pl79 : plT Try.prog 79 = some #[(0, 1), (1, 1), (2, 1), (3, 1), (4, 1), (5, 1), (6, 1), (7, 1)] := by kernel_rfl
theorem fl79_0 : fldT Try.prog 79 0 = some (0, 3) := by kernel_rfl
theorem fl79_1 : fldT Try.prog 79 1 = some (1, 3) := by kernel_rfl
theorem fl79_2 : fldT Try.prog 79 2 = some (2, 3) := by kernel_rfl
theorem fl79_3 : fldT Try.prog 79 3 = some (3, 3) := by kernel_rfl
theorem fl79_4 : fldT Try.prog 79 4 = some (4, 3) := by kernel_rfl
theorem fl79_5 : fldT Try.prog 79 5 = some (5, 3) := by kernel_rfl
theorem fl79_6 : fldT Try.prog 79 6 = some (6, 3) := by kernel_rfl
theorem fl79_7 : fldT Try.prog 79 7 = some (7, 3) := by kernel_rfl
theorem ld80 : ldK Try.prog 80 = some (some 8) := by kernel_rfl
theorem sz80 : szT Try.prog 80 = some 8 := by kernel_rfl
theorem sl80 : slT Try.prog 80 = none := by kernel_rfl
theorem st80 : stT Try.prog 80 = false := by kernel_rfl
theorem zc80 : zcT Try.prog 80 = some [.int .i64 0, .int .i64 0, .int .i64 0, .int .i64 0, .int .i64 0, .int .i64 0, .int .i64 0, .int .i64 0] := by kernel_rfl
theorem by80 : byT Try.prog 80 = some 64 := by kernel_rfl
theorem un80 : Program.underlying Try.prog 80 = some (TypeDesc.struct #[{ name := "Kind", type := 3, offset := 0, embedded := false, tag := "", pkgPath := "", byteOffset := 0 }, { name := "Item", type := 3, offset := 1, embedded := false, tag := "", pkgPath := "", byteOffset := 8 }, { name := "Who", type := 3, offset := 2, embedded := false, tag := "", pkgPath := "", byteOffset := 16 }, { name := "To", type := 3, offset := 3, embedded := false, tag := "", pkgPath := "", byteOffset := 24 }, { name := "Case", type := 3, offset := 4, embedded := false, tag := "", pkgPath := "", byteOffset := 32 }, { name := "Task", type := 3, offset := 5, embedded := false, tag := "", pkgPath := "", byteOffset := 40 }, { name := "Role", type := 3, offset := 6, embedded := false, tag := "", pkgPath := "", byteOffset := 48 }, { name := "Many", type := 3, offset := 7, embedded := false, tag := "", pkgPath := "", byteOffset := 56 }]) := Try.underlying80
theorem pl80 : plT Try.prog 80 = some #[(0, 1), (1, 1), (2, 1), (3, 1), (4, 1), (5, 1), (6, 1), (7, 1)] := by kernel_rfl
theorem fl80_0 : fldT Try.prog 80 0 = some (0, 3) := by kernel_rfl
theorem fl80_1 : fldT Try.prog 80 1 = some (1, 3) := by kernel_rfl
theorem fl80_2 : fldT Try.prog 80 2 = some (2, 3) := by kernel_rfl
theorem fl80_3 : fldT Try.prog 80 3 = some (3, 3) := by kernel_rfl
theorem fl80_4 : fldT Try.prog 80 4 = some (4, 3) := by kernel_rfl
theorem fl80_5 : fldT Try.prog 80 5 = some (5, 3) := by kernel_rfl
theorem fl80_6 : fldT Try.prog 80 6 = some (6, 3) := by kernel_rfl
theorem fl80_7 : fldT Try.prog 80 7 = some (7, 3) := by kernel_rfl
theorem ld82 : ldK Try.prog 82 = some (none) := by kernel_rfl
theorem sz82 : szT Try.prog 82 = some 1 := by kernel_rfl
theorem sl82 : slT Try.prog 82 = none := by kernel_rfl
theorem st82 : stT Try.prog 82 = false := by kernel_rfl
theorem zc82 : zcT Try.prog 82 = some [.nilFunc] := by kernel_rfl
theorem by82 : byT Try.prog 82 = some 8 := by kernel_rfl
theorem un82 : Program.underlying Try.prog 82 = some (TypeDesc.func #[37] #[58, 80] false) := Try.underlying82
theorem pl82 : plT Try.prog 82 = none := by kernel_rfl
theorem ld84 : ldK Try.prog 84 = some (none) := by kernel_rfl
theorem sz84 : szT Try.prog 84 = some 1 := by kernel_rfl
theorem sl84 : slT Try.prog 84 = none := by kernel_rfl
theorem st84 : stT Try.prog 84 = false := by kernel_rfl
theorem zc84 : zcT Try.prog 84 = some [.nilFunc] := by kernel_rfl
theorem by84 : byT Try.prog 84 = some 8 := by kernel_rfl
theorem un84 : Program.underlying Try.prog 84 = some (TypeDesc.func #[58, 80] #[58, 3, 4] false) := Try.underlying84
theorem pl84 : plT Try.prog 84 = none := by kernel_rfl
theorem ld85 : ldK Try.prog 85 = some (some 8) := by kernel_rfl
theorem sz85 : szT Try.prog 85 = some 8 := by kernel_rfl
theorem sl85 : slT Try.prog 85 = none := by kernel_rfl
theorem st85 : stT Try.prog 85 = false := by kernel_rfl
theorem zc85 : zcT Try.prog 85 = some [.int .i64 0, .int .i64 0, .int .i64 0, .int .i64 0, .int .i64 0, .int .i64 0, .int .i64 0, .int .i64 0] := by kernel_rfl
theorem by85 : byT Try.prog 85 = some 64 := by kernel_rfl
theorem un85 : Program.underlying Try.prog 85 = some (TypeDesc.struct #[{ name := "Kind", type := 3, offset := 0, embedded := false, tag := "", pkgPath := "", byteOffset := 0 }, { name := "Item", type := 3, offset := 1, embedded := false, tag := "", pkgPath := "", byteOffset := 8 }, { name := "Who", type := 3, offset := 2, embedded := false, tag := "", pkgPath := "", byteOffset := 16 }, { name := "To", type := 3, offset := 3, embedded := false, tag := "", pkgPath := "", byteOffset := 24 }, { name := "Case", type := 3, offset := 4, embedded := false, tag := "", pkgPath := "", byteOffset := 32 }, { name := "Task", type := 3, offset := 5, embedded := false, tag := "", pkgPath := "", byteOffset := 40 }, { name := "Role", type := 3, offset := 6, embedded := false, tag := "", pkgPath := "", byteOffset := 48 }, { name := "Many", type := 3, offset := 7, embedded := false, tag := "", pkgPath := "", byteOffset := 56 }]) := Try.underlying85
theorem pl85 : plT Try.prog 85 = some #[(0, 1), (1, 1), (2, 1), (3, 1), (4, 1), (5, 1), (6, 1), (7, 1)] := by kernel_rfl
theorem fl85_0 : fldT Try.prog 85 0 = some (0, 3) := by kernel_rfl
theorem fl85_1 : fldT Try.prog 85 1 = some (1, 3) := by kernel_rfl
theorem fl85_2 : fldT Try.prog 85 2 = some (2, 3) := by kernel_rfl
theorem fl85_3 : fldT Try.prog 85 3 = some (3, 3) := by kernel_rfl
theorem fl85_4 : fldT Try.prog 85 4 = some (4, 3) := by kernel_rfl
theorem fl85_5 : fldT Try.prog 85 5 = some (5, 3) := by kernel_rfl
theorem fl85_6 : fldT Try.prog 85 6 = some (6, 3) := by kernel_rfl
theorem fl85_7 : fldT Try.prog 85 7 = some (7, 3) := by kernel_rfl
theorem ld86 : ldK Try.prog 86 = some (none) := by kernel_rfl
theorem sz86 : szT Try.prog 86 = some 1 := by kernel_rfl
theorem sl86 : slT Try.prog 86 = none := by kernel_rfl
theorem st86 : stT Try.prog 86 = false := by kernel_rfl
theorem zc86 : zcT Try.prog 86 = some [.nilFunc] := by kernel_rfl
theorem by86 : byT Try.prog 86 = some 8 := by kernel_rfl
theorem un86 : Program.underlying Try.prog 86 = some (TypeDesc.func #[85] #[80] false) := Try.underlying86
theorem pl86 : plT Try.prog 86 = none := by kernel_rfl
theorem ld87 : ldK Try.prog 87 = some (none) := by kernel_rfl
theorem sz87 : szT Try.prog 87 = some 1 := by kernel_rfl
theorem sl87 : slT Try.prog 87 = none := by kernel_rfl
theorem st87 : stT Try.prog 87 = false := by kernel_rfl
theorem zc87 : zcT Try.prog 87 = some [.nilFunc] := by kernel_rfl
theorem by87 : byT Try.prog 87 = some 8 := by kernel_rfl
theorem un87 : Program.underlying Try.prog 87 = some (TypeDesc.func #[53, 85] #[4] false) := Try.underlying87
theorem pl87 : plT Try.prog 87 = none := by kernel_rfl
theorem ld88 : ldK Try.prog 88 = some (none) := by kernel_rfl
theorem sz88 : szT Try.prog 88 = some 1 := by kernel_rfl
theorem sl88 : slT Try.prog 88 = some 85 := by kernel_rfl
theorem st88 : stT Try.prog 88 = false := by kernel_rfl
theorem zc88 : zcT Try.prog 88 = some [.slice none 0 0] := by kernel_rfl
theorem by88 : byT Try.prog 88 = some 24 := by kernel_rfl
theorem un88 : Program.underlying Try.prog 88 = some (TypeDesc.slice 85) := Try.underlying88
theorem pl88 : plT Try.prog 88 = none := by kernel_rfl
theorem ld89 : ldK Try.prog 89 = some (none) := by kernel_rfl
theorem sz89 : szT Try.prog 89 = some 1 := by kernel_rfl
theorem sl89 : slT Try.prog 89 = none := by kernel_rfl
theorem st89 : stT Try.prog 89 = false := by kernel_rfl
theorem zc89 : zcT Try.prog 89 = some [.nilFunc] := by kernel_rfl
theorem by89 : byT Try.prog 89 = some 8 := by kernel_rfl
theorem un89 : Program.underlying Try.prog 89 = some (TypeDesc.func #[88, 3] #[3] false) := Try.underlying89
theorem pl89 : plT Try.prog 89 = none := by kernel_rfl
theorem ld90 : ldK Try.prog 90 = some (none) := by kernel_rfl
theorem sz90 : szT Try.prog 90 = some 1 := by kernel_rfl
theorem sl90 : slT Try.prog 90 = none := by kernel_rfl
theorem st90 : stT Try.prog 90 = false := by kernel_rfl
theorem zc90 : zcT Try.prog 90 = some [.nilFunc] := by kernel_rfl
theorem by90 : byT Try.prog 90 = some 8 := by kernel_rfl
theorem un90 : Program.underlying Try.prog 90 = some (TypeDesc.func #[88] #[71] false) := Try.underlying90
theorem pl90 : plT Try.prog 90 = none := by kernel_rfl
theorem ld91 : ldK Try.prog 91 = some (none) := by kernel_rfl
theorem sz91 : szT Try.prog 91 = some 1 := by kernel_rfl
theorem sl91 : slT Try.prog 91 = none := by kernel_rfl
theorem st91 : stT Try.prog 91 = false := by kernel_rfl
theorem zc91 : zcT Try.prog 91 = some [.nilFunc] := by kernel_rfl
theorem by91 : byT Try.prog 91 = some 8 := by kernel_rfl
theorem un91 : Program.underlying Try.prog 91 = some (TypeDesc.func #[71, 71] #[4] false) := Try.underlying91
theorem pl91 : plT Try.prog 91 = none := by kernel_rfl
theorem ld92 : ldK Try.prog 92 = some (none) := by kernel_rfl
theorem sz92 : szT Try.prog 92 = some 1 := by kernel_rfl
theorem sl92 : slT Try.prog 92 = none := by kernel_rfl
theorem st92 : stT Try.prog 92 = false := by kernel_rfl
theorem zc92 : zcT Try.prog 92 = some [.nilFunc] := by kernel_rfl
theorem by92 : byT Try.prog 92 = some 8 := by kernel_rfl
theorem un92 : Program.underlying Try.prog 92 = some (TypeDesc.func #[71, 3] #[3] false) := Try.underlying92
theorem pl92 : plT Try.prog 92 = none := by kernel_rfl
theorem ld93 : ldK Try.prog 93 = some (none) := by kernel_rfl
theorem sz93 : szT Try.prog 93 = some 1 := by kernel_rfl
theorem sl93 : slT Try.prog 93 = none := by kernel_rfl
theorem st93 : stT Try.prog 93 = false := by kernel_rfl
theorem zc93 : zcT Try.prog 93 = some [.nilFunc] := by kernel_rfl
theorem by93 : byT Try.prog 93 = some 8 := by kernel_rfl
theorem un93 : Program.underlying Try.prog 93 = some (TypeDesc.func #[24, 88] #[4] false) := Try.underlying93
theorem pl93 : plT Try.prog 93 = none := by kernel_rfl
theorem ld95 : ldK Try.prog 95 = some (none) := by kernel_rfl
theorem sz95 : szT Try.prog 95 = some 1 := by kernel_rfl
theorem sl95 : slT Try.prog 95 = none := by kernel_rfl
theorem st95 : stT Try.prog 95 = false := by kernel_rfl
theorem zc95 : zcT Try.prog 95 = some [.nilFunc] := by kernel_rfl
theorem by95 : byT Try.prog 95 = some 8 := by kernel_rfl
theorem un95 : Program.underlying Try.prog 95 = some (TypeDesc.func #[37] #[58, 3] false) := Try.underlying95
theorem pl95 : plT Try.prog 95 = none := by kernel_rfl
theorem ld96 : ldK Try.prog 96 = some (none) := by kernel_rfl
theorem sz96 : szT Try.prog 96 = some 1 := by kernel_rfl
theorem sl96 : slT Try.prog 96 = none := by kernel_rfl
theorem st96 : stT Try.prog 96 = false := by kernel_rfl
theorem zc96 : zcT Try.prog 96 = some [.nilFunc] := by kernel_rfl
theorem by96 : byT Try.prog 96 = some 8 := by kernel_rfl
theorem un96 : Program.underlying Try.prog 96 = some (TypeDesc.func #[37] #[3] false) := Try.underlying96
theorem pl96 : plT Try.prog 96 = none := by kernel_rfl
theorem ld97 : ldK Try.prog 97 = some (none) := by kernel_rfl
theorem sz97 : szT Try.prog 97 = some 1 := by kernel_rfl
theorem sl97 : slT Try.prog 97 = none := by kernel_rfl
theorem st97 : stT Try.prog 97 = false := by kernel_rfl
theorem zc97 : zcT Try.prog 97 = some [.nilFunc] := by kernel_rfl
theorem by97 : byT Try.prog 97 = some 8 := by kernel_rfl
theorem un97 : Program.underlying Try.prog 97 = some (TypeDesc.func #[37] #[24] false) := Try.underlying97
theorem pl97 : plT Try.prog 97 = none := by kernel_rfl
theorem ld99 : ldK Try.prog 99 = some (none) := by kernel_rfl
theorem sz99 : szT Try.prog 99 = some 1 := by kernel_rfl
theorem sl99 : slT Try.prog 99 = none := by kernel_rfl
theorem st99 : stT Try.prog 99 = false := by kernel_rfl
theorem zc99 : zcT Try.prog 99 = some [.nilFunc] := by kernel_rfl
theorem by99 : byT Try.prog 99 = some 8 := by kernel_rfl
theorem un99 : Program.underlying Try.prog 99 = some (TypeDesc.func #[37] #[58, 3, 3] false) := Try.underlying99
theorem pl99 : plT Try.prog 99 = none := by kernel_rfl
theorem ld101 : ldK Try.prog 101 = some (none) := by kernel_rfl
theorem sz101 : szT Try.prog 101 = some 1 := by kernel_rfl
theorem sl101 : slT Try.prog 101 = none := by kernel_rfl
theorem st101 : stT Try.prog 101 = false := by kernel_rfl
theorem zc101 : zcT Try.prog 101 = some [.nilFunc] := by kernel_rfl
theorem by101 : byT Try.prog 101 = some 8 := by kernel_rfl
theorem un101 : Program.underlying Try.prog 101 = some (TypeDesc.func #[37] #[3, 3, 3, 3, 4] false) := Try.underlying101
theorem pl101 : plT Try.prog 101 = none := by kernel_rfl
theorem ld102 : ldK Try.prog 102 = some (none) := by kernel_rfl
theorem sz102 : szT Try.prog 102 = some 1 := by kernel_rfl
theorem sl102 : slT Try.prog 102 = none := by kernel_rfl
theorem st102 : stT Try.prog 102 = false := by kernel_rfl
theorem zc102 : zcT Try.prog 102 = some [.nilFunc] := by kernel_rfl
theorem by102 : byT Try.prog 102 = some 8 := by kernel_rfl
theorem un102 : Program.underlying Try.prog 102 = some (TypeDesc.func #[3, 3, 3, 3, 4] #[25, 4] false) := Try.underlying102
theorem pl102 : plT Try.prog 102 = none := by kernel_rfl
theorem ld103 : ldK Try.prog 103 = some (none) := by kernel_rfl
theorem sz103 : szT Try.prog 103 = some 1 := by kernel_rfl
theorem sl103 : slT Try.prog 103 = none := by kernel_rfl
theorem st103 : stT Try.prog 103 = false := by kernel_rfl
theorem zc103 : zcT Try.prog 103 = some [.pointer none] := by kernel_rfl
theorem by103 : byT Try.prog 103 = some 8 := by kernel_rfl
theorem un103 : Program.underlying Try.prog 103 = some (TypeDesc.pointer 106) := Try.underlying103
theorem pl103 : plT Try.prog 103 = none := by kernel_rfl
theorem ld104 : ldK Try.prog 104 = some (none) := by kernel_rfl
theorem sz104 : szT Try.prog 104 = some 1 := by kernel_rfl
theorem sl104 : slT Try.prog 104 = none := by kernel_rfl
theorem st104 : stT Try.prog 104 = false := by kernel_rfl
theorem zc104 : zcT Try.prog 104 = some [.int .u64 0] := by kernel_rfl
theorem by104 : byT Try.prog 104 = some 8 := by kernel_rfl
theorem un104 : Program.underlying Try.prog 104 = some (TypeDesc.int IntKind.u64) := Try.underlying104
theorem pl104 : plT Try.prog 104 = none := by kernel_rfl
theorem ld105 : ldK Try.prog 105 = some (some 3) := by kernel_rfl
theorem sz105 : szT Try.prog 105 = some 3 := by kernel_rfl
theorem sl105 : slT Try.prog 105 = none := by kernel_rfl
theorem st105 : stT Try.prog 105 = false := by kernel_rfl
theorem zc105 : zcT Try.prog 105 = some [.slice none 0 0, .int .i64 0, .int .u64 0] := by kernel_rfl
theorem by105 : byT Try.prog 105 = some 40 := by kernel_rfl
theorem un105 : Program.underlying Try.prog 105 = some (TypeDesc.struct #[{ name := "code", type := 37, offset := 0, embedded := false, tag := "", pkgPath := "loop.example/g00662/spec", byteOffset := 0 }, { name := "at", type := 3, offset := 1, embedded := false, tag := "", pkgPath := "loop.example/g00662/spec", byteOffset := 24 }, { name := "seed", type := 104, offset := 2, embedded := false, tag := "", pkgPath := "loop.example/g00662/spec", byteOffset := 32 }]) := Try.underlying105
theorem pl105 : plT Try.prog 105 = some #[(0, 1), (1, 1), (2, 1)] := by kernel_rfl
theorem fl105_0 : fldT Try.prog 105 0 = some (0, 37) := by kernel_rfl
theorem fl105_1 : fldT Try.prog 105 1 = some (1, 3) := by kernel_rfl
theorem fl105_2 : fldT Try.prog 105 2 = some (2, 104) := by kernel_rfl
theorem ld106 : ldK Try.prog 106 = some (some 3) := by kernel_rfl
theorem sz106 : szT Try.prog 106 = some 3 := by kernel_rfl
theorem sl106 : slT Try.prog 106 = none := by kernel_rfl
theorem st106 : stT Try.prog 106 = false := by kernel_rfl
theorem zc106 : zcT Try.prog 106 = some [.slice none 0 0, .int .i64 0, .int .u64 0] := by kernel_rfl
theorem by106 : byT Try.prog 106 = some 40 := by kernel_rfl
theorem un106 : Program.underlying Try.prog 106 = some (TypeDesc.struct #[{ name := "code", type := 37, offset := 0, embedded := false, tag := "", pkgPath := "loop.example/g00662/spec", byteOffset := 0 }, { name := "at", type := 3, offset := 1, embedded := false, tag := "", pkgPath := "loop.example/g00662/spec", byteOffset := 24 }, { name := "seed", type := 104, offset := 2, embedded := false, tag := "", pkgPath := "loop.example/g00662/spec", byteOffset := 32 }]) := Try.underlying106
theorem pl106 : plT Try.prog 106 = some #[(0, 1), (1, 1), (2, 1)] := by kernel_rfl
theorem fl106_0 : fldT Try.prog 106 0 = some (0, 37) := by kernel_rfl
theorem fl106_1 : fldT Try.prog 106 1 = some (1, 3) := by kernel_rfl
theorem fl106_2 : fldT Try.prog 106 2 = some (2, 104) := by kernel_rfl
theorem ld107 : ldK Try.prog 107 = some (none) := by kernel_rfl
theorem sz107 : szT Try.prog 107 = some 1 := by kernel_rfl
theorem sl107 : slT Try.prog 107 = none := by kernel_rfl
theorem st107 : stT Try.prog 107 = false := by kernel_rfl
theorem zc107 : zcT Try.prog 107 = some [.nilFunc] := by kernel_rfl
theorem by107 : byT Try.prog 107 = some 8 := by kernel_rfl
theorem un107 : Program.underlying Try.prog 107 = some (TypeDesc.func #[] #[25] false) := Try.underlying107
theorem pl107 : plT Try.prog 107 = none := by kernel_rfl
theorem ld108 : ldK Try.prog 108 = some (none) := by kernel_rfl
theorem sz108 : szT Try.prog 108 = some 1 := by kernel_rfl
theorem sl108 : slT Try.prog 108 = none := by kernel_rfl
theorem st108 : stT Try.prog 108 = false := by kernel_rfl
theorem zc108 : zcT Try.prog 108 = some [.nilFunc] := by kernel_rfl
theorem by108 : byT Try.prog 108 = some 8 := by kernel_rfl
theorem un108 : Program.underlying Try.prog 108 = some (TypeDesc.func #[3] #[3] false) := Try.underlying108
theorem pl108 : plT Try.prog 108 = none := by kernel_rfl
theorem ld109 : ldK Try.prog 109 = some (none) := by kernel_rfl
theorem sz109 : szT Try.prog 109 = some 1 := by kernel_rfl
theorem sl109 : slT Try.prog 109 = none := by kernel_rfl
theorem st109 : stT Try.prog 109 = false := by kernel_rfl
theorem zc109 : zcT Try.prog 109 = some [.nilFunc] := by kernel_rfl
theorem by109 : byT Try.prog 109 = some 8 := by kernel_rfl
theorem un109 : Program.underlying Try.prog 109 = some (TypeDesc.func #[3] #[4] false) := Try.underlying109
theorem pl109 : plT Try.prog 109 = none := by kernel_rfl
theorem ld110 : ldK Try.prog 110 = some (none) := by kernel_rfl
theorem sz110 : szT Try.prog 110 = some 1 := by kernel_rfl
theorem sl110 : slT Try.prog 110 = none := by kernel_rfl
theorem st110 : stT Try.prog 110 = false := by kernel_rfl
theorem zc110 : zcT Try.prog 110 = some [.nilFunc] := by kernel_rfl
theorem by110 : byT Try.prog 110 = some 8 := by kernel_rfl
theorem un110 : Program.underlying Try.prog 110 = some (TypeDesc.func #[24] #[3] false) := Try.underlying110
theorem pl110 : plT Try.prog 110 = none := by kernel_rfl
theorem ld111 : ldK Try.prog 111 = some (none) := by kernel_rfl
theorem sz111 : szT Try.prog 111 = some 1 := by kernel_rfl
theorem sl111 : slT Try.prog 111 = none := by kernel_rfl
theorem st111 : stT Try.prog 111 = false := by kernel_rfl
theorem zc111 : zcT Try.prog 111 = some [.nilFunc] := by kernel_rfl
theorem by111 : byT Try.prog 111 = some 8 := by kernel_rfl
theorem un111 : Program.underlying Try.prog 111 = some (TypeDesc.func #[3, 3, 3] #[4] false) := Try.underlying111
theorem pl111 : plT Try.prog 111 = none := by kernel_rfl
theorem ld112 : ldK Try.prog 112 = some (none) := by kernel_rfl
theorem sz112 : szT Try.prog 112 = some 1 := by kernel_rfl
theorem sl112 : slT Try.prog 112 = none := by kernel_rfl
theorem st112 : stT Try.prog 112 = false := by kernel_rfl
theorem zc112 : zcT Try.prog 112 = some [.nilFunc] := by kernel_rfl
theorem by112 : byT Try.prog 112 = some 8 := by kernel_rfl
theorem un112 : Program.underlying Try.prog 112 = some (TypeDesc.func #[3, 3] #[3] false) := Try.underlying112
theorem pl112 : plT Try.prog 112 = none := by kernel_rfl
theorem ld113 : ldK Try.prog 113 = some (none) := by kernel_rfl
theorem sz113 : szT Try.prog 113 = some 1 := by kernel_rfl
theorem sl113 : slT Try.prog 113 = none := by kernel_rfl
theorem st113 : stT Try.prog 113 = false := by kernel_rfl
theorem zc113 : zcT Try.prog 113 = some [.nilFunc] := by kernel_rfl
theorem by113 : byT Try.prog 113 = some 8 := by kernel_rfl
theorem un113 : Program.underlying Try.prog 113 = some (TypeDesc.func #[51, 3] #[3] false) := Try.underlying113
theorem pl113 : plT Try.prog 113 = none := by kernel_rfl
theorem ld114 : ldK Try.prog 114 = some (none) := by kernel_rfl
theorem sz114 : szT Try.prog 114 = some 1 := by kernel_rfl
theorem sl114 : slT Try.prog 114 = none := by kernel_rfl
theorem st114 : stT Try.prog 114 = false := by kernel_rfl
theorem zc114 : zcT Try.prog 114 = some [.nilFunc] := by kernel_rfl
theorem by114 : byT Try.prog 114 = some 8 := by kernel_rfl
theorem un114 : Program.underlying Try.prog 114 = some (TypeDesc.func #[58, 77] #[4] false) := Try.underlying114
theorem pl114 : plT Try.prog 114 = none := by kernel_rfl
theorem ld115 : ldK Try.prog 115 = some (none) := by kernel_rfl
theorem sz115 : szT Try.prog 115 = some 1 := by kernel_rfl
theorem sl115 : slT Try.prog 115 = none := by kernel_rfl
theorem st115 : stT Try.prog 115 = false := by kernel_rfl
theorem zc115 : zcT Try.prog 115 = some [.nilFunc] := by kernel_rfl
theorem by115 : byT Try.prog 115 = some 8 := by kernel_rfl
theorem un115 : Program.underlying Try.prog 115 = some (TypeDesc.func #[51] #[56] false) := Try.underlying115
theorem pl115 : plT Try.prog 115 = none := by kernel_rfl
theorem ld116 : ldK Try.prog 116 = some (none) := by kernel_rfl
theorem sz116 : szT Try.prog 116 = some 1 := by kernel_rfl
theorem sl116 : slT Try.prog 116 = none := by kernel_rfl
theorem st116 : stT Try.prog 116 = false := by kernel_rfl
theorem zc116 : zcT Try.prog 116 = some [.nilFunc] := by kernel_rfl
theorem by116 : byT Try.prog 116 = some 8 := by kernel_rfl
theorem un116 : Program.underlying Try.prog 116 = some (TypeDesc.func #[56, 56] #[4] false) := Try.underlying116
theorem pl116 : plT Try.prog 116 = none := by kernel_rfl
theorem ld117 : ldK Try.prog 117 = some (none) := by kernel_rfl
theorem sz117 : szT Try.prog 117 = some 1 := by kernel_rfl
theorem sl117 : slT Try.prog 117 = none := by kernel_rfl
theorem st117 : stT Try.prog 117 = false := by kernel_rfl
theorem zc117 : zcT Try.prog 117 = some [.nilFunc] := by kernel_rfl
theorem by117 : byT Try.prog 117 = some 8 := by kernel_rfl
theorem un117 : Program.underlying Try.prog 117 = some (TypeDesc.func #[24, 3, 3] #[4] false) := Try.underlying117
theorem pl117 : plT Try.prog 117 = none := by kernel_rfl
theorem ld118 : ldK Try.prog 118 = some (none) := by kernel_rfl
theorem sz118 : szT Try.prog 118 = some 1 := by kernel_rfl
theorem sl118 : slT Try.prog 118 = none := by kernel_rfl
theorem st118 : stT Try.prog 118 = false := by kernel_rfl
theorem zc118 : zcT Try.prog 118 = some [.nilFunc] := by kernel_rfl
theorem by118 : byT Try.prog 118 = some 8 := by kernel_rfl
theorem un118 : Program.underlying Try.prog 118 = some (TypeDesc.func #[58, 3] #[4] false) := Try.underlying118
theorem pl118 : plT Try.prog 118 = none := by kernel_rfl
theorem ld119 : ldK Try.prog 119 = some (none) := by kernel_rfl
theorem sz119 : szT Try.prog 119 = some 1 := by kernel_rfl
theorem sl119 : slT Try.prog 119 = none := by kernel_rfl
theorem st119 : stT Try.prog 119 = false := by kernel_rfl
theorem zc119 : zcT Try.prog 119 = some [.nilFunc] := by kernel_rfl
theorem by119 : byT Try.prog 119 = some 8 := by kernel_rfl
theorem un119 : Program.underlying Try.prog 119 = some (TypeDesc.func #[58, 3, 3] #[4] false) := Try.underlying119
theorem pl119 : plT Try.prog 119 = none := by kernel_rfl
theorem ld120 : ldK Try.prog 120 = some (none) := by kernel_rfl
theorem sz120 : szT Try.prog 120 = some 1 := by kernel_rfl
theorem sl120 : slT Try.prog 120 = none := by kernel_rfl
theorem st120 : stT Try.prog 120 = false := by kernel_rfl
theorem zc120 : zcT Try.prog 120 = some [.nilFunc] := by kernel_rfl
theorem by120 : byT Try.prog 120 = some 8 := by kernel_rfl
theorem un120 : Program.underlying Try.prog 120 = some (TypeDesc.func #[56, 3] #[3] false) := Try.underlying120
theorem pl120 : plT Try.prog 120 = none := by kernel_rfl
theorem ld121 : ldK Try.prog 121 = some (none) := by kernel_rfl
theorem sz121 : szT Try.prog 121 = some 1 := by kernel_rfl
theorem sl121 : slT Try.prog 121 = none := by kernel_rfl
theorem st121 : stT Try.prog 121 = false := by kernel_rfl
theorem zc121 : zcT Try.prog 121 = some [.nilFunc] := by kernel_rfl
theorem by121 : byT Try.prog 121 = some 8 := by kernel_rfl
theorem un121 : Program.underlying Try.prog 121 = some (TypeDesc.func #[58, 3, 122] #[24, 4] false) := Try.underlying121
theorem pl121 : plT Try.prog 121 = none := by kernel_rfl
theorem ld122 : ldK Try.prog 122 = some (none) := by kernel_rfl
theorem sz122 : szT Try.prog 122 = some 1 := by kernel_rfl
theorem sl122 : slT Try.prog 122 = none := by kernel_rfl
theorem st122 : stT Try.prog 122 = false := by kernel_rfl
theorem zc122 : zcT Try.prog 122 = some [.nilFunc] := by kernel_rfl
theorem by122 : byT Try.prog 122 = some 8 := by kernel_rfl
theorem un122 : Program.underlying Try.prog 122 = some (TypeDesc.func #[77] #[4] false) := Try.underlying122
theorem pl122 : plT Try.prog 122 = none := by kernel_rfl
theorem ld123 : ldK Try.prog 123 = some (none) := by kernel_rfl
theorem sz123 : szT Try.prog 123 = some 1 := by kernel_rfl
theorem sl123 : slT Try.prog 123 = none := by kernel_rfl
theorem st123 : stT Try.prog 123 = false := by kernel_rfl
theorem zc123 : zcT Try.prog 123 = some [.nilFunc] := by kernel_rfl
theorem by123 : byT Try.prog 123 = some 8 := by kernel_rfl
theorem un123 : Program.underlying Try.prog 123 = some (TypeDesc.func #[] #[24] false) := Try.underlying123
theorem pl123 : plT Try.prog 123 = none := by kernel_rfl
theorem ld124 : ldK Try.prog 124 = some (none) := by kernel_rfl
theorem sz124 : szT Try.prog 124 = some 1 := by kernel_rfl
theorem sl124 : slT Try.prog 124 = none := by kernel_rfl
theorem st124 : stT Try.prog 124 = false := by kernel_rfl
theorem zc124 : zcT Try.prog 124 = some [.nilFunc] := by kernel_rfl
theorem by124 : byT Try.prog 124 = some 8 := by kernel_rfl
theorem un124 : Program.underlying Try.prog 124 = some (TypeDesc.func #[24] #[71] false) := Try.underlying124
theorem pl124 : plT Try.prog 124 = none := by kernel_rfl
theorem ld125 : ldK Try.prog 125 = some (none) := by kernel_rfl
theorem sz125 : szT Try.prog 125 = some 1 := by kernel_rfl
theorem sl125 : slT Try.prog 125 = none := by kernel_rfl
theorem st125 : stT Try.prog 125 = false := by kernel_rfl
theorem zc125 : zcT Try.prog 125 = some [.nilFunc] := by kernel_rfl
theorem by125 : byT Try.prog 125 = some 8 := by kernel_rfl
theorem un125 : Program.underlying Try.prog 125 = some (TypeDesc.func #[58, 80] #[58, 3] false) := Try.underlying125
theorem pl125 : plT Try.prog 125 = none := by kernel_rfl
theorem ld126 : ldK Try.prog 126 = some (none) := by kernel_rfl
theorem sz126 : szT Try.prog 126 = some 1 := by kernel_rfl
theorem sl126 : slT Try.prog 126 = none := by kernel_rfl
theorem st126 : stT Try.prog 126 = false := by kernel_rfl
theorem zc126 : zcT Try.prog 126 = some [.nilFunc] := by kernel_rfl
theorem by126 : byT Try.prog 126 = some 8 := by kernel_rfl
theorem un126 : Program.underlying Try.prog 126 = some (TypeDesc.func #[] #[58] false) := Try.underlying126
theorem pl126 : plT Try.prog 126 = none := by kernel_rfl
theorem ld127 : ldK Try.prog 127 = some (none) := by kernel_rfl
theorem sz127 : szT Try.prog 127 = some 1 := by kernel_rfl
theorem sl127 : slT Try.prog 127 = none := by kernel_rfl
theorem st127 : stT Try.prog 127 = false := by kernel_rfl
theorem zc127 : zcT Try.prog 127 = some [.nilFunc] := by kernel_rfl
theorem by127 : byT Try.prog 127 = some 8 := by kernel_rfl
theorem un127 : Program.underlying Try.prog 127 = some (TypeDesc.func #[58] #[80] false) := Try.underlying127
theorem pl127 : plT Try.prog 127 = none := by kernel_rfl
theorem ld128 : ldK Try.prog 128 = some (none) := by kernel_rfl
theorem sz128 : szT Try.prog 128 = some 1 := by kernel_rfl
theorem sl128 : slT Try.prog 128 = none := by kernel_rfl
theorem st128 : stT Try.prog 128 = false := by kernel_rfl
theorem zc128 : zcT Try.prog 128 = some [.nilFunc] := by kernel_rfl
theorem by128 : byT Try.prog 128 = some 8 := by kernel_rfl
theorem un128 : Program.underlying Try.prog 128 = some (TypeDesc.func #[58] #[58] false) := Try.underlying128
theorem pl128 : plT Try.prog 128 = none := by kernel_rfl
theorem ld129 : ldK Try.prog 129 = some (none) := by kernel_rfl
theorem sz129 : szT Try.prog 129 = some 1 := by kernel_rfl
theorem sl129 : slT Try.prog 129 = none := by kernel_rfl
theorem st129 : stT Try.prog 129 = false := by kernel_rfl
theorem zc129 : zcT Try.prog 129 = some [.nilFunc] := by kernel_rfl
theorem by129 : byT Try.prog 129 = some 8 := by kernel_rfl
theorem un129 : Program.underlying Try.prog 129 = some (TypeDesc.func #[80, 80] #[4] false) := Try.underlying129
theorem pl129 : plT Try.prog 129 = none := by kernel_rfl
theorem ld130 : ldK Try.prog 130 = some (none) := by kernel_rfl
theorem sz130 : szT Try.prog 130 = some 1 := by kernel_rfl
theorem sl130 : slT Try.prog 130 = none := by kernel_rfl
theorem st130 : stT Try.prog 130 = false := by kernel_rfl
theorem zc130 : zcT Try.prog 130 = some [.nilFunc] := by kernel_rfl
theorem by130 : byT Try.prog 130 = some 8 := by kernel_rfl
theorem un130 : Program.underlying Try.prog 130 = some (TypeDesc.func #[] #[3] false) := Try.underlying130
theorem pl130 : plT Try.prog 130 = none := by kernel_rfl
theorem ld131 : ldK Try.prog 131 = some (none) := by kernel_rfl
theorem sz131 : szT Try.prog 131 = some 1 := by kernel_rfl
theorem sl131 : slT Try.prog 131 = none := by kernel_rfl
theorem st131 : stT Try.prog 131 = false := by kernel_rfl
theorem zc131 : zcT Try.prog 131 = some [.nilFunc] := by kernel_rfl
theorem by131 : byT Try.prog 131 = some 8 := by kernel_rfl
theorem un131 : Program.underlying Try.prog 131 = some (TypeDesc.func #[132] #[77] false) := Try.underlying131
theorem pl131 : plT Try.prog 131 = none := by kernel_rfl
theorem ld132 : ldK Try.prog 132 = some (some 6) := by kernel_rfl
theorem sz132 : szT Try.prog 132 = some 6 := by kernel_rfl
theorem sl132 : slT Try.prog 132 = none := by kernel_rfl
theorem st132 : stT Try.prog 132 = false := by kernel_rfl
theorem zc132 : zcT Try.prog 132 = some [.int .i64 0, .int .i64 0, .int .i64 0, .int .i64 0, .int .i64 0, .int .i64 0] := by kernel_rfl
theorem by132 : byT Try.prog 132 = some 48 := by kernel_rfl
theorem un132 : Program.underlying Try.prog 132 = some (TypeDesc.struct #[{ name := "Case", type := 3, offset := 0, embedded := false, tag := "", pkgPath := "", byteOffset := 0 }, { name := "Task", type := 3, offset := 1, embedded := false, tag := "", pkgPath := "", byteOffset := 8 }, { name := "Role", type := 3, offset := 2, embedded := false, tag := "", pkgPath := "", byteOffset := 16 }, { name := "State", type := 3, offset := 3, embedded := false, tag := "", pkgPath := "", byteOffset := 24 }, { name := "Who", type := 3, offset := 4, embedded := false, tag := "", pkgPath := "", byteOffset := 32 }, { name := "Until", type := 3, offset := 5, embedded := false, tag := "", pkgPath := "", byteOffset := 40 }]) := Try.underlying132
theorem pl132 : plT Try.prog 132 = some #[(0, 1), (1, 1), (2, 1), (3, 1), (4, 1), (5, 1)] := by kernel_rfl
theorem fl132_0 : fldT Try.prog 132 0 = some (0, 3) := by kernel_rfl
theorem fl132_1 : fldT Try.prog 132 1 = some (1, 3) := by kernel_rfl
theorem fl132_2 : fldT Try.prog 132 2 = some (2, 3) := by kernel_rfl
theorem fl132_3 : fldT Try.prog 132 3 = some (3, 3) := by kernel_rfl
theorem fl132_4 : fldT Try.prog 132 4 = some (4, 3) := by kernel_rfl
theorem fl132_5 : fldT Try.prog 132 5 = some (5, 3) := by kernel_rfl
theorem ld133 : ldK Try.prog 133 = some (none) := by kernel_rfl
theorem sz133 : szT Try.prog 133 = some 1 := by kernel_rfl
theorem sl133 : slT Try.prog 133 = none := by kernel_rfl
theorem st133 : stT Try.prog 133 = false := by kernel_rfl
theorem zc133 : zcT Try.prog 133 = some [.nilFunc] := by kernel_rfl
theorem by133 : byT Try.prog 133 = some 8 := by kernel_rfl
theorem un133 : Program.underlying Try.prog 133 = some (TypeDesc.func #[56, 122] #[4] false) := Try.underlying133
theorem pl133 : plT Try.prog 133 = none := by kernel_rfl
theorem ld134 : ldK Try.prog 134 = some (none) := by kernel_rfl
theorem sz134 : szT Try.prog 134 = some 1 := by kernel_rfl
theorem sl134 : slT Try.prog 134 = none := by kernel_rfl
theorem st134 : stT Try.prog 134 = false := by kernel_rfl
theorem zc134 : zcT Try.prog 134 = some [.nilFunc] := by kernel_rfl
theorem by134 : byT Try.prog 134 = some 8 := by kernel_rfl
theorem un134 : Program.underlying Try.prog 134 = some (TypeDesc.func #[77, 77] #[4] false) := Try.underlying134
theorem pl134 : plT Try.prog 134 = none := by kernel_rfl
theorem ld135 : ldK Try.prog 135 = some (none) := by kernel_rfl
theorem sz135 : szT Try.prog 135 = some 1 := by kernel_rfl
theorem sl135 : slT Try.prog 135 = none := by kernel_rfl
theorem st135 : stT Try.prog 135 = false := by kernel_rfl
theorem zc135 : zcT Try.prog 135 = some [.int .u64 0] := by kernel_rfl
theorem by135 : byT Try.prog 135 = some 8 := by kernel_rfl
theorem un135 : Program.underlying Try.prog 135 = some (TypeDesc.int IntKind.u64) := Try.underlying135
theorem pl135 : plT Try.prog 135 = none := by kernel_rfl
theorem ld136 : ldK Try.prog 136 = some (none) := by kernel_rfl
theorem sz136 : szT Try.prog 136 = some 1 := by kernel_rfl
theorem sl136 : slT Try.prog 136 = none := by kernel_rfl
theorem st136 : stT Try.prog 136 = false := by kernel_rfl
theorem zc136 : zcT Try.prog 136 = some [.nilFunc] := by kernel_rfl
theorem by136 : byT Try.prog 136 = some 8 := by kernel_rfl
theorem un136 : Program.underlying Try.prog 136 = some (TypeDesc.func #[80] #[4] false) := Try.underlying136
theorem pl136 : plT Try.prog 136 = none := by kernel_rfl
theorem ld137 : ldK Try.prog 137 = some (none) := by kernel_rfl
theorem sz137 : szT Try.prog 137 = some 1 := by kernel_rfl
theorem sl137 : slT Try.prog 137 = none := by kernel_rfl
theorem st137 : stT Try.prog 137 = false := by kernel_rfl
theorem zc137 : zcT Try.prog 137 = some [.nilFunc] := by kernel_rfl
theorem by137 : byT Try.prog 137 = some 8 := by kernel_rfl
theorem un137 : Program.underlying Try.prog 137 = some (TypeDesc.func #[58, 3] #[58, 3] false) := Try.underlying137
theorem pl137 : plT Try.prog 137 = none := by kernel_rfl
theorem ld138 : ldK Try.prog 138 = some (none) := by kernel_rfl
theorem sz138 : szT Try.prog 138 = some 1 := by kernel_rfl
theorem sl138 : slT Try.prog 138 = none := by kernel_rfl
theorem st138 : stT Try.prog 138 = false := by kernel_rfl
theorem zc138 : zcT Try.prog 138 = some [.nilFunc] := by kernel_rfl
theorem by138 : byT Try.prog 138 = some 8 := by kernel_rfl
theorem un138 : Program.underlying Try.prog 138 = some (TypeDesc.func #[58, 139, 80] #[3] false) := Try.underlying138
theorem pl138 : plT Try.prog 138 = none := by kernel_rfl
theorem ld139 : ldK Try.prog 139 = some (none) := by kernel_rfl
theorem sz139 : szT Try.prog 139 = some 1 := by kernel_rfl
theorem sl139 : slT Try.prog 139 = none := by kernel_rfl
theorem st139 : stT Try.prog 139 = false := by kernel_rfl
theorem zc139 : zcT Try.prog 139 = some [.pointer none] := by kernel_rfl
theorem by139 : byT Try.prog 139 = some 8 := by kernel_rfl
theorem un139 : Program.underlying Try.prog 139 = some (TypeDesc.pointer 77) := Try.underlying139
theorem pl139 : plT Try.prog 139 = none := by kernel_rfl
theorem ld140 : ldK Try.prog 140 = some (none) := by kernel_rfl
theorem sz140 : szT Try.prog 140 = some 1 := by kernel_rfl
theorem sl140 : slT Try.prog 140 = none := by kernel_rfl
theorem st140 : stT Try.prog 140 = false := by kernel_rfl
theorem zc140 : zcT Try.prog 140 = some [.nilFunc] := by kernel_rfl
theorem by140 : byT Try.prog 140 = some 8 := by kernel_rfl
theorem un140 : Program.underlying Try.prog 140 = some (TypeDesc.func #[58, 80] #[3] false) := Try.underlying140
theorem pl140 : plT Try.prog 140 = none := by kernel_rfl
theorem ld141 : ldK Try.prog 141 = some (none) := by kernel_rfl
theorem sz141 : szT Try.prog 141 = some 1 := by kernel_rfl
theorem sl141 : slT Try.prog 141 = none := by kernel_rfl
theorem st141 : stT Try.prog 141 = false := by kernel_rfl
theorem zc141 : zcT Try.prog 141 = some [.nilFunc] := by kernel_rfl
theorem by141 : byT Try.prog 141 = some 8 := by kernel_rfl
theorem un141 : Program.underlying Try.prog 141 = some (TypeDesc.func #[58, 80] #[58] false) := Try.underlying141
theorem pl141 : plT Try.prog 141 = none := by kernel_rfl
theorem ld142 : ldK Try.prog 142 = some (none) := by kernel_rfl
theorem sz142 : szT Try.prog 142 = some 1 := by kernel_rfl
theorem sl142 : slT Try.prog 142 = none := by kernel_rfl
theorem st142 : stT Try.prog 142 = false := by kernel_rfl
theorem zc142 : zcT Try.prog 142 = some [.nilFunc] := by kernel_rfl
theorem by142 : byT Try.prog 142 = some 8 := by kernel_rfl
theorem un142 : Program.underlying Try.prog 142 = some (TypeDesc.func #[56] #[56] false) := Try.underlying142
theorem pl142 : plT Try.prog 142 = none := by kernel_rfl
theorem ld143 : ldK Try.prog 143 = some (none) := by kernel_rfl
theorem sz143 : szT Try.prog 143 = some 1 := by kernel_rfl
theorem sl143 : slT Try.prog 143 = none := by kernel_rfl
theorem st143 : stT Try.prog 143 = false := by kernel_rfl
theorem zc143 : zcT Try.prog 143 = some [.nilFunc] := by kernel_rfl
theorem by143 : byT Try.prog 143 = some 8 := by kernel_rfl
theorem un143 : Program.underlying Try.prog 143 = some (TypeDesc.func #[56, 122] #[3] false) := Try.underlying143
theorem pl143 : plT Try.prog 143 = none := by kernel_rfl
theorem ld144 : ldK Try.prog 144 = some (none) := by kernel_rfl
theorem sz144 : szT Try.prog 144 = some 1 := by kernel_rfl
theorem sl144 : slT Try.prog 144 = none := by kernel_rfl
theorem st144 : stT Try.prog 144 = false := by kernel_rfl
theorem zc144 : zcT Try.prog 144 = some [.nilFunc] := by kernel_rfl
theorem by144 : byT Try.prog 144 = some 8 := by kernel_rfl
theorem un144 : Program.underlying Try.prog 144 = some (TypeDesc.func #[77, 3] #[4] false) := Try.underlying144
theorem pl144 : plT Try.prog 144 = none := by kernel_rfl
theorem ld145 : ldK Try.prog 145 = some (none) := by kernel_rfl
theorem sz145 : szT Try.prog 145 = some 1 := by kernel_rfl
theorem sl145 : slT Try.prog 145 = none := by kernel_rfl
theorem st145 : stT Try.prog 145 = false := by kernel_rfl
theorem zc145 : zcT Try.prog 145 = some [.nilFunc] := by kernel_rfl
theorem by145 : byT Try.prog 145 = some 8 := by kernel_rfl
theorem un145 : Program.underlying Try.prog 145 = some (TypeDesc.func #[3, 3] #[4] false) := Try.underlying145
theorem pl145 : plT Try.prog 145 = none := by kernel_rfl
theorem ld146 : ldK Try.prog 146 = some (none) := by kernel_rfl
theorem sz146 : szT Try.prog 146 = some 1 := by kernel_rfl
theorem sl146 : slT Try.prog 146 = none := by kernel_rfl
theorem st146 : stT Try.prog 146 = false := by kernel_rfl
theorem zc146 : zcT Try.prog 146 = some [.nilFunc] := by kernel_rfl
theorem by146 : byT Try.prog 146 = some 8 := by kernel_rfl
theorem un146 : Program.underlying Try.prog 146 = some (TypeDesc.func #[] #[9] false) := Try.underlying146
theorem pl146 : plT Try.prog 146 = none := by kernel_rfl
theorem ld147 : ldK Try.prog 147 = some (some 4) := by kernel_rfl
theorem sz147 : szT Try.prog 147 = some 4 := by kernel_rfl
theorem sl147 : slT Try.prog 147 = none := by kernel_rfl
theorem st147 : stT Try.prog 147 = false := by kernel_rfl
theorem zc147 : zcT Try.prog 147 = some [.pointer none, .pointer none, .pointer none, .string ByteArray.empty] := by kernel_rfl
theorem by147 : byT Try.prog 147 = some 40 := by kernel_rfl
theorem un147 : Program.underlying Try.prog 147 = some (TypeDesc.struct #[{ name := "_interface", type := 17, offset := 0, embedded := false, tag := "", pkgPath := "runtime", byteOffset := 0 }, { name := "concrete", type := 17, offset := 1, embedded := false, tag := "", pkgPath := "runtime", byteOffset := 8 }, { name := "asserted", type := 17, offset := 2, embedded := false, tag := "", pkgPath := "runtime", byteOffset := 16 }, { name := "missingMethod", type := 9, offset := 3, embedded := false, tag := "", pkgPath := "runtime", byteOffset := 24 }]) := Try.underlying147
theorem pl147 : plT Try.prog 147 = some #[(0, 1), (1, 1), (2, 1), (3, 1)] := by kernel_rfl
theorem fl147_0 : fldT Try.prog 147 0 = some (0, 17) := by kernel_rfl
theorem fl147_1 : fldT Try.prog 147 1 = some (1, 17) := by kernel_rfl
theorem fl147_2 : fldT Try.prog 147 2 = some (2, 17) := by kernel_rfl
theorem fl147_3 : fldT Try.prog 147 3 = some (3, 9) := by kernel_rfl
theorem ld148 : ldK Try.prog 148 = some (some 4) := by kernel_rfl
theorem sz148 : szT Try.prog 148 = some 4 := by kernel_rfl
theorem sl148 : slT Try.prog 148 = none := by kernel_rfl
theorem st148 : stT Try.prog 148 = false := by kernel_rfl
theorem zc148 : zcT Try.prog 148 = some [.pointer none, .pointer none, .pointer none, .string ByteArray.empty] := by kernel_rfl
theorem by148 : byT Try.prog 148 = some 40 := by kernel_rfl
theorem un148 : Program.underlying Try.prog 148 = some (TypeDesc.struct #[{ name := "_interface", type := 17, offset := 0, embedded := false, tag := "", pkgPath := "runtime", byteOffset := 0 }, { name := "concrete", type := 17, offset := 1, embedded := false, tag := "", pkgPath := "runtime", byteOffset := 8 }, { name := "asserted", type := 17, offset := 2, embedded := false, tag := "", pkgPath := "runtime", byteOffset := 16 }, { name := "missingMethod", type := 9, offset := 3, embedded := false, tag := "", pkgPath := "runtime", byteOffset := 24 }]) := Try.underlying148
theorem pl148 : plT Try.prog 148 = some #[(0, 1), (1, 1), (2, 1), (3, 1)] := by kernel_rfl
theorem fl148_0 : fldT Try.prog 148 0 = some (0, 17) := by kernel_rfl
theorem fl148_1 : fldT Try.prog 148 1 = some (1, 17) := by kernel_rfl
theorem fl148_2 : fldT Try.prog 148 2 = some (2, 17) := by kernel_rfl
theorem fl148_3 : fldT Try.prog 148 3 = some (3, 9) := by kernel_rfl
theorem ld149 : ldK Try.prog 149 = some (some 0) := by kernel_rfl
theorem sz149 : szT Try.prog 149 = some 0 := by kernel_rfl
theorem sl149 : slT Try.prog 149 = none := by kernel_rfl
theorem st149 : stT Try.prog 149 = false := by kernel_rfl
theorem zc149 : zcT Try.prog 149 = some [] := by kernel_rfl
theorem by149 : byT Try.prog 149 = some 0 := by kernel_rfl
theorem un149 : Program.underlying Try.prog 149 = some (TypeDesc.array 0 16) := Try.underlying149
theorem pl149 : plT Try.prog 149 = none := by kernel_rfl
theorem ld150 : ldK Try.prog 150 = some (some 0) := by kernel_rfl
theorem sz150 : szT Try.prog 150 = some 0 := by kernel_rfl
theorem sl150 : slT Try.prog 150 = none := by kernel_rfl
theorem st150 : stT Try.prog 150 = false := by kernel_rfl
theorem zc150 : zcT Try.prog 150 = some [] := by kernel_rfl
theorem by150 : byT Try.prog 150 = some 0 := by kernel_rfl
theorem un150 : Program.underlying Try.prog 150 = some (TypeDesc.struct #[{ name := "_", type := 149, offset := 0, embedded := false, tag := "", pkgPath := "runtime", byteOffset := 0 }]) := Try.underlying150
theorem pl150 : plT Try.prog 150 = some #[(0, 0)] := by kernel_rfl
theorem fl150_0 : fldT Try.prog 150 0 = some (0, 149) := by kernel_rfl
theorem ld151 : ldK Try.prog 151 = some (some 0) := by kernel_rfl
theorem sz151 : szT Try.prog 151 = some 0 := by kernel_rfl
theorem sl151 : slT Try.prog 151 = none := by kernel_rfl
theorem st151 : stT Try.prog 151 = false := by kernel_rfl
theorem zc151 : zcT Try.prog 151 = some [] := by kernel_rfl
theorem by151 : byT Try.prog 151 = some 0 := by kernel_rfl
theorem un151 : Program.underlying Try.prog 151 = some (TypeDesc.struct #[{ name := "_", type := 149, offset := 0, embedded := false, tag := "", pkgPath := "runtime", byteOffset := 0 }]) := Try.underlying151
theorem pl151 : plT Try.prog 151 = some #[(0, 0)] := by kernel_rfl
theorem fl151_0 : fldT Try.prog 151 0 = some (0, 149) := by kernel_rfl
theorem ld152 : ldK Try.prog 152 = some (none) := by kernel_rfl
theorem sz152 : szT Try.prog 152 = some 1 := by kernel_rfl
theorem sl152 : slT Try.prog 152 = none := by kernel_rfl
theorem st152 : stT Try.prog 152 = false := by kernel_rfl
theorem zc152 : zcT Try.prog 152 = some [.int .u32 0] := by kernel_rfl
theorem by152 : byT Try.prog 152 = some 4 := by kernel_rfl
theorem un152 : Program.underlying Try.prog 152 = some (TypeDesc.int IntKind.u32) := Try.underlying152
theorem pl152 : plT Try.prog 152 = none := by kernel_rfl
theorem ld153 : ldK Try.prog 153 = some (none) := by kernel_rfl
theorem sz153 : szT Try.prog 153 = some 1 := by kernel_rfl
theorem sl153 : slT Try.prog 153 = none := by kernel_rfl
theorem st153 : stT Try.prog 153 = false := by kernel_rfl
theorem zc153 : zcT Try.prog 153 = some [.int .u8 0] := by kernel_rfl
theorem by153 : byT Try.prog 153 = some 1 := by kernel_rfl
theorem un153 : Program.underlying Try.prog 153 = some (TypeDesc.int IntKind.u8) := Try.underlying153
theorem pl153 : plT Try.prog 153 = none := by kernel_rfl
theorem ld154 : ldK Try.prog 154 = some (none) := by kernel_rfl
theorem sz154 : szT Try.prog 154 = some 1 := by kernel_rfl
theorem sl154 : slT Try.prog 154 = none := by kernel_rfl
theorem st154 : stT Try.prog 154 = false := by kernel_rfl
theorem zc154 : zcT Try.prog 154 = some [.int .u8 0] := by kernel_rfl
theorem by154 : byT Try.prog 154 = some 1 := by kernel_rfl
theorem un154 : Program.underlying Try.prog 154 = some (TypeDesc.int IntKind.u8) := Try.underlying154
theorem pl154 : plT Try.prog 154 = none := by kernel_rfl
theorem ld155 : ldK Try.prog 155 = some (none) := by kernel_rfl
theorem sz155 : szT Try.prog 155 = some 1 := by kernel_rfl
theorem sl155 : slT Try.prog 155 = none := by kernel_rfl
theorem st155 : stT Try.prog 155 = false := by kernel_rfl
theorem zc155 : zcT Try.prog 155 = some [.nilFunc] := by kernel_rfl
theorem by155 : byT Try.prog 155 = some 8 := by kernel_rfl
theorem un155 : Program.underlying Try.prog 155 = some (TypeDesc.func #[161, 161] #[4] false) := Try.underlying155
theorem pl155 : plT Try.prog 155 = none := by kernel_rfl
theorem ld156 : ldK Try.prog 156 = some (none) := by kernel_rfl
theorem sz156 : szT Try.prog 156 = some 1 := by kernel_rfl
theorem sl156 : slT Try.prog 156 = none := by kernel_rfl
theorem st156 : stT Try.prog 156 = false := by kernel_rfl
theorem zc156 : zcT Try.prog 156 = some [.pointer none] := by kernel_rfl
theorem by156 : byT Try.prog 156 = some 8 := by kernel_rfl
theorem un156 : Program.underlying Try.prog 156 = some (TypeDesc.pointer 5) := Try.underlying156
theorem pl156 : plT Try.prog 156 = none := by kernel_rfl
theorem ld157 : ldK Try.prog 157 = some (none) := by kernel_rfl
theorem sz157 : szT Try.prog 157 = some 1 := by kernel_rfl
theorem sl157 : slT Try.prog 157 = none := by kernel_rfl
theorem st157 : stT Try.prog 157 = false := by kernel_rfl
theorem zc157 : zcT Try.prog 157 = some [.int .i32 0] := by kernel_rfl
theorem by157 : byT Try.prog 157 = some 4 := by kernel_rfl
theorem un157 : Program.underlying Try.prog 157 = some (TypeDesc.int IntKind.i32) := Try.underlying157
theorem pl157 : plT Try.prog 157 = none := by kernel_rfl
theorem ld158 : ldK Try.prog 158 = some (none) := by kernel_rfl
theorem sz158 : szT Try.prog 158 = some 1 := by kernel_rfl
theorem sl158 : slT Try.prog 158 = none := by kernel_rfl
theorem st158 : stT Try.prog 158 = false := by kernel_rfl
theorem zc158 : zcT Try.prog 158 = some [.int .i32 0] := by kernel_rfl
theorem by158 : byT Try.prog 158 = some 4 := by kernel_rfl
theorem un158 : Program.underlying Try.prog 158 = some (TypeDesc.int IntKind.i32) := Try.underlying158
theorem pl158 : plT Try.prog 158 = none := by kernel_rfl
theorem ld159 : ldK Try.prog 159 = some (some 11) := by kernel_rfl
theorem sz159 : szT Try.prog 159 = some 11 := by kernel_rfl
theorem sl159 : slT Try.prog 159 = none := by kernel_rfl
theorem st159 : stT Try.prog 159 = false := by kernel_rfl
theorem zc159 : zcT Try.prog 159 = some [.int .u64 0, .int .u64 0, .int .u32 0, .int .u8 0, .int .u8 0, .int .u8 0, .int .u8 0, .nilFunc, .pointer none, .int .i32 0, .int .i32 0] := by kernel_rfl
theorem by159 : byT Try.prog 159 = some 48 := by kernel_rfl
theorem un159 : Program.underlying Try.prog 159 = some (TypeDesc.struct #[{ name := "Size_", type := 12, offset := 0, embedded := false, tag := "", pkgPath := "", byteOffset := 0 }, { name := "PtrBytes", type := 12, offset := 1, embedded := false, tag := "", pkgPath := "", byteOffset := 8 }, { name := "Hash", type := 152, offset := 2, embedded := false, tag := "", pkgPath := "", byteOffset := 16 }, { name := "TFlag", type := 153, offset := 3, embedded := false, tag := "", pkgPath := "", byteOffset := 20 }, { name := "Align_", type := 5, offset := 4, embedded := false, tag := "", pkgPath := "", byteOffset := 21 }, { name := "FieldAlign_", type := 5, offset := 5, embedded := false, tag := "", pkgPath := "", byteOffset := 22 }, { name := "Kind_", type := 154, offset := 6, embedded := false, tag := "", pkgPath := "", byteOffset := 23 }, { name := "Equal", type := 155, offset := 7, embedded := false, tag := "", pkgPath := "", byteOffset := 24 }, { name := "GCData", type := 156, offset := 8, embedded := false, tag := "", pkgPath := "", byteOffset := 32 }, { name := "Str", type := 157, offset := 9, embedded := false, tag := "", pkgPath := "", byteOffset := 40 }, { name := "PtrToThis", type := 158, offset := 10, embedded := false, tag := "", pkgPath := "", byteOffset := 44 }]) := Try.underlying159
theorem pl159 : plT Try.prog 159 = some #[(0, 1), (1, 1), (2, 1), (3, 1), (4, 1), (5, 1), (6, 1), (7, 1), (8, 1), (9, 1), (10, 1)] := by kernel_rfl
theorem fl159_0 : fldT Try.prog 159 0 = some (0, 12) := by kernel_rfl
theorem fl159_1 : fldT Try.prog 159 1 = some (1, 12) := by kernel_rfl
theorem fl159_2 : fldT Try.prog 159 2 = some (2, 152) := by kernel_rfl
theorem fl159_3 : fldT Try.prog 159 3 = some (3, 153) := by kernel_rfl
theorem fl159_4 : fldT Try.prog 159 4 = some (4, 5) := by kernel_rfl
theorem fl159_5 : fldT Try.prog 159 5 = some (5, 5) := by kernel_rfl
theorem fl159_6 : fldT Try.prog 159 6 = some (6, 154) := by kernel_rfl
theorem fl159_7 : fldT Try.prog 159 7 = some (7, 155) := by kernel_rfl
theorem fl159_8 : fldT Try.prog 159 8 = some (8, 156) := by kernel_rfl
theorem fl159_9 : fldT Try.prog 159 9 = some (9, 157) := by kernel_rfl
theorem fl159_10 : fldT Try.prog 159 10 = some (10, 158) := by kernel_rfl
theorem ld160 : ldK Try.prog 160 = some (some 11) := by kernel_rfl
theorem sz160 : szT Try.prog 160 = some 11 := by kernel_rfl
theorem sl160 : slT Try.prog 160 = none := by kernel_rfl
theorem st160 : stT Try.prog 160 = false := by kernel_rfl
theorem zc160 : zcT Try.prog 160 = some [.int .u64 0, .int .u64 0, .int .u32 0, .int .u8 0, .int .u8 0, .int .u8 0, .int .u8 0, .nilFunc, .pointer none, .int .i32 0, .int .i32 0] := by kernel_rfl
theorem by160 : byT Try.prog 160 = some 48 := by kernel_rfl
theorem un160 : Program.underlying Try.prog 160 = some (TypeDesc.struct #[{ name := "Size_", type := 12, offset := 0, embedded := false, tag := "", pkgPath := "", byteOffset := 0 }, { name := "PtrBytes", type := 12, offset := 1, embedded := false, tag := "", pkgPath := "", byteOffset := 8 }, { name := "Hash", type := 152, offset := 2, embedded := false, tag := "", pkgPath := "", byteOffset := 16 }, { name := "TFlag", type := 153, offset := 3, embedded := false, tag := "", pkgPath := "", byteOffset := 20 }, { name := "Align_", type := 5, offset := 4, embedded := false, tag := "", pkgPath := "", byteOffset := 21 }, { name := "FieldAlign_", type := 5, offset := 5, embedded := false, tag := "", pkgPath := "", byteOffset := 22 }, { name := "Kind_", type := 154, offset := 6, embedded := false, tag := "", pkgPath := "", byteOffset := 23 }, { name := "Equal", type := 155, offset := 7, embedded := false, tag := "", pkgPath := "", byteOffset := 24 }, { name := "GCData", type := 156, offset := 8, embedded := false, tag := "", pkgPath := "", byteOffset := 32 }, { name := "Str", type := 157, offset := 9, embedded := false, tag := "", pkgPath := "", byteOffset := 40 }, { name := "PtrToThis", type := 158, offset := 10, embedded := false, tag := "", pkgPath := "", byteOffset := 44 }]) := Try.underlying160
theorem pl160 : plT Try.prog 160 = some #[(0, 1), (1, 1), (2, 1), (3, 1), (4, 1), (5, 1), (6, 1), (7, 1), (8, 1), (9, 1), (10, 1)] := by kernel_rfl
theorem fl160_0 : fldT Try.prog 160 0 = some (0, 12) := by kernel_rfl
theorem fl160_1 : fldT Try.prog 160 1 = some (1, 12) := by kernel_rfl
theorem fl160_2 : fldT Try.prog 160 2 = some (2, 152) := by kernel_rfl
theorem fl160_3 : fldT Try.prog 160 3 = some (3, 153) := by kernel_rfl
theorem fl160_4 : fldT Try.prog 160 4 = some (4, 5) := by kernel_rfl
theorem fl160_5 : fldT Try.prog 160 5 = some (5, 5) := by kernel_rfl
theorem fl160_6 : fldT Try.prog 160 6 = some (6, 154) := by kernel_rfl
theorem fl160_7 : fldT Try.prog 160 7 = some (7, 155) := by kernel_rfl
theorem fl160_8 : fldT Try.prog 160 8 = some (8, 156) := by kernel_rfl
theorem fl160_9 : fldT Try.prog 160 9 = some (9, 157) := by kernel_rfl
theorem fl160_10 : fldT Try.prog 160 10 = some (10, 158) := by kernel_rfl
theorem ok3 : callOk Try.prog 3 = true := by kernel_rfl
theorem ok4 : callOk Try.prog 4 = true := by kernel_rfl
theorem ok5 : callOk Try.prog 5 = true := by kernel_rfl
theorem ok6 : callOk Try.prog 6 = true := by kernel_rfl
theorem ok7 : callOk Try.prog 7 = true := by kernel_rfl
theorem ok8 : callOk Try.prog 8 = true := by kernel_rfl
theorem ok9 : callOk Try.prog 9 = true := by kernel_rfl
theorem ok10 : callOk Try.prog 10 = true := by kernel_rfl
theorem ok11 : callOk Try.prog 11 = true := by kernel_rfl
theorem ok12 : callOk Try.prog 12 = true := by kernel_rfl
theorem ok13 : callOk Try.prog 13 = true := by kernel_rfl
theorem ok14 : callOk Try.prog 14 = true := by kernel_rfl
theorem ok15 : callOk Try.prog 15 = true := by kernel_rfl
theorem ok16 : callOk Try.prog 16 = true := by kernel_rfl
theorem ok17 : callOk Try.prog 17 = true := by kernel_rfl
theorem ok18 : callOk Try.prog 18 = true := by kernel_rfl
theorem ok19 : callOk Try.prog 19 = true := by kernel_rfl
theorem ok20 : callOk Try.prog 20 = true := by kernel_rfl
theorem ok21 : callOk Try.prog 21 = true := by kernel_rfl
theorem ok22 : callOk Try.prog 22 = true := by kernel_rfl
theorem ok23 : callOk Try.prog 23 = true := by kernel_rfl
theorem ok24 : callOk Try.prog 24 = true := by kernel_rfl
theorem ok25 : callOk Try.prog 25 = true := by kernel_rfl
theorem ok26 : callOk Try.prog 26 = true := by kernel_rfl
theorem ok27 : callOk Try.prog 27 = true := by kernel_rfl
theorem ok28 : callOk Try.prog 28 = true := by kernel_rfl
theorem ok29 : callOk Try.prog 29 = true := by kernel_rfl
theorem ok30 : callOk Try.prog 30 = true := by kernel_rfl
theorem ok31 : callOk Try.prog 31 = true := by kernel_rfl
theorem ok32 : callOk Try.prog 32 = true := by kernel_rfl
theorem ok33 : callOk Try.prog 33 = true := by kernel_rfl
theorem ok34 : callOk Try.prog 34 = true := by kernel_rfl
theorem ok35 : callOk Try.prog 35 = true := by kernel_rfl
theorem ok36 : callOk Try.prog 36 = true := by kernel_rfl
theorem ok37 : callOk Try.prog 37 = true := by kernel_rfl
theorem ok38 : callOk Try.prog 38 = true := by kernel_rfl
theorem ok39 : callOk Try.prog 39 = true := by kernel_rfl
theorem ok40 : callOk Try.prog 40 = true := by kernel_rfl
theorem ok41 : callOk Try.prog 41 = true := by kernel_rfl
theorem ok42 : callOk Try.prog 42 = true := by kernel_rfl
theorem ok43 : callOk Try.prog 43 = true := by kernel_rfl
theorem ok44 : callOk Try.prog 44 = true := by kernel_rfl
theorem ok45 : callOk Try.prog 45 = true := by kernel_rfl
theorem ok46 : callOk Try.prog 46 = true := by kernel_rfl
theorem ok47 : callOk Try.prog 47 = true := by kernel_rfl
theorem ok48 : callOk Try.prog 48 = true := by kernel_rfl
theorem ok49 : callOk Try.prog 49 = true := by kernel_rfl
theorem ok50 : callOk Try.prog 50 = true := by kernel_rfl
theorem ok51 : callOk Try.prog 51 = true := by kernel_rfl
theorem ok52 : callOk Try.prog 52 = true := by kernel_rfl
theorem ok53 : callOk Try.prog 53 = true := by kernel_rfl
theorem ok54 : callOk Try.prog 54 = true := by kernel_rfl
theorem ok55 : callOk Try.prog 55 = true := by kernel_rfl
theorem ok56 : callOk Try.prog 56 = true := by kernel_rfl
theorem ok57 : callOk Try.prog 57 = true := by kernel_rfl
theorem ok58 : callOk Try.prog 58 = true := by kernel_rfl
theorem ok59 : callOk Try.prog 59 = true := by kernel_rfl
theorem ok60 : callOk Try.prog 60 = true := by kernel_rfl
theorem ok61 : callOk Try.prog 61 = true := by kernel_rfl
theorem ok62 : callOk Try.prog 62 = true := by kernel_rfl
theorem ok63 : callOk Try.prog 63 = true := by kernel_rfl
theorem ok64 : callOk Try.prog 64 = true := by kernel_rfl
theorem ok65 : callOk Try.prog 65 = true := by kernel_rfl
theorem ok66 : callOk Try.prog 66 = true := by kernel_rfl
theorem ok67 : callOk Try.prog 67 = true := by kernel_rfl
theorem ok68 : callOk Try.prog 68 = true := by kernel_rfl
theorem ok69 : callOk Try.prog 69 = true := by kernel_rfl
theorem ok70 : callOk Try.prog 70 = true := by kernel_rfl
theorem ok71 : callOk Try.prog 71 = true := by kernel_rfl
theorem ok72 : callOk Try.prog 72 = true := by kernel_rfl
theorem ok73 : callOk Try.prog 73 = true := by kernel_rfl
theorem ok74 : callOk Try.prog 74 = true := by kernel_rfl
theorem ok75 : callOk Try.prog 75 = true := by kernel_rfl
theorem ok76 : callOk Try.prog 76 = true := by kernel_rfl
theorem ok77 : callOk Try.prog 77 = true := by kernel_rfl
theorem ok78 : callOk Try.prog 78 = true := by kernel_rfl
theorem ok79 : callOk Try.prog 79 = true := by kernel_rfl
theorem ok80 : callOk Try.prog 80 = true := by kernel_rfl
theorem ok81 : callOk Try.prog 81 = true := by kernel_rfl
theorem ok82 : callOk Try.prog 82 = true := by kernel_rfl
theorem ok83 : callOk Try.prog 83 = true := by kernel_rfl
theorem ok84 : callOk Try.prog 84 = true := by kernel_rfl
theorem ok85 : callOk Try.prog 85 = true := by kernel_rfl
theorem ok86 : callOk Try.prog 86 = true := by kernel_rfl
theorem ok87 : callOk Try.prog 87 = true := by kernel_rfl
theorem ok88 : callOk Try.prog 88 = true := by kernel_rfl
theorem ok89 : callOk Try.prog 89 = true := by kernel_rfl
theorem ok90 : callOk Try.prog 90 = true := by kernel_rfl
theorem ok91 : callOk Try.prog 91 = true := by kernel_rfl
theorem ok92 : callOk Try.prog 92 = true := by kernel_rfl
theorem ok93 : callOk Try.prog 93 = true := by kernel_rfl
theorem ok94 : callOk Try.prog 94 = true := by kernel_rfl
theorem ok95 : callOk Try.prog 95 = true := by kernel_rfl
theorem ok96 : callOk Try.prog 96 = true := by kernel_rfl
theorem ok97 : callOk Try.prog 97 = true := by kernel_rfl
theorem ok98 : callOk Try.prog 98 = true := by kernel_rfl
theorem ok99 : callOk Try.prog 99 = true := by kernel_rfl
theorem ok100 : callOk Try.prog 100 = true := by kernel_rfl
theorem ok101 : callOk Try.prog 101 = true := by kernel_rfl
theorem ok102 : callOk Try.prog 102 = true := by kernel_rfl
theorem ok103 : callOk Try.prog 103 = true := by kernel_rfl
theorem ok104 : callOk Try.prog 104 = true := by kernel_rfl
theorem ok105 : callOk Try.prog 105 = true := by kernel_rfl
theorem ok106 : callOk Try.prog 106 = true := by kernel_rfl
theorem ok107 : callOk Try.prog 107 = true := by kernel_rfl
theorem ok108 : callOk Try.prog 108 = true := by kernel_rfl
theorem ok109 : callOk Try.prog 109 = true := by kernel_rfl
theorem ok110 : callOk Try.prog 110 = true := by kernel_rfl
theorem ok111 : callOk Try.prog 111 = true := by kernel_rfl
theorem ok112 : callOk Try.prog 112 = true := by kernel_rfl
theorem ok113 : callOk Try.prog 113 = true := by kernel_rfl
theorem ok114 : callOk Try.prog 114 = true := by kernel_rfl
theorem ok115 : callOk Try.prog 115 = true := by kernel_rfl
theorem ok116 : callOk Try.prog 116 = true := by kernel_rfl
theorem ok117 : callOk Try.prog 117 = true := by kernel_rfl
theorem ok118 : callOk Try.prog 118 = true := by kernel_rfl
theorem ok119 : callOk Try.prog 119 = true := by kernel_rfl
theorem ok120 : callOk Try.prog 120 = true := by kernel_rfl
theorem ok121 : callOk Try.prog 121 = true := by kernel_rfl
theorem ok122 : callOk Try.prog 122 = true := by kernel_rfl
theorem ok123 : callOk Try.prog 123 = true := by kernel_rfl
theorem ok124 : callOk Try.prog 124 = true := by kernel_rfl
theorem ok125 : callOk Try.prog 125 = true := by kernel_rfl
theorem ok126 : callOk Try.prog 126 = true := by kernel_rfl
theorem ok127 : callOk Try.prog 127 = true := by kernel_rfl
theorem ok128 : callOk Try.prog 128 = true := by kernel_rfl
theorem ok129 : callOk Try.prog 129 = true := by kernel_rfl
theorem ok130 : callOk Try.prog 130 = true := by kernel_rfl
theorem ok131 : callOk Try.prog 131 = true := by kernel_rfl
theorem ok132 : callOk Try.prog 132 = true := by kernel_rfl
theorem ok133 : callOk Try.prog 133 = true := by kernel_rfl
theorem ok134 : callOk Try.prog 134 = true := by kernel_rfl
theorem ok135 : callOk Try.prog 135 = true := by kernel_rfl
theorem ok136 : callOk Try.prog 136 = true := by kernel_rfl
theorem ok137 : callOk Try.prog 137 = true := by kernel_rfl
end Go.Proofs.Ytiddnhhjlipebaa.Ty
