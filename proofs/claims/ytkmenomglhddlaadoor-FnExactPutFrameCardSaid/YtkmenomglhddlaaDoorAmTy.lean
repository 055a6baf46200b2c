/- The facts of this claim's types, and of what may be called. Conditions: none. -/
import Derived.Test.YtkmenomglhddlaaDoorProg
import Derived.Test.YtkmenomglhddlaaDoorAmQ
import Derived.KernelRfl
namespace Go.Proofs.YtkmenomglhddlaaDoor.Ty
open Go Go.Proofs.YtkmenomglhddlaaDoor.Am
theorem mx : Tryd.prog.follows .mixedOrders = true := by kernel_rfl
theorem ld1 : ldK Tryd.prog 1 = some (none) := by kernel_rfl
theorem sz1 : szT Tryd.prog 1 = some 1 := by kernel_rfl
theorem sl1 : slT Tryd.prog 1 = none := by kernel_rfl
theorem st1 : stT Tryd.prog 1 = false := by kernel_rfl
theorem zc1 : zcT Tryd.prog 1 = some [.nilFunc] := by kernel_rfl
theorem by1 : byT Tryd.prog 1 = some 8 := by kernel_rfl
theorem un1 : Program.underlying Tryd.prog 1 = some (TypeDesc.func #[] #[] false) := Tryd.underlying1
theorem pl1 : plT Tryd.prog 1 = none := by kernel_rfl
theorem ld2 : ldK Tryd.prog 2 = some (none) := by kernel_rfl
theorem sz2 : szT Tryd.prog 2 = some 1 := by kernel_rfl
theorem sl2 : slT Tryd.prog 2 = none := by kernel_rfl
theorem st2 : stT Tryd.prog 2 = false := by kernel_rfl
theorem zc2 : zcT Tryd.prog 2 = some [.int .i64 0] := by kernel_rfl
theorem by2 : byT Tryd.prog 2 = some 8 := by kernel_rfl
theorem un2 : Program.underlying Tryd.prog 2 = some (TypeDesc.int IntKind.i64) := Tryd.underlying2
theorem pl2 : plT Tryd.prog 2 = none := by kernel_rfl
theorem ld3 : ldK Tryd.prog 3 = some (none) := by kernel_rfl
theorem sz3 : szT Tryd.prog 3 = some 1 := by kernel_rfl
theorem sl3 : slT Tryd.prog 3 = none := by kernel_rfl
theorem st3 : stT Tryd.prog 3 = false := by kernel_rfl
theorem zc3 : zcT Tryd.prog 3 = some [.int .i64 0] := by kernel_rfl
theorem by3 : byT Tryd.prog 3 = some 8 := by kernel_rfl
theorem un3 : Program.underlying Tryd.prog 3 = some (TypeDesc.int IntKind.i64) := Tryd.underlying3
theorem pl3 : plT Tryd.prog 3 = none := by kernel_rfl
theorem ld4 : ldK Tryd.prog 4 = some (none) := by kernel_rfl
theorem sz4 : szT Tryd.prog 4 = some 1 := by kernel_rfl
theorem sl4 : slT Tryd.prog 4 = none := by kernel_rfl
theorem st4 : stT Tryd.prog 4 = false := by kernel_rfl
theorem zc4 : zcT Tryd.prog 4 = some [.bool false] := by kernel_rfl
theorem by4 : byT Tryd.prog 4 = some 1 := by kernel_rfl
theorem un4 : Program.underlying Tryd.prog 4 = some TypeDesc.bool := Tryd.underlying4
theorem pl4 : plT Tryd.prog 4 = none := by kernel_rfl
theorem ld5 : ldK Tryd.prog 5 = some (none) := by kernel_rfl
theorem sz5 : szT Tryd.prog 5 = some 1 := by kernel_rfl
theorem sl5 : slT Tryd.prog 5 = none := by kernel_rfl
theorem st5 : stT Tryd.prog 5 = false := by kernel_rfl
theorem zc5 : zcT Tryd.prog 5 = some [.int .u8 0] := by kernel_rfl
theorem by5 : byT Tryd.prog 5 = some 1 := by kernel_rfl
theorem un5 : Program.underlying Tryd.prog 5 = some (TypeDesc.int IntKind.u8) := Tryd.underlying5
theorem pl5 : plT Tryd.prog 5 = none := by kernel_rfl
theorem ld6 : ldK Tryd.prog 6 = some (none) := by kernel_rfl
theorem sz6 : szT Tryd.prog 6 = some 1 := by kernel_rfl
theorem sl6 : slT Tryd.prog 6 = none := by kernel_rfl
theorem st6 : stT Tryd.prog 6 = false := by kernel_rfl
theorem zc6 : zcT Tryd.prog 6 = some [.int .u8 0] := by kernel_rfl
theorem by6 : byT Tryd.prog 6 = some 1 := by kernel_rfl
theorem un6 : Program.underlying Tryd.prog 6 = some (TypeDesc.int IntKind.u8) := Tryd.underlying6
theorem pl6 : plT Tryd.prog 6 = none := by kernel_rfl
theorem ld7 : ldK Tryd.prog 7 = some (some 4) := by kernel_rfl
theorem sz7 : szT Tryd.prog 7 = some 4 := by kernel_rfl
theorem sl7 : slT Tryd.prog 7 = none := by kernel_rfl
theorem st7 : stT Tryd.prog 7 = false := by kernel_rfl
theorem zc7 : zcT Tryd.prog 7 = some [.int .i64 0, .int .i64 0, .bool false, .int .u8 0] := by kernel_rfl
theorem by7 : byT Tryd.prog 7 = some 24 := by kernel_rfl
theorem un7 : Program.underlying Tryd.prog 7 = some (TypeDesc.struct #[{ name := "x", type := 2, offset := 0, embedded := false, tag := "", pkgPath := "runtime", byteOffset := 0 }, { name := "y", type := 3, offset := 1, embedded := false, tag := "", pkgPath := "runtime", byteOffset := 8 }, { name := "signed", type := 4, offset := 2, embedded := false, tag := "", pkgPath := "runtime", byteOffset := 16 }, { name := "code", type := 6, offset := 3, embedded := false, tag := "", pkgPath := "runtime", byteOffset := 17 }]) := Tryd.underlying7
theorem pl7 : plT Tryd.prog 7 = some #[(0, 1), (1, 1), (2, 1), (3, 1)] := by kernel_rfl
theorem fl7_0 : fldT Tryd.prog 7 0 = some (0, 2) := by kernel_rfl
theorem fl7_1 : fldT Tryd.prog 7 1 = some (1, 3) := by kernel_rfl
theorem fl7_2 : fldT Tryd.prog 7 2 = some (2, 4) := by kernel_rfl
theorem fl7_3 : fldT Tryd.prog 7 3 = some (3, 6) := by kernel_rfl
theorem ld8 : ldK Tryd.prog 8 = some (some 4) := by kernel_rfl
theorem sz8 : szT Tryd.prog 8 = some 4 := by kernel_rfl
theorem sl8 : slT Tryd.prog 8 = none := by kernel_rfl
theorem st8 : stT Tryd.prog 8 = false := by kernel_rfl
theorem zc8 : zcT Tryd.prog 8 = some [.int .i64 0, .int .i64 0, .bool false, .int .u8 0] := by kernel_rfl
theorem by8 : byT Tryd.prog 8 = some 24 := by kernel_rfl
theorem un8 : Program.underlying Tryd.prog 8 = some (TypeDesc.struct #[{ name := "x", type := 2, offset := 0, embedded := false, tag := "", pkgPath := "runtime", byteOffset := 0 }, { name := "y", type := 3, offset := 1, embedded := false, tag := "", pkgPath := "runtime", byteOffset := 8 }, { name := "signed", type := 4, offset := 2, embedded := false, tag := "", pkgPath := "runtime", byteOffset := 16 }, { name := "code", type := 6, offset := 3, embedded := false, tag := "", pkgPath := "runtime", byteOffset := 17 }]) := Tryd.underlying8
theorem pl8 : plT Tryd.prog 8 = some #[(0, 1), (1, 1), (2, 1), (3, 1)] := by kernel_rfl
theorem fl8_0 : fldT Tryd.prog 8 0 = some (0, 2) := by kernel_rfl
theorem fl8_1 : fldT Tryd.prog 8 1 = some (1, 3) := by kernel_rfl
theorem fl8_2 : fldT Tryd.prog 8 2 = some (2, 4) := by kernel_rfl
theorem fl8_3 : fldT Tryd.prog 8 3 = some (3, 6) := by kernel_rfl
theorem ld9 : ldK Tryd.prog 9 = some (none) := by kernel_rfl
theorem sz9 : szT Tryd.prog 9 = some 1 := by kernel_rfl
theorem sl9 : slT Tryd.prog 9 = none := by kernel_rfl
theorem st9 : stT Tryd.prog 9 = true := by kernel_rfl
theorem zc9 : zcT Tryd.prog 9 = some [.string ByteArray.empty] := by kernel_rfl
theorem by9 : byT Tryd.prog 9 = some 16 := by kernel_rfl
theorem un9 : Program.underlying Tryd.prog 9 = some TypeDesc.string := Tryd.underlying9
theorem pl9 : plT Tryd.prog 9 = none := by kernel_rfl
theorem ld10 : ldK Tryd.prog 10 = some (none) := by kernel_rfl
theorem sz10 : szT Tryd.prog 10 = some 1 := by kernel_rfl
theorem sl10 : slT Tryd.prog 10 = none := by kernel_rfl
theorem st10 : stT Tryd.prog 10 = true := by kernel_rfl
theorem zc10 : zcT Tryd.prog 10 = some [.string ByteArray.empty] := by kernel_rfl
theorem by10 : byT Tryd.prog 10 = some 16 := by kernel_rfl
theorem un10 : Program.underlying Tryd.prog 10 = some TypeDesc.string := Tryd.underlying10
theorem pl10 : plT Tryd.prog 10 = none := by kernel_rfl
theorem ld11 : ldK Tryd.prog 11 = some (none) := by kernel_rfl
theorem sz11 : szT Tryd.prog 11 = some 1 := by kernel_rfl
theorem sl11 : slT Tryd.prog 11 = none := by kernel_rfl
theorem st11 : stT Tryd.prog 11 = true := by kernel_rfl
theorem zc11 : zcT Tryd.prog 11 = some [.string ByteArray.empty] := by kernel_rfl
theorem by11 : byT Tryd.prog 11 = some 16 := by kernel_rfl
theorem un11 : Program.underlying Tryd.prog 11 = some TypeDesc.string := Tryd.underlying11
theorem pl11 : plT Tryd.prog 11 = none := by kernel_rfl
theorem ld12 : ldK Tryd.prog 12 = some (none) := by kernel_rfl
theorem sz12 : szT Tryd.prog 12 = some 1 := by kernel_rfl
theorem sl12 : slT Tryd.prog 12 = none := by kernel_rfl
theorem st12 : stT Tryd.prog 12 = false := by kernel_rfl
theorem zc12 : zcT Tryd.prog 12 = some [.int .u64 0] := by kernel_rfl
theorem by12 : byT Tryd.prog 12 = some 8 := by kernel_rfl
theorem un12 : Program.underlying Tryd.prog 12 = some (TypeDesc.int IntKind.u64) := Tryd.underlying12
theorem pl12 : plT Tryd.prog 12 = none := by kernel_rfl
theorem ld13 : ldK Tryd.prog 13 = some (some 2) := by kernel_rfl
theorem sz13 : szT Tryd.prog 13 = some 2 := by kernel_rfl
theorem sl13 : slT Tryd.prog 13 = none := by kernel_rfl
theorem st13 : stT Tryd.prog 13 = false := by kernel_rfl
theorem zc13 : zcT Tryd.prog 13 = some [.string ByteArray.empty, .int .u64 0] := by kernel_rfl
theorem by13 : byT Tryd.prog 13 = some 24 := by kernel_rfl
theorem un13 : Program.underlying Tryd.prog 13 = some (TypeDesc.struct #[{ name := "msg", type := 9, offset := 0, embedded := false, tag := "", pkgPath := "runtime", byteOffset := 0 }, { name := "addr", type := 12, offset := 1, embedded := false, tag := "", pkgPath := "runtime", byteOffset := 16 }]) := Tryd.underlying13
theorem pl13 : plT Tryd.prog 13 = some #[(0, 1), (1, 1)] := by kernel_rfl
theorem fl13_0 : fldT Tryd.prog 13 0 = some (0, 9) := by kernel_rfl
theorem fl13_1 : fldT Tryd.prog 13 1 = some (1, 12) := by kernel_rfl
theorem ld14 : ldK Tryd.prog 14 = some (some 2) := by kernel_rfl
theorem sz14 : szT Tryd.prog 14 = some 2 := by kernel_rfl
theorem sl14 : slT Tryd.prog 14 = none := by kernel_rfl
theorem st14 : stT Tryd.prog 14 = false := by kernel_rfl
theorem zc14 : zcT Tryd.prog 14 = some [.string ByteArray.empty, .int .u64 0] := by kernel_rfl
theorem by14 : byT Tryd.prog 14 = some 24 := by kernel_rfl
theorem un14 : Program.underlying Tryd.prog 14 = some (TypeDesc.struct #[{ name := "msg", type := 9, offset := 0, embedded := false, tag := "", pkgPath := "runtime", byteOffset := 0 }, { name := "addr", type := 12, offset := 1, embedded := false, tag := "", pkgPath := "runtime", byteOffset := 16 }]) := Tryd.underlying14
theorem pl14 : plT Tryd.prog 14 = some #[(0, 1), (1, 1)] := by kernel_rfl
theorem fl14_0 : fldT Tryd.prog 14 0 = some (0, 9) := by kernel_rfl
theorem fl14_1 : fldT Tryd.prog 14 1 = some (1, 12) := by kernel_rfl
theorem ld15 : ldK Tryd.prog 15 = some (none) := by kernel_rfl
theorem sz15 : szT Tryd.prog 15 = some 1 := by kernel_rfl
theorem sl15 : slT Tryd.prog 15 = none := by kernel_rfl
theorem st15 : stT Tryd.prog 15 = false := by kernel_rfl
theorem zc15 : zcT Tryd.prog 15 = some [.pointer none] := by kernel_rfl
theorem by15 : byT Tryd.prog 15 = some 8 := by kernel_rfl
theorem un15 : Program.underlying Tryd.prog 15 = some (TypeDesc.pointer 158) := Tryd.underlying15
theorem pl15 : plT Tryd.prog 15 = none := by kernel_rfl
theorem ld16 : ldK Tryd.prog 16 = some (none) := by kernel_rfl
theorem sz16 : szT Tryd.prog 16 = some 1 := by kernel_rfl
theorem sl16 : slT Tryd.prog 16 = none := by kernel_rfl
theorem st16 : stT Tryd.prog 16 = false := by kernel_rfl
theorem zc16 : zcT Tryd.prog 16 = some [.pointer none] := by kernel_rfl
theorem by16 : byT Tryd.prog 16 = some 8 := by kernel_rfl
theorem un16 : Program.underlying Tryd.prog 16 = some (TypeDesc.pointer 161) := Tryd.underlying16
theorem pl16 : plT Tryd.prog 16 = none := by kernel_rfl
theorem ld17 : ldK Tryd.prog 17 = some (none) := by kernel_rfl
theorem sz17 : szT Tryd.prog 17 = some 1 := by kernel_rfl
theorem sl17 : slT Tryd.prog 17 = none := by kernel_rfl
theorem st17 : stT Tryd.prog 17 = false := by kernel_rfl
theorem zc17 : zcT Tryd.prog 17 = some [.pointer none] := by kernel_rfl
theorem by17 : byT Tryd.prog 17 = some 8 := by kernel_rfl
theorem un17 : Program.underlying Tryd.prog 17 = some (TypeDesc.pointer 168) := Tryd.underlying17
theorem pl17 : plT Tryd.prog 17 = none := by kernel_rfl
theorem ld20 : ldK Tryd.prog 20 = some (none) := by kernel_rfl
theorem sz20 : szT Tryd.prog 20 = some 1 := by kernel_rfl
theorem sl20 : slT Tryd.prog 20 = none := by kernel_rfl
theorem st20 : stT Tryd.prog 20 = false := by kernel_rfl
theorem zc20 : zcT Tryd.prog 20 = some [.nilIface] := by kernel_rfl
theorem by20 : byT Tryd.prog 20 = some 16 := by kernel_rfl
theorem un20 : Program.underlying Tryd.prog 20 = some (TypeDesc.interface #[]) := Tryd.underlying20
theorem pl20 : plT Tryd.prog 20 = none := by kernel_rfl
theorem ld21 : ldK Tryd.prog 21 = some (none) := by kernel_rfl
theorem sz21 : szT Tryd.prog 21 = some 1 := by kernel_rfl
theorem sl21 : slT Tryd.prog 21 = none := by kernel_rfl
theorem st21 : stT Tryd.prog 21 = false := by kernel_rfl
theorem zc21 : zcT Tryd.prog 21 = some [.int .i32 0] := by kernel_rfl
theorem by21 : byT Tryd.prog 21 = some 4 := by kernel_rfl
theorem un21 : Program.underlying Tryd.prog 21 = some (TypeDesc.int IntKind.i32) := Tryd.underlying21
theorem pl21 : plT Tryd.prog 21 = none := by kernel_rfl
theorem ld22 : ldK Tryd.prog 22 = some (none) := by kernel_rfl
theorem sz22 : szT Tryd.prog 22 = some 1 := by kernel_rfl
theorem sl22 : slT Tryd.prog 22 = some 5 := by kernel_rfl
theorem st22 : stT Tryd.prog 22 = false := by kernel_rfl
theorem zc22 : zcT Tryd.prog 22 = some [.slice none 0 0] := by kernel_rfl
theorem by22 : byT Tryd.prog 22 = some 24 := by kernel_rfl
theorem un22 : Program.underlying Tryd.prog 22 = some (TypeDesc.slice 5) := Tryd.underlying22
theorem pl22 : plT Tryd.prog 22 = none := by kernel_rfl
theorem ld23 : ldK Tryd.prog 23 = some (none) := by kernel_rfl
theorem sz23 : szT Tryd.prog 23 = some 1 := by kernel_rfl
theorem sl23 : slT Tryd.prog 23 = none := by kernel_rfl
theorem st23 : stT Tryd.prog 23 = false := by kernel_rfl
theorem zc23 : zcT Tryd.prog 23 = some [.nilFunc] := by kernel_rfl
theorem by23 : byT Tryd.prog 23 = some 8 := by kernel_rfl
theorem un23 : Program.underlying Tryd.prog 23 = some (TypeDesc.func #[22, 22] #[4] false) := Tryd.underlying23
theorem pl23 : plT Tryd.prog 23 = none := by kernel_rfl
theorem ld24 : ldK Tryd.prog 24 = some (none) := by kernel_rfl
theorem sz24 : szT Tryd.prog 24 = some 1 := by kernel_rfl
theorem sl24 : slT Tryd.prog 24 = some 69 := by kernel_rfl
theorem st24 : stT Tryd.prog 24 = false := by kernel_rfl
theorem zc24 : zcT Tryd.prog 24 = some [.slice none 0 0] := by kernel_rfl
theorem by24 : byT Tryd.prog 24 = some 24 := by kernel_rfl
theorem un24 : Program.underlying Tryd.prog 24 = some (TypeDesc.slice 69) := Tryd.underlying24
theorem pl24 : plT Tryd.prog 24 = none := by kernel_rfl
theorem ld25 : ldK Tryd.prog 25 = some (none) := by kernel_rfl
theorem sz25 : szT Tryd.prog 25 = some 1 := by kernel_rfl
theorem sl25 : slT Tryd.prog 25 = none := by kernel_rfl
theorem st25 : stT Tryd.prog 25 = false := by kernel_rfl
theorem zc25 : zcT Tryd.prog 25 = some [.nilFunc] := by kernel_rfl
theorem by25 : byT Tryd.prog 25 = some 8 := by kernel_rfl
theorem un25 : Program.underlying Tryd.prog 25 = some (TypeDesc.func #[22] #[24] false) := Tryd.underlying25
theorem pl25 : plT Tryd.prog 25 = none := by kernel_rfl
theorem ld27 : ldK Tryd.prog 27 = some (none) := by kernel_rfl
theorem sz27 : szT Tryd.prog 27 = some 1 := by kernel_rfl
theorem sl27 : slT Tryd.prog 27 = none := by kernel_rfl
theorem st27 : stT Tryd.prog 27 = false := by kernel_rfl
theorem zc27 : zcT Tryd.prog 27 = some [.nilFunc] := by kernel_rfl
theorem by27 : byT Tryd.prog 27 = some 8 := by kernel_rfl
theorem un27 : Program.underlying Tryd.prog 27 = some (TypeDesc.func #[24] #[9, 4] false) := Tryd.underlying27
theorem pl27 : plT Tryd.prog 27 = none := by kernel_rfl
theorem ld29 : ldK Tryd.prog 29 = some (none) := by kernel_rfl
theorem sz29 : szT Tryd.prog 29 = some 1 := by kernel_rfl
theorem sl29 : slT Tryd.prog 29 = none := by kernel_rfl
theorem st29 : stT Tryd.prog 29 = false := by kernel_rfl
theorem zc29 : zcT Tryd.prog 29 = some [.nilFunc] := by kernel_rfl
theorem by29 : byT Tryd.prog 29 = some 8 := by kernel_rfl
theorem un29 : Program.underlying Tryd.prog 29 = some (TypeDesc.func #[9] #[24, 3, 4] false) := Tryd.underlying29
theorem pl29 : plT Tryd.prog 29 = none := by kernel_rfl
theorem ld30 : ldK Tryd.prog 30 = some (none) := by kernel_rfl
theorem sz30 : szT Tryd.prog 30 = some 1 := by kernel_rfl
theorem sl30 : slT Tryd.prog 30 = none := by kernel_rfl
theorem st30 : stT Tryd.prog 30 = false := by kernel_rfl
theorem zc30 : zcT Tryd.prog 30 = some [.nilFunc] := by kernel_rfl
theorem by30 : byT Tryd.prog 30 = some 8 := by kernel_rfl
theorem un30 : Program.underlying Tryd.prog 30 = some (TypeDesc.func #[24, 24] #[4] false) := Tryd.underlying30
theorem pl30 : plT Tryd.prog 30 = none := by kernel_rfl
theorem ld31 : ldK Tryd.prog 31 = some (none) := by kernel_rfl
theorem sz31 : szT Tryd.prog 31 = some 1 := by kernel_rfl
theorem sl31 : slT Tryd.prog 31 = none := by kernel_rfl
theorem st31 : stT Tryd.prog 31 = false := by kernel_rfl
theorem zc31 : zcT Tryd.prog 31 = some [.nilFunc] := by kernel_rfl
theorem by31 : byT Tryd.prog 31 = some 8 := by kernel_rfl
theorem un31 : Program.underlying Tryd.prog 31 = some (TypeDesc.func #[22] #[9] false) := Tryd.underlying31
theorem pl31 : plT Tryd.prog 31 = none := by kernel_rfl
theorem ld32 : ldK Tryd.prog 32 = some (none) := by kernel_rfl
theorem sz32 : szT Tryd.prog 32 = some 1 := by kernel_rfl
theorem sl32 : slT Tryd.prog 32 = none := by kernel_rfl
theorem st32 : stT Tryd.prog 32 = false := by kernel_rfl
theorem zc32 : zcT Tryd.prog 32 = some [.nilFunc] := by kernel_rfl
theorem by32 : byT Tryd.prog 32 = some 8 := by kernel_rfl
theorem un32 : Program.underlying Tryd.prog 32 = some (TypeDesc.func #[3, 9] #[9, 4] false) := Tryd.underlying32
theorem pl32 : plT Tryd.prog 32 = none := by kernel_rfl
theorem ld33 : ldK Tryd.prog 33 = some (none) := by kernel_rfl
theorem sz33 : szT Tryd.prog 33 = some 1 := by kernel_rfl
theorem sl33 : slT Tryd.prog 33 = none := by kernel_rfl
theorem st33 : stT Tryd.prog 33 = false := by kernel_rfl
theorem zc33 : zcT Tryd.prog 33 = some [.nilFunc] := by kernel_rfl
theorem by33 : byT Tryd.prog 33 = some 8 := by kernel_rfl
theorem un33 : Program.underlying Tryd.prog 33 = some (TypeDesc.func #[3, 9] #[4] false) := Tryd.underlying33
theorem pl33 : plT Tryd.prog 33 = none := by kernel_rfl
theorem ld34 : ldK Tryd.prog 34 = some (some 7) := by kernel_rfl
theorem sz34 : szT Tryd.prog 34 = some 7 := by kernel_rfl
theorem sl34 : slT Tryd.prog 34 = none := by kernel_rfl
theorem st34 : stT Tryd.prog 34 = false := by kernel_rfl
theorem zc34 : zcT Tryd.prog 34 = some [.int .i64 0, .int .i64 0, .int .i64 0, .int .i64 0, .int .i64 0, .int .i64 0, .int .i64 0] := by kernel_rfl
theorem by34 : byT Tryd.prog 34 = some 56 := by kernel_rfl
theorem un34 : Program.underlying Tryd.prog 34 = some (TypeDesc.struct #[{ name := "Kind", type := 3, offset := 0, embedded := false, tag := "", pkgPath := "", byteOffset := 0 }, { name := "Case", type := 3, offset := 1, embedded := false, tag := "", pkgPath := "", byteOffset := 8 }, { name := "Item", type := 3, offset := 2, embedded := false, tag := "", pkgPath := "", byteOffset := 16 }, { name := "Who", type := 3, offset := 3, embedded := false, tag := "", pkgPath := "", byteOffset := 24 }, { name := "To", type := 3, offset := 4, embedded := false, tag := "", pkgPath := "", byteOffset := 32 }, { name := "Pick", type := 3, offset := 5, embedded := false, tag := "", pkgPath := "", byteOffset := 40 }, { name := "Many", type := 3, offset := 6, embedded := false, tag := "", pkgPath := "", byteOffset := 48 }]) := Tryd.underlying34
theorem pl34 : plT Tryd.prog 34 = some #[(0, 1), (1, 1), (2, 1), (3, 1), (4, 1), (5, 1), (6, 1)] := by kernel_rfl
theorem fl34_0 : fldT Tryd.prog 34 0 = some (0, 3) := by kernel_rfl
theorem fl34_1 : fldT Tryd.prog 34 1 = some (1, 3) := by kernel_rfl
theorem fl34_2 : fldT Tryd.prog 34 2 = some (2, 3) := by kernel_rfl
theorem fl34_3 : fldT Tryd.prog 34 3 = some (3, 3) := by kernel_rfl
theorem fl34_4 : fldT Tryd.prog 34 4 = some (4, 3) := by kernel_rfl
theorem fl34_5 : fldT Tryd.prog 34 5 = some (5, 3) := by kernel_rfl
theorem fl34_6 : fldT Tryd.prog 34 6 = some (6, 3) := by kernel_rfl
theorem ld35 : ldK Tryd.prog 35 = some (some 7) := by kernel_rfl
theorem sz35 : szT Tryd.prog 35 = some 7 := by kernel_rfl
theorem sl35 : slT Tryd.prog 35 = none := by kernel_rfl
theorem st35 : stT Tryd.prog 35 = false := by kernel_rfl
theorem zc35 : zcT Tryd.prog 35 = some [.int .i64 0, .int .i64 0, .int .i64 0, .int .i64 0, .int .i64 0, .int .i64 0, .int .i64 0] := by kernel_rfl
theorem by35 : byT Tryd.prog 35 = some 56 := by kernel_rfl
theorem un35 : Program.underlying Tryd.prog 35 = some (TypeDesc.struct #[{ name := "Kind", type := 3, offset := 0, embedded := false, tag := "", pkgPath := "", byteOffset := 0 }, { name := "Case", type := 3, offset := 1, embedded := false, tag := "", pkgPath := "", byteOffset := 8 }, { name := "Item", type := 3, offset := 2, embedded := false, tag := "", pkgPath := "", byteOffset := 16 }, { name := "Who", type := 3, offset := 3, embedded := false, tag := "", pkgPath := "", byteOffset := 24 }, { name := "To", type := 3, offset := 4, embedded := false, tag := "", pkgPath := "", byteOffset := 32 }, { name := "Pick", type := 3, offset := 5, embedded := false, tag := "", pkgPath := "", byteOffset := 40 }, { name := "Many", type := 3, offset := 6, embedded := false, tag := "", pkgPath := "", byteOffset := 48 }]) := Tryd.underlying35
theorem pl35 : plT Tryd.prog 35 = some #[(0, 1), (1, 1), (2, 1), (3, 1), (4, 1), (5, 1), (6, 1)] := by kernel_rfl
theorem fl35_0 : fldT Tryd.prog 35 0 = some (0, 3) := by kernel_rfl
theorem fl35_1 : fldT Tryd.prog 35 1 = some (1, 3) := by kernel_rfl
theorem fl35_2 : fldT Tryd.prog 35 2 = some (2, 3) := by kernel_rfl
theorem fl35_3 : fldT Tryd.prog 35 3 = some (3, 3) := by kernel_rfl
theorem fl35_4 : fldT Tryd.prog 35 4 = some (4, 3) := by kernel_rfl
theorem fl35_5 : fldT Tryd.prog 35 5 = some (5, 3) := by kernel_rfl
theorem fl35_6 : fldT Tryd.prog 35 6 = some (6, 3) := by kernel_rfl
theorem ld36 : ldK Tryd.prog 36 = some (none) := by kernel_rfl
theorem sz36 : szT Tryd.prog 36 = some 1 := by kernel_rfl
theorem sl36 : slT Tryd.prog 36 = none := by kernel_rfl
theorem st36 : stT Tryd.prog 36 = false := by kernel_rfl
theorem zc36 : zcT Tryd.prog 36 = some [.nilFunc] := by kernel_rfl
theorem by36 : byT Tryd.prog 36 = some 8 := by kernel_rfl
theorem un36 : Program.underlying Tryd.prog 36 = some (TypeDesc.func #[37] #[9, 4] false) := Tryd.underlying36
theorem pl36 : plT Tryd.prog 36 = none := by kernel_rfl
theorem ld37 : ldK Tryd.prog 37 = some (some 7) := by kernel_rfl
theorem sz37 : szT Tryd.prog 37 = some 7 := by kernel_rfl
theorem sl37 : slT Tryd.prog 37 = none := by kernel_rfl
theorem st37 : stT Tryd.prog 37 = false := by kernel_rfl
theorem zc37 : zcT Tryd.prog 37 = some [.int .i64 0, .int .i64 0, .int .i64 0, .int .i64 0, .int .i64 0, .int .i64 0, .int .i64 0] := by kernel_rfl
theorem by37 : byT Tryd.prog 37 = some 56 := by kernel_rfl
theorem un37 : Program.underlying Tryd.prog 37 = some (TypeDesc.struct #[{ name := "Kind", type := 3, offset := 0, embedded := false, tag := "", pkgPath := "", byteOffset := 0 }, { name := "Case", type := 3, offset := 1, embedded := false, tag := "", pkgPath := "", byteOffset := 8 }, { name := "Item", type := 3, offset := 2, embedded := false, tag := "", pkgPath := "", byteOffset := 16 }, { name := "Who", type := 3, offset := 3, embedded := false, tag := "", pkgPath := "", byteOffset := 24 }, { name := "To", type := 3, offset := 4, embedded := false, tag := "", pkgPath := "", byteOffset := 32 }, { name := "Pick", type := 3, offset := 5, embedded := false, tag := "", pkgPath := "", byteOffset := 40 }, { name := "Many", type := 3, offset := 6, embedded := false, tag := "", pkgPath := "", byteOffset := 48 }]) := Tryd.underlying37
theorem pl37 : plT Tryd.prog 37 = some #[(0, 1), (1, 1), (2, 1), (3, 1), (4, 1), (5, 1), (6, 1)] := by kernel_rfl
theorem fl37_0 : fldT Tryd.prog 37 0 = some (0, 3) := by kernel_rfl
theorem fl37_1 : fldT Tryd.prog 37 1 = some (1, 3) := by kernel_rfl
theorem fl37_2 : fldT Tryd.prog 37 2 = some (2, 3) := by kernel_rfl
theorem fl37_3 : fldT Tryd.prog 37 3 = some (3, 3) := by kernel_rfl
theorem fl37_4 : fldT Tryd.prog 37 4 = some (4, 3) := by kernel_rfl
theorem fl37_5 : fldT Tryd.prog 37 5 = some (5, 3) := by kernel_rfl
theorem fl37_6 : fldT Tryd.prog 37 6 = some (6, 3) := by kernel_rfl
theorem ld38 : ldK Tryd.prog 38 = some (none) := by kernel_rfl
theorem sz38 : szT Tryd.prog 38 = some 1 := by kernel_rfl
theorem sl38 : slT Tryd.prog 38 = none := by kernel_rfl
theorem st38 : stT Tryd.prog 38 = false := by kernel_rfl
theorem zc38 : zcT Tryd.prog 38 = some [.nilFunc] := by kernel_rfl
theorem by38 : byT Tryd.prog 38 = some 8 := by kernel_rfl
theorem un38 : Program.underlying Tryd.prog 38 = some (TypeDesc.func #[35] #[37] false) := Tryd.underlying38
theorem pl38 : plT Tryd.prog 38 = none := by kernel_rfl
theorem ld39 : ldK Tryd.prog 39 = some (none) := by kernel_rfl
theorem sz39 : szT Tryd.prog 39 = some 1 := by kernel_rfl
theorem sl39 : slT Tryd.prog 39 = none := by kernel_rfl
theorem st39 : stT Tryd.prog 39 = false := by kernel_rfl
theorem zc39 : zcT Tryd.prog 39 = some [.nilFunc] := by kernel_rfl
theorem by39 : byT Tryd.prog 39 = some 8 := by kernel_rfl
theorem un39 : Program.underlying Tryd.prog 39 = some (TypeDesc.func #[35] #[4] false) := Tryd.underlying39
theorem pl39 : plT Tryd.prog 39 = none := by kernel_rfl
theorem ld40 : ldK Tryd.prog 40 = some (none) := by kernel_rfl
theorem sz40 : szT Tryd.prog 40 = some 1 := by kernel_rfl
theorem sl40 : slT Tryd.prog 40 = some 9 := by kernel_rfl
theorem st40 : stT Tryd.prog 40 = false := by kernel_rfl
theorem zc40 : zcT Tryd.prog 40 = some [.slice none 0 0] := by kernel_rfl
theorem by40 : byT Tryd.prog 40 = some 24 := by kernel_rfl
theorem un40 : Program.underlying Tryd.prog 40 = some (TypeDesc.slice 9) := Tryd.underlying40
theorem pl40 : plT Tryd.prog 40 = none := by kernel_rfl
theorem ld42 : ldK Tryd.prog 42 = some (none) := by kernel_rfl
theorem sz42 : szT Tryd.prog 42 = some 1 := by kernel_rfl
theorem sl42 : slT Tryd.prog 42 = none := by kernel_rfl
theorem st42 : stT Tryd.prog 42 = false := by kernel_rfl
theorem zc42 : zcT Tryd.prog 42 = some [.nilFunc] := by kernel_rfl
theorem by42 : byT Tryd.prog 42 = some 8 := by kernel_rfl
theorem un42 : Program.underlying Tryd.prog 42 = some (TypeDesc.func #[9] #[40, 3, 4] false) := Tryd.underlying42
theorem pl42 : plT Tryd.prog 42 = none := by kernel_rfl
theorem ld43 : ldK Tryd.prog 43 = some (none) := by kernel_rfl
theorem sz43 : szT Tryd.prog 43 = some 1 := by kernel_rfl
theorem sl43 : slT Tryd.prog 43 = none := by kernel_rfl
theorem st43 : stT Tryd.prog 43 = false := by kernel_rfl
theorem zc43 : zcT Tryd.prog 43 = some [.nilFunc] := by kernel_rfl
theorem by43 : byT Tryd.prog 43 = some 8 := by kernel_rfl
theorem un43 : Program.underlying Tryd.prog 43 = some (TypeDesc.func #[40, 40] #[4] false) := Tryd.underlying43
theorem pl43 : plT Tryd.prog 43 = none := by kernel_rfl
theorem ld44 : ldK Tryd.prog 44 = some (none) := by kernel_rfl
theorem sz44 : szT Tryd.prog 44 = some 1 := by kernel_rfl
theorem sl44 : slT Tryd.prog 44 = none := by kernel_rfl
theorem st44 : stT Tryd.prog 44 = false := by kernel_rfl
theorem zc44 : zcT Tryd.prog 44 = some [.nilFunc] := by kernel_rfl
theorem by44 : byT Tryd.prog 44 = some 8 := by kernel_rfl
theorem un44 : Program.underlying Tryd.prog 44 = some (TypeDesc.func #[40, 3] #[3] false) := Tryd.underlying44
theorem pl44 : plT Tryd.prog 44 = none := by kernel_rfl
theorem ld45 : ldK Tryd.prog 45 = some (none) := by kernel_rfl
theorem sz45 : szT Tryd.prog 45 = some 1 := by kernel_rfl
theorem sl45 : slT Tryd.prog 45 = none := by kernel_rfl
theorem st45 : stT Tryd.prog 45 = false := by kernel_rfl
theorem zc45 : zcT Tryd.prog 45 = some [.nilFunc] := by kernel_rfl
theorem by45 : byT Tryd.prog 45 = some 8 := by kernel_rfl
theorem un45 : Program.underlying Tryd.prog 45 = some (TypeDesc.func #[9] #[4] false) := Tryd.underlying45
theorem pl45 : plT Tryd.prog 45 = none := by kernel_rfl
theorem ld46 : ldK Tryd.prog 46 = some (some 3) := by kernel_rfl
theorem sz46 : szT Tryd.prog 46 = some 3 := by kernel_rfl
theorem sl46 : slT Tryd.prog 46 = none := by kernel_rfl
theorem st46 : stT Tryd.prog 46 = false := by kernel_rfl
theorem zc46 : zcT Tryd.prog 46 = some [.int .i64 0, .string ByteArray.empty, .string ByteArray.empty] := by kernel_rfl
theorem by46 : byT Tryd.prog 46 = some 40 := by kernel_rfl
theorem un46 : Program.underlying Tryd.prog 46 = some (TypeDesc.struct #[{ name := "Room", type := 3, offset := 0, embedded := false, tag := "", pkgPath := "", byteOffset := 0 }, { name := "Sure", type := 9, offset := 1, embedded := false, tag := "", pkgPath := "", byteOffset := 8 }, { name := "Later", type := 9, offset := 2, embedded := false, tag := "", pkgPath := "", byteOffset := 24 }]) := Tryd.underlying46
theorem pl46 : plT Tryd.prog 46 = some #[(0, 1), (1, 1), (2, 1)] := by kernel_rfl
theorem fl46_0 : fldT Tryd.prog 46 0 = some (0, 3) := by kernel_rfl
theorem fl46_1 : fldT Tryd.prog 46 1 = some (1, 9) := by kernel_rfl
theorem fl46_2 : fldT Tryd.prog 46 2 = some (2, 9) := by kernel_rfl
theorem ld47 : ldK Tryd.prog 47 = some (some 3) := by kernel_rfl
theorem sz47 : szT Tryd.prog 47 = some 3 := by kernel_rfl
theorem sl47 : slT Tryd.prog 47 = none := by kernel_rfl
theorem st47 : stT Tryd.prog 47 = false := by kernel_rfl
theorem zc47 : zcT Tryd.prog 47 = some [.int .i64 0, .string ByteArray.empty, .string ByteArray.empty] := by kernel_rfl
theorem by47 : byT Tryd.prog 47 = some 40 := by kernel_rfl
theorem un47 : Program.underlying Tryd.prog 47 = some (TypeDesc.struct #[{ name := "Room", type := 3, offset := 0, embedded := false, tag := "", pkgPath := "", byteOffset := 0 }, { name := "Sure", type := 9, offset := 1, embedded := false, tag := "", pkgPath := "", byteOffset := 8 }, { name := "Later", type := 9, offset := 2, embedded := false, tag := "", pkgPath := "", byteOffset := 24 }]) := Tryd.underlying47
theorem pl47 : plT Tryd.prog 47 = some #[(0, 1), (1, 1), (2, 1)] := by kernel_rfl
theorem fl47_0 : fldT Tryd.prog 47 0 = some (0, 3) := by kernel_rfl
theorem fl47_1 : fldT Tryd.prog 47 1 = some (1, 9) := by kernel_rfl
theorem fl47_2 : fldT Tryd.prog 47 2 = some (2, 9) := by kernel_rfl
theorem ld48 : ldK Tryd.prog 48 = some (none) := by kernel_rfl
theorem sz48 : szT Tryd.prog 48 = some 1 := by kernel_rfl
theorem sl48 : slT Tryd.prog 48 = none := by kernel_rfl
theorem st48 : stT Tryd.prog 48 = false := by kernel_rfl
theorem zc48 : zcT Tryd.prog 48 = some [.nilFunc] := by kernel_rfl
theorem by48 : byT Tryd.prog 48 = some 8 := by kernel_rfl
theorem un48 : Program.underlying Tryd.prog 48 = some (TypeDesc.func #[47, 3] #[3] false) := Tryd.underlying48
theorem pl48 : plT Tryd.prog 48 = none := by kernel_rfl
theorem ld50 : ldK Tryd.prog 50 = some (none) := by kernel_rfl
theorem sz50 : szT Tryd.prog 50 = some 1 := by kernel_rfl
theorem sl50 : slT Tryd.prog 50 = none := by kernel_rfl
theorem st50 : stT Tryd.prog 50 = false := by kernel_rfl
theorem zc50 : zcT Tryd.prog 50 = some [.nilFunc] := by kernel_rfl
theorem by50 : byT Tryd.prog 50 = some 8 := by kernel_rfl
theorem un50 : Program.underlying Tryd.prog 50 = some (TypeDesc.func #[51] #[40, 4] false) := Tryd.underlying50
theorem pl50 : plT Tryd.prog 50 = none := by kernel_rfl
theorem ld51 : ldK Tryd.prog 51 = some (some 3) := by kernel_rfl
theorem sz51 : szT Tryd.prog 51 = some 3 := by kernel_rfl
theorem sl51 : slT Tryd.prog 51 = none := by kernel_rfl
theorem st51 : stT Tryd.prog 51 = false := by kernel_rfl
theorem zc51 : zcT Tryd.prog 51 = some [.int .i64 0, .string ByteArray.empty, .string ByteArray.empty] := by kernel_rfl
theorem by51 : byT Tryd.prog 51 = some 40 := by kernel_rfl
theorem un51 : Program.underlying Tryd.prog 51 = some (TypeDesc.struct #[{ name := "Room", type := 3, offset := 0, embedded := false, tag := "", pkgPath := "", byteOffset := 0 }, { name := "Sure", type := 9, offset := 1, embedded := false, tag := "", pkgPath := "", byteOffset := 8 }, { name := "Later", type := 9, offset := 2, embedded := false, tag := "", pkgPath := "", byteOffset := 24 }]) := Tryd.underlying51
theorem pl51 : plT Tryd.prog 51 = some #[(0, 1), (1, 1), (2, 1)] := by kernel_rfl
theorem fl51_0 : fldT Tryd.prog 51 0 = some (0, 3) := by kernel_rfl
theorem fl51_1 : fldT Tryd.prog 51 1 = some (1, 9) := by kernel_rfl
theorem fl51_2 : fldT Tryd.prog 51 2 = some (2, 9) := by kernel_rfl
theorem ld52 : ldK Tryd.prog 52 = some (none) := by kernel_rfl
theorem sz52 : szT Tryd.prog 52 = some 1 := by kernel_rfl
theorem sl52 : slT Tryd.prog 52 = none := by kernel_rfl
theorem st52 : stT Tryd.prog 52 = false := by kernel_rfl
theorem zc52 : zcT Tryd.prog 52 = some [.nilFunc] := by kernel_rfl
theorem by52 : byT Tryd.prog 52 = some 8 := by kernel_rfl
theorem un52 : Program.underlying Tryd.prog 52 = some (TypeDesc.func #[47] #[51] false) := Tryd.underlying52
theorem pl52 : plT Tryd.prog 52 = none := by kernel_rfl
theorem ld53 : ldK Tryd.prog 53 = some (none) := by kernel_rfl
theorem sz53 : szT Tryd.prog 53 = some 1 := by kernel_rfl
theorem sl53 : slT Tryd.prog 53 = none := by kernel_rfl
theorem st53 : stT Tryd.prog 53 = false := by kernel_rfl
theorem zc53 : zcT Tryd.prog 53 = some [.nilFunc] := by kernel_rfl
theorem by53 : byT Tryd.prog 53 = some 8 := by kernel_rfl
theorem un53 : Program.underlying Tryd.prog 53 = some (TypeDesc.func #[47] #[4] false) := Tryd.underlying53
theorem pl53 : plT Tryd.prog 53 = none := by kernel_rfl
theorem ld55 : ldK Tryd.prog 55 = some (none) := by kernel_rfl
theorem sz55 : szT Tryd.prog 55 = some 1 := by kernel_rfl
theorem sl55 : slT Tryd.prog 55 = none := by kernel_rfl
theorem st55 : stT Tryd.prog 55 = false := by kernel_rfl
theorem zc55 : zcT Tryd.prog 55 = some [.nilFunc] := by kernel_rfl
theorem by55 : byT Tryd.prog 55 = some 8 := by kernel_rfl
theorem un55 : Program.underlying Tryd.prog 55 = some (TypeDesc.func #[51, 9] #[51, 3, 4] false) := Tryd.underlying55
theorem pl55 : plT Tryd.prog 55 = none := by kernel_rfl
theorem ld56 : ldK Tryd.prog 56 = some (none) := by kernel_rfl
theorem sz56 : szT Tryd.prog 56 = some 1 := by kernel_rfl
theorem sl56 : slT Tryd.prog 56 = none := by kernel_rfl
theorem st56 : stT Tryd.prog 56 = false := by kernel_rfl
theorem zc56 : zcT Tryd.prog 56 = some [.nilFunc] := by kernel_rfl
theorem by56 : byT Tryd.prog 56 = some 8 := by kernel_rfl
theorem un56 : Program.underlying Tryd.prog 56 = some (TypeDesc.func #[51, 51] #[4] false) := Tryd.underlying56
theorem pl56 : plT Tryd.prog 56 = none := by kernel_rfl
theorem ld57 : ldK Tryd.prog 57 = some (none) := by kernel_rfl
theorem sz57 : szT Tryd.prog 57 = some 1 := by kernel_rfl
theorem sl57 : slT Tryd.prog 57 = none := by kernel_rfl
theorem st57 : stT Tryd.prog 57 = false := by kernel_rfl
theorem zc57 : zcT Tryd.prog 57 = some [.nilFunc] := by kernel_rfl
theorem by57 : byT Tryd.prog 57 = some 8 := by kernel_rfl
theorem un57 : Program.underlying Tryd.prog 57 = some (TypeDesc.func #[47, 9] #[4] false) := Tryd.underlying57
theorem pl57 : plT Tryd.prog 57 = none := by kernel_rfl
theorem ld58 : ldK Tryd.prog 58 = some (none) := by kernel_rfl
theorem sz58 : szT Tryd.prog 58 = some 1 := by kernel_rfl
theorem sl58 : slT Tryd.prog 58 = none := by kernel_rfl
theorem st58 : stT Tryd.prog 58 = false := by kernel_rfl
theorem zc58 : zcT Tryd.prog 58 = some [.nilFunc] := by kernel_rfl
theorem by58 : byT Tryd.prog 58 = some 8 := by kernel_rfl
theorem un58 : Program.underlying Tryd.prog 58 = some (TypeDesc.func #[51] #[51, 3, 4] false) := Tryd.underlying58
theorem pl58 : plT Tryd.prog 58 = none := by kernel_rfl
theorem ld59 : ldK Tryd.prog 59 = some (none) := by kernel_rfl
theorem sz59 : szT Tryd.prog 59 = some 1 := by kernel_rfl
theorem sl59 : slT Tryd.prog 59 = none := by kernel_rfl
theorem st59 : stT Tryd.prog 59 = false := by kernel_rfl
theorem zc59 : zcT Tryd.prog 59 = some [.nilFunc] := by kernel_rfl
theorem by59 : byT Tryd.prog 59 = some 8 := by kernel_rfl
theorem un59 : Program.underlying Tryd.prog 59 = some (TypeDesc.func #[24] #[4] false) := Tryd.underlying59
theorem pl59 : plT Tryd.prog 59 = none := by kernel_rfl
theorem ld60 : ldK Tryd.prog 60 = some (none) := by kernel_rfl
theorem sz60 : szT Tryd.prog 60 = some 1 := by kernel_rfl
theorem sl60 : slT Tryd.prog 60 = none := by kernel_rfl
theorem st60 : stT Tryd.prog 60 = false := by kernel_rfl
theorem zc60 : zcT Tryd.prog 60 = some [.nilFunc] := by kernel_rfl
theorem by60 : byT Tryd.prog 60 = some 8 := by kernel_rfl
theorem un60 : Program.underlying Tryd.prog 60 = some (TypeDesc.func #[61, 3] #[9] false) := Tryd.underlying60
theorem pl60 : plT Tryd.prog 60 = none := by kernel_rfl
theorem ld61 : ldK Tryd.prog 61 = some (none) := by kernel_rfl
theorem sz61 : szT Tryd.prog 61 = some 1 := by kernel_rfl
theorem sl61 : slT Tryd.prog 61 = some 92 := by kernel_rfl
theorem st61 : stT Tryd.prog 61 = false := by kernel_rfl
theorem zc61 : zcT Tryd.prog 61 = some [.slice none 0 0] := by kernel_rfl
theorem by61 : byT Tryd.prog 61 = some 24 := by kernel_rfl
theorem un61 : Program.underlying Tryd.prog 61 = some (TypeDesc.slice 92) := Tryd.underlying61
theorem pl61 : plT Tryd.prog 61 = none := by kernel_rfl
theorem ld62 : ldK Tryd.prog 62 = some (none) := by kernel_rfl
theorem sz62 : szT Tryd.prog 62 = some 1 := by kernel_rfl
theorem sl62 : slT Tryd.prog 62 = none := by kernel_rfl
theorem st62 : stT Tryd.prog 62 = false := by kernel_rfl
theorem zc62 : zcT Tryd.prog 62 = some [.nilFunc] := by kernel_rfl
theorem by62 : byT Tryd.prog 62 = some 8 := by kernel_rfl
theorem un62 : Program.underlying Tryd.prog 62 = some (TypeDesc.func #[24] #[61] false) := Tryd.underlying62
theorem pl62 : plT Tryd.prog 62 = none := by kernel_rfl
theorem ld63 : ldK Tryd.prog 63 = some (none) := by kernel_rfl
theorem sz63 : szT Tryd.prog 63 = some 1 := by kernel_rfl
theorem sl63 : slT Tryd.prog 63 = none := by kernel_rfl
theorem st63 : stT Tryd.prog 63 = false := by kernel_rfl
theorem zc63 : zcT Tryd.prog 63 = some [.nilFunc] := by kernel_rfl
theorem by63 : byT Tryd.prog 63 = some 8 := by kernel_rfl
theorem un63 : Program.underlying Tryd.prog 63 = some (TypeDesc.func #[24, 3] #[9] false) := Tryd.underlying63
theorem pl63 : plT Tryd.prog 63 = none := by kernel_rfl
theorem ld64 : ldK Tryd.prog 64 = some (none) := by kernel_rfl
theorem sz64 : szT Tryd.prog 64 = some 1 := by kernel_rfl
theorem sl64 : slT Tryd.prog 64 = none := by kernel_rfl
theorem st64 : stT Tryd.prog 64 = false := by kernel_rfl
theorem zc64 : zcT Tryd.prog 64 = some [.pointer none] := by kernel_rfl
theorem by64 : byT Tryd.prog 64 = some 8 := by kernel_rfl
theorem un64 : Program.underlying Tryd.prog 64 = some (TypeDesc.pointer 66) := Tryd.underlying64
theorem pl64 : plT Tryd.prog 64 = none := by kernel_rfl
theorem ld65 : ldK Tryd.prog 65 = some (some 3) := by kernel_rfl
theorem sz65 : szT Tryd.prog 65 = some 3 := by kernel_rfl
theorem sl65 : slT Tryd.prog 65 = none := by kernel_rfl
theorem st65 : stT Tryd.prog 65 = false := by kernel_rfl
theorem zc65 : zcT Tryd.prog 65 = some [.string ByteArray.empty, .int .i64 0, .slice none 0 0] := by kernel_rfl
theorem by65 : byT Tryd.prog 65 = some 48 := by kernel_rfl
theorem un65 : Program.underlying Tryd.prog 65 = some (TypeDesc.struct #[{ name := "s", type := 9, offset := 0, embedded := false, tag := "", pkgPath := "loop.example/g00662/impl", byteOffset := 0 }, { name := "at", type := 3, offset := 1, embedded := false, tag := "", pkgPath := "loop.example/g00662/impl", byteOffset := 16 }, { name := "tree", type := 24, offset := 2, embedded := false, tag := "", pkgPath := "loop.example/g00662/impl", byteOffset := 24 }]) := Tryd.underlying65
theorem pl65 : plT Tryd.prog 65 = some #[(0, 1), (1, 1), (2, 1)] := by kernel_rfl
theorem fl65_0 : fldT Tryd.prog 65 0 = some (0, 9) := by kernel_rfl
theorem fl65_1 : fldT Tryd.prog 65 1 = some (1, 3) := by kernel_rfl
theorem fl65_2 : fldT Tryd.prog 65 2 = some (2, 24) := by kernel_rfl
theorem ld66 : ldK Tryd.prog 66 = some (some 3) := by kernel_rfl
theorem sz66 : szT Tryd.prog 66 = some 3 := by kernel_rfl
theorem sl66 : slT Tryd.prog 66 = none := by kernel_rfl
theorem st66 : stT Tryd.prog 66 = false := by kernel_rfl
theorem zc66 : zcT Tryd.prog 66 = some [.string ByteArray.empty, .int .i64 0, .slice none 0 0] := by kernel_rfl
theorem by66 : byT Tryd.prog 66 = some 48 := by kernel_rfl
theorem un66 : Program.underlying Tryd.prog 66 = some (TypeDesc.struct #[{ name := "s", type := 9, offset := 0, embedded := false, tag := "", pkgPath := "loop.example/g00662/impl", byteOffset := 0 }, { name := "at", type := 3, offset := 1, embedded := false, tag := "", pkgPath := "loop.example/g00662/impl", byteOffset := 16 }, { name := "tree", type := 24, offset := 2, embedded := false, tag := "", pkgPath := "loop.example/g00662/impl", byteOffset := 24 }]) := Tryd.underlying66
theorem pl66 : plT Tryd.prog 66 = some #[(0, 1), (1, 1), (2, 1)] := by kernel_rfl
theorem fl66_0 : fldT Tryd.prog 66 0 = some (0, 9) := by kernel_rfl
theorem fl66_1 : fldT Tryd.prog 66 1 = some (1, 3) := by kernel_rfl
theorem fl66_2 : fldT Tryd.prog 66 2 = some (2, 24) := by kernel_rfl
theorem ld67 : ldK Tryd.prog 67 = some (none) := by kernel_rfl
theorem sz67 : szT Tryd.prog 67 = some 1 := by kernel_rfl
theorem sl67 : slT Tryd.prog 67 = none := by kernel_rfl
theorem st67 : stT Tryd.prog 67 = false := by kernel_rfl
theorem zc67 : zcT Tryd.prog 67 = some [.nilFunc] := by kernel_rfl
theorem by67 : byT Tryd.prog 67 = some 8 := by kernel_rfl
theorem un67 : Program.underlying Tryd.prog 67 = some (TypeDesc.func #[] #[4] false) := Tryd.underlying67
theorem pl67 : plT Tryd.prog 67 = none := by kernel_rfl
theorem ld68 : ldK Tryd.prog 68 = some (some 2) := by kernel_rfl
theorem sz68 : szT Tryd.prog 68 = some 2 := by kernel_rfl
theorem sl68 : slT Tryd.prog 68 = none := by kernel_rfl
theorem st68 : stT Tryd.prog 68 = false := by kernel_rfl
theorem zc68 : zcT Tryd.prog 68 = some [.int .i64 0, .int .i64 0] := by kernel_rfl
theorem by68 : byT Tryd.prog 68 = some 16 := by kernel_rfl
theorem un68 : Program.underlying Tryd.prog 68 = some (TypeDesc.struct #[{ name := "Op", type := 3, offset := 0, embedded := false, tag := "", pkgPath := "", byteOffset := 0 }, { name := "N", type := 3, offset := 1, embedded := false, tag := "", pkgPath := "", byteOffset := 8 }]) := Tryd.underlying68
theorem pl68 : plT Tryd.prog 68 = some #[(0, 1), (1, 1)] := by kernel_rfl
theorem fl68_0 : fldT Tryd.prog 68 0 = some (0, 3) := by kernel_rfl
theorem fl68_1 : fldT Tryd.prog 68 1 = some (1, 3) := by kernel_rfl
theorem ld69 : ldK Tryd.prog 69 = some (some 2) := by kernel_rfl
theorem sz69 : szT Tryd.prog 69 = some 2 := by kernel_rfl
theorem sl69 : slT Tryd.prog 69 = none := by kernel_rfl
theorem st69 : stT Tryd.prog 69 = false := by kernel_rfl
theorem zc69 : zcT Tryd.prog 69 = some [.int .i64 0, .int .i64 0] := by kernel_rfl
theorem by69 : byT Tryd.prog 69 = some 16 := by kernel_rfl
theorem un69 : Program.underlying Tryd.prog 69 = some (TypeDesc.struct #[{ name := "Op", type := 3, offset := 0, embedded := false, tag := "", pkgPath := "", byteOffset := 0 }, { name := "N", type := 3, offset := 1, embedded := false, tag := "", pkgPath := "", byteOffset := 8 }]) := Tryd.underlying69
theorem pl69 : plT Tryd.prog 69 = some #[(0, 1), (1, 1)] := by kernel_rfl
theorem fl69_0 : fldT Tryd.prog 69 0 = some (0, 3) := by kernel_rfl
theorem fl69_1 : fldT Tryd.prog 69 1 = some (1, 3) := by kernel_rfl
theorem ld70 : ldK Tryd.prog 70 = some (none) := by kernel_rfl
theorem sz70 : szT Tryd.prog 70 = some 1 := by kernel_rfl
theorem sl70 : slT Tryd.prog 70 = none := by kernel_rfl
theorem st70 : stT Tryd.prog 70 = false := by kernel_rfl
theorem zc70 : zcT Tryd.prog 70 = some [.pointer none] := by kernel_rfl
theorem by70 : byT Tryd.prog 70 = some 8 := by kernel_rfl
theorem un70 : Program.underlying Tryd.prog 70 = some (TypeDesc.pointer 73) := Tryd.underlying70
theorem pl70 : plT Tryd.prog 70 = none := by kernel_rfl
theorem ld71 : ldK Tryd.prog 71 = some (none) := by kernel_rfl
theorem sz71 : szT Tryd.prog 71 = some 1 := by kernel_rfl
theorem sl71 : slT Tryd.prog 71 = none := by kernel_rfl
theorem st71 : stT Tryd.prog 71 = false := by kernel_rfl
theorem zc71 : zcT Tryd.prog 71 = some [.int .u64 0] := by kernel_rfl
theorem by71 : byT Tryd.prog 71 = some 8 := by kernel_rfl
theorem un71 : Program.underlying Tryd.prog 71 = some (TypeDesc.int IntKind.u64) := Tryd.underlying71
theorem pl71 : plT Tryd.prog 71 = none := by kernel_rfl
theorem ld72 : ldK Tryd.prog 72 = some (some 3) := by kernel_rfl
theorem sz72 : szT Tryd.prog 72 = some 3 := by kernel_rfl
theorem sl72 : slT Tryd.prog 72 = none := by kernel_rfl
theorem st72 : stT Tryd.prog 72 = false := by kernel_rfl
theorem zc72 : zcT Tryd.prog 72 = some [.slice none 0 0, .int .i64 0, .int .u64 0] := by kernel_rfl
theorem by72 : byT Tryd.prog 72 = some 40 := by kernel_rfl
theorem un72 : Program.underlying Tryd.prog 72 = some (TypeDesc.struct #[{ name := "code", type := 22, offset := 0, embedded := false, tag := "", pkgPath := "loop.example/g00662/spec", byteOffset := 0 }, { name := "at", type := 3, offset := 1, embedded := false, tag := "", pkgPath := "loop.example/g00662/spec", byteOffset := 24 }, { name := "seed", type := 71, offset := 2, embedded := false, tag := "", pkgPath := "loop.example/g00662/spec", byteOffset := 32 }]) := Tryd.underlying72
theorem pl72 : plT Tryd.prog 72 = some #[(0, 1), (1, 1), (2, 1)] := by kernel_rfl
theorem fl72_0 : fldT Tryd.prog 72 0 = some (0, 22) := by kernel_rfl
theorem fl72_1 : fldT Tryd.prog 72 1 = some (1, 3) := by kernel_rfl
theorem fl72_2 : fldT Tryd.prog 72 2 = some (2, 71) := by kernel_rfl
theorem ld73 : ldK Tryd.prog 73 = some (some 3) := by kernel_rfl
theorem sz73 : szT Tryd.prog 73 = some 3 := by kernel_rfl
theorem sl73 : slT Tryd.prog 73 = none := by kernel_rfl
theorem st73 : stT Tryd.prog 73 = false := by kernel_rfl
theorem zc73 : zcT Tryd.prog 73 = some [.slice none 0 0, .int .i64 0, .int .u64 0] := by kernel_rfl
theorem by73 : byT Tryd.prog 73 = some 40 := by kernel_rfl
theorem un73 : Program.underlying Tryd.prog 73 = some (TypeDesc.struct #[{ name := "code", type := 22, offset := 0, embedded := false, tag := "", pkgPath := "loop.example/g00662/spec", byteOffset := 0 }, { name := "at", type := 3, offset := 1, embedded := false, tag := "", pkgPath := "loop.example/g00662/spec", byteOffset := 24 }, { name := "seed", type := 71, offset := 2, embedded := false, tag := "", pkgPath := "loop.example/g00662/spec", byteOffset := 32 }]) := Tryd.underlying73
theorem pl73 : plT Tryd.prog 73 = some #[(0, 1), (1, 1), (2, 1)] := by kernel_rfl
theorem fl73_0 : fldT Tryd.prog 73 0 = some (0, 22) := by kernel_rfl
theorem fl73_1 : fldT Tryd.prog 73 1 = some (1, 3) := by kernel_rfl
theorem fl73_2 : fldT Tryd.prog 73 2 = some (2, 71) := by kernel_rfl
theorem ld74 : ldK Tryd.prog 74 = some (none) := by kernel_rfl
theorem sz74 : szT Tryd.prog 74 = some 1 := by kernel_rfl
theorem sl74 : slT Tryd.prog 74 = none := by kernel_rfl
theorem st74 : stT Tryd.prog 74 = false := by kernel_rfl
theorem zc74 : zcT Tryd.prog 74 = some [.nilFunc] := by kernel_rfl
theorem by74 : byT Tryd.prog 74 = some 8 := by kernel_rfl
theorem un74 : Program.underlying Tryd.prog 74 = some (TypeDesc.func #[] #[24] false) := Tryd.underlying74
theorem pl74 : plT Tryd.prog 74 = none := by kernel_rfl
theorem ld75 : ldK Tryd.prog 75 = some (none) := by kernel_rfl
theorem sz75 : szT Tryd.prog 75 = some 1 := by kernel_rfl
theorem sl75 : slT Tryd.prog 75 = none := by kernel_rfl
theorem st75 : stT Tryd.prog 75 = false := by kernel_rfl
theorem zc75 : zcT Tryd.prog 75 = some [.nilFunc] := by kernel_rfl
theorem by75 : byT Tryd.prog 75 = some 8 := by kernel_rfl
theorem un75 : Program.underlying Tryd.prog 75 = some (TypeDesc.func #[3] #[4] false) := Tryd.underlying75
theorem pl75 : plT Tryd.prog 75 = none := by kernel_rfl
theorem ld76 : ldK Tryd.prog 76 = some (none) := by kernel_rfl
theorem sz76 : szT Tryd.prog 76 = some 1 := by kernel_rfl
theorem sl76 : slT Tryd.prog 76 = none := by kernel_rfl
theorem st76 : stT Tryd.prog 76 = false := by kernel_rfl
theorem zc76 : zcT Tryd.prog 76 = some [.nilFunc] := by kernel_rfl
theorem by76 : byT Tryd.prog 76 = some 8 := by kernel_rfl
theorem un76 : Program.underlying Tryd.prog 76 = some (TypeDesc.func #[9, 9] #[9] false) := Tryd.underlying76
theorem pl76 : plT Tryd.prog 76 = none := by kernel_rfl
theorem ld77 : ldK Tryd.prog 77 = some (none) := by kernel_rfl
theorem sz77 : szT Tryd.prog 77 = some 1 := by kernel_rfl
theorem sl77 : slT Tryd.prog 77 = none := by kernel_rfl
theorem st77 : stT Tryd.prog 77 = false := by kernel_rfl
theorem zc77 : zcT Tryd.prog 77 = some [.nilFunc] := by kernel_rfl
theorem by77 : byT Tryd.prog 77 = some 8 := by kernel_rfl
theorem un77 : Program.underlying Tryd.prog 77 = some (TypeDesc.func #[9, 3] #[24, 3, 4] false) := Tryd.underlying77
theorem pl77 : plT Tryd.prog 77 = none := by kernel_rfl
theorem ld78 : ldK Tryd.prog 78 = some (none) := by kernel_rfl
theorem sz78 : szT Tryd.prog 78 = some 1 := by kernel_rfl
theorem sl78 : slT Tryd.prog 78 = none := by kernel_rfl
theorem st78 : stT Tryd.prog 78 = false := by kernel_rfl
theorem zc78 : zcT Tryd.prog 78 = some [.nilFunc] := by kernel_rfl
theorem by78 : byT Tryd.prog 78 = some 8 := by kernel_rfl
theorem un78 : Program.underlying Tryd.prog 78 = some (TypeDesc.func #[3, 3, 3] #[4] false) := Tryd.underlying78
theorem pl78 : plT Tryd.prog 78 = none := by kernel_rfl
theorem ld79 : ldK Tryd.prog 79 = some (none) := by kernel_rfl
theorem sz79 : szT Tryd.prog 79 = some 1 := by kernel_rfl
theorem sl79 : slT Tryd.prog 79 = none := by kernel_rfl
theorem st79 : stT Tryd.prog 79 = false := by kernel_rfl
theorem zc79 : zcT Tryd.prog 79 = some [.nilFunc] := by kernel_rfl
theorem by79 : byT Tryd.prog 79 = some 8 := by kernel_rfl
theorem un79 : Program.underlying Tryd.prog 79 = some (TypeDesc.func #[3, 9] #[9] false) := Tryd.underlying79
theorem pl79 : plT Tryd.prog 79 = none := by kernel_rfl
theorem ld80 : ldK Tryd.prog 80 = some (none) := by kernel_rfl
theorem sz80 : szT Tryd.prog 80 = some 1 := by kernel_rfl
theorem sl80 : slT Tryd.prog 80 = none := by kernel_rfl
theorem st80 : stT Tryd.prog 80 = false := by kernel_rfl
theorem zc80 : zcT Tryd.prog 80 = some [.nilFunc] := by kernel_rfl
theorem by80 : byT Tryd.prog 80 = some 8 := by kernel_rfl
theorem un80 : Program.underlying Tryd.prog 80 = some (TypeDesc.func #[81, 3, 3] #[4] false) := Tryd.underlying80
theorem pl80 : plT Tryd.prog 80 = none := by kernel_rfl
theorem ld81 : ldK Tryd.prog 81 = some (none) := by kernel_rfl
theorem sz81 : szT Tryd.prog 81 = some 1 := by kernel_rfl
theorem sl81 : slT Tryd.prog 81 = some 3 := by kernel_rfl
theorem st81 : stT Tryd.prog 81 = false := by kernel_rfl
theorem zc81 : zcT Tryd.prog 81 = some [.slice none 0 0] := by kernel_rfl
theorem by81 : byT Tryd.prog 81 = some 24 := by kernel_rfl
theorem un81 : Program.underlying Tryd.prog 81 = some (TypeDesc.slice 3) := Tryd.underlying81
theorem pl81 : plT Tryd.prog 81 = none := by kernel_rfl
theorem ld82 : ldK Tryd.prog 82 = some (none) := by kernel_rfl
theorem sz82 : szT Tryd.prog 82 = some 1 := by kernel_rfl
theorem sl82 : slT Tryd.prog 82 = none := by kernel_rfl
theorem st82 : stT Tryd.prog 82 = false := by kernel_rfl
theorem zc82 : zcT Tryd.prog 82 = some [.nilFunc] := by kernel_rfl
theorem by82 : byT Tryd.prog 82 = some 8 := by kernel_rfl
theorem un82 : Program.underlying Tryd.prog 82 = some (TypeDesc.func #[37] #[81] false) := Tryd.underlying82
theorem pl82 : plT Tryd.prog 82 = none := by kernel_rfl
theorem ld83 : ldK Tryd.prog 83 = some (none) := by kernel_rfl
theorem sz83 : szT Tryd.prog 83 = some 1 := by kernel_rfl
theorem sl83 : slT Tryd.prog 83 = none := by kernel_rfl
theorem st83 : stT Tryd.prog 83 = false := by kernel_rfl
theorem zc83 : zcT Tryd.prog 83 = some [.nilFunc] := by kernel_rfl
theorem by83 : byT Tryd.prog 83 = some 8 := by kernel_rfl
theorem un83 : Program.underlying Tryd.prog 83 = some (TypeDesc.func #[81] #[9] false) := Tryd.underlying83
theorem pl83 : plT Tryd.prog 83 = none := by kernel_rfl
theorem ld84 : ldK Tryd.prog 84 = some (none) := by kernel_rfl
theorem sz84 : szT Tryd.prog 84 = some 1 := by kernel_rfl
theorem sl84 : slT Tryd.prog 84 = none := by kernel_rfl
theorem st84 : stT Tryd.prog 84 = false := by kernel_rfl
theorem zc84 : zcT Tryd.prog 84 = some [.nilFunc] := by kernel_rfl
theorem by84 : byT Tryd.prog 84 = some 8 := by kernel_rfl
theorem un84 : Program.underlying Tryd.prog 84 = some (TypeDesc.func #[81, 9] #[9] false) := Tryd.underlying84
theorem pl84 : plT Tryd.prog 84 = none := by kernel_rfl
theorem ld86 : ldK Tryd.prog 86 = some (none) := by kernel_rfl
theorem sz86 : szT Tryd.prog 86 = some 1 := by kernel_rfl
theorem sl86 : slT Tryd.prog 86 = none := by kernel_rfl
theorem st86 : stT Tryd.prog 86 = false := by kernel_rfl
theorem zc86 : zcT Tryd.prog 86 = some [.nilFunc] := by kernel_rfl
theorem by86 : byT Tryd.prog 86 = some 8 := by kernel_rfl
theorem un86 : Program.underlying Tryd.prog 86 = some (TypeDesc.func #[9] #[40, 3] false) := Tryd.underlying86
theorem pl86 : plT Tryd.prog 86 = none := by kernel_rfl
theorem ld87 : ldK Tryd.prog 87 = some (none) := by kernel_rfl
theorem sz87 : szT Tryd.prog 87 = some 1 := by kernel_rfl
theorem sl87 : slT Tryd.prog 87 = none := by kernel_rfl
theorem st87 : stT Tryd.prog 87 = false := by kernel_rfl
theorem zc87 : zcT Tryd.prog 87 = some [.nilFunc] := by kernel_rfl
theorem by87 : byT Tryd.prog 87 = some 8 := by kernel_rfl
theorem un87 : Program.underlying Tryd.prog 87 = some (TypeDesc.func #[3] #[9] false) := Tryd.underlying87
theorem pl87 : plT Tryd.prog 87 = none := by kernel_rfl
theorem ld88 : ldK Tryd.prog 88 = some (none) := by kernel_rfl
theorem sz88 : szT Tryd.prog 88 = some 1 := by kernel_rfl
theorem sl88 : slT Tryd.prog 88 = none := by kernel_rfl
theorem st88 : stT Tryd.prog 88 = false := by kernel_rfl
theorem zc88 : zcT Tryd.prog 88 = some [.nilFunc] := by kernel_rfl
theorem by88 : byT Tryd.prog 88 = some 8 := by kernel_rfl
theorem un88 : Program.underlying Tryd.prog 88 = some (TypeDesc.func #[51] #[4] false) := Tryd.underlying88
theorem pl88 : plT Tryd.prog 88 = none := by kernel_rfl
theorem ld90 : ldK Tryd.prog 90 = some (none) := by kernel_rfl
theorem sz90 : szT Tryd.prog 90 = some 1 := by kernel_rfl
theorem sl90 : slT Tryd.prog 90 = none := by kernel_rfl
theorem st90 : stT Tryd.prog 90 = false := by kernel_rfl
theorem zc90 : zcT Tryd.prog 90 = some [.nilFunc] := by kernel_rfl
theorem by90 : byT Tryd.prog 90 = some 8 := by kernel_rfl
theorem un90 : Program.underlying Tryd.prog 90 = some (TypeDesc.func #[51, 9] #[51, 3] false) := Tryd.underlying90
theorem pl90 : plT Tryd.prog 90 = none := by kernel_rfl
theorem ld91 : ldK Tryd.prog 91 = some (some 4) := by kernel_rfl
theorem sz91 : szT Tryd.prog 91 = some 4 := by kernel_rfl
theorem sl91 : slT Tryd.prog 91 = none := by kernel_rfl
theorem st91 : stT Tryd.prog 91 = false := by kernel_rfl
theorem zc91 : zcT Tryd.prog 91 = some [.int .i64 0, .int .i64 0, .int .i64 0, .int .i64 0] := by kernel_rfl
theorem by91 : byT Tryd.prog 91 = some 32 := by kernel_rfl
theorem un91 : Program.underlying Tryd.prog 91 = some (TypeDesc.struct #[{ name := "Branch", type := 69, offset := 0, embedded := true, tag := "", pkgPath := "", byteOffset := 0 }, { name := "first", type := 3, offset := 2, embedded := false, tag := "", pkgPath := "loop.example/g00662/impl", byteOffset := 16 }, { name := "second", type := 3, offset := 3, embedded := false, tag := "", pkgPath := "loop.example/g00662/impl", byteOffset := 24 }]) := Tryd.underlying91
theorem pl91 : plT Tryd.prog 91 = some #[(0, 2), (2, 1), (3, 1)] := by kernel_rfl
theorem fl91_0 : fldT Tryd.prog 91 0 = some (0, 69) := by kernel_rfl
theorem fl91_1 : fldT Tryd.prog 91 1 = some (2, 3) := by kernel_rfl
theorem fl91_2 : fldT Tryd.prog 91 2 = some (3, 3) := by kernel_rfl
theorem ld92 : ldK Tryd.prog 92 = some (some 4) := by kernel_rfl
theorem sz92 : szT Tryd.prog 92 = some 4 := by kernel_rfl
theorem sl92 : slT Tryd.prog 92 = none := by kernel_rfl
theorem st92 : stT Tryd.prog 92 = false := by kernel_rfl
theorem zc92 : zcT Tryd.prog 92 = some [.int .i64 0, .int .i64 0, .int .i64 0, .int .i64 0] := by kernel_rfl
theorem by92 : byT Tryd.prog 92 = some 32 := by kernel_rfl
theorem un92 : Program.underlying Tryd.prog 92 = some (TypeDesc.struct #[{ name := "Branch", type := 69, offset := 0, embedded := true, tag := "", pkgPath := "", byteOffset := 0 }, { name := "first", type := 3, offset := 2, embedded := false, tag := "", pkgPath := "loop.example/g00662/impl", byteOffset := 16 }, { name := "second", type := 3, offset := 3, embedded := false, tag := "", pkgPath := "loop.example/g00662/impl", byteOffset := 24 }]) := Tryd.underlying92
theorem pl92 : plT Tryd.prog 92 = some #[(0, 2), (2, 1), (3, 1)] := by kernel_rfl
theorem fl92_0 : fldT Tryd.prog 92 0 = some (0, 69) := by kernel_rfl
theorem fl92_1 : fldT Tryd.prog 92 1 = some (2, 3) := by kernel_rfl
theorem fl92_2 : fldT Tryd.prog 92 2 = some (3, 3) := by kernel_rfl
theorem ld93 : ldK Tryd.prog 93 = some (none) := by kernel_rfl
theorem sz93 : szT Tryd.prog 93 = some 1 := by kernel_rfl
theorem sl93 : slT Tryd.prog 93 = none := by kernel_rfl
theorem st93 : stT Tryd.prog 93 = false := by kernel_rfl
theorem zc93 : zcT Tryd.prog 93 = some [.nilFunc] := by kernel_rfl
theorem by93 : byT Tryd.prog 93 = some 8 := by kernel_rfl
theorem un93 : Program.underlying Tryd.prog 93 = some (TypeDesc.func #[24, 3] #[3] false) := Tryd.underlying93
theorem pl93 : plT Tryd.prog 93 = none := by kernel_rfl
theorem ld94 : ldK Tryd.prog 94 = some (none) := by kernel_rfl
theorem sz94 : szT Tryd.prog 94 = some 1 := by kernel_rfl
theorem sl94 : slT Tryd.prog 94 = none := by kernel_rfl
theorem st94 : stT Tryd.prog 94 = false := by kernel_rfl
theorem zc94 : zcT Tryd.prog 94 = some [.nilFunc] := by kernel_rfl
theorem by94 : byT Tryd.prog 94 = some 8 := by kernel_rfl
theorem un94 : Program.underlying Tryd.prog 94 = some (TypeDesc.func #[] #[5] false) := Tryd.underlying94
theorem pl94 : plT Tryd.prog 94 = none := by kernel_rfl
theorem ld95 : ldK Tryd.prog 95 = some (none) := by kernel_rfl
theorem sz95 : szT Tryd.prog 95 = some 1 := by kernel_rfl
theorem sl95 : slT Tryd.prog 95 = none := by kernel_rfl
theorem st95 : stT Tryd.prog 95 = false := by kernel_rfl
theorem zc95 : zcT Tryd.prog 95 = some [.nilFunc] := by kernel_rfl
theorem by95 : byT Tryd.prog 95 = some 8 := by kernel_rfl
theorem un95 : Program.underlying Tryd.prog 95 = some (TypeDesc.func #[9, 5] #[3] false) := Tryd.underlying95
theorem pl95 : plT Tryd.prog 95 = none := by kernel_rfl
theorem ld96 : ldK Tryd.prog 96 = some (none) := by kernel_rfl
theorem sz96 : szT Tryd.prog 96 = some 1 := by kernel_rfl
theorem sl96 : slT Tryd.prog 96 = none := by kernel_rfl
theorem st96 : stT Tryd.prog 96 = false := by kernel_rfl
theorem zc96 : zcT Tryd.prog 96 = some [.nilFunc] := by kernel_rfl
theorem by96 : byT Tryd.prog 96 = some 8 := by kernel_rfl
theorem un96 : Program.underlying Tryd.prog 96 = some (TypeDesc.func #[3] #[24] false) := Tryd.underlying96
theorem pl96 : plT Tryd.prog 96 = none := by kernel_rfl
theorem ld97 : ldK Tryd.prog 97 = some (none) := by kernel_rfl
theorem sz97 : szT Tryd.prog 97 = some 1 := by kernel_rfl
theorem sl97 : slT Tryd.prog 97 = none := by kernel_rfl
theorem st97 : stT Tryd.prog 97 = false := by kernel_rfl
theorem zc97 : zcT Tryd.prog 97 = some [.nilFunc] := by kernel_rfl
theorem by97 : byT Tryd.prog 97 = some 8 := by kernel_rfl
theorem un97 : Program.underlying Tryd.prog 97 = some (TypeDesc.func #[3] #[3] false) := Tryd.underlying97
theorem pl97 : plT Tryd.prog 97 = none := by kernel_rfl
theorem ld98 : ldK Tryd.prog 98 = some (none) := by kernel_rfl
theorem sz98 : szT Tryd.prog 98 = some 1 := by kernel_rfl
theorem sl98 : slT Tryd.prog 98 = none := by kernel_rfl
theorem st98 : stT Tryd.prog 98 = false := by kernel_rfl
theorem zc98 : zcT Tryd.prog 98 = some [.nilFunc] := by kernel_rfl
theorem by98 : byT Tryd.prog 98 = some 8 := by kernel_rfl
theorem un98 : Program.underlying Tryd.prog 98 = some (TypeDesc.func #[81] #[3] false) := Tryd.underlying98
theorem pl98 : plT Tryd.prog 98 = none := by kernel_rfl
theorem ld99 : ldK Tryd.prog 99 = some (none) := by kernel_rfl
theorem sz99 : szT Tryd.prog 99 = some 1 := by kernel_rfl
theorem sl99 : slT Tryd.prog 99 = none := by kernel_rfl
theorem st99 : stT Tryd.prog 99 = false := by kernel_rfl
theorem zc99 : zcT Tryd.prog 99 = some [.nilFunc] := by kernel_rfl
theorem by99 : byT Tryd.prog 99 = some 8 := by kernel_rfl
theorem un99 : Program.underlying Tryd.prog 99 = some (TypeDesc.func #[3, 3] #[9] false) := Tryd.underlying99
theorem pl99 : plT Tryd.prog 99 = none := by kernel_rfl
theorem ld100 : ldK Tryd.prog 100 = some (none) := by kernel_rfl
theorem sz100 : szT Tryd.prog 100 = some 1 := by kernel_rfl
theorem sl100 : slT Tryd.prog 100 = none := by kernel_rfl
theorem st100 : stT Tryd.prog 100 = false := by kernel_rfl
theorem zc100 : zcT Tryd.prog 100 = some [.nilFunc] := by kernel_rfl
theorem by100 : byT Tryd.prog 100 = some 8 := by kernel_rfl
theorem un100 : Program.underlying Tryd.prog 100 = some (TypeDesc.func #[9] #[3] false) := Tryd.underlying100
theorem pl100 : plT Tryd.prog 100 = none := by kernel_rfl
theorem ld101 : ldK Tryd.prog 101 = some (none) := by kernel_rfl
theorem sz101 : szT Tryd.prog 101 = some 1 := by kernel_rfl
theorem sl101 : slT Tryd.prog 101 = none := by kernel_rfl
theorem st101 : stT Tryd.prog 101 = false := by kernel_rfl
theorem zc101 : zcT Tryd.prog 101 = some [.nilFunc] := by kernel_rfl
theorem by101 : byT Tryd.prog 101 = some 8 := by kernel_rfl
theorem un101 : Program.underlying Tryd.prog 101 = some (TypeDesc.func #[40, 9] #[9] false) := Tryd.underlying101
theorem pl101 : plT Tryd.prog 101 = none := by kernel_rfl
theorem ld102 : ldK Tryd.prog 102 = some (none) := by kernel_rfl
theorem sz102 : szT Tryd.prog 102 = some 1 := by kernel_rfl
theorem sl102 : slT Tryd.prog 102 = none := by kernel_rfl
theorem st102 : stT Tryd.prog 102 = false := by kernel_rfl
theorem zc102 : zcT Tryd.prog 102 = some [.nilFunc] := by kernel_rfl
theorem by102 : byT Tryd.prog 102 = some 8 := by kernel_rfl
theorem un102 : Program.underlying Tryd.prog 102 = some (TypeDesc.func #[9, 3] #[9, 4] false) := Tryd.underlying102
theorem pl102 : plT Tryd.prog 102 = none := by kernel_rfl
theorem ld103 : ldK Tryd.prog 103 = some (none) := by kernel_rfl
theorem sz103 : szT Tryd.prog 103 = some 1 := by kernel_rfl
theorem sl103 : slT Tryd.prog 103 = none := by kernel_rfl
theorem st103 : stT Tryd.prog 103 = false := by kernel_rfl
theorem zc103 : zcT Tryd.prog 103 = some [.nilIface] := by kernel_rfl
theorem by103 : byT Tryd.prog 103 = some 16 := by kernel_rfl
theorem un103 : Program.underlying Tryd.prog 103 = some (TypeDesc.interface #[("Error", 113)]) := Tryd.underlying103
theorem pl103 : plT Tryd.prog 103 = none := by kernel_rfl
theorem ld104 : ldK Tryd.prog 104 = some (none) := by kernel_rfl
theorem sz104 : szT Tryd.prog 104 = some 1 := by kernel_rfl
theorem sl104 : slT Tryd.prog 104 = none := by kernel_rfl
theorem st104 : stT Tryd.prog 104 = false := by kernel_rfl
theorem zc104 : zcT Tryd.prog 104 = some [.nilIface] := by kernel_rfl
theorem by104 : byT Tryd.prog 104 = some 16 := by kernel_rfl
theorem un104 : Program.underlying Tryd.prog 104 = some (TypeDesc.interface #[("Error", 113)]) := Tryd.underlying104
theorem pl104 : plT Tryd.prog 104 = none := by kernel_rfl
theorem ld106 : ldK Tryd.prog 106 = some (none) := by kernel_rfl
theorem sz106 : szT Tryd.prog 106 = some 1 := by kernel_rfl
theorem sl106 : slT Tryd.prog 106 = none := by kernel_rfl
theorem st106 : stT Tryd.prog 106 = false := by kernel_rfl
theorem zc106 : zcT Tryd.prog 106 = some [.nilFunc] := by kernel_rfl
theorem by106 : byT Tryd.prog 106 = some 8 := by kernel_rfl
theorem un106 : Program.underlying Tryd.prog 106 = some (TypeDesc.func #[9] #[3, 104] false) := Tryd.underlying106
theorem pl106 : plT Tryd.prog 106 = none := by kernel_rfl
theorem ld107 : ldK Tryd.prog 107 = some (none) := by kernel_rfl
theorem sz107 : szT Tryd.prog 107 = some 1 := by kernel_rfl
theorem sl107 : slT Tryd.prog 107 = none := by kernel_rfl
theorem st107 : stT Tryd.prog 107 = false := by kernel_rfl
theorem zc107 : zcT Tryd.prog 107 = some [.nilFunc] := by kernel_rfl
theorem by107 : byT Tryd.prog 107 = some 8 := by kernel_rfl
theorem un107 : Program.underlying Tryd.prog 107 = some (TypeDesc.func #[] #[3] false) := Tryd.underlying107
theorem pl107 : plT Tryd.prog 107 = none := by kernel_rfl
theorem ld108 : ldK Tryd.prog 108 = some (none) := by kernel_rfl
theorem sz108 : szT Tryd.prog 108 = some 1 := by kernel_rfl
theorem sl108 : slT Tryd.prog 108 = none := by kernel_rfl
theorem st108 : stT Tryd.prog 108 = false := by kernel_rfl
theorem zc108 : zcT Tryd.prog 108 = some [.nilFunc] := by kernel_rfl
theorem by108 : byT Tryd.prog 108 = some 8 := by kernel_rfl
theorem un108 : Program.underlying Tryd.prog 108 = some (TypeDesc.func #[9, 3] #[9] false) := Tryd.underlying108
theorem pl108 : plT Tryd.prog 108 = none := by kernel_rfl
theorem ld109 : ldK Tryd.prog 109 = some (none) := by kernel_rfl
theorem sz109 : szT Tryd.prog 109 = some 1 := by kernel_rfl
theorem sl109 : slT Tryd.prog 109 = none := by kernel_rfl
theorem st109 : stT Tryd.prog 109 = false := by kernel_rfl
theorem zc109 : zcT Tryd.prog 109 = some [.pointer none] := by kernel_rfl
theorem by109 : byT Tryd.prog 109 = some 8 := by kernel_rfl
theorem un109 : Program.underlying Tryd.prog 109 = some (TypeDesc.pointer 111) := Tryd.underlying109
theorem pl109 : plT Tryd.prog 109 = none := by kernel_rfl
theorem ld110 : ldK Tryd.prog 110 = some (some 2) := by kernel_rfl
theorem sz110 : szT Tryd.prog 110 = some 2 := by kernel_rfl
theorem sl110 : slT Tryd.prog 110 = none := by kernel_rfl
theorem st110 : stT Tryd.prog 110 = false := by kernel_rfl
theorem zc110 : zcT Tryd.prog 110 = some [.pointer none, .slice none 0 0] := by kernel_rfl
theorem by110 : byT Tryd.prog 110 = some 32 := by kernel_rfl
theorem un110 : Program.underlying Tryd.prog 110 = some (TypeDesc.struct #[{ name := "addr", type := 109, offset := 0, embedded := false, tag := "", pkgPath := "strings", byteOffset := 0 }, { name := "buf", type := 22, offset := 1, embedded := false, tag := "", pkgPath := "strings", byteOffset := 8 }]) := Tryd.underlying110
theorem pl110 : plT Tryd.prog 110 = some #[(0, 1), (1, 1)] := by kernel_rfl
theorem fl110_0 : fldT Tryd.prog 110 0 = some (0, 109) := by kernel_rfl
theorem fl110_1 : fldT Tryd.prog 110 1 = some (1, 22) := by kernel_rfl
theorem ld111 : ldK Tryd.prog 111 = some (some 2) := by kernel_rfl
theorem sz111 : szT Tryd.prog 111 = some 2 := by kernel_rfl
theorem sl111 : slT Tryd.prog 111 = none := by kernel_rfl
theorem st111 : stT Tryd.prog 111 = false := by kernel_rfl
theorem zc111 : zcT Tryd.prog 111 = some [.pointer none, .slice none 0 0] := by kernel_rfl
theorem by111 : byT Tryd.prog 111 = some 32 := by kernel_rfl
theorem un111 : Program.underlying Tryd.prog 111 = some (TypeDesc.struct #[{ name := "addr", type := 109, offset := 0, embedded := false, tag := "", pkgPath := "strings", byteOffset := 0 }, { name := "buf", type := 22, offset := 1, embedded := false, tag := "", pkgPath := "strings", byteOffset := 8 }]) := Tryd.underlying111
theorem pl111 : plT Tryd.prog 111 = some #[(0, 1), (1, 1)] := by kernel_rfl
theorem fl111_0 : fldT Tryd.prog 111 0 = some (0, 109) := by kernel_rfl
theorem fl111_1 : fldT Tryd.prog 111 1 = some (1, 22) := by kernel_rfl
theorem ld112 : ldK Tryd.prog 112 = some (none) := by kernel_rfl
theorem sz112 : szT Tryd.prog 112 = some 1 := by kernel_rfl
theorem sl112 : slT Tryd.prog 112 = none := by kernel_rfl
theorem st112 : stT Tryd.prog 112 = false := by kernel_rfl
theorem zc112 : zcT Tryd.prog 112 = some [.nilFunc] := by kernel_rfl
theorem by112 : byT Tryd.prog 112 = some 8 := by kernel_rfl
theorem un112 : Program.underlying Tryd.prog 112 = some (TypeDesc.func #[3] #[] false) := Tryd.underlying112
theorem pl112 : plT Tryd.prog 112 = none := by kernel_rfl
theorem ld113 : ldK Tryd.prog 113 = some (none) := by kernel_rfl
theorem sz113 : szT Tryd.prog 113 = some 1 := by kernel_rfl
theorem sl113 : slT Tryd.prog 113 = none := by kernel_rfl
theorem st113 : stT Tryd.prog 113 = false := by kernel_rfl
theorem zc113 : zcT Tryd.prog 113 = some [.nilFunc] := by kernel_rfl
theorem by113 : byT Tryd.prog 113 = some 8 := by kernel_rfl
theorem un113 : Program.underlying Tryd.prog 113 = some (TypeDesc.func #[] #[9] false) := Tryd.underlying113
theorem pl113 : plT Tryd.prog 113 = none := by kernel_rfl
theorem ld114 : ldK Tryd.prog 114 = some (none) := by kernel_rfl
theorem sz114 : szT Tryd.prog 114 = some 1 := by kernel_rfl
theorem sl114 : slT Tryd.prog 114 = none := by kernel_rfl
theorem st114 : stT Tryd.prog 114 = false := by kernel_rfl
theorem zc114 : zcT Tryd.prog 114 = some [.nilFunc] := by kernel_rfl
theorem by114 : byT Tryd.prog 114 = some 8 := by kernel_rfl
theorem un114 : Program.underlying Tryd.prog 114 = some (TypeDesc.func #[9, 9, 3, 3, 104] #[104] false) := Tryd.underlying114
theorem pl114 : plT Tryd.prog 114 = none := by kernel_rfl
theorem ld115 : ldK Tryd.prog 115 = some (none) := by kernel_rfl
theorem sz115 : szT Tryd.prog 115 = some 1 := by kernel_rfl
theorem sl115 : slT Tryd.prog 115 = none := by kernel_rfl
theorem st115 : stT Tryd.prog 115 = false := by kernel_rfl
theorem zc115 : zcT Tryd.prog 115 = some [.nilFunc] := by kernel_rfl
theorem by115 : byT Tryd.prog 115 = some 8 := by kernel_rfl
theorem un115 : Program.underlying Tryd.prog 115 = some (TypeDesc.func #[2, 3] #[9] false) := Tryd.underlying115
theorem pl115 : plT Tryd.prog 115 = none := by kernel_rfl
theorem ld116 : ldK Tryd.prog 116 = some (none) := by kernel_rfl
theorem sz116 : szT Tryd.prog 116 = some 1 := by kernel_rfl
theorem sl116 : slT Tryd.prog 116 = none := by kernel_rfl
theorem st116 : stT Tryd.prog 116 = false := by kernel_rfl
theorem zc116 : zcT Tryd.prog 116 = some [.int .u64 0] := by kernel_rfl
theorem by116 : byT Tryd.prog 116 = some 8 := by kernel_rfl
theorem un116 : Program.underlying Tryd.prog 116 = some (TypeDesc.int IntKind.u64) := Tryd.underlying116
theorem pl116 : plT Tryd.prog 116 = none := by kernel_rfl
theorem ld118 : ldK Tryd.prog 118 = some (none) := by kernel_rfl
theorem sz118 : szT Tryd.prog 118 = some 1 := by kernel_rfl
theorem sl118 : slT Tryd.prog 118 = none := by kernel_rfl
theorem st118 : stT Tryd.prog 118 = false := by kernel_rfl
theorem zc118 : zcT Tryd.prog 118 = some [.nilFunc] := by kernel_rfl
theorem by118 : byT Tryd.prog 118 = some 8 := by kernel_rfl
theorem un118 : Program.underlying Tryd.prog 118 = some (TypeDesc.func #[116, 116] #[116, 116] false) := Tryd.underlying118
theorem pl118 : plT Tryd.prog 118 = none := by kernel_rfl
theorem ld119 : ldK Tryd.prog 119 = some (none) := by kernel_rfl
theorem sz119 : szT Tryd.prog 119 = some 1 := by kernel_rfl
theorem sl119 : slT Tryd.prog 119 = none := by kernel_rfl
theorem st119 : stT Tryd.prog 119 = false := by kernel_rfl
theorem zc119 : zcT Tryd.prog 119 = some [.nilFunc] := by kernel_rfl
theorem by119 : byT Tryd.prog 119 = some 8 := by kernel_rfl
theorem un119 : Program.underlying Tryd.prog 119 = some (TypeDesc.func #[9, 9] #[4] false) := Tryd.underlying119
theorem pl119 : plT Tryd.prog 119 = none := by kernel_rfl
theorem ld120 : ldK Tryd.prog 120 = some (none) := by kernel_rfl
theorem sz120 : szT Tryd.prog 120 = some 1 := by kernel_rfl
theorem sl120 : slT Tryd.prog 120 = none := by kernel_rfl
theorem st120 : stT Tryd.prog 120 = false := by kernel_rfl
theorem zc120 : zcT Tryd.prog 120 = some [.pointer none] := by kernel_rfl
theorem by120 : byT Tryd.prog 120 = some 8 := by kernel_rfl
theorem un120 : Program.underlying Tryd.prog 120 = some (TypeDesc.pointer 5) := Tryd.underlying120
theorem pl120 : plT Tryd.prog 120 = none := by kernel_rfl
theorem ld121 : ldK Tryd.prog 121 = some (none) := by kernel_rfl
theorem sz121 : szT Tryd.prog 121 = some 1 := by kernel_rfl
theorem sl121 : slT Tryd.prog 121 = none := by kernel_rfl
theorem st121 : stT Tryd.prog 121 = false := by kernel_rfl
theorem zc121 : zcT Tryd.prog 121 = some [.int .i64 0] := by kernel_rfl
theorem by121 : byT Tryd.prog 121 = some 8 := by kernel_rfl
theorem un121 : Program.underlying Tryd.prog 121 = some (TypeDesc.int IntKind.i64) := Tryd.underlying121
theorem pl121 : plT Tryd.prog 121 = none := by kernel_rfl
theorem ld123 : ldK Tryd.prog 123 = some (none) := by kernel_rfl
theorem sz123 : szT Tryd.prog 123 = some 1 := by kernel_rfl
theorem sl123 : slT Tryd.prog 123 = none := by kernel_rfl
theorem st123 : stT Tryd.prog 123 = false := by kernel_rfl
theorem zc123 : zcT Tryd.prog 123 = some [.nilFunc] := by kernel_rfl
theorem by123 : byT Tryd.prog 123 = some 8 := by kernel_rfl
theorem un123 : Program.underlying Tryd.prog 123 = some (TypeDesc.func #[9, 3, 3] #[2, 104] false) := Tryd.underlying123
theorem pl123 : plT Tryd.prog 123 = none := by kernel_rfl
theorem ld124 : ldK Tryd.prog 124 = some (none) := by kernel_rfl
theorem sz124 : szT Tryd.prog 124 = some 1 := by kernel_rfl
theorem sl124 : slT Tryd.prog 124 = none := by kernel_rfl
theorem st124 : stT Tryd.prog 124 = false := by kernel_rfl
theorem zc124 : zcT Tryd.prog 124 = some [.pointer none] := by kernel_rfl
theorem by124 : byT Tryd.prog 124 = some 8 := by kernel_rfl
theorem un124 : Program.underlying Tryd.prog 124 = some (TypeDesc.pointer 144) := Tryd.underlying124
theorem pl124 : plT Tryd.prog 124 = none := by kernel_rfl
theorem ld125 : ldK Tryd.prog 125 = some (none) := by kernel_rfl
theorem sz125 : szT Tryd.prog 125 = some 1 := by kernel_rfl
theorem sl125 : slT Tryd.prog 125 = none := by kernel_rfl
theorem st125 : stT Tryd.prog 125 = false := by kernel_rfl
theorem zc125 : zcT Tryd.prog 125 = some [.nilFunc] := by kernel_rfl
theorem by125 : byT Tryd.prog 125 = some 8 := by kernel_rfl
theorem un125 : Program.underlying Tryd.prog 125 = some (TypeDesc.func #[9, 9] #[124] false) := Tryd.underlying125
theorem pl125 : plT Tryd.prog 125 = none := by kernel_rfl
theorem ld126 : ldK Tryd.prog 126 = some (none) := by kernel_rfl
theorem sz126 : szT Tryd.prog 126 = some 1 := by kernel_rfl
theorem sl126 : slT Tryd.prog 126 = none := by kernel_rfl
theorem st126 : stT Tryd.prog 126 = false := by kernel_rfl
theorem zc126 : zcT Tryd.prog 126 = some [.nilFunc] := by kernel_rfl
theorem by126 : byT Tryd.prog 126 = some 8 := by kernel_rfl
theorem un126 : Program.underlying Tryd.prog 126 = some (TypeDesc.func #[9, 9, 3] #[124] false) := Tryd.underlying126
theorem pl126 : plT Tryd.prog 126 = none := by kernel_rfl
theorem ld127 : ldK Tryd.prog 127 = some (some 24) := by kernel_rfl
theorem sz127 : szT Tryd.prog 127 = some 24 := by kernel_rfl
theorem sl127 : slT Tryd.prog 127 = none := by kernel_rfl
theorem st127 : stT Tryd.prog 127 = false := by kernel_rfl
theorem zc127 : zcT Tryd.prog 127 = some [.int .u8 0, .int .u8 0, .int .u8 0, .int .u8 0, .int .u8 0, .int .u8 0, .int .u8 0, .int .u8 0, .int .u8 0, .int .u8 0, .int .u8 0, .int .u8 0, .int .u8 0, .int .u8 0, .int .u8 0, .int .u8 0, .int .u8 0, .int .u8 0, .int .u8 0, .int .u8 0, .int .u8 0, .int .u8 0, .int .u8 0, .int .u8 0] := by kernel_rfl
theorem by127 : byT Tryd.prog 127 = some 24 := by kernel_rfl
theorem un127 : Program.underlying Tryd.prog 127 = some (TypeDesc.array 24 5) := Tryd.underlying127
theorem pl127 : plT Tryd.prog 127 = none := by kernel_rfl
theorem ld128 : ldK Tryd.prog 128 = some (none) := by kernel_rfl
theorem sz128 : szT Tryd.prog 128 = some 1 := by kernel_rfl
theorem sl128 : slT Tryd.prog 128 = none := by kernel_rfl
theorem st128 : stT Tryd.prog 128 = false := by kernel_rfl
theorem zc128 : zcT Tryd.prog 128 = some [.nilFunc] := by kernel_rfl
theorem by128 : byT Tryd.prog 128 = some 8 := by kernel_rfl
theorem un128 : Program.underlying Tryd.prog 128 = some (TypeDesc.func #[71] #[3] false) := Tryd.underlying128
theorem pl128 : plT Tryd.prog 128 = none := by kernel_rfl
theorem ld129 : ldK Tryd.prog 129 = some (none) := by kernel_rfl
theorem sz129 : szT Tryd.prog 129 = some 1 := by kernel_rfl
theorem sl129 : slT Tryd.prog 129 = none := by kernel_rfl
theorem st129 : stT Tryd.prog 129 = false := by kernel_rfl
theorem zc129 : zcT Tryd.prog 129 = some [.nilFunc] := by kernel_rfl
theorem by129 : byT Tryd.prog 129 = some 8 := by kernel_rfl
theorem un129 : Program.underlying Tryd.prog 129 = some (TypeDesc.func #[22, 71] #[] false) := Tryd.underlying129
theorem pl129 : plT Tryd.prog 129 = none := by kernel_rfl
theorem ld131 : ldK Tryd.prog 131 = some (none) := by kernel_rfl
theorem sz131 : szT Tryd.prog 131 = some 1 := by kernel_rfl
theorem sl131 : slT Tryd.prog 131 = none := by kernel_rfl
theorem st131 : stT Tryd.prog 131 = false := by kernel_rfl
theorem zc131 : zcT Tryd.prog 131 = some [.nilFunc] := by kernel_rfl
theorem by131 : byT Tryd.prog 131 = some 8 := by kernel_rfl
theorem un131 : Program.underlying Tryd.prog 131 = some (TypeDesc.func #[22, 71, 3, 4, 4] #[22, 9] false) := Tryd.underlying131
theorem pl131 : plT Tryd.prog 131 = none := by kernel_rfl
theorem ld132 : ldK Tryd.prog 132 = some (none) := by kernel_rfl
theorem sz132 : szT Tryd.prog 132 = some 1 := by kernel_rfl
theorem sl132 : slT Tryd.prog 132 = none := by kernel_rfl
theorem st132 : stT Tryd.prog 132 = false := by kernel_rfl
theorem zc132 : zcT Tryd.prog 132 = some [.int .u32 0] := by kernel_rfl
theorem by132 : byT Tryd.prog 132 = some 4 := by kernel_rfl
theorem un132 : Program.underlying Tryd.prog 132 = some (TypeDesc.int IntKind.u32) := Tryd.underlying132
theorem pl132 : plT Tryd.prog 132 = none := by kernel_rfl
theorem ld134 : ldK Tryd.prog 134 = some (none) := by kernel_rfl
theorem sz134 : szT Tryd.prog 134 = some 1 := by kernel_rfl
theorem sl134 : slT Tryd.prog 134 = none := by kernel_rfl
theorem st134 : stT Tryd.prog 134 = false := by kernel_rfl
theorem zc134 : zcT Tryd.prog 134 = some [.nilFunc] := by kernel_rfl
theorem by134 : byT Tryd.prog 134 = some 8 := by kernel_rfl
theorem un134 : Program.underlying Tryd.prog 134 = some (TypeDesc.func #[132, 132] #[132, 132] false) := Tryd.underlying134
theorem pl134 : plT Tryd.prog 134 = none := by kernel_rfl
theorem ld136 : ldK Tryd.prog 136 = some (none) := by kernel_rfl
theorem sz136 : szT Tryd.prog 136 = some 1 := by kernel_rfl
theorem sl136 : slT Tryd.prog 136 = none := by kernel_rfl
theorem st136 : stT Tryd.prog 136 = false := by kernel_rfl
theorem zc136 : zcT Tryd.prog 136 = some [.nilFunc] := by kernel_rfl
theorem by136 : byT Tryd.prog 136 = some 8 := by kernel_rfl
theorem un136 : Program.underlying Tryd.prog 136 = some (TypeDesc.func #[71, 71] #[71, 71] false) := Tryd.underlying136
theorem pl136 : plT Tryd.prog 136 = none := by kernel_rfl
theorem ld138 : ldK Tryd.prog 138 = some (none) := by kernel_rfl
theorem sz138 : szT Tryd.prog 138 = some 1 := by kernel_rfl
theorem sl138 : slT Tryd.prog 138 = none := by kernel_rfl
theorem st138 : stT Tryd.prog 138 = false := by kernel_rfl
theorem zc138 : zcT Tryd.prog 138 = some [.nilFunc] := by kernel_rfl
theorem by138 : byT Tryd.prog 138 = some 8 := by kernel_rfl
theorem un138 : Program.underlying Tryd.prog 138 = some (TypeDesc.func #[137] #[137] false) := Tryd.underlying138
theorem pl138 : plT Tryd.prog 138 = none := by kernel_rfl
theorem ld139 : ldK Tryd.prog 139 = some (none) := by kernel_rfl
theorem sz139 : szT Tryd.prog 139 = some 1 := by kernel_rfl
theorem sl139 : slT Tryd.prog 139 = none := by kernel_rfl
theorem st139 : stT Tryd.prog 139 = false := by kernel_rfl
theorem zc139 : zcT Tryd.prog 139 = some [.nilFunc] := by kernel_rfl
theorem by139 : byT Tryd.prog 139 = some 8 := by kernel_rfl
theorem un139 : Program.underlying Tryd.prog 139 = some (TypeDesc.func #[3] #[22] false) := Tryd.underlying139
theorem pl139 : plT Tryd.prog 139 = none := by kernel_rfl
theorem ld141 : ldK Tryd.prog 141 = some (none) := by kernel_rfl
theorem sz141 : szT Tryd.prog 141 = some 1 := by kernel_rfl
theorem sl141 : slT Tryd.prog 141 = none := by kernel_rfl
theorem st141 : stT Tryd.prog 141 = false := by kernel_rfl
theorem zc141 : zcT Tryd.prog 141 = some [.nilFunc] := by kernel_rfl
theorem by141 : byT Tryd.prog 141 = some 8 := by kernel_rfl
theorem un141 : Program.underlying Tryd.prog 141 = some (TypeDesc.func #[9, 3, 3] #[71, 104] false) := Tryd.underlying141
theorem pl141 : plT Tryd.prog 141 = none := by kernel_rfl
theorem ld142 : ldK Tryd.prog 142 = some (none) := by kernel_rfl
theorem sz142 : szT Tryd.prog 142 = some 1 := by kernel_rfl
theorem sl142 : slT Tryd.prog 142 = none := by kernel_rfl
theorem st142 : stT Tryd.prog 142 = false := by kernel_rfl
theorem zc142 : zcT Tryd.prog 142 = some [.nilFunc] := by kernel_rfl
theorem by142 : byT Tryd.prog 142 = some 8 := by kernel_rfl
theorem un142 : Program.underlying Tryd.prog 142 = some (TypeDesc.func #[9] #[9] false) := Tryd.underlying142
theorem pl142 : plT Tryd.prog 142 = none := by kernel_rfl
theorem ld143 : ldK Tryd.prog 143 = some (some 3) := by kernel_rfl
theorem sz143 : szT Tryd.prog 143 = some 3 := by kernel_rfl
theorem sl143 : slT Tryd.prog 143 = none := by kernel_rfl
theorem st143 : stT Tryd.prog 143 = false := by kernel_rfl
theorem zc143 : zcT Tryd.prog 143 = some [.string ByteArray.empty, .string ByteArray.empty, .nilIface] := by kernel_rfl
theorem by143 : byT Tryd.prog 143 = some 48 := by kernel_rfl
theorem un143 : Program.underlying Tryd.prog 143 = some (TypeDesc.struct #[{ name := "Func", type := 9, offset := 0, embedded := false, tag := "", pkgPath := "", byteOffset := 0 }, { name := "Num", type := 9, offset := 1, embedded := false, tag := "", pkgPath := "", byteOffset := 16 }, { name := "Err", type := 104, offset := 2, embedded := false, tag := "", pkgPath := "", byteOffset := 32 }]) := Tryd.underlying143
theorem pl143 : plT Tryd.prog 143 = some #[(0, 1), (1, 1), (2, 1)] := by kernel_rfl
theorem fl143_0 : fldT Tryd.prog 143 0 = some (0, 9) := by kernel_rfl
theorem fl143_1 : fldT Tryd.prog 143 1 = some (1, 9) := by kernel_rfl
theorem fl143_2 : fldT Tryd.prog 143 2 = some (2, 104) := by kernel_rfl
theorem ld144 : ldK Tryd.prog 144 = some (some 3) := by kernel_rfl
theorem sz144 : szT Tryd.prog 144 = some 3 := by kernel_rfl
theorem sl144 : slT Tryd.prog 144 = none := by kernel_rfl
theorem st144 : stT Tryd.prog 144 = false := by kernel_rfl
theorem zc144 : zcT Tryd.prog 144 = some [.string ByteArray.empty, .string ByteArray.empty, .nilIface] := by kernel_rfl
theorem by144 : byT Tryd.prog 144 = some 48 := by kernel_rfl
theorem un144 : Program.underlying Tryd.prog 144 = some (TypeDesc.struct #[{ name := "Func", type := 9, offset := 0, embedded := false, tag := "", pkgPath := "", byteOffset := 0 }, { name := "Num", type := 9, offset := 1, embedded := false, tag := "", pkgPath := "", byteOffset := 16 }, { name := "Err", type := 104, offset := 2, embedded := false, tag := "", pkgPath := "", byteOffset := 32 }]) := Tryd.underlying144
theorem pl144 : plT Tryd.prog 144 = some #[(0, 1), (1, 1), (2, 1)] := by kernel_rfl
theorem fl144_0 : fldT Tryd.prog 144 0 = some (0, 9) := by kernel_rfl
theorem fl144_1 : fldT Tryd.prog 144 1 = some (1, 9) := by kernel_rfl
theorem fl144_2 : fldT Tryd.prog 144 2 = some (2, 104) := by kernel_rfl
theorem ld145 : ldK Tryd.prog 145 = some (none) := by kernel_rfl
theorem sz145 : szT Tryd.prog 145 = some 1 := by kernel_rfl
theorem sl145 : slT Tryd.prog 145 = none := by kernel_rfl
theorem st145 : stT Tryd.prog 145 = false := by kernel_rfl
theorem zc145 : zcT Tryd.prog 145 = some [.nilFunc] := by kernel_rfl
theorem by145 : byT Tryd.prog 145 = some 8 := by kernel_rfl
theorem un145 : Program.underlying Tryd.prog 145 = some (TypeDesc.func #[9] #[104] false) := Tryd.underlying145
theorem pl145 : plT Tryd.prog 145 = none := by kernel_rfl
theorem ld146 : ldK Tryd.prog 146 = some (none) := by kernel_rfl
theorem sz146 : szT Tryd.prog 146 = some 1 := by kernel_rfl
theorem sl146 : slT Tryd.prog 146 = none := by kernel_rfl
theorem st146 : stT Tryd.prog 146 = false := by kernel_rfl
theorem zc146 : zcT Tryd.prog 146 = some [.nilFunc] := by kernel_rfl
theorem by146 : byT Tryd.prog 146 = some 8 := by kernel_rfl
theorem un146 : Program.underlying Tryd.prog 146 = some (TypeDesc.func #[4] #[3] false) := Tryd.underlying146
theorem pl146 : plT Tryd.prog 146 = none := by kernel_rfl
theorem ld147 : ldK Tryd.prog 147 = some (some 20) := by kernel_rfl
theorem sz147 : szT Tryd.prog 147 = some 20 := by kernel_rfl
theorem sl147 : slT Tryd.prog 147 = none := by kernel_rfl
theorem st147 : stT Tryd.prog 147 = false := by kernel_rfl
theorem zc147 : zcT Tryd.prog 147 = some [.int .u64 0, .int .u64 0, .int .u64 0, .int .u64 0, .int .u64 0, .int .u64 0, .int .u64 0, .int .u64 0, .int .u64 0, .int .u64 0, .int .u64 0, .int .u64 0, .int .u64 0, .int .u64 0, .int .u64 0, .int .u64 0, .int .u64 0, .int .u64 0, .int .u64 0, .int .u64 0] := by kernel_rfl
theorem by147 : byT Tryd.prog 147 = some 160 := by kernel_rfl
theorem un147 : Program.underlying Tryd.prog 147 = some (TypeDesc.array 20 71) := Tryd.underlying147
theorem pl147 : plT Tryd.prog 147 = none := by kernel_rfl
theorem ld148 : ldK Tryd.prog 148 = some (some 65) := by kernel_rfl
theorem sz148 : szT Tryd.prog 148 = some 65 := by kernel_rfl
theorem sl148 : slT Tryd.prog 148 = none := by kernel_rfl
theorem st148 : stT Tryd.prog 148 = false := by kernel_rfl
theorem zc148 : zcT Tryd.prog 148 = some [.int .u8 0, .int .u8 0, .int .u8 0, .int .u8 0, .int .u8 0, .int .u8 0, .int .u8 0, .int .u8 0, .int .u8 0, .int .u8 0, .int .u8 0, .int .u8 0, .int .u8 0, .int .u8 0, .int .u8 0, .int .u8 0, .int .u8 0, .int .u8 0, .int .u8 0, .int .u8 0, .int .u8 0, .int .u8 0, .int .u8 0, .int .u8 0, .int .u8 0, .int .u8 0, .int .u8 0, .int .u8 0, .int .u8 0, .int .u8 0, .int .u8 0, .int .u8 0, .int .u8 0, .int .u8 0, .int .u8 0, .int .u8 0, .int .u8 0, .int .u8 0, .int .u8 0, .int .u8 0, .int .u8 0, .int .u8 0, .int .u8 0, .int .u8 0, .int .u8 0, .int .u8 0, .int .u8 0, .int .u8 0, .int .u8 0, .int .u8 0, .int .u8 0, .int .u8 0, .int .u8 0, .int .u8 0, .int .u8 0, .int .u8 0, .int .u8 0, .int .u8 0, .int .u8 0, .int .u8 0, .int .u8 0, .int .u8 0, .int .u8 0, .int .u8 0, .int .u8 0] := by kernel_rfl
theorem by148 : byT Tryd.prog 148 = some 65 := by kernel_rfl
theorem un148 : Program.underlying Tryd.prog 148 = some (TypeDesc.array 65 5) := Tryd.underlying148
theorem pl148 : plT Tryd.prog 148 = none := by kernel_rfl
theorem ld149 : ldK Tryd.prog 149 = some (none) := by kernel_rfl
theorem sz149 : szT Tryd.prog 149 = some 1 := by kernel_rfl
theorem sl149 : slT Tryd.prog 149 = none := by kernel_rfl
theorem st149 : stT Tryd.prog 149 = false := by kernel_rfl
theorem zc149 : zcT Tryd.prog 149 = some [.nilFunc] := by kernel_rfl
theorem by149 : byT Tryd.prog 149 = some 8 := by kernel_rfl
theorem un149 : Program.underlying Tryd.prog 149 = some (TypeDesc.func #[116] #[3] false) := Tryd.underlying149
theorem pl149 : plT Tryd.prog 149 = none := by kernel_rfl
theorem ld150 : ldK Tryd.prog 150 = some (none) := by kernel_rfl
theorem sz150 : szT Tryd.prog 150 = some 1 := by kernel_rfl
theorem sl150 : slT Tryd.prog 150 = none := by kernel_rfl
theorem st150 : stT Tryd.prog 150 = false := by kernel_rfl
theorem zc150 : zcT Tryd.prog 150 = some [.nilFunc] := by kernel_rfl
theorem by150 : byT Tryd.prog 150 = some 8 := by kernel_rfl
theorem un150 : Program.underlying Tryd.prog 150 = some (TypeDesc.func #[5] #[5] false) := Tryd.underlying150
theorem pl150 : plT Tryd.prog 150 = none := by kernel_rfl
theorem ld151 : ldK Tryd.prog 151 = some (none) := by kernel_rfl
theorem sz151 : szT Tryd.prog 151 = some 1 := by kernel_rfl
theorem sl151 : slT Tryd.prog 151 = none := by kernel_rfl
theorem st151 : stT Tryd.prog 151 = false := by kernel_rfl
theorem zc151 : zcT Tryd.prog 151 = some [.pointer none] := by kernel_rfl
theorem by151 : byT Tryd.prog 151 = some 8 := by kernel_rfl
theorem un151 : Program.underlying Tryd.prog 151 = some (TypeDesc.pointer 153) := Tryd.underlying151
theorem pl151 : plT Tryd.prog 151 = none := by kernel_rfl
theorem ld152 : ldK Tryd.prog 152 = some (some 1) := by kernel_rfl
theorem sz152 : szT Tryd.prog 152 = some 1 := by kernel_rfl
theorem sl152 : slT Tryd.prog 152 = none := by kernel_rfl
theorem st152 : stT Tryd.prog 152 = false := by kernel_rfl
theorem zc152 : zcT Tryd.prog 152 = some [.string ByteArray.empty] := by kernel_rfl
theorem by152 : byT Tryd.prog 152 = some 16 := by kernel_rfl
theorem un152 : Program.underlying Tryd.prog 152 = some (TypeDesc.struct #[{ name := "s", type := 9, offset := 0, embedded := false, tag := "", pkgPath := "errors", byteOffset := 0 }]) := Tryd.underlying152
theorem pl152 : plT Tryd.prog 152 = some #[(0, 1)] := by kernel_rfl
theorem fl152_0 : fldT Tryd.prog 152 0 = some (0, 9) := by kernel_rfl
theorem ld153 : ldK Tryd.prog 153 = some (some 1) := by kernel_rfl
theorem sz153 : szT Tryd.prog 153 = some 1 := by kernel_rfl
theorem sl153 : slT Tryd.prog 153 = none := by kernel_rfl
theorem st153 : stT Tryd.prog 153 = false := by kernel_rfl
theorem zc153 : zcT Tryd.prog 153 = some [.string ByteArray.empty] := by kernel_rfl
theorem by153 : byT Tryd.prog 153 = some 16 := by kernel_rfl
theorem un153 : Program.underlying Tryd.prog 153 = some (TypeDesc.struct #[{ name := "s", type := 9, offset := 0, embedded := false, tag := "", pkgPath := "errors", byteOffset := 0 }]) := Tryd.underlying153
theorem pl153 : plT Tryd.prog 153 = some #[(0, 1)] := by kernel_rfl
theorem fl153_0 : fldT Tryd.prog 153 0 = some (0, 9) := by kernel_rfl
theorem ld154 : ldK Tryd.prog 154 = some (none) := by kernel_rfl
theorem sz154 : szT Tryd.prog 154 = some 1 := by kernel_rfl
theorem sl154 : slT Tryd.prog 154 = none := by kernel_rfl
theorem st154 : stT Tryd.prog 154 = false := by kernel_rfl
theorem zc154 : zcT Tryd.prog 154 = some [.nilFunc] := by kernel_rfl
theorem by154 : byT Tryd.prog 154 = some 8 := by kernel_rfl
theorem un154 : Program.underlying Tryd.prog 154 = some (TypeDesc.func #[132] #[3] false) := Tryd.underlying154
theorem pl154 : plT Tryd.prog 154 = none := by kernel_rfl
theorem ld155 : ldK Tryd.prog 155 = some (some 32) := by kernel_rfl
theorem sz155 : szT Tryd.prog 155 = some 32 := by kernel_rfl
theorem sl155 : slT Tryd.prog 155 = none := by kernel_rfl
theorem st155 : stT Tryd.prog 155 = false := by kernel_rfl
theorem zc155 : zcT Tryd.prog 155 = some [.int .u8 0, .int .u8 0, .int .u8 0, .int .u8 0, .int .u8 0, .int .u8 0, .int .u8 0, .int .u8 0, .int .u8 0, .int .u8 0, .int .u8 0, .int .u8 0, .int .u8 0, .int .u8 0, .int .u8 0, .int .u8 0, .int .u8 0, .int .u8 0, .int .u8 0, .int .u8 0, .int .u8 0, .int .u8 0, .int .u8 0, .int .u8 0, .int .u8 0, .int .u8 0, .int .u8 0, .int .u8 0, .int .u8 0, .int .u8 0, .int .u8 0, .int .u8 0] := by kernel_rfl
theorem by155 : byT Tryd.prog 155 = some 32 := by kernel_rfl
theorem un155 : Program.underlying Tryd.prog 155 = some (TypeDesc.array 32 5) := Tryd.underlying155
theorem pl155 : plT Tryd.prog 155 = none := by kernel_rfl
theorem ld156 : ldK Tryd.prog 156 = some (some 64) := by kernel_rfl
theorem sz156 : szT Tryd.prog 156 = some 64 := by kernel_rfl
theorem sl156 : slT Tryd.prog 156 = none := by kernel_rfl
theorem st156 : stT Tryd.prog 156 = false := by kernel_rfl
theorem zc156 : zcT Tryd.prog 156 = some [.int .u8 0, .int .u8 0, .int .u8 0, .int .u8 0, .int .u8 0, .int .u8 0, .int .u8 0, .int .u8 0, .int .u8 0, .int .u8 0, .int .u8 0, .int .u8 0, .int .u8 0, .int .u8 0, .int .u8 0, .int .u8 0, .int .u8 0, .int .u8 0, .int .u8 0, .int .u8 0, .int .u8 0, .int .u8 0, .int .u8 0, .int .u8 0, .int .u8 0, .int .u8 0, .int .u8 0, .int .u8 0, .int .u8 0, .int .u8 0, .int .u8 0, .int .u8 0, .int .u8 0, .int .u8 0, .int .u8 0, .int .u8 0, .int .u8 0, .int .u8 0, .int .u8 0, .int .u8 0, .int .u8 0, .int .u8 0, .int .u8 0, .int .u8 0, .int .u8 0, .int .u8 0, .int .u8 0, .int .u8 0, .int .u8 0, .int .u8 0, .int .u8 0, .int .u8 0, .int .u8 0, .int .u8 0, .int .u8 0, .int .u8 0, .int .u8 0, .int .u8 0, .int .u8 0, .int .u8 0, .int .u8 0, .int .u8 0, .int .u8 0, .int .u8 0] := by kernel_rfl
theorem by156 : byT Tryd.prog 156 = some 64 := by kernel_rfl
theorem un156 : Program.underlying Tryd.prog 156 = some (TypeDesc.array 64 5) := Tryd.underlying156
theorem pl156 : plT Tryd.prog 156 = none := by kernel_rfl
theorem ld157 : ldK Tryd.prog 157 = some (some 4) := by kernel_rfl
theorem sz157 : szT Tryd.prog 157 = some 4 := by kernel_rfl
theorem sl157 : slT Tryd.prog 157 = none := by kernel_rfl
theorem st157 : stT Tryd.prog 157 = false := by kernel_rfl
theorem zc157 : zcT Tryd.prog 157 = some [.pointer none, .pointer none, .pointer none, .string ByteArray.empty] := by kernel_rfl
theorem by157 : byT Tryd.prog 157 = some 40 := by kernel_rfl
theorem un157 : Program.underlying Tryd.prog 157 = some (TypeDesc.struct #[{ name := "_interface", type := 17, offset := 0, embedded := false, tag := "", pkgPath := "runtime", byteOffset := 0 }, { name := "concrete", type := 17, offset := 1, embedded := false, tag := "", pkgPath := "runtime", byteOffset := 8 }, { name := "asserted", type := 17, offset := 2, embedded := false, tag := "", pkgPath := "runtime", byteOffset := 16 }, { name := "missingMethod", type := 9, offset := 3, embedded := false, tag := "", pkgPath := "runtime", byteOffset := 24 }]) := Tryd.underlying157
theorem pl157 : plT Tryd.prog 157 = some #[(0, 1), (1, 1), (2, 1), (3, 1)] := by kernel_rfl
theorem fl157_0 : fldT Tryd.prog 157 0 = some (0, 17) := by kernel_rfl
theorem fl157_1 : fldT Tryd.prog 157 1 = some (1, 17) := by kernel_rfl
theorem fl157_2 : fldT Tryd.prog 157 2 = some (2, 17) := by kernel_rfl
theorem fl157_3 : fldT Tryd.prog 157 3 = some (3, 9) := by kernel_rfl
theorem ld158 : ldK Tryd.prog 158 = some (some 4) := by kernel_rfl
theorem sz158 : szT Tryd.prog 158 = some 4 := by kernel_rfl
theorem sl158 : slT Tryd.prog 158 = none := by kernel_rfl
theorem st158 : stT Tryd.prog 158 = false := by kernel_rfl
theorem zc158 : zcT Tryd.prog 158 = some [.pointer none, .pointer none, .pointer none, .string ByteArray.empty] := by kernel_rfl
theorem by158 : byT Tryd.prog 158 = some 40 := by kernel_rfl
theorem un158 : Program.underlying Tryd.prog 158 = some (TypeDesc.struct #[{ name := "_interface", type := 17, offset := 0, embedded := false, tag := "", pkgPath := "runtime", byteOffset := 0 }, { name := "concrete", type := 17, offset := 1, embedded := false, tag := "", pkgPath := "runtime", byteOffset := 8 }, { name := "asserted", type := 17, offset := 2, embedded := false, tag := "", pkgPath := "runtime", byteOffset := 16 }, { name := "missingMethod", type := 9, offset := 3, embedded := false, tag := "", pkgPath := "runtime", byteOffset := 24 }]) := Tryd.underlying158
theorem pl158 : plT Tryd.prog 158 = some #[(0, 1), (1, 1), (2, 1), (3, 1)] := by kernel_rfl
theorem fl158_0 : fldT Tryd.prog 158 0 = some (0, 17) := by kernel_rfl
theorem fl158_1 : fldT Tryd.prog 158 1 = some (1, 17) := by kernel_rfl
theorem fl158_2 : fldT Tryd.prog 158 2 = some (2, 17) := by kernel_rfl
theorem fl158_3 : fldT Tryd.prog 158 3 = some (3, 9) := by kernel_rfl
theorem ld159 : ldK Tryd.prog 159 = some (some 0) := by kernel_rfl
theorem sz159 : szT Tryd.prog 159 = some 0 := by kernel_rfl
theorem sl159 : slT Tryd.prog 159 = none := by kernel_rfl
theorem st159 : stT Tryd.prog 159 = false := by kernel_rfl
theorem zc159 : zcT Tryd.prog 159 = some [] := by kernel_rfl
theorem by159 : byT Tryd.prog 159 = some 0 := by kernel_rfl
theorem un159 : Program.underlying Tryd.prog 159 = some (TypeDesc.array 0 16) := Tryd.underlying159
theorem pl159 : plT Tryd.prog 159 = none := by kernel_rfl
theorem ld160 : ldK Tryd.prog 160 = some (some 0) := by kernel_rfl
theorem sz160 : szT Tryd.prog 160 = some 0 := by kernel_rfl
theorem sl160 : slT Tryd.prog 160 = none := by kernel_rfl
theorem st160 : stT Tryd.prog 160 = false := by kernel_rfl
theorem zc160 : zcT Tryd.prog 160 = some [] := by kernel_rfl
theorem by160 : byT Tryd.prog 160 = some 0 := by kernel_rfl
theorem un160 : Program.underlying Tryd.prog 160 = some (TypeDesc.struct #[{ name := "_", type := 159, offset := 0, embedded := false, tag := "", pkgPath := "runtime", byteOffset := 0 }]) := Tryd.underlying160
theorem pl160 : plT Tryd.prog 160 = some #[(0, 0)] := by kernel_rfl
theorem fl160_0 : fldT Tryd.prog 160 0 = some (0, 159) := by kernel_rfl
theorem ld161 : ldK Tryd.prog 161 = some (some 0) := by kernel_rfl
theorem sz161 : szT Tryd.prog 161 = some 0 := by kernel_rfl
theorem sl161 : slT Tryd.prog 161 = none := by kernel_rfl
theorem st161 : stT Tryd.prog 161 = false := by kernel_rfl
theorem zc161 : zcT Tryd.prog 161 = some [] := by kernel_rfl
theorem by161 : byT Tryd.prog 161 = some 0 := by kernel_rfl
theorem un161 : Program.underlying Tryd.prog 161 = some (TypeDesc.struct #[{ name := "_", type := 159, offset := 0, embedded := false, tag := "", pkgPath := "runtime", byteOffset := 0 }]) := Tryd.underlying161
theorem pl161 : plT Tryd.prog 161 = some #[(0, 0)] := by kernel_rfl
theorem fl161_0 : fldT Tryd.prog 161 0 = some (0, 159) := by kernel_rfl
theorem ld162 : ldK Tryd.prog 162 = some (none) := by kernel_rfl
theorem sz162 : szT Tryd.prog 162 = some 1 := by kernel_rfl
theorem sl162 : slT Tryd.prog 162 = none := by kernel_rfl
theorem st162 : stT Tryd.prog 162 = false := by kernel_rfl
theorem zc162 : zcT Tryd.prog 162 = some [.int .u8 0] := by kernel_rfl
theorem by162 : byT Tryd.prog 162 = some 1 := by kernel_rfl
theorem un162 : Program.underlying Tryd.prog 162 = some (TypeDesc.int IntKind.u8) := Tryd.underlying162
theorem pl162 : plT Tryd.prog 162 = none := by kernel_rfl
theorem ld163 : ldK Tryd.prog 163 = some (none) := by kernel_rfl
theorem sz163 : szT Tryd.prog 163 = some 1 := by kernel_rfl
theorem sl163 : slT Tryd.prog 163 = none := by kernel_rfl
theorem st163 : stT Tryd.prog 163 = false := by kernel_rfl
theorem zc163 : zcT Tryd.prog 163 = some [.int .u8 0] := by kernel_rfl
theorem by163 : byT Tryd.prog 163 = some 1 := by kernel_rfl
theorem un163 : Program.underlying Tryd.prog 163 = some (TypeDesc.int IntKind.u8) := Tryd.underlying163
theorem pl163 : plT Tryd.prog 163 = none := by kernel_rfl
theorem ld164 : ldK Tryd.prog 164 = some (none) := by kernel_rfl
theorem sz164 : szT Tryd.prog 164 = some 1 := by kernel_rfl
theorem sl164 : slT Tryd.prog 164 = none := by kernel_rfl
theorem st164 : stT Tryd.prog 164 = false := by kernel_rfl
theorem zc164 : zcT Tryd.prog 164 = some [.nilFunc] := by kernel_rfl
theorem by164 : byT Tryd.prog 164 = some 8 := by kernel_rfl
theorem un164 : Program.underlying Tryd.prog 164 = some (TypeDesc.func #[137, 137] #[4] false) := Tryd.underlying164
theorem pl164 : plT Tryd.prog 164 = none := by kernel_rfl
theorem ld165 : ldK Tryd.prog 165 = some (none) := by kernel_rfl
theorem sz165 : szT Tryd.prog 165 = some 1 := by kernel_rfl
theorem sl165 : slT Tryd.prog 165 = none := by kernel_rfl
theorem st165 : stT Tryd.prog 165 = false := by kernel_rfl
theorem zc165 : zcT Tryd.prog 165 = some [.int .i32 0] := by kernel_rfl
theorem by165 : byT Tryd.prog 165 = some 4 := by kernel_rfl
theorem un165 : Program.underlying Tryd.prog 165 = some (TypeDesc.int IntKind.i32) := Tryd.underlying165
theorem pl165 : plT Tryd.prog 165 = none := by kernel_rfl
theorem ld166 : ldK Tryd.prog 166 = some (none) := by kernel_rfl
theorem sz166 : szT Tryd.prog 166 = some 1 := by kernel_rfl
theorem sl166 : slT Tryd.prog 166 = none := by kernel_rfl
theorem st166 : stT Tryd.prog 166 = false := by kernel_rfl
theorem zc166 : zcT Tryd.prog 166 = some [.int .i32 0] := by kernel_rfl
theorem by166 : byT Tryd.prog 166 = some 4 := by kernel_rfl
theorem un166 : Program.underlying Tryd.prog 166 = some (TypeDesc.int IntKind.i32) := Tryd.underlying166
theorem pl166 : plT Tryd.prog 166 = none := by kernel_rfl
theorem ld167 : ldK Tryd.prog 167 = some (some 11) := by kernel_rfl
theorem sz167 : szT Tryd.prog 167 = some 11 := by kernel_rfl
theorem sl167 : slT Tryd.prog 167 = none := by kernel_rfl
theorem st167 : stT Tryd.prog 167 = false := by kernel_rfl
theorem zc167 : zcT Tryd.prog 167 = some [.int .u64 0, .int .u64 0, .int .u32 0, .int .u8 0, .int .u8 0, .int .u8 0, .int .u8 0, .nilFunc, .pointer none, .int .i32 0, .int .i32 0] := by kernel_rfl
theorem by167 : byT Tryd.prog 167 = some 48 := by kernel_rfl
theorem un167 : Program.underlying Tryd.prog 167 = some (TypeDesc.struct #[{ name := "Size_", type := 12, offset := 0, embedded := false, tag := "", pkgPath := "", byteOffset := 0 }, { name := "PtrBytes", type := 12, offset := 1, embedded := false, tag := "", pkgPath := "", byteOffset := 8 }, { name := "Hash", type := 132, offset := 2, embedded := false, tag := "", pkgPath := "", byteOffset := 16 }, { name := "TFlag", type := 162, offset := 3, embedded := false, tag := "", pkgPath := "", byteOffset := 20 }, { name := "Align_", type := 5, offset := 4, embedded := false, tag := "", pkgPath := "", byteOffset := 21 }, { name := "FieldAlign_", type := 5, offset := 5, embedded := false, tag := "", pkgPath := "", byteOffset := 22 }, { name := "Kind_", type := 163, offset := 6, embedded := false, tag := "", pkgPath := "", byteOffset := 23 }, { name := "Equal", type := 164, offset := 7, embedded := false, tag := "", pkgPath := "", byteOffset := 24 }, { name := "GCData", type := 120, offset := 8, embedded := false, tag := "", pkgPath := "", byteOffset := 32 }, { name := "Str", type := 165, offset := 9, embedded := false, tag := "", pkgPath := "", byteOffset := 40 }, { name := "PtrToThis", type := 166, offset := 10, embedded := false, tag := "", pkgPath := "", byteOffset := 44 }]) := Tryd.underlying167
theorem pl167 : plT Tryd.prog 167 = some #[(0, 1), (1, 1), (2, 1), (3, 1), (4, 1), (5, 1), (6, 1), (7, 1), (8, 1), (9, 1), (10, 1)] := by kernel_rfl
theorem fl167_0 : fldT Tryd.prog 167 0 = some (0, 12) := by kernel_rfl
theorem fl167_1 : fldT Tryd.prog 167 1 = some (1, 12) := by kernel_rfl
theorem fl167_2 : fldT Tryd.prog 167 2 = some (2, 132) := by kernel_rfl
theorem fl167_3 : fldT Tryd.prog 167 3 = some (3, 162) := by kernel_rfl
theorem fl167_4 : fldT Tryd.prog 167 4 = some (4, 5) := by kernel_rfl
theorem fl167_5 : fldT Tryd.prog 167 5 = some (5, 5) := by kernel_rfl
theorem fl167_6 : fldT Tryd.prog 167 6 = some (6, 163) := by kernel_rfl
theorem fl167_7 : fldT Tryd.prog 167 7 = some (7, 164) := by kernel_rfl
theorem fl167_8 : fldT Tryd.prog 167 8 = some (8, 120) := by kernel_rfl
theorem fl167_9 : fldT Tryd.prog 167 9 = some (9, 165) := by kernel_rfl
theorem fl167_10 : fldT Tryd.prog 167 10 = some (10, 166) := by kernel_rfl
theorem ld168 : ldK Tryd.prog 168 = some (some 11) := by kernel_rfl
theorem sz168 : szT Tryd.prog 168 = some 11 := by kernel_rfl
theorem sl168 : slT Tryd.prog 168 = none := by kernel_rfl
theorem st168 : stT Tryd.prog 168 = false := by kernel_rfl
theorem zc168 : zcT Tryd.prog 168 = some [.int .u64 0, .int .u64 0, .int .u32 0, .int .u8 0, .int .u8 0, .int .u8 0, .int .u8 0, .nilFunc, .pointer none, .int .i32 0, .int .i32 0] := by kernel_rfl
theorem by168 : byT Tryd.prog 168 = some 48 := by kernel_rfl
theorem un168 : Program.underlying Tryd.prog 168 = some (TypeDesc.struct #[{ name := "Size_", type := 12, offset := 0, embedded := false, tag := "", pkgPath := "", byteOffset := 0 }, { name := "PtrBytes", type := 12, offset := 1, embedded := false, tag := "", pkgPath := "", byteOffset := 8 }, { name := "Hash", type := 132, offset := 2, embedded := false, tag := "", pkgPath := "", byteOffset := 16 }, { name := "TFlag", type := 162, offset := 3, embedded := false, tag := "", pkgPath := "", byteOffset := 20 }, { name := "Align_", type := 5, offset := 4, embedded := false, tag := "", pkgPath := "", byteOffset := 21 }, { name := "FieldAlign_", type := 5, offset := 5, embedded := false, tag := "", pkgPath := "", byteOffset := 22 }, { name := "Kind_", type := 163, offset := 6, embedded := false, tag := "", pkgPath := "", byteOffset := 23 }, { name := "Equal", type := 164, offset := 7, embedded := false, tag := "", pkgPath := "", byteOffset := 24 }, { name := "GCData", type := 120, offset := 8, embedded := false, tag := "", pkgPath := "", byteOffset := 32 }, { name := "Str", type := 165, offset := 9, embedded := false, tag := "", pkgPath := "", byteOffset := 40 }, { name := "PtrToThis", type := 166, offset := 10, embedded := false, tag := "", pkgPath := "", byteOffset := 44 }])  := Tryd.underlying168
theorem pl168 : plT Tryd.prog 168 = some #[(0, 1), (1, 1), (2, 1), (3, 1), (4, 1), (5, 1), (6, 1), (7, 1), (8, 1), (9, 1), (10, 1)] := by kernel_rfl
theorem fl168_0 : fldT Tryd.prog 168 0 = some (0, 12) := by kernel_rfl
theorem fl168_1 : fldT Tryd.prog 168 1 = some (1, 12) := by kernel_rfl
theorem fl168_2 : fldT Tryd.prog 168 2 = some (2, 132) := by kernel_rfl
theorem fl168_3 : fldT Tryd.prog 168 3 = some (3, 162) := by kernel_rfl
theorem fl168_4 : fldT Tryd.prog 168 4 = some (4, 5) := by kernel_rfl
theorem fl168_5 : fldT Tryd.prog 168 5 = some (5, 5) := by kernel_rfl
theorem fl168_6 : fldT Tryd.prog 168 6 = some (6, 163) := by kernel_rfl
theorem fl168_7 : fldT Tryd.prog 168 7 = some (7, 164) := by kernel_rfl
theorem fl168_8 : fldT Tryd.prog 168 8 = some (8, 120) := by kernel_rfl
theorem fl168_9 : fldT Tryd.prog 168 9 = some (9, 165) := by kernel_rfl
theorem fl168_10 : fldT Tryd.prog 168 10 = some (10, 166) := by kernel_rfl
theorem ok3 : callOk Tryd.prog 3 = true := by kernel_rfl
theorem ok4 : callOk Tryd.prog 4 = true := by kernel_rfl
theorem ok5 : callOk Tryd.prog 5 = true := by kernel_rfl
theorem ok6 : callOk Tryd.prog 6 = true := by kernel_rfl
theorem ok7 : callOk Tryd.prog 7 = true := by kernel_rfl
theorem ok8 : callOk Tryd.prog 8 = true := by kernel_rfl
theorem ok9 : callOk Tryd.prog 9 = true := by kernel_rfl
theorem ok10 : callOk Tryd.prog 10 = true := by kernel_rfl
theorem ok11 : callOk Tryd.prog 11 = true := by kernel_rfl
theorem ok12 : callOk Tryd.prog 12 = true := by kernel_rfl
theorem ok13 : callOk Tryd.prog 13 = true := by kernel_rfl
theorem ok14 : callOk Tryd.prog 14 = true := by kernel_rfl
theorem ok15 : callOk Tryd.prog 15 = true := by kernel_rfl
theorem ok16 : callOk Tryd.prog 16 = true := by kernel_rfl
theorem ok17 : callOk Tryd.prog 17 = true := by kernel_rfl
theorem ok18 : callOk Tryd.prog 18 = true := by kernel_rfl
theorem ok19 : callOk Tryd.prog 19 = true := by kernel_rfl
theorem ok20 : callOk Tryd.prog 20 = true := by kernel_rfl
theorem ok21 : callOk Tryd.prog 21 = true := by kernel_rfl
theorem ok22 : callOk Tryd.prog 22 = true := by kernel_rfl
theorem ok23 : callOk Tryd.prog 23 = true := by kernel_rfl
theorem ok24 : callOk Tryd.prog 24 = true := by kernel_rfl
theorem ok25 : callOk Tryd.prog 25 = true := by kernel_rfl
theorem ok26 : callOk Tryd.prog 26 = true := by kernel_rfl
theorem ok27 : callOk Tryd.prog 27 = true := by kernel_rfl
theorem ok28 : callOk Tryd.prog 28 = true := by kernel_rfl
theorem ok29 : callOk Tryd.prog 29 = true := by kernel_rfl
theorem ok30 : callOk Tryd.prog 30 = true := by kernel_rfl
theorem ok31 : callOk Tryd.prog 31 = true := by kernel_rfl
theorem ok32 : callOk Tryd.prog 32 = true := by kernel_rfl
theorem ok33 : callOk Tryd.prog 33 = true := by kernel_rfl
theorem ok34 : callOk Tryd.prog 34 = true := by kernel_rfl
theorem ok35 : callOk Tryd.prog 35 = true := by kernel_rfl
theorem ok36 : callOk Tryd.prog 36 = true := by kernel_rfl
theorem ok37 : callOk Tryd.prog 37 = true := by kernel_rfl
theorem ok38 : callOk Tryd.prog 38 = true := by kernel_rfl
theorem ok39 : callOk Tryd.prog 39 = true := by kernel_rfl
theorem ok40 : callOk Tryd.prog 40 = true := by kernel_rfl
theorem ok41 : callOk Tryd.prog 41 = true := by kernel_rfl
theorem ok42 : callOk Tryd.prog 42 = true := by kernel_rfl
theorem ok43 : callOk Tryd.prog 43 = true := by kernel_rfl
theorem ok44 : callOk Tryd.prog 44 = true := by kernel_rfl
theorem ok45 : callOk Tryd.prog 45 = true := by kernel_rfl
theorem ok46 : callOk Tryd.prog 46 = true := by kernel_rfl
theorem ok47 : callOk Tryd.prog 47 = true := by kernel_rfl
theorem ok48 : callOk Tryd.prog 48 = true := by kernel_rfl
theorem ok49 : callOk Tryd.prog 49 = true := by kernel_rfl
theorem ok50 : callOk Tryd.prog 50 = true := by kernel_rfl
theorem ok51 : callOk Tryd.prog 51 = true := by kernel_rfl
theorem ok52 : callOk Tryd.prog 52 = true := by kernel_rfl
theorem ok53 : callOk Tryd.prog 53 = true := by kernel_rfl
theorem ok54 : callOk Tryd.prog 54 = true := by kernel_rfl
theorem ok55 : callOk Tryd.prog 55 = true := by kernel_rfl
theorem ok56 : callOk Tryd.prog 56 = true := by kernel_rfl
theorem ok57 : callOk Tryd.prog 57 = true := by kernel_rfl
theorem ok58 : callOk Tryd.prog 58 = true := by kernel_rfl
theorem ok59 : callOk Tryd.prog 59 = true := by kernel_rfl
theorem ok60 : callOk Tryd.prog 60 = true := by kernel_rfl
theorem ok61 : callOk Tryd.prog 61 = true := by kernel_rfl
theorem ok62 : callOk Tryd.prog 62 = true := by kernel_rfl
theorem ok63 : callOk Tryd.prog 63 = true := by kernel_rfl
theorem ok64 : callOk Tryd.prog 64 = true := by kernel_rfl
theorem ok65 : callOk Tryd.prog 65 = true := by kernel_rfl
theorem ok66 : callOk Tryd.prog 66 = true := by kernel_rfl
theorem ok67 : callOk Tryd.prog 67 = true := by kernel_rfl
theorem ok68 : callOk Tryd.prog 68 = true := by kernel_rfl
theorem ok69 : callOk Tryd.prog 69 = true := by kernel_rfl
theorem ok70 : callOk Tryd.prog 70 = true := by kernel_rfl
theorem ok71 : callOk Tryd.prog 71 = true := by kernel_rfl
theorem ok72 : callOk Tryd.prog 72 = true := by kernel_rfl
theorem ok73 : callOk Tryd.prog 73 = true := by kernel_rfl
theorem ok74 : callOk Tryd.prog 74 = true := by kernel_rfl
theorem ok75 : callOk Tryd.prog 75 = true := by kernel_rfl
theorem ok76 : callOk Tryd.prog 76 = true := by kernel_rfl
theorem ok77 : callOk Tryd.prog 77 = true := by kernel_rfl
theorem ok78 : callOk Tryd.prog 78 = true := by kernel_rfl
theorem ok79 : callOk Tryd.prog 79 = true := by kernel_rfl
theorem ok80 : callOk Tryd.prog 80 = true := by kernel_rfl
theorem ok81 : callOk Tryd.prog 81 = true := by kernel_rfl
theorem ok82 : callOk Tryd.prog 82 = true := by kernel_rfl
theorem ok83 : callOk Tryd.prog 83 = true := by kernel_rfl
theorem ok84 : callOk Tryd.prog 84 = true := by kernel_rfl
theorem ok85 : callOk Tryd.prog 85 = true := by kernel_rfl
theorem ok86 : callOk Tryd.prog 86 = true := by kernel_rfl
theorem ok87 : callOk Tryd.prog 87 = true := by kernel_rfl
theorem ok88 : callOk Tryd.prog 88 = true := by kernel_rfl
theorem ok89 : callOk Tryd.prog 89 = true := by kernel_rfl
end Go.Proofs.YtkmenomglhddlaaDoor.Ty
