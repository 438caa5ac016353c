/- What the program says of its types, printed by program. -/
import Derived.Test.YthieonacgnppiaaMem
import Derived.Test.YthieonacgnppiaaProg
import Derived.KernelRfl
namespace Go.Proofs.Ythieonacgnppiaa
open Go Go.Sh Go.Proofs
theorem ty2 : tyI Try.prog 2 = some (1, 8, false) := by kernel_rfl
theorem u2 : Try.prog.underlying 2 = some (TypeDesc.int IntKind.i64) := by kernel_rfl
theorem z2 : zeroOf Try.prog 2 = true := by kernel_rfl
theorem zc2 : (Try.prog.info? 2).map (fun i => (i.zero.map (·.cells.size))) = some (some 1) := by kernel_rfl
theorem ty3 : tyI Try.prog 3 = some (1, 8, false) := by kernel_rfl
theorem u3 : Try.prog.underlying 3 = some (TypeDesc.int IntKind.i64) := by kernel_rfl
theorem z3 : zeroOf Try.prog 3 = true := by kernel_rfl
theorem zc3 : (Try.prog.info? 3).map (fun i => (i.zero.map (·.cells.size))) = some (some 1) := by kernel_rfl
theorem ty4 : tyI Try.prog 4 = some (1, 1, false) := by kernel_rfl
theorem u4 : Try.prog.underlying 4 = some TypeDesc.bool := by kernel_rfl
theorem z4 : zeroOf Try.prog 4 = true := by kernel_rfl
theorem zc4 : (Try.prog.info? 4).map (fun i => (i.zero.map (·.cells.size))) = some (some 1) := by kernel_rfl
theorem ty5 : tyI Try.prog 5 = some (1, 1, false) := by kernel_rfl
theorem u5 : Try.prog.underlying 5 = some (TypeDesc.int IntKind.u8) := by kernel_rfl
theorem z5 : zeroOf Try.prog 5 = true := by kernel_rfl
theorem zc5 : (Try.prog.info? 5).map (fun i => (i.zero.map (·.cells.size))) = some (some 1) := by kernel_rfl
theorem ty6 : tyI Try.prog 6 = some (1, 1, false) := by kernel_rfl
theorem u6 : Try.prog.underlying 6 = some (TypeDesc.int IntKind.u8) := by kernel_rfl
theorem z6 : zeroOf Try.prog 6 = true := by kernel_rfl
theorem zc6 : (Try.prog.info? 6).map (fun i => (i.zero.map (·.cells.size))) = some (some 1) := by kernel_rfl
theorem ty7 : tyI Try.prog 7 = some (4, 24, true) := by kernel_rfl
theorem z7 : zeroOf Try.prog 7 = true := by kernel_rfl
theorem zc7 : (Try.prog.info? 7).map (fun i => (i.zero.map (·.cells.size))) = some (some 4) := by kernel_rfl
theorem us7 : Try.prog.underlying 7 = some (TypeDesc.struct (Array.mk [Field.mk "x" 2 0 false "" "runtime" 0, Field.mk "y" 3 1 false "" "runtime" 8, Field.mk "signed" 4 2 false "" "runtime" 16, Field.mk "code" 6 3 false "" "runtime" 17])) := by kernel_rfl
theorem zl7 : zeroL Try.prog 7 = some [.int .i64 0, .int .i64 0, .bool false, .int .u8 0] := by kernel_rfl
theorem fd7_0 : fldB Try.prog 7 0 = some 0 := by kernel_rfl
theorem fd7_1 : fldB Try.prog 7 1 = some 1 := by kernel_rfl
theorem fd7_2 : fldB Try.prog 7 2 = some 2 := by kernel_rfl
theorem fd7_3 : fldB Try.prog 7 3 = some 3 := by kernel_rfl
theorem ty8 : tyI Try.prog 8 = some (4, 24, true) := by kernel_rfl
theorem z8 : zeroOf Try.prog 8 = true := by kernel_rfl
theorem zc8 : (Try.prog.info? 8).map (fun i => (i.zero.map (·.cells.size))) = some (some 4) := by kernel_rfl
theorem us8 : Try.prog.underlying 8 = some (TypeDesc.struct (Array.mk [Field.mk "x" 2 0 false "" "runtime" 0, Field.mk "y" 3 1 false "" "runtime" 8, Field.mk "signed" 4 2 false "" "runtime" 16, Field.mk "code" 6 3 false "" "runtime" 17])) := by kernel_rfl
theorem zl8 : zeroL Try.prog 8 = some [.int .i64 0, .int .i64 0, .bool false, .int .u8 0] := by kernel_rfl
theorem fd8_0 : fldB Try.prog 8 0 = some 0 := by kernel_rfl
theorem fd8_1 : fldB Try.prog 8 1 = some 1 := by kernel_rfl
theorem fd8_2 : fldB Try.prog 8 2 = some 2 := by kernel_rfl
theorem fd8_3 : fldB Try.prog 8 3 = some 3 := by kernel_rfl
theorem ty9 : tyI Try.prog 9 = some (1, 16, false) := by kernel_rfl
theorem u9 : Try.prog.underlying 9 = some TypeDesc.string := by kernel_rfl
theorem z9 : zeroOf Try.prog 9 = true := by kernel_rfl
theorem zc9 : (Try.prog.info? 9).map (fun i => (i.zero.map (·.cells.size))) = some (some 1) := by kernel_rfl
theorem ty10 : tyI Try.prog 10 = some (1, 16, false) := by kernel_rfl
theorem u10 : Try.prog.underlying 10 = some TypeDesc.string := by kernel_rfl
theorem z10 : zeroOf Try.prog 10 = true := by kernel_rfl
theorem zc10 : (Try.prog.info? 10).map (fun i => (i.zero.map (·.cells.size))) = some (some 1) := by kernel_rfl
theorem ty11 : tyI Try.prog 11 = some (1, 16, false) := by kernel_rfl
theorem u11 : Try.prog.underlying 11 = some TypeDesc.string := by kernel_rfl
theorem z11 : zeroOf Try.prog 11 = true := by kernel_rfl
theorem zc11 : (Try.prog.info? 11).map (fun i => (i.zero.map (·.cells.size))) = some (some 1) := by kernel_rfl
theorem ty12 : tyI Try.prog 12 = some (1, 8, false) := by kernel_rfl
theorem u12 : Try.prog.underlying 12 = some (TypeDesc.int IntKind.u64) := by kernel_rfl
theorem z12 : zeroOf Try.prog 12 = true := by kernel_rfl
theorem zc12 : (Try.prog.info? 12).map (fun i => (i.zero.map (·.cells.size))) = some (some 1) := by kernel_rfl
theorem ty13 : tyI Try.prog 13 = some (2, 24, true) := by kernel_rfl
theorem z13 : zeroOf Try.prog 13 = true := by kernel_rfl
theorem zc13 : (Try.prog.info? 13).map (fun i => (i.zero.map (·.cells.size))) = some (some 2) := by kernel_rfl
theorem us13 : Try.prog.underlying 13 = some (TypeDesc.struct (Array.mk [Field.mk "msg" 9 0 false "" "runtime" 0, Field.mk "addr" 12 1 false "" "runtime" 16])) := by kernel_rfl
theorem zl13 : zeroL Try.prog 13 = some [.string ByteArray.empty, .int .u64 0] := by kernel_rfl
theorem fd13_0 : fldB Try.prog 13 0 = some 0 := by kernel_rfl
theorem fd13_1 : fldB Try.prog 13 1 = some 1 := by kernel_rfl
theorem ty14 : tyI Try.prog 14 = some (2, 24, true) := by kernel_rfl
theorem z14 : zeroOf Try.prog 14 = true := by kernel_rfl
theorem zc14 : (Try.prog.info? 14).map (fun i => (i.zero.map (·.cells.size))) = some (some 2) := by kernel_rfl
theorem us14 : Try.prog.underlying 14 = some (TypeDesc.struct (Array.mk [Field.mk "msg" 9 0 false "" "runtime" 0, Field.mk "addr" 12 1 false "" "runtime" 16])) := by kernel_rfl
theorem zl14 : zeroL Try.prog 14 = some [.string ByteArray.empty, .int .u64 0] := by kernel_rfl
theorem fd14_0 : fldB Try.prog 14 0 = some 0 := by kernel_rfl
theorem fd14_1 : fldB Try.prog 14 1 = some 1 := by kernel_rfl
theorem ty18 : tyI Try.prog 18 = some (1, 8, true) := by kernel_rfl
theorem z18 : zeroOf Try.prog 18 = true := by kernel_rfl
theorem zc18 : (Try.prog.info? 18).map (fun i => (i.zero.map (·.cells.size))) = some (some 1) := by kernel_rfl
theorem fd18_0 : fldB Try.prog 18 0 = some 0 := by kernel_rfl
theorem ty19 : tyI Try.prog 19 = some (1, 8, true) := by kernel_rfl
theorem z19 : zeroOf Try.prog 19 = true := by kernel_rfl
theorem zc19 : (Try.prog.info? 19).map (fun i => (i.zero.map (·.cells.size))) = some (some 1) := by kernel_rfl
theorem fd19_0 : fldB Try.prog 19 0 = some 0 := by kernel_rfl
theorem ty21 : tyI Try.prog 21 = some (1, 4, false) := by kernel_rfl
theorem u21 : Try.prog.underlying 21 = some (TypeDesc.int IntKind.i32) := by kernel_rfl
theorem z21 : zeroOf Try.prog 21 = true := by kernel_rfl
theorem zc21 : (Try.prog.info? 21).map (fun i => (i.zero.map (·.cells.size))) = some (some 1) := by kernel_rfl
theorem ty22 : tyI Try.prog 22 = some (1, 24, false) := by kernel_rfl
theorem u22 : Try.prog.underlying 22 = some (TypeDesc.slice 3) := by kernel_rfl
theorem z22 : zeroOf Try.prog 22 = true := by kernel_rfl
theorem zc22 : (Try.prog.info? 22).map (fun i => (i.zero.map (·.cells.size))) = some (some 1) := by kernel_rfl
theorem ty29 : tyI Try.prog 29 = some (1, 24, false) := by kernel_rfl
theorem u29 : Try.prog.underlying 29 = some (TypeDesc.slice 31) := by kernel_rfl
theorem z29 : zeroOf Try.prog 29 = true := by kernel_rfl
theorem zc29 : (Try.prog.info? 29).map (fun i => (i.zero.map (·.cells.size))) = some (some 1) := by kernel_rfl
theorem ty30 : tyI Try.prog 30 = some (3, 24, true) := by kernel_rfl
theorem z30 : zeroOf Try.prog 30 = true := by kernel_rfl
theorem zc30 : (Try.prog.info? 30).map (fun i => (i.zero.map (·.cells.size))) = some (some 3) := by kernel_rfl
theorem us30 : Try.prog.underlying 30 = some (TypeDesc.struct (Array.mk [Field.mk "Global" 3 0 false "" "" 0, Field.mk "A" 3 1 false "" "" 8, Field.mk "B" 3 2 false "" "" 16])) := by kernel_rfl
theorem zl30 : zeroL Try.prog 30 = some [.int .i64 0, .int .i64 0, .int .i64 0] := by kernel_rfl
theorem fd30_0 : fldB Try.prog 30 0 = some 0 := by kernel_rfl
theorem fd30_1 : fldB Try.prog 30 1 = some 1 := by kernel_rfl
theorem fd30_2 : fldB Try.prog 30 2 = some 2 := by kernel_rfl
theorem ty31 : tyI Try.prog 31 = some (3, 24, true) := by kernel_rfl
theorem z31 : zeroOf Try.prog 31 = true := by kernel_rfl
theorem zc31 : (Try.prog.info? 31).map (fun i => (i.zero.map (·.cells.size))) = some (some 3) := by kernel_rfl
theorem us31 : Try.prog.underlying 31 = some (TypeDesc.struct (Array.mk [Field.mk "Global" 3 0 false "" "" 0, Field.mk "A" 3 1 false "" "" 8, Field.mk "B" 3 2 false "" "" 16])) := by kernel_rfl
theorem zl31 : zeroL Try.prog 31 = some [.int .i64 0, .int .i64 0, .int .i64 0] := by kernel_rfl
theorem fd31_0 : fldB Try.prog 31 0 = some 0 := by kernel_rfl
theorem fd31_1 : fldB Try.prog 31 1 = some 1 := by kernel_rfl
theorem fd31_2 : fldB Try.prog 31 2 = some 2 := by kernel_rfl
theorem ty34 : tyI Try.prog 34 = some (1, 24, false) := by kernel_rfl
theorem u34 : Try.prog.underlying 34 = some (TypeDesc.slice 36) := by kernel_rfl
theorem z34 : zeroOf Try.prog 34 = true := by kernel_rfl
theorem zc34 : (Try.prog.info? 34).map (fun i => (i.zero.map (·.cells.size))) = some (some 1) := by kernel_rfl
theorem ty36 : tyI Try.prog 36 = some (3, 24, true) := by kernel_rfl
theorem z36 : zeroOf Try.prog 36 = true := by kernel_rfl
theorem zc36 : (Try.prog.info? 36).map (fun i => (i.zero.map (·.cells.size))) = some (some 3) := by kernel_rfl
theorem us36 : Try.prog.underlying 36 = some (TypeDesc.struct (Array.mk [Field.mk "Global" 3 0 false "" "" 0, Field.mk "A" 3 1 false "" "" 8, Field.mk "B" 3 2 false "" "" 16])) := by kernel_rfl
theorem zl36 : zeroL Try.prog 36 = some [.int .i64 0, .int .i64 0, .int .i64 0] := by kernel_rfl
theorem fd36_0 : fldB Try.prog 36 0 = some 0 := by kernel_rfl
theorem fd36_1 : fldB Try.prog 36 1 = some 1 := by kernel_rfl
theorem fd36_2 : fldB Try.prog 36 2 = some 2 := by kernel_rfl
theorem ty40 : tyI Try.prog 40 = some (1, 24, false) := by kernel_rfl
theorem u40 : Try.prog.underlying 40 = some (TypeDesc.slice 22) := by kernel_rfl
theorem z40 : zeroOf Try.prog 40 = true := by kernel_rfl
theorem zc40 : (Try.prog.info? 40).map (fun i => (i.zero.map (·.cells.size))) = some (some 1) := by kernel_rfl
theorem ty41 : tyI Try.prog 41 = some (3, 72, true) := by kernel_rfl
theorem z41 : zeroOf Try.prog 41 = true := by kernel_rfl
theorem zc41 : (Try.prog.info? 41).map (fun i => (i.zero.map (·.cells.size))) = some (some 3) := by kernel_rfl
theorem us41 : Try.prog.underlying 41 = some (TypeDesc.struct (Array.mk [Field.mk "Vars" 22 0 false "" "" 0, Field.mk "Owner" 22 1 false "" "" 24, Field.mk "Stacks" 40 2 false "" "" 48])) := by kernel_rfl
theorem zl41 : zeroL Try.prog 41 = some [.slice none 0 0, .slice none 0 0, .slice none 0 0] := by kernel_rfl
theorem fd41_0 : fldB Try.prog 41 0 = some 0 := by kernel_rfl
theorem fd41_1 : fldB Try.prog 41 1 = some 1 := by kernel_rfl
theorem fd41_2 : fldB Try.prog 41 2 = some 2 := by kernel_rfl
theorem ty42 : tyI Try.prog 42 = some (3, 72, true) := by kernel_rfl
theorem z42 : zeroOf Try.prog 42 = true := by kernel_rfl
theorem zc42 : (Try.prog.info? 42).map (fun i => (i.zero.map (·.cells.size))) = some (some 3) := by kernel_rfl
theorem us42 : Try.prog.underlying 42 = some (TypeDesc.struct (Array.mk [Field.mk "Vars" 22 0 false "" "" 0, Field.mk "Owner" 22 1 false "" "" 24, Field.mk "Stacks" 40 2 false "" "" 48])) := by kernel_rfl
theorem zl42 : zeroL Try.prog 42 = some [.slice none 0 0, .slice none 0 0, .slice none 0 0] := by kernel_rfl
theorem fd42_0 : fldB Try.prog 42 0 = some 0 := by kernel_rfl
theorem fd42_1 : fldB Try.prog 42 1 = some 1 := by kernel_rfl
theorem fd42_2 : fldB Try.prog 42 2 = some 2 := by kernel_rfl
theorem ty45 : tyI Try.prog 45 = some (3, 72, true) := by kernel_rfl
theorem z45 : zeroOf Try.prog 45 = true := by kernel_rfl
theorem zc45 : (Try.prog.info? 45).map (fun i => (i.zero.map (·.cells.size))) = some (some 3) := by kernel_rfl
theorem us45 : Try.prog.underlying 45 = some (TypeDesc.struct (Array.mk [Field.mk "Vars" 22 0 false "" "" 0, Field.mk "Owner" 22 1 false "" "" 24, Field.mk "Stacks" 40 2 false "" "" 48])) := by kernel_rfl
theorem zl45 : zeroL Try.prog 45 = some [.slice none 0 0, .slice none 0 0, .slice none 0 0] := by kernel_rfl
theorem fd45_0 : fldB Try.prog 45 0 = some 0 := by kernel_rfl
theorem fd45_1 : fldB Try.prog 45 1 = some 1 := by kernel_rfl
theorem fd45_2 : fldB Try.prog 45 2 = some 2 := by kernel_rfl
theorem ty62 : tyI Try.prog 62 = some (1, 8, false) := by kernel_rfl
theorem u62 : Try.prog.underlying 62 = some (TypeDesc.int IntKind.u64) := by kernel_rfl
theorem z62 : zeroOf Try.prog 62 = true := by kernel_rfl
theorem zc62 : (Try.prog.info? 62).map (fun i => (i.zero.map (·.cells.size))) = some (some 1) := by kernel_rfl
theorem ty67 : tyI Try.prog 67 = some (1, 4, false) := by kernel_rfl
theorem u67 : Try.prog.underlying 67 = some (TypeDesc.int IntKind.u32) := by kernel_rfl
theorem z67 : zeroOf Try.prog 67 = true := by kernel_rfl
theorem zc67 : (Try.prog.info? 67).map (fun i => (i.zero.map (·.cells.size))) = some (some 1) := by kernel_rfl
theorem ty71 : tyI Try.prog 71 = some (4, 40, true) := by kernel_rfl
theorem z71 : zeroOf Try.prog 71 = true := by kernel_rfl
theorem zc71 : (Try.prog.info? 71).map (fun i => (i.zero.map (·.cells.size))) = some (some 4) := by kernel_rfl
theorem us71 : Try.prog.underlying 71 = some (TypeDesc.struct (Array.mk [Field.mk "_interface" 17 0 false "" "runtime" 0, Field.mk "concrete" 17 1 false "" "runtime" 8, Field.mk "asserted" 17 2 false "" "runtime" 16, Field.mk "missingMethod" 9 3 false "" "runtime" 24])) := by kernel_rfl
theorem fd71_0 : fldB Try.prog 71 0 = some 0 := by kernel_rfl
theorem fd71_1 : fldB Try.prog 71 1 = some 1 := by kernel_rfl
theorem fd71_2 : fldB Try.prog 71 2 = some 2 := by kernel_rfl
theorem fd71_3 : fldB Try.prog 71 3 = some 3 := by kernel_rfl
theorem ty72 : tyI Try.prog 72 = some (4, 40, true) := by kernel_rfl
theorem z72 : zeroOf Try.prog 72 = true := by kernel_rfl
theorem zc72 : (Try.prog.info? 72).map (fun i => (i.zero.map (·.cells.size))) = some (some 4) := by kernel_rfl
theorem us72 : Try.prog.underlying 72 = some (TypeDesc.struct (Array.mk [Field.mk "_interface" 17 0 false "" "runtime" 0, Field.mk "concrete" 17 1 false "" "runtime" 8, Field.mk "asserted" 17 2 false "" "runtime" 16, Field.mk "missingMethod" 9 3 false "" "runtime" 24])) := by kernel_rfl
theorem fd72_0 : fldB Try.prog 72 0 = some 0 := by kernel_rfl
theorem fd72_1 : fldB Try.prog 72 1 = some 1 := by kernel_rfl
theorem fd72_2 : fldB Try.prog 72 2 = some 2 := by kernel_rfl
theorem fd72_3 : fldB Try.prog 72 3 = some 3 := by kernel_rfl
theorem ty73 : tyI Try.prog 73 = some (0, 0, true) := by kernel_rfl
theorem u73 : Try.prog.underlying 73 = some (TypeDesc.array 0 16) := by kernel_rfl
theorem z73 : zeroOf Try.prog 73 = true := by kernel_rfl
theorem ty74 : tyI Try.prog 74 = some (0, 0, true) := by kernel_rfl
theorem z74 : zeroOf Try.prog 74 = true := by kernel_rfl
theorem us74 : Try.prog.underlying 74 = some (TypeDesc.struct (Array.mk [Field.mk "_" 73 0 false "" "runtime" 0])) := by kernel_rfl
theorem ty75 : tyI Try.prog 75 = some (0, 0, true) := by kernel_rfl
theorem z75 : zeroOf Try.prog 75 = true := by kernel_rfl
theorem us75 : Try.prog.underlying 75 = some (TypeDesc.struct (Array.mk [Field.mk "_" 73 0 false "" "runtime" 0])) := by kernel_rfl
theorem ty77 : tyI Try.prog 77 = some (1, 1, false) := by kernel_rfl
theorem u77 : Try.prog.underlying 77 = some (TypeDesc.int IntKind.u8) := by kernel_rfl
theorem z77 : zeroOf Try.prog 77 = true := by kernel_rfl
theorem zc77 : (Try.prog.info? 77).map (fun i => (i.zero.map (·.cells.size))) = some (some 1) := by kernel_rfl
theorem ty78 : tyI Try.prog 78 = some (1, 1, false) := by kernel_rfl
theorem u78 : Try.prog.underlying 78 = some (TypeDesc.int IntKind.u8) := by kernel_rfl
theorem z78 : zeroOf Try.prog 78 = true := by kernel_rfl
theorem zc78 : (Try.prog.info? 78).map (fun i => (i.zero.map (·.cells.size))) = some (some 1) := by kernel_rfl
theorem ty81 : tyI Try.prog 81 = some (1, 4, false) := by kernel_rfl
theorem u81 : Try.prog.underlying 81 = some (TypeDesc.int IntKind.i32) := by kernel_rfl
theorem z81 : zeroOf Try.prog 81 = true := by kernel_rfl
theorem zc81 : (Try.prog.info? 81).map (fun i => (i.zero.map (·.cells.size))) = some (some 1) := by kernel_rfl
theorem ty82 : tyI Try.prog 82 = some (1, 4, false) := by kernel_rfl
theorem u82 : Try.prog.underlying 82 = some (TypeDesc.int IntKind.i32) := by kernel_rfl
theorem z82 : zeroOf Try.prog 82 = true := by kernel_rfl
theorem zc82 : (Try.prog.info? 82).map (fun i => (i.zero.map (·.cells.size))) = some (some 1) := by kernel_rfl
theorem ty83 : tyI Try.prog 83 = some (11, 48, true) := by kernel_rfl
theorem z83 : zeroOf Try.prog 83 = true := by kernel_rfl
theorem zc83 : (Try.prog.info? 83).map (fun i => (i.zero.map (·.cells.size))) = some (some 11) := by kernel_rfl
theorem us83 : Try.prog.underlying 83 = some (TypeDesc.struct (Array.mk [Field.mk "Size_" 12 0 false "" "" 0, Field.mk "PtrBytes" 12 1 false "" "" 8, Field.mk "Hash" 67 2 false "" "" 16, Field.mk "TFlag" 77 3 false "" "" 20, Field.mk "Align_" 5 4 false "" "" 21, Field.mk "FieldAlign_" 5 5 false "" "" 22, Field.mk "Kind_" 78 6 false "" "" 23, Field.mk "Equal" 79 7 false "" "" 24, Field.mk "GCData" 80 8 false "" "" 32, Field.mk "Str" 81 9 false "" "" 40, Field.mk "PtrToThis" 82 10 false "" "" 44])) := by kernel_rfl
theorem fd83_0 : fldB Try.prog 83 0 = some 0 := by kernel_rfl
theorem fd83_1 : fldB Try.prog 83 1 = some 1 := by kernel_rfl
theorem fd83_2 : fldB Try.prog 83 2 = some 2 := by kernel_rfl
theorem fd83_3 : fldB Try.prog 83 3 = some 3 := by kernel_rfl
theorem fd83_4 : fldB Try.prog 83 4 = some 4 := by kernel_rfl
theorem fd83_5 : fldB Try.prog 83 5 = some 5 := by kernel_rfl
theorem fd83_6 : fldB Try.prog 83 6 = some 6 := by kernel_rfl
theorem fd83_7 : fldB Try.prog 83 7 = some 7 := by kernel_rfl
theorem fd83_8 : fldB Try.prog 83 8 = some 8 := by kernel_rfl
theorem fd83_9 : fldB Try.prog 83 9 = some 9 := by kernel_rfl
theorem fd83_10 : fldB Try.prog 83 10 = some 10 := by kernel_rfl
theorem ty84 : tyI Try.prog 84 = some (11, 48, true) := by kernel_rfl
theorem z84 : zeroOf Try.prog 84 = true := by kernel_rfl
theorem zc84 : (Try.prog.info? 84).map (fun i => (i.zero.map (·.cells.size))) = some (some 11) := by kernel_rfl
theorem us84 : Try.prog.underlying 84 = some (TypeDesc.struct (Array.mk [Field.mk "Size_" 12 0 false "" "" 0, Field.mk "PtrBytes" 12 1 false "" "" 8, Field.mk "Hash" 67 2 false "" "" 16, Field.mk "TFlag" 77 3 false "" "" 20, Field.mk "Align_" 5 4 false "" "" 21, Field.mk "FieldAlign_" 5 5 false "" "" 22, Field.mk "Kind_" 78 6 false "" "" 23, Field.mk "Equal" 79 7 false "" "" 24, Field.mk "GCData" 80 8 false "" "" 32, Field.mk "Str" 81 9 false "" "" 40, Field.mk "PtrToThis" 82 10 false "" "" 44])) := by kernel_rfl
theorem fd84_0 : fldB Try.prog 84 0 = some 0 := by kernel_rfl
theorem fd84_1 : fldB Try.prog 84 1 = some 1 := by kernel_rfl
theorem fd84_2 : fldB Try.prog 84 2 = some 2 := by kernel_rfl
theorem fd84_3 : fldB Try.prog 84 3 = some 3 := by kernel_rfl
theorem fd84_4 : fldB Try.prog 84 4 = some 4 := by kernel_rfl
theorem fd84_5 : fldB Try.prog 84 5 = some 5 := by kernel_rfl
theorem fd84_6 : fldB Try.prog 84 6 = some 6 := by kernel_rfl
theorem fd84_7 : fldB Try.prog 84 7 = some 7 := by kernel_rfl
theorem fd84_8 : fldB Try.prog 84 8 = some 8 := by kernel_rfl
theorem fd84_9 : fldB Try.prog 84 9 = some 9 := by kernel_rfl
theorem fd84_10 : fldB Try.prog 84 10 = some 10 := by kernel_rfl
end Go.Proofs.Ythieonacgnppiaa
