/- What the program says of its types, printed by program. -/
import Derived.Test.YteephmhilnlkpaaMem
import Derived.Test.YteephmhilnlkpaaProg
import Derived.KernelRfl
namespace Go.Proofs.Yteephmhilnlkpaa
open Go Go.Sh Go.Proofs
theorem ty2 : tyI Try.prog 2 = some (1, 8, false) := by kernel_rfl
theorem u2 : Try.prog.underlying 2 = some (TypeDesc.int IntKind.i64) := by kernel_rfl
theorem z2 : zeroOf Try.prog 2 = true := by kernel_rfl
theorem zc2 : (Try.prog.info? 2).map (fun i => (i.zero.map (·.cells.size))) = some (some 1) := by kernel_rfl
theorem ty3 : tyI Try.prog 3 = some (1, 8, false) := by kernel_rfl
theorem u3 : Try.prog.underlying 3 = some (TypeDesc.int IntKind.i64) := by kernel_rfl
theorem z3 : zeroOf Try.prog 3 = true := by kernel_rfl
theorem zc3 : (Try.prog.info? 3).map (fun i => (i.zero.map (·.cells.size))) = some (some 1) := by kernel_rfl
theorem ty4 : tyI Try.prog 4 = some (1, 1, false) := by kernel_rfl
theorem u4 : Try.prog.underlying 4 = some TypeDesc.bool := by kernel_rfl
theorem z4 : zeroOf Try.prog 4 = true := by kernel_rfl
theorem zc4 : (Try.prog.info? 4).map (fun i => (i.zero.map (·.cells.size))) = some (some 1) := by kernel_rfl
theorem ty5 : tyI Try.prog 5 = some (1, 1, false) := by kernel_rfl
theorem u5 : Try.prog.underlying 5 = some (TypeDesc.int IntKind.u8) := by kernel_rfl
theorem z5 : zeroOf Try.prog 5 = true := by kernel_rfl
theorem zc5 : (Try.prog.info? 5).map (fun i => (i.zero.map (·.cells.size))) = some (some 1) := by kernel_rfl
theorem ty6 : tyI Try.prog 6 = some (1, 1, false) := by kernel_rfl
theorem u6 : Try.prog.underlying 6 = some (TypeDesc.int IntKind.u8) := by kernel_rfl
theorem z6 : zeroOf Try.prog 6 = true := by kernel_rfl
theorem zc6 : (Try.prog.info? 6).map (fun i => (i.zero.map (·.cells.size))) = some (some 1) := by kernel_rfl
theorem ty7 : tyI Try.prog 7 = some (4, 24, true) := by kernel_rfl
theorem z7 : zeroOf Try.prog 7 = true := by kernel_rfl
theorem zc7 : (Try.prog.info? 7).map (fun i => (i.zero.map (·.cells.size))) = some (some 4) := by kernel_rfl
theorem us7 : Try.prog.underlying 7 = some (TypeDesc.struct (Array.mk [Field.mk "x" 2 0 false "" "runtime" 0, Field.mk "y" 3 1 false "" "runtime" 8, Field.mk "signed" 4 2 false "" "runtime" 16, Field.mk "code" 6 3 false "" "runtime" 17])) := by kernel_rfl
theorem zl7 : zeroL Try.prog 7 = some [.int .i64 0, .int .i64 0, .bool false, .int .u8 0] := by kernel_rfl
theorem fd7_0 : fldB Try.prog 7 0 = some 0 := by kernel_rfl
theorem fd7_1 : fldB Try.prog 7 1 = some 1 := by kernel_rfl
theorem fd7_2 : fldB Try.prog 7 2 = some 2 := by kernel_rfl
theorem fd7_3 : fldB Try.prog 7 3 = some 3 := by kernel_rfl
theorem ty8 : tyI Try.prog 8 = some (4, 24, true) := by kernel_rfl
theorem z8 : zeroOf Try.prog 8 = true := by kernel_rfl
theorem zc8 : (Try.prog.info? 8).map (fun i => (i.zero.map (·.cells.size))) = some (some 4) := by kernel_rfl
theorem us8 : Try.prog.underlying 8 = some (TypeDesc.struct (Array.mk [Field.mk "x" 2 0 false "" "runtime" 0, Field.mk "y" 3 1 false "" "runtime" 8, Field.mk "signed" 4 2 false "" "runtime" 16, Field.mk "code" 6 3 false "" "runtime" 17])) := by kernel_rfl
theorem zl8 : zeroL Try.prog 8 = some [.int .i64 0, .int .i64 0, .bool false, .int .u8 0] := by kernel_rfl
theorem fd8_0 : fldB Try.prog 8 0 = some 0 := by kernel_rfl
theorem fd8_1 : fldB Try.prog 8 1 = some 1 := by kernel_rfl
theorem fd8_2 : fldB Try.prog 8 2 = some 2 := by kernel_rfl
theorem fd8_3 : fldB Try.prog 8 3 = some 3 := by kernel_rfl
theorem ty9 : tyI Try.prog 9 = some (1, 16, false) := by kernel_rfl
theorem u9 : Try.prog.underlying 9 = some TypeDesc.string := by kernel_rfl
theorem z9 : zeroOf Try.prog 9 = true := by kernel_rfl
theorem zc9 : (Try.prog.info? 9).map (fun i => (i.zero.map (·.cells.size))) = some (some 1) := by kernel_rfl
theorem ty10 : tyI Try.prog 10 = some (1, 16, false) := by kernel_rfl
theorem u10 : Try.prog.underlying 10 = some TypeDesc.string := by kernel_rfl
theorem z10 : zeroOf Try.prog 10 = true := by kernel_rfl
theorem zc10 : (Try.prog.info? 10).map (fun i => (i.zero.map (·.cells.size))) = some (some 1) := by kernel_rfl
theorem ty11 : tyI Try.prog 11 = some (1, 16, false) := by kernel_rfl
theorem u11 : Try.prog.underlying 11 = some TypeDesc.string := by kernel_rfl
theorem z11 : zeroOf Try.prog 11 = true := by kernel_rfl
theorem zc11 : (Try.prog.info? 11).map (fun i => (i.zero.map (·.cells.size))) = some (some 1) := by kernel_rfl
theorem ty12 : tyI Try.prog 12 = some (1, 8, false) := by kernel_rfl
theorem u12 : Try.prog.underlying 12 = some (TypeDesc.int IntKind.u64) := by kernel_rfl
theorem z12 : zeroOf Try.prog 12 = true := by kernel_rfl
theorem zc12 : (Try.prog.info? 12).map (fun i => (i.zero.map (·.cells.size))) = some (some 1) := by kernel_rfl
theorem ty13 : tyI Try.prog 13 = some (2, 24, true) := by kernel_rfl
theorem z13 : zeroOf Try.prog 13 = true := by kernel_rfl
theorem zc13 : (Try.prog.info? 13).map (fun i => (i.zero.map (·.cells.size))) = some (some 2) := by kernel_rfl
theorem us13 : Try.prog.underlying 13 = some (TypeDesc.struct (Array.mk [Field.mk "msg" 9 0 false "" "runtime" 0, Field.mk "addr" 12 1 false "" "runtime" 16])) := by kernel_rfl
theorem zl13 : zeroL Try.prog 13 = some [.string ByteArray.empty, .int .u64 0] := by kernel_rfl
theorem fd13_0 : fldB Try.prog 13 0 = some 0 := by kernel_rfl
theorem fd13_1 : fldB Try.prog 13 1 = some 1 := by kernel_rfl
theorem ty14 : tyI Try.prog 14 = some (2, 24, true) := by kernel_rfl
theorem z14 : zeroOf Try.prog 14 = true := by kernel_rfl
theorem zc14 : (Try.prog.info? 14).map (fun i => (i.zero.map (·.cells.size))) = some (some 2) := by kernel_rfl
theorem us14 : Try.prog.underlying 14 = some (TypeDesc.struct (Array.mk [Field.mk "msg" 9 0 false "" "runtime" 0, Field.mk "addr" 12 1 false "" "runtime" 16])) := by kernel_rfl
theorem zl14 : zeroL Try.prog 14 = some [.string ByteArray.empty, .int .u64 0] := by kernel_rfl
theorem fd14_0 : fldB Try.prog 14 0 = some 0 := by kernel_rfl
theorem fd14_1 : fldB Try.prog 14 1 = some 1 := by kernel_rfl
theorem ty18 : tyI Try.prog 18 = some (1, 8, true) := by kernel_rfl
theorem z18 : zeroOf Try.prog 18 = true := by kernel_rfl
theorem zc18 : (Try.prog.info? 18).map (fun i => (i.zero.map (·.cells.size))) = some (some 1) := by kernel_rfl
theorem fd18_0 : fldB Try.prog 18 0 = some 0 := by kernel_rfl
theorem ty19 : tyI Try.prog 19 = some (1, 8, true) := by kernel_rfl
theorem z19 : zeroOf Try.prog 19 = true := by kernel_rfl
theorem zc19 : (Try.prog.info? 19).map (fun i => (i.zero.map (·.cells.size))) = some (some 1) := by kernel_rfl
theorem fd19_0 : fldB Try.prog 19 0 = some 0 := by kernel_rfl
theorem ty21 : tyI Try.prog 21 = some (1, 4, false) := by kernel_rfl
theorem u21 : Try.prog.underlying 21 = some (TypeDesc.int IntKind.i32) := by kernel_rfl
theorem z21 : zeroOf Try.prog 21 = true := by kernel_rfl
theorem zc21 : (Try.prog.info? 21).map (fun i => (i.zero.map (·.cells.size))) = some (some 1) := by kernel_rfl
theorem ty22 : tyI Try.prog 22 = some (1, 24, false) := by kernel_rfl
theorem u22 : Try.prog.underlying 22 = some (TypeDesc.slice 9) := by kernel_rfl
theorem z22 : zeroOf Try.prog 22 = true := by kernel_rfl
theorem zc22 : (Try.prog.info? 22).map (fun i => (i.zero.map (·.cells.size))) = some (some 1) := by kernel_rfl
theorem ty23 : tyI Try.prog 23 = some (1, 24, false) := by kernel_rfl
theorem u23 : Try.prog.underlying 23 = some (TypeDesc.slice 3) := by kernel_rfl
theorem z23 : zeroOf Try.prog 23 = true := by kernel_rfl
theorem zc23 : (Try.prog.info? 23).map (fun i => (i.zero.map (·.cells.size))) = some (some 1) := by kernel_rfl
theorem ty24 : tyI Try.prog 24 = some (1, 24, false) := by kernel_rfl
theorem u24 : Try.prog.underlying 24 = some (TypeDesc.slice 63) := by kernel_rfl
theorem z24 : zeroOf Try.prog 24 = true := by kernel_rfl
theorem zc24 : (Try.prog.info? 24).map (fun i => (i.zero.map (·.cells.size))) = some (some 1) := by kernel_rfl
theorem ty25 : tyI Try.prog 25 = some (5, 120, true) := by kernel_rfl
theorem z25 : zeroOf Try.prog 25 = true := by kernel_rfl
theorem zc25 : (Try.prog.info? 25).map (fun i => (i.zero.map (·.cells.size))) = some (some 5) := by kernel_rfl
theorem us25 : Try.prog.underlying 25 = some (TypeDesc.struct (Array.mk [Field.mk "Globals" 22 0 false "" "" 0, Field.mk "Locks" 22 1 false "" "" 24, Field.mk "Procs" 22 2 false "" "" 48, Field.mk "Entry" 23 3 false "" "" 72, Field.mk "Ins" 24 4 false "" "" 96])) := by kernel_rfl
theorem zl25 : zeroL Try.prog 25 = some [.slice none 0 0, .slice none 0 0, .slice none 0 0, .slice none 0 0, .slice none 0 0] := by kernel_rfl
theorem fd25_0 : fldB Try.prog 25 0 = some 0 := by kernel_rfl
theorem fd25_1 : fldB Try.prog 25 1 = some 1 := by kernel_rfl
theorem fd25_2 : fldB Try.prog 25 2 = some 2 := by kernel_rfl
theorem fd25_3 : fldB Try.prog 25 3 = some 3 := by kernel_rfl
theorem fd25_4 : fldB Try.prog 25 4 = some 4 := by kernel_rfl
theorem ty26 : tyI Try.prog 26 = some (5, 120, true) := by kernel_rfl
theorem z26 : zeroOf Try.prog 26 = true := by kernel_rfl
theorem zc26 : (Try.prog.info? 26).map (fun i => (i.zero.map (·.cells.size))) = some (some 5) := by kernel_rfl
theorem us26 : Try.prog.underlying 26 = some (TypeDesc.struct (Array.mk [Field.mk "Globals" 22 0 false "" "" 0, Field.mk "Locks" 22 1 false "" "" 24, Field.mk "Procs" 22 2 false "" "" 48, Field.mk "Entry" 23 3 false "" "" 72, Field.mk "Ins" 24 4 false "" "" 96])) := by kernel_rfl
theorem zl26 : zeroL Try.prog 26 = some [.slice none 0 0, .slice none 0 0, .slice none 0 0, .slice none 0 0, .slice none 0 0] := by kernel_rfl
theorem fd26_0 : fldB Try.prog 26 0 = some 0 := by kernel_rfl
theorem fd26_1 : fldB Try.prog 26 1 = some 1 := by kernel_rfl
theorem fd26_2 : fldB Try.prog 26 2 = some 2 := by kernel_rfl
theorem fd26_3 : fldB Try.prog 26 3 = some 3 := by kernel_rfl
theorem fd26_4 : fldB Try.prog 26 4 = some 4 := by kernel_rfl
theorem ty28 : tyI Try.prog 28 = some (1, 24, false) := by kernel_rfl
theorem u28 : Try.prog.underlying 28 = some (TypeDesc.slice 23) := by kernel_rfl
theorem z28 : zeroOf Try.prog 28 = true := by kernel_rfl
theorem zc28 : (Try.prog.info? 28).map (fun i => (i.zero.map (·.cells.size))) = some (some 1) := by kernel_rfl
theorem ty29 : tyI Try.prog 29 = some (3, 72, true) := by kernel_rfl
theorem z29 : zeroOf Try.prog 29 = true := by kernel_rfl
theorem zc29 : (Try.prog.info? 29).map (fun i => (i.zero.map (·.cells.size))) = some (some 3) := by kernel_rfl
theorem us29 : Try.prog.underlying 29 = some (TypeDesc.struct (Array.mk [Field.mk "Vars" 23 0 false "" "" 0, Field.mk "Owner" 23 1 false "" "" 24, Field.mk "Stacks" 28 2 false "" "" 48])) := by kernel_rfl
theorem zl29 : zeroL Try.prog 29 = some [.slice none 0 0, .slice none 0 0, .slice none 0 0] := by kernel_rfl
theorem fd29_0 : fldB Try.prog 29 0 = some 0 := by kernel_rfl
theorem fd29_1 : fldB Try.prog 29 1 = some 1 := by kernel_rfl
theorem fd29_2 : fldB Try.prog 29 2 = some 2 := by kernel_rfl
theorem ty30 : tyI Try.prog 30 = some (3, 72, true) := by kernel_rfl
theorem z30 : zeroOf Try.prog 30 = true := by kernel_rfl
theorem zc30 : (Try.prog.info? 30).map (fun i => (i.zero.map (·.cells.size))) = some (some 3) := by kernel_rfl
theorem us30 : Try.prog.underlying 30 = some (TypeDesc.struct (Array.mk [Field.mk "Vars" 23 0 false "" "" 0, Field.mk "Owner" 23 1 false "" "" 24, Field.mk "Stacks" 28 2 false "" "" 48])) := by kernel_rfl
theorem zl30 : zeroL Try.prog 30 = some [.slice none 0 0, .slice none 0 0, .slice none 0 0] := by kernel_rfl
theorem fd30_0 : fldB Try.prog 30 0 = some 0 := by kernel_rfl
theorem fd30_1 : fldB Try.prog 30 1 = some 1 := by kernel_rfl
theorem fd30_2 : fldB Try.prog 30 2 = some 2 := by kernel_rfl
theorem ty33 : tyI Try.prog 33 = some (1, 24, false) := by kernel_rfl
theorem u33 : Try.prog.underlying 33 = some (TypeDesc.slice 72) := by kernel_rfl
theorem z33 : zeroOf Try.prog 33 = true := by kernel_rfl
theorem zc33 : (Try.prog.info? 33).map (fun i => (i.zero.map (·.cells.size))) = some (some 1) := by kernel_rfl
theorem ty34 : tyI Try.prog 34 = some (5, 120, true) := by kernel_rfl
theorem z34 : zeroOf Try.prog 34 = true := by kernel_rfl
theorem zc34 : (Try.prog.info? 34).map (fun i => (i.zero.map (·.cells.size))) = some (some 5) := by kernel_rfl
theorem us34 : Try.prog.underlying 34 = some (TypeDesc.struct (Array.mk [Field.mk "Globals" 22 0 false "" "" 0, Field.mk "Locks" 22 1 false "" "" 24, Field.mk "Procs" 22 2 false "" "" 48, Field.mk "Entry" 23 3 false "" "" 72, Field.mk "Ins" 33 4 false "" "" 96])) := by kernel_rfl
theorem zl34 : zeroL Try.prog 34 = some [.slice none 0 0, .slice none 0 0, .slice none 0 0, .slice none 0 0, .slice none 0 0] := by kernel_rfl
theorem fd34_0 : fldB Try.prog 34 0 = some 0 := by kernel_rfl
theorem fd34_1 : fldB Try.prog 34 1 = some 1 := by kernel_rfl
theorem fd34_2 : fldB Try.prog 34 2 = some 2 := by kernel_rfl
theorem fd34_3 : fldB Try.prog 34 3 = some 3 := by kernel_rfl
theorem fd34_4 : fldB Try.prog 34 4 = some 4 := by kernel_rfl
theorem ty35 : tyI Try.prog 35 = some (5, 120, true) := by kernel_rfl
theorem z35 : zeroOf Try.prog 35 = true := by kernel_rfl
theorem zc35 : (Try.prog.info? 35).map (fun i => (i.zero.map (·.cells.size))) = some (some 5) := by kernel_rfl
theorem us35 : Try.prog.underlying 35 = some (TypeDesc.struct (Array.mk [Field.mk "Globals" 22 0 false "" "" 0, Field.mk "Locks" 22 1 false "" "" 24, Field.mk "Procs" 22 2 false "" "" 48, Field.mk "Entry" 23 3 false "" "" 72, Field.mk "Ins" 33 4 false "" "" 96])) := by kernel_rfl
theorem zl35 : zeroL Try.prog 35 = some [.slice none 0 0, .slice none 0 0, .slice none 0 0, .slice none 0 0, .slice none 0 0] := by kernel_rfl
theorem fd35_0 : fldB Try.prog 35 0 = some 0 := by kernel_rfl
theorem fd35_1 : fldB Try.prog 35 1 = some 1 := by kernel_rfl
theorem fd35_2 : fldB Try.prog 35 2 = some 2 := by kernel_rfl
theorem fd35_3 : fldB Try.prog 35 3 = some 3 := by kernel_rfl
theorem fd35_4 : fldB Try.prog 35 4 = some 4 := by kernel_rfl
theorem ty59 : tyI Try.prog 59 = some (1, 24, false) := by kernel_rfl
theorem u59 : Try.prog.underlying 59 = some (TypeDesc.slice 61) := by kernel_rfl
theorem z59 : zeroOf Try.prog 59 = true := by kernel_rfl
theorem zc59 : (Try.prog.info? 59).map (fun i => (i.zero.map (·.cells.size))) = some (some 1) := by kernel_rfl
theorem ty60 : tyI Try.prog 60 = some (4, 56, true) := by kernel_rfl
theorem z60 : zeroOf Try.prog 60 = true := by kernel_rfl
theorem zc60 : (Try.prog.info? 60).map (fun i => (i.zero.map (·.cells.size))) = some (some 4) := by kernel_rfl
theorem us60 : Try.prog.underlying 60 = some (TypeDesc.struct (Array.mk [Field.mk "Kind" 3 0 false "" "" 0, Field.mk "Num" 3 1 false "" "" 8, Field.mk "Name" 9 2 false "" "" 16, Field.mk "Kids" 59 3 false "" "" 32])) := by kernel_rfl
theorem zl60 : zeroL Try.prog 60 = some [.int .i64 0, .int .i64 0, .string ByteArray.empty, .slice none 0 0] := by kernel_rfl
theorem fd60_0 : fldB Try.prog 60 0 = some 0 := by kernel_rfl
theorem fd60_1 : fldB Try.prog 60 1 = some 1 := by kernel_rfl
theorem fd60_2 : fldB Try.prog 60 2 = some 2 := by kernel_rfl
theorem fd60_3 : fldB Try.prog 60 3 = some 3 := by kernel_rfl
theorem ty61 : tyI Try.prog 61 = some (4, 56, true) := by kernel_rfl
theorem z61 : zeroOf Try.prog 61 = true := by kernel_rfl
theorem zc61 : (Try.prog.info? 61).map (fun i => (i.zero.map (·.cells.size))) = some (some 4) := by kernel_rfl
theorem us61 : Try.prog.underlying 61 = some (TypeDesc.struct (Array.mk [Field.mk "Kind" 3 0 false "" "" 0, Field.mk "Num" 3 1 false "" "" 8, Field.mk "Name" 9 2 false "" "" 16, Field.mk "Kids" 59 3 false "" "" 32])) := by kernel_rfl
theorem zl61 : zeroL Try.prog 61 = some [.int .i64 0, .int .i64 0, .string ByteArray.empty, .slice none 0 0] := by kernel_rfl
theorem fd61_0 : fldB Try.prog 61 0 = some 0 := by kernel_rfl
theorem fd61_1 : fldB Try.prog 61 1 = some 1 := by kernel_rfl
theorem fd61_2 : fldB Try.prog 61 2 = some 2 := by kernel_rfl
theorem fd61_3 : fldB Try.prog 61 3 = some 3 := by kernel_rfl
theorem ty62 : tyI Try.prog 62 = some (7, 80, true) := by kernel_rfl
theorem z62 : zeroOf Try.prog 62 = true := by kernel_rfl
theorem zc62 : (Try.prog.info? 62).map (fun i => (i.zero.map (·.cells.size))) = some (some 7) := by kernel_rfl
theorem us62 : Try.prog.underlying 62 = some (TypeDesc.struct (Array.mk [Field.mk "Op" 3 0 false "" "" 0, Field.mk "Arg" 3 1 false "" "" 8, Field.mk "Term" 61 2 false "" "" 16, Field.mk "To" 3 6 false "" "" 72])) := by kernel_rfl
theorem zl62 : zeroL Try.prog 62 = some [.int .i64 0, .int .i64 0, .int .i64 0, .int .i64 0, .string ByteArray.empty, .slice none 0 0, .int .i64 0] := by kernel_rfl
theorem fd62_0 : fldB Try.prog 62 0 = some 0 := by kernel_rfl
theorem fd62_1 : fldB Try.prog 62 1 = some 1 := by kernel_rfl
theorem fd62_2 : fldB Try.prog 62 2 = some 2 := by kernel_rfl
theorem fd62_3 : fldB Try.prog 62 3 = some 6 := by kernel_rfl
theorem ty63 : tyI Try.prog 63 = some (7, 80, true) := by kernel_rfl
theorem z63 : zeroOf Try.prog 63 = true := by kernel_rfl
theorem zc63 : (Try.prog.info? 63).map (fun i => (i.zero.map (·.cells.size))) = some (some 7) := by kernel_rfl
theorem us63 : Try.prog.underlying 63 = some (TypeDesc.struct (Array.mk [Field.mk "Op" 3 0 false "" "" 0, Field.mk "Arg" 3 1 false "" "" 8, Field.mk "Term" 61 2 false "" "" 16, Field.mk "To" 3 6 false "" "" 72])) := by kernel_rfl
theorem zl63 : zeroL Try.prog 63 = some [.int .i64 0, .int .i64 0, .int .i64 0, .int .i64 0, .string ByteArray.empty, .slice none 0 0, .int .i64 0] := by kernel_rfl
theorem fd63_0 : fldB Try.prog 63 0 = some 0 := by kernel_rfl
theorem fd63_1 : fldB Try.prog 63 1 = some 1 := by kernel_rfl
theorem fd63_2 : fldB Try.prog 63 2 = some 2 := by kernel_rfl
theorem fd63_3 : fldB Try.prog 63 3 = some 6 := by kernel_rfl
theorem ty68 : tyI Try.prog 68 = some (1, 24, false) := by kernel_rfl
theorem u68 : Try.prog.underlying 68 = some (TypeDesc.slice 70) := by kernel_rfl
theorem z68 : zeroOf Try.prog 68 = true := by kernel_rfl
theorem zc68 : (Try.prog.info? 68).map (fun i => (i.zero.map (·.cells.size))) = some (some 1) := by kernel_rfl
theorem ty69 : tyI Try.prog 69 = some (4, 56, true) := by kernel_rfl
theorem z69 : zeroOf Try.prog 69 = true := by kernel_rfl
theorem zc69 : (Try.prog.info? 69).map (fun i => (i.zero.map (·.cells.size))) = some (some 4) := by kernel_rfl
theorem us69 : Try.prog.underlying 69 = some (TypeDesc.struct (Array.mk [Field.mk "Kind" 3 0 false "" "" 0, Field.mk "Num" 3 1 false "" "" 8, Field.mk "Name" 9 2 false "" "" 16, Field.mk "Kids" 68 3 false "" "" 32])) := by kernel_rfl
theorem zl69 : zeroL Try.prog 69 = some [.int .i64 0, .int .i64 0, .string ByteArray.empty, .slice none 0 0] := by kernel_rfl
theorem fd69_0 : fldB Try.prog 69 0 = some 0 := by kernel_rfl
theorem fd69_1 : fldB Try.prog 69 1 = some 1 := by kernel_rfl
theorem fd69_2 : fldB Try.prog 69 2 = some 2 := by kernel_rfl
theorem fd69_3 : fldB Try.prog 69 3 = some 3 := by kernel_rfl
theorem ty70 : tyI Try.prog 70 = some (4, 56, true) := by kernel_rfl
theorem z70 : zeroOf Try.prog 70 = true := by kernel_rfl
theorem zc70 : (Try.prog.info? 70).map (fun i => (i.zero.map (·.cells.size))) = some (some 4) := by kernel_rfl
theorem us70 : Try.prog.underlying 70 = some (TypeDesc.struct (Array.mk [Field.mk "Kind" 3 0 false "" "" 0, Field.mk "Num" 3 1 false "" "" 8, Field.mk "Name" 9 2 false "" "" 16, Field.mk "Kids" 68 3 false "" "" 32])) := by kernel_rfl
theorem zl70 : zeroL Try.prog 70 = some [.int .i64 0, .int .i64 0, .string ByteArray.empty, .slice none 0 0] := by kernel_rfl
theorem fd70_0 : fldB Try.prog 70 0 = some 0 := by kernel_rfl
theorem fd70_1 : fldB Try.prog 70 1 = some 1 := by kernel_rfl
theorem fd70_2 : fldB Try.prog 70 2 = some 2 := by kernel_rfl
theorem fd70_3 : fldB Try.prog 70 3 = some 3 := by kernel_rfl
theorem ty71 : tyI Try.prog 71 = some (7, 80, true) := by kernel_rfl
theorem z71 : zeroOf Try.prog 71 = true := by kernel_rfl
theorem zc71 : (Try.prog.info? 71).map (fun i => (i.zero.map (·.cells.size))) = some (some 7) := by kernel_rfl
theorem us71 : Try.prog.underlying 71 = some (TypeDesc.struct (Array.mk [Field.mk "Op" 3 0 false "" "" 0, Field.mk "Arg" 3 1 false "" "" 8, Field.mk "Term" 70 2 false "" "" 16, Field.mk "To" 3 6 false "" "" 72])) := by kernel_rfl
theorem zl71 : zeroL Try.prog 71 = some [.int .i64 0, .int .i64 0, .int .i64 0, .int .i64 0, .string ByteArray.empty, .slice none 0 0, .int .i64 0] := by kernel_rfl
theorem fd71_0 : fldB Try.prog 71 0 = some 0 := by kernel_rfl
theorem fd71_1 : fldB Try.prog 71 1 = some 1 := by kernel_rfl
theorem fd71_2 : fldB Try.prog 71 2 = some 2 := by kernel_rfl
theorem fd71_3 : fldB Try.prog 71 3 = some 6 := by kernel_rfl
theorem ty72 : tyI Try.prog 72 = some (7, 80, true) := by kernel_rfl
theorem z72 : zeroOf Try.prog 72 = true := by kernel_rfl
theorem zc72 : (Try.prog.info? 72).map (fun i => (i.zero.map (·.cells.size))) = some (some 7) := by kernel_rfl
theorem us72 : Try.prog.underlying 72 = some (TypeDesc.struct (Array.mk [Field.mk "Op" 3 0 false "" "" 0, Field.mk "Arg" 3 1 false "" "" 8, Field.mk "Term" 70 2 false "" "" 16, Field.mk "To" 3 6 false "" "" 72])) := by kernel_rfl
theorem zl72 : zeroL Try.prog 72 = some [.int .i64 0, .int .i64 0, .int .i64 0, .int .i64 0, .string ByteArray.empty, .slice none 0 0, .int .i64 0] := by kernel_rfl
theorem fd72_0 : fldB Try.prog 72 0 = some 0 := by kernel_rfl
theorem fd72_1 : fldB Try.prog 72 1 = some 1 := by kernel_rfl
theorem fd72_2 : fldB Try.prog 72 2 = some 2 := by kernel_rfl
theorem fd72_3 : fldB Try.prog 72 3 = some 6 := by kernel_rfl
theorem ty91 : tyI Try.prog 91 = some (1, 24, false) := by kernel_rfl
theorem u91 : Try.prog.underlying 91 = some (TypeDesc.slice 5) := by kernel_rfl
theorem z91 : zeroOf Try.prog 91 = true := by kernel_rfl
theorem zc91 : (Try.prog.info? 91).map (fun i => (i.zero.map (·.cells.size))) = some (some 1) := by kernel_rfl
theorem ty102 : tyI Try.prog 102 = some (4, 40, true) := by kernel_rfl
theorem z102 : zeroOf Try.prog 102 = true := by kernel_rfl
theorem zc102 : (Try.prog.info? 102).map (fun i => (i.zero.map (·.cells.size))) = some (some 4) := by kernel_rfl
theorem us102 : Try.prog.underlying 102 = some (TypeDesc.struct (Array.mk [Field.mk "_interface" 17 0 false "" "runtime" 0, Field.mk "concrete" 17 1 false "" "runtime" 8, Field.mk "asserted" 17 2 false "" "runtime" 16, Field.mk "missingMethod" 9 3 false "" "runtime" 24])) := by kernel_rfl
theorem fd102_0 : fldB Try.prog 102 0 = some 0 := by kernel_rfl
theorem fd102_1 : fldB Try.prog 102 1 = some 1 := by kernel_rfl
theorem fd102_2 : fldB Try.prog 102 2 = some 2 := by kernel_rfl
theorem fd102_3 : fldB Try.prog 102 3 = some 3 := by kernel_rfl
theorem ty103 : tyI Try.prog 103 = some (4, 40, true) := by kernel_rfl
theorem z103 : zeroOf Try.prog 103 = true := by kernel_rfl
theorem zc103 : (Try.prog.info? 103).map (fun i => (i.zero.map (·.cells.size))) = some (some 4) := by kernel_rfl
theorem us103 : Try.prog.underlying 103 = some (TypeDesc.struct (Array.mk [Field.mk "_interface" 17 0 false "" "runtime" 0, Field.mk "concrete" 17 1 false "" "runtime" 8, Field.mk "asserted" 17 2 false "" "runtime" 16, Field.mk "missingMethod" 9 3 false "" "runtime" 24])) := by kernel_rfl
theorem fd103_0 : fldB Try.prog 103 0 = some 0 := by kernel_rfl
theorem fd103_1 : fldB Try.prog 103 1 = some 1 := by kernel_rfl
theorem fd103_2 : fldB Try.prog 103 2 = some 2 := by kernel_rfl
theorem fd103_3 : fldB Try.prog 103 3 = some 3 := by kernel_rfl
theorem ty104 : tyI Try.prog 104 = some (0, 0, true) := by kernel_rfl
theorem u104 : Try.prog.underlying 104 = some (TypeDesc.array 0 16) := by kernel_rfl
theorem z104 : zeroOf Try.prog 104 = true := by kernel_rfl
theorem ty105 : tyI Try.prog 105 = some (0, 0, true) := by kernel_rfl
theorem z105 : zeroOf Try.prog 105 = true := by kernel_rfl
theorem us105 : Try.prog.underlying 105 = some (TypeDesc.struct (Array.mk [Field.mk "_" 104 0 false "" "runtime" 0])) := by kernel_rfl
theorem ty106 : tyI Try.prog 106 = some (0, 0, true) := by kernel_rfl
theorem z106 : zeroOf Try.prog 106 = true := by kernel_rfl
theorem us106 : Try.prog.underlying 106 = some (TypeDesc.struct (Array.mk [Field.mk "_" 104 0 false "" "runtime" 0])) := by kernel_rfl
theorem ty108 : tyI Try.prog 108 = some (1, 4, false) := by kernel_rfl
theorem u108 : Try.prog.underlying 108 = some (TypeDesc.int IntKind.u32) := by kernel_rfl
theorem z108 : zeroOf Try.prog 108 = true := by kernel_rfl
theorem zc108 : (Try.prog.info? 108).map (fun i => (i.zero.map (·.cells.size))) = some (some 1) := by kernel_rfl
theorem ty109 : tyI Try.prog 109 = some (1, 1, false) := by kernel_rfl
theorem u109 : Try.prog.underlying 109 = some (TypeDesc.int IntKind.u8) := by kernel_rfl
theorem z109 : zeroOf Try.prog 109 = true := by kernel_rfl
theorem zc109 : (Try.prog.info? 109).map (fun i => (i.zero.map (·.cells.size))) = some (some 1) := by kernel_rfl
theorem ty110 : tyI Try.prog 110 = some (1, 1, false) := by kernel_rfl
theorem u110 : Try.prog.underlying 110 = some (TypeDesc.int IntKind.u8) := by kernel_rfl
theorem z110 : zeroOf Try.prog 110 = true := by kernel_rfl
theorem zc110 : (Try.prog.info? 110).map (fun i => (i.zero.map (·.cells.size))) = some (some 1) := by kernel_rfl
theorem ty113 : tyI Try.prog 113 = some (1, 4, false) := by kernel_rfl
theorem u113 : Try.prog.underlying 113 = some (TypeDesc.int IntKind.i32) := by kernel_rfl
theorem z113 : zeroOf Try.prog 113 = true := by kernel_rfl
theorem zc113 : (Try.prog.info? 113).map (fun i => (i.zero.map (·.cells.size))) = some (some 1) := by kernel_rfl
theorem ty114 : tyI Try.prog 114 = some (1, 4, false) := by kernel_rfl
theorem u114 : Try.prog.underlying 114 = some (TypeDesc.int IntKind.i32) := by kernel_rfl
theorem z114 : zeroOf Try.prog 114 = true := by kernel_rfl
theorem zc114 : (Try.prog.info? 114).map (fun i => (i.zero.map (·.cells.size))) = some (some 1) := by kernel_rfl
theorem ty115 : tyI Try.prog 115 = some (11, 48, true) := by kernel_rfl
theorem z115 : zeroOf Try.prog 115 = true := by kernel_rfl
theorem zc115 : (Try.prog.info? 115).map (fun i => (i.zero.map (·.cells.size))) = some (some 11) := by kernel_rfl
theorem us115 : Try.prog.underlying 115 = some (TypeDesc.struct (Array.mk [Field.mk "Size_" 12 0 false "" "" 0, Field.mk "PtrBytes" 12 1 false "" "" 8, Field.mk "Hash" 108 2 false "" "" 16, Field.mk "TFlag" 109 3 false "" "" 20, Field.mk "Align_" 5 4 false "" "" 21, Field.mk "FieldAlign_" 5 5 false "" "" 22, Field.mk "Kind_" 110 6 false "" "" 23, Field.mk "Equal" 111 7 false "" "" 24, Field.mk "GCData" 112 8 false "" "" 32, Field.mk "Str" 113 9 false "" "" 40, Field.mk "PtrToThis" 114 10 false "" "" 44])) := by kernel_rfl
theorem fd115_0 : fldB Try.prog 115 0 = some 0 := by kernel_rfl
theorem fd115_1 : fldB Try.prog 115 1 = some 1 := by kernel_rfl
theorem fd115_2 : fldB Try.prog 115 2 = some 2 := by kernel_rfl
theorem fd115_3 : fldB Try.prog 115 3 = some 3 := by kernel_rfl
theorem fd115_4 : fldB Try.prog 115 4 = some 4 := by kernel_rfl
theorem fd115_5 : fldB Try.prog 115 5 = some 5 := by kernel_rfl
theorem fd115_6 : fldB Try.prog 115 6 = some 6 := by kernel_rfl
theorem fd115_7 : fldB Try.prog 115 7 = some 7 := by kernel_rfl
theorem fd115_8 : fldB Try.prog 115 8 = some 8 := by kernel_rfl
theorem fd115_9 : fldB Try.prog 115 9 = some 9 := by kernel_rfl
theorem fd115_10 : fldB Try.prog 115 10 = some 10 := by kernel_rfl
theorem ty116 : tyI Try.prog 116 = some (11, 48, true) := by kernel_rfl
theorem z116 : zeroOf Try.prog 116 = true := by kernel_rfl
theorem zc116 : (Try.prog.info? 116).map (fun i => (i.zero.map (·.cells.size))) = some (some 11) := by kernel_rfl
theorem us116 : Try.prog.underlying 116 = some (TypeDesc.struct (Array.mk [Field.mk "Size_" 12 0 false "" "" 0, Field.mk "PtrBytes" 12 1 false "" "" 8, Field.mk "Hash" 108 2 false "" "" 16, Field.mk "TFlag" 109 3 false "" "" 20, Field.mk "Align_" 5 4 false "" "" 21, Field.mk "FieldAlign_" 5 5 false "" "" 22, Field.mk "Kind_" 110 6 false "" "" 23, Field.mk "Equal" 111 7 false "" "" 24, Field.mk "GCData" 112 8 false "" "" 32, Field.mk "Str" 113 9 false "" "" 40, Field.mk "PtrToThis" 114 10 false "" "" 44])) := by kernel_rfl
theorem fd116_0 : fldB Try.prog 116 0 = some 0 := by kernel_rfl
theorem fd116_1 : fldB Try.prog 116 1 = some 1 := by kernel_rfl
theorem fd116_2 : fldB Try.prog 116 2 = some 2 := by kernel_rfl
theorem fd116_3 : fldB Try.prog 116 3 = some 3 := by kernel_rfl
theorem fd116_4 : fldB Try.prog 116 4 = some 4 := by kernel_rfl
theorem fd116_5 : fldB Try.prog 116 5 = some 5 := by kernel_rfl
theorem fd116_6 : fldB Try.prog 116 6 = some 6 := by kernel_rfl
theorem fd116_7 : fldB Try.prog 116 7 = some 7 := by kernel_rfl
theorem fd116_8 : fldB Try.prog 116 8 = some 8 := by kernel_rfl
theorem fd116_9 : fldB Try.prog 116 9 = some 9 := by kernel_rfl
theorem fd116_10 : fldB Try.prog 116 10 = some 10 := by kernel_rfl
end Go.Proofs.Yteephmhilnlkpaa
