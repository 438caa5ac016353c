/- What the program says of its types, printed by program. -/
import Derived.Test.YtokppocbfpjngaaMem
import Derived.Test.YtokppocbfpjngaaProg
import Derived.KernelRfl
namespace Go.Proofs.Ytokppocbfpjngaa
open Go Go.Sh Go.Proofs
theorem ty2 : tyI Try.prog 2 = some (1, 8, false) := by kernel_rfl
theorem u2 : Try.prog.underlying 2 = some (TypeDesc.int IntKind.i64) := by kernel_rfl
theorem z2 : zeroOf Try.prog 2 = true := by kernel_rfl
theorem zc2 : (Try.prog.info? 2).map (fun i => (i.zero.map (·.cells.size))) = some (some 1) := by kernel_rfl
theorem ty3 : tyI Try.prog 3 = some (1, 8, false) := by kernel_rfl
theorem u3 : Try.prog.underlying 3 = some (TypeDesc.int IntKind.i64) := by kernel_rfl
theorem z3 : zeroOf Try.prog 3 = true := by kernel_rfl
theorem zc3 : (Try.prog.info? 3).map (fun i => (i.zero.map (·.cells.size))) = some (some 1) := by kernel_rfl
theorem ty4 : tyI Try.prog 4 = some (1, 1, false) := by kernel_rfl
theorem u4 : Try.prog.underlying 4 = some TypeDesc.bool := by kernel_rfl
theorem z4 : zeroOf Try.prog 4 = true := by kernel_rfl
theorem zc4 : (Try.prog.info? 4).map (fun i => (i.zero.map (·.cells.size))) = some (some 1) := by kernel_rfl
theorem ty5 : tyI Try.prog 5 = some (1, 1, false) := by kernel_rfl
theorem u5 : Try.prog.underlying 5 = some (TypeDesc.int IntKind.u8) := by kernel_rfl
theorem z5 : zeroOf Try.prog 5 = true := by kernel_rfl
theorem zc5 : (Try.prog.info? 5).map (fun i => (i.zero.map (·.cells.size))) = some (some 1) := by kernel_rfl
theorem ty6 : tyI Try.prog 6 = some (1, 1, false) := by kernel_rfl
theorem u6 : Try.prog.underlying 6 = some (TypeDesc.int IntKind.u8) := by kernel_rfl
theorem z6 : zeroOf Try.prog 6 = true := by kernel_rfl
theorem zc6 : (Try.prog.info? 6).map (fun i => (i.zero.map (·.cells.size))) = some (some 1) := by kernel_rfl
theorem ty7 : tyI Try.prog 7 = some (4, 24, true) := by kernel_rfl
theorem z7 : zeroOf Try.prog 7 = true := by kernel_rfl
theorem zc7 : (Try.prog.info? 7).map (fun i => (i.zero.map (·.cells.size))) = some (some 4) := by kernel_rfl
theorem us7 : Try.prog.underlying 7 = some (TypeDesc.struct (Array.mk [Field.mk "x" 2 0 false "" "runtime" 0, Field.mk "y" 3 1 false "" "runtime" 8, Field.mk "signed" 4 2 false "" "runtime" 16, Field.mk "code" 6 3 false "" "runtime" 17])) := by kernel_rfl
theorem zl7 : zeroL Try.prog 7 = some [.int .i64 0, .int .i64 0, .bool false, .int .u8 0] := by kernel_rfl
theorem fd7_0 : fldB Try.prog 7 0 = some 0 := by kernel_rfl
theorem fd7_1 : fldB Try.prog 7 1 = some 1 := by kernel_rfl
theorem fd7_2 : fldB Try.prog 7 2 = some 2 := by kernel_rfl
theorem fd7_3 : fldB Try.prog 7 3 = some 3 := by kernel_rfl
theorem ty8 : tyI Try.prog 8 = some (4, 24, true) := by kernel_rfl
theorem z8 : zeroOf Try.prog 8 = true := by kernel_rfl
theorem zc8 : (Try.prog.info? 8).map (fun i => (i.zero.map (·.cells.size))) = some (some 4) := by kernel_rfl
theorem us8 : Try.prog.underlying 8 = some (TypeDesc.struct (Array.mk [Field.mk "x" 2 0 false "" "runtime" 0, Field.mk "y" 3 1 false "" "runtime" 8, Field.mk "signed" 4 2 false "" "runtime" 16, Field.mk "code" 6 3 false "" "runtime" 17])) := by kernel_rfl
theorem zl8 : zeroL Try.prog 8 = some [.int .i64 0, .int .i64 0, .bool false, .int .u8 0] := by kernel_rfl
theorem fd8_0 : fldB Try.prog 8 0 = some 0 := by kernel_rfl
theorem fd8_1 : fldB Try.prog 8 1 = some 1 := by kernel_rfl
theorem fd8_2 : fldB Try.prog 8 2 = some 2 := by kernel_rfl
theorem fd8_3 : fldB Try.prog 8 3 = some 3 := by kernel_rfl
theorem ty9 : tyI Try.prog 9 = some (1, 16, false) := by kernel_rfl
theorem u9 : Try.prog.underlying 9 = some TypeDesc.string := by kernel_rfl
theorem z9 : zeroOf Try.prog 9 = true := by kernel_rfl
theorem zc9 : (Try.prog.info? 9).map (fun i => (i.zero.map (·.cells.size))) = some (some 1) := by kernel_rfl
theorem ty10 : tyI Try.prog 10 = some (1, 16, false) := by kernel_rfl
theorem u10 : Try.prog.underlying 10 = some TypeDesc.string := by kernel_rfl
theorem z10 : zeroOf Try.prog 10 = true := by kernel_rfl
theorem zc10 : (Try.prog.info? 10).map (fun i => (i.zero.map (·.cells.size))) = some (some 1) := by kernel_rfl
theorem ty11 : tyI Try.prog 11 = some (1, 16, false) := by kernel_rfl
theorem u11 : Try.prog.underlying 11 = some TypeDesc.string := by kernel_rfl
theorem z11 : zeroOf Try.prog 11 = true := by kernel_rfl
theorem zc11 : (Try.prog.info? 11).map (fun i => (i.zero.map (·.cells.size))) = some (some 1) := by kernel_rfl
theorem ty12 : tyI Try.prog 12 = some (1, 8, false) := by kernel_rfl
theorem u12 : Try.prog.underlying 12 = some (TypeDesc.int IntKind.u64) := by kernel_rfl
theorem z12 : zeroOf Try.prog 12 = true := by kernel_rfl
theorem zc12 : (Try.prog.info? 12).map (fun i => (i.zero.map (·.cells.size))) = some (some 1) := by kernel_rfl
theorem ty13 : tyI Try.prog 13 = some (2, 24, true) := by kernel_rfl
theorem z13 : zeroOf Try.prog 13 = true := by kernel_rfl
theorem zc13 : (Try.prog.info? 13).map (fun i => (i.zero.map (·.cells.size))) = some (some 2) := by kernel_rfl
theorem us13 : Try.prog.underlying 13 = some (TypeDesc.struct (Array.mk [Field.mk "msg" 9 0 false "" "runtime" 0, Field.mk "addr" 12 1 false "" "runtime" 16])) := by kernel_rfl
theorem zl13 : zeroL Try.prog 13 = some [.string ByteArray.empty, .int .u64 0] := by kernel_rfl
theorem fd13_0 : fldB Try.prog 13 0 = some 0 := by kernel_rfl
theorem fd13_1 : fldB Try.prog 13 1 = some 1 := by kernel_rfl
theorem ty14 : tyI Try.prog 14 = some (2, 24, true) := by kernel_rfl
theorem z14 : zeroOf Try.prog 14 = true := by kernel_rfl
theorem zc14 : (Try.prog.info? 14).map (fun i => (i.zero.map (·.cells.size))) = some (some 2) := by kernel_rfl
theorem us14 : Try.prog.underlying 14 = some (TypeDesc.struct (Array.mk [Field.mk "msg" 9 0 false "" "runtime" 0, Field.mk "addr" 12 1 false "" "runtime" 16])) := by kernel_rfl
theorem zl14 : zeroL Try.prog 14 = some [.string ByteArray.empty, .int .u64 0] := by kernel_rfl
theorem fd14_0 : fldB Try.prog 14 0 = some 0 := by kernel_rfl
theorem fd14_1 : fldB Try.prog 14 1 = some 1 := by kernel_rfl
theorem ty18 : tyI Try.prog 18 = some (1, 8, true) := by kernel_rfl
theorem z18 : zeroOf Try.prog 18 = true := by kernel_rfl
theorem zc18 : (Try.prog.info? 18).map (fun i => (i.zero.map (·.cells.size))) = some (some 1) := by kernel_rfl
theorem fd18_0 : fldB Try.prog 18 0 = some 0 := by kernel_rfl
theorem ty19 : tyI Try.prog 19 = some (1, 8, true) := by kernel_rfl
theorem z19 : zeroOf Try.prog 19 = true := by kernel_rfl
theorem zc19 : (Try.prog.info? 19).map (fun i => (i.zero.map (·.cells.size))) = some (some 1) := by kernel_rfl
theorem fd19_0 : fldB Try.prog 19 0 = some 0 := by kernel_rfl
theorem ty21 : tyI Try.prog 21 = some (1, 4, false) := by kernel_rfl
theorem u21 : Try.prog.underlying 21 = some (TypeDesc.int IntKind.i32) := by kernel_rfl
theorem z21 : zeroOf Try.prog 21 = true := by kernel_rfl
theorem zc21 : (Try.prog.info? 21).map (fun i => (i.zero.map (·.cells.size))) = some (some 1) := by kernel_rfl
theorem ty22 : tyI Try.prog 22 = some (1, 24, false) := by kernel_rfl
theorem u22 : Try.prog.underlying 22 = some (TypeDesc.slice 9) := by kernel_rfl
theorem z22 : zeroOf Try.prog 22 = true := by kernel_rfl
theorem zc22 : (Try.prog.info? 22).map (fun i => (i.zero.map (·.cells.size))) = some (some 1) := by kernel_rfl
theorem ty23 : tyI Try.prog 23 = some (1, 24, false) := by kernel_rfl
theorem u23 : Try.prog.underlying 23 = some (TypeDesc.slice 3) := by kernel_rfl
theorem z23 : zeroOf Try.prog 23 = true := by kernel_rfl
theorem zc23 : (Try.prog.info? 23).map (fun i => (i.zero.map (·.cells.size))) = some (some 1) := by kernel_rfl
theorem ty24 : tyI Try.prog 24 = some (1, 24, false) := by kernel_rfl
theorem u24 : Try.prog.underlying 24 = some (TypeDesc.slice 90) := by kernel_rfl
theorem z24 : zeroOf Try.prog 24 = true := by kernel_rfl
theorem zc24 : (Try.prog.info? 24).map (fun i => (i.zero.map (·.cells.size))) = some (some 1) := by kernel_rfl
theorem ty25 : tyI Try.prog 25 = some (5, 120, true) := by kernel_rfl
theorem z25 : zeroOf Try.prog 25 = true := by kernel_rfl
theorem zc25 : (Try.prog.info? 25).map (fun i => (i.zero.map (·.cells.size))) = some (some 5) := by kernel_rfl
theorem us25 : Try.prog.underlying 25 = some (TypeDesc.struct (Array.mk [Field.mk "Globals" 22 0 false "" "" 0, Field.mk "Locks" 22 1 false "" "" 24, Field.mk "Procs" 22 2 false "" "" 48, Field.mk "Entry" 23 3 false "" "" 72, Field.mk "Ins" 24 4 false "" "" 96])) := by kernel_rfl
theorem zl25 : zeroL Try.prog 25 = some [.slice none 0 0, .slice none 0 0, .slice none 0 0, .slice none 0 0, .slice none 0 0] := by kernel_rfl
theorem fd25_0 : fldB Try.prog 25 0 = some 0 := by kernel_rfl
theorem fd25_1 : fldB Try.prog 25 1 = some 1 := by kernel_rfl
theorem fd25_2 : fldB Try.prog 25 2 = some 2 := by kernel_rfl
theorem fd25_3 : fldB Try.prog 25 3 = some 3 := by kernel_rfl
theorem fd25_4 : fldB Try.prog 25 4 = some 4 := by kernel_rfl
theorem ty26 : tyI Try.prog 26 = some (5, 120, true) := by kernel_rfl
theorem z26 : zeroOf Try.prog 26 = true := by kernel_rfl
theorem zc26 : (Try.prog.info? 26).map (fun i => (i.zero.map (·.cells.size))) = some (some 5) := by kernel_rfl
theorem us26 : Try.prog.underlying 26 = some (TypeDesc.struct (Array.mk [Field.mk "Globals" 22 0 false "" "" 0, Field.mk "Locks" 22 1 false "" "" 24, Field.mk "Procs" 22 2 false "" "" 48, Field.mk "Entry" 23 3 false "" "" 72, Field.mk "Ins" 24 4 false "" "" 96])) := by kernel_rfl
theorem zl26 : zeroL Try.prog 26 = some [.slice none 0 0, .slice none 0 0, .slice none 0 0, .slice none 0 0, .slice none 0 0] := by kernel_rfl
theorem fd26_0 : fldB Try.prog 26 0 = some 0 := by kernel_rfl
theorem fd26_1 : fldB Try.prog 26 1 = some 1 := by kernel_rfl
theorem fd26_2 : fldB Try.prog 26 2 = some 2 := by kernel_rfl
theorem fd26_3 : fldB Try.prog 26 3 = some 3 := by kernel_rfl
theorem fd26_4 : fldB Try.prog 26 4 = some 4 := by kernel_rfl
theorem ty29 : tyI Try.prog 29 = some (1, 24, false) := by kernel_rfl
theorem u29 : Try.prog.underlying 29 = some (TypeDesc.slice 95) := by kernel_rfl
theorem z29 : zeroOf Try.prog 29 = true := by kernel_rfl
theorem zc29 : (Try.prog.info? 29).map (fun i => (i.zero.map (·.cells.size))) = some (some 1) := by kernel_rfl
theorem ty30 : tyI Try.prog 30 = some (5, 120, true) := by kernel_rfl
theorem z30 : zeroOf Try.prog 30 = true := by kernel_rfl
theorem zc30 : (Try.prog.info? 30).map (fun i => (i.zero.map (·.cells.size))) = some (some 5) := by kernel_rfl
theorem us30 : Try.prog.underlying 30 = some (TypeDesc.struct (Array.mk [Field.mk "Globals" 22 0 false "" "" 0, Field.mk "Locks" 22 1 false "" "" 24, Field.mk "Procs" 22 2 false "" "" 48, Field.mk "Entry" 23 3 false "" "" 72, Field.mk "Ins" 29 4 false "" "" 96])) := by kernel_rfl
theorem zl30 : zeroL Try.prog 30 = some [.slice none 0 0, .slice none 0 0, .slice none 0 0, .slice none 0 0, .slice none 0 0] := by kernel_rfl
theorem fd30_0 : fldB Try.prog 30 0 = some 0 := by kernel_rfl
theorem fd30_1 : fldB Try.prog 30 1 = some 1 := by kernel_rfl
theorem fd30_2 : fldB Try.prog 30 2 = some 2 := by kernel_rfl
theorem fd30_3 : fldB Try.prog 30 3 = some 3 := by kernel_rfl
theorem fd30_4 : fldB Try.prog 30 4 = some 4 := by kernel_rfl
theorem ty31 : tyI Try.prog 31 = some (5, 120, true) := by kernel_rfl
theorem z31 : zeroOf Try.prog 31 = true := by kernel_rfl
theorem zc31 : (Try.prog.info? 31).map (fun i => (i.zero.map (·.cells.size))) = some (some 5) := by kernel_rfl
theorem us31 : Try.prog.underlying 31 = some (TypeDesc.struct (Array.mk [Field.mk "Globals" 22 0 false "" "" 0, Field.mk "Locks" 22 1 false "" "" 24, Field.mk "Procs" 22 2 false "" "" 48, Field.mk "Entry" 23 3 false "" "" 72, Field.mk "Ins" 29 4 false "" "" 96])) := by kernel_rfl
theorem zl31 : zeroL Try.prog 31 = some [.slice none 0 0, .slice none 0 0, .slice none 0 0, .slice none 0 0, .slice none 0 0] := by kernel_rfl
theorem fd31_0 : fldB Try.prog 31 0 = some 0 := by kernel_rfl
theorem fd31_1 : fldB Try.prog 31 1 = some 1 := by kernel_rfl
theorem fd31_2 : fldB Try.prog 31 2 = some 2 := by kernel_rfl
theorem fd31_3 : fldB Try.prog 31 3 = some 3 := by kernel_rfl
theorem fd31_4 : fldB Try.prog 31 4 = some 4 := by kernel_rfl
theorem ty37 : tyI Try.prog 37 = some (1, 24, false) := by kernel_rfl
theorem u37 : Try.prog.underlying 37 = some (TypeDesc.slice 23) := by kernel_rfl
theorem z37 : zeroOf Try.prog 37 = true := by kernel_rfl
theorem zc37 : (Try.prog.info? 37).map (fun i => (i.zero.map (·.cells.size))) = some (some 1) := by kernel_rfl
theorem ty38 : tyI Try.prog 38 = some (3, 72, true) := by kernel_rfl
theorem z38 : zeroOf Try.prog 38 = true := by kernel_rfl
theorem zc38 : (Try.prog.info? 38).map (fun i => (i.zero.map (·.cells.size))) = some (some 3) := by kernel_rfl
theorem us38 : Try.prog.underlying 38 = some (TypeDesc.struct (Array.mk [Field.mk "Vars" 23 0 false "" "" 0, Field.mk "Owner" 23 1 false "" "" 24, Field.mk "Stacks" 37 2 false "" "" 48])) := by kernel_rfl
theorem zl38 : zeroL Try.prog 38 = some [.slice none 0 0, .slice none 0 0, .slice none 0 0] := by kernel_rfl
theorem fd38_0 : fldB Try.prog 38 0 = some 0 := by kernel_rfl
theorem fd38_1 : fldB Try.prog 38 1 = some 1 := by kernel_rfl
theorem fd38_2 : fldB Try.prog 38 2 = some 2 := by kernel_rfl
theorem ty39 : tyI Try.prog 39 = some (3, 72, true) := by kernel_rfl
theorem z39 : zeroOf Try.prog 39 = true := by kernel_rfl
theorem zc39 : (Try.prog.info? 39).map (fun i => (i.zero.map (·.cells.size))) = some (some 3) := by kernel_rfl
theorem us39 : Try.prog.underlying 39 = some (TypeDesc.struct (Array.mk [Field.mk "Vars" 23 0 false "" "" 0, Field.mk "Owner" 23 1 false "" "" 24, Field.mk "Stacks" 37 2 false "" "" 48])) := by kernel_rfl
theorem zl39 : zeroL Try.prog 39 = some [.slice none 0 0, .slice none 0 0, .slice none 0 0] := by kernel_rfl
theorem fd39_0 : fldB Try.prog 39 0 = some 0 := by kernel_rfl
theorem fd39_1 : fldB Try.prog 39 1 = some 1 := by kernel_rfl
theorem fd39_2 : fldB Try.prog 39 2 = some 2 := by kernel_rfl
theorem ty42 : tyI Try.prog 42 = some (3, 72, true) := by kernel_rfl
theorem z42 : zeroOf Try.prog 42 = true := by kernel_rfl
theorem zc42 : (Try.prog.info? 42).map (fun i => (i.zero.map (·.cells.size))) = some (some 3) := by kernel_rfl
theorem us42 : Try.prog.underlying 42 = some (TypeDesc.struct (Array.mk [Field.mk "Vars" 23 0 false "" "" 0, Field.mk "Owner" 23 1 false "" "" 24, Field.mk "Stacks" 37 2 false "" "" 48])) := by kernel_rfl
theorem zl42 : zeroL Try.prog 42 = some [.slice none 0 0, .slice none 0 0, .slice none 0 0] := by kernel_rfl
theorem fd42_0 : fldB Try.prog 42 0 = some 0 := by kernel_rfl
theorem fd42_1 : fldB Try.prog 42 1 = some 1 := by kernel_rfl
theorem fd42_2 : fldB Try.prog 42 2 = some 2 := by kernel_rfl
theorem ty50 : tyI Try.prog 50 = some (1, 24, false) := by kernel_rfl
theorem u50 : Try.prog.underlying 50 = some (TypeDesc.slice 80) := by kernel_rfl
theorem z50 : zeroOf Try.prog 50 = true := by kernel_rfl
theorem zc50 : (Try.prog.info? 50).map (fun i => (i.zero.map (·.cells.size))) = some (some 1) := by kernel_rfl
theorem ty79 : tyI Try.prog 79 = some (4, 32, true) := by kernel_rfl
theorem z79 : zeroOf Try.prog 79 = true := by kernel_rfl
theorem zc79 : (Try.prog.info? 79).map (fun i => (i.zero.map (·.cells.size))) = some (some 4) := by kernel_rfl
theorem us79 : Try.prog.underlying 79 = some (TypeDesc.struct (Array.mk [Field.mk "At" 3 0 false "" "" 0, Field.mk "Global" 3 1 false "" "" 8, Field.mk "Write" 4 2 false "" "" 16, Field.mk "Held" 3 3 false "" "" 24])) := by kernel_rfl
theorem zl79 : zeroL Try.prog 79 = some [.int .i64 0, .int .i64 0, .bool false, .int .i64 0] := by kernel_rfl
theorem fd79_0 : fldB Try.prog 79 0 = some 0 := by kernel_rfl
theorem fd79_1 : fldB Try.prog 79 1 = some 1 := by kernel_rfl
theorem fd79_2 : fldB Try.prog 79 2 = some 2 := by kernel_rfl
theorem fd79_3 : fldB Try.prog 79 3 = some 3 := by kernel_rfl
theorem ty80 : tyI Try.prog 80 = some (4, 32, true) := by kernel_rfl
theorem z80 : zeroOf Try.prog 80 = true := by kernel_rfl
theorem zc80 : (Try.prog.info? 80).map (fun i => (i.zero.map (·.cells.size))) = some (some 4) := by kernel_rfl
theorem us80 : Try.prog.underlying 80 = some (TypeDesc.struct (Array.mk [Field.mk "At" 3 0 false "" "" 0, Field.mk "Global" 3 1 false "" "" 8, Field.mk "Write" 4 2 false "" "" 16, Field.mk "Held" 3 3 false "" "" 24])) := by kernel_rfl
theorem zl80 : zeroL Try.prog 80 = some [.int .i64 0, .int .i64 0, .bool false, .int .i64 0] := by kernel_rfl
theorem fd80_0 : fldB Try.prog 80 0 = some 0 := by kernel_rfl
theorem fd80_1 : fldB Try.prog 80 1 = some 1 := by kernel_rfl
theorem fd80_2 : fldB Try.prog 80 2 = some 2 := by kernel_rfl
theorem fd80_3 : fldB Try.prog 80 3 = some 3 := by kernel_rfl
theorem ty86 : tyI Try.prog 86 = some (1, 24, false) := by kernel_rfl
theorem u86 : Try.prog.underlying 86 = some (TypeDesc.slice 88) := by kernel_rfl
theorem z86 : zeroOf Try.prog 86 = true := by kernel_rfl
theorem zc86 : (Try.prog.info? 86).map (fun i => (i.zero.map (·.cells.size))) = some (some 1) := by kernel_rfl
theorem ty87 : tyI Try.prog 87 = some (4, 56, true) := by kernel_rfl
theorem z87 : zeroOf Try.prog 87 = true := by kernel_rfl
theorem zc87 : (Try.prog.info? 87).map (fun i => (i.zero.map (·.cells.size))) = some (some 4) := by kernel_rfl
theorem us87 : Try.prog.underlying 87 = some (TypeDesc.struct (Array.mk [Field.mk "Kind" 3 0 false "" "" 0, Field.mk "Num" 3 1 false "" "" 8, Field.mk "Name" 9 2 false "" "" 16, Field.mk "Kids" 86 3 false "" "" 32])) := by kernel_rfl
theorem zl87 : zeroL Try.prog 87 = some [.int .i64 0, .int .i64 0, .string ByteArray.empty, .slice none 0 0] := by kernel_rfl
theorem fd87_0 : fldB Try.prog 87 0 = some 0 := by kernel_rfl
theorem fd87_1 : fldB Try.prog 87 1 = some 1 := by kernel_rfl
theorem fd87_2 : fldB Try.prog 87 2 = some 2 := by kernel_rfl
theorem fd87_3 : fldB Try.prog 87 3 = some 3 := by kernel_rfl
theorem ty88 : tyI Try.prog 88 = some (4, 56, true) := by kernel_rfl
theorem z88 : zeroOf Try.prog 88 = true := by kernel_rfl
theorem zc88 : (Try.prog.info? 88).map (fun i => (i.zero.map (·.cells.size))) = some (some 4) := by kernel_rfl
theorem us88 : Try.prog.underlying 88 = some (TypeDesc.struct (Array.mk [Field.mk "Kind" 3 0 false "" "" 0, Field.mk "Num" 3 1 false "" "" 8, Field.mk "Name" 9 2 false "" "" 16, Field.mk "Kids" 86 3 false "" "" 32])) := by kernel_rfl
theorem zl88 : zeroL Try.prog 88 = some [.int .i64 0, .int .i64 0, .string ByteArray.empty, .slice none 0 0] := by kernel_rfl
theorem fd88_0 : fldB Try.prog 88 0 = some 0 := by kernel_rfl
theorem fd88_1 : fldB Try.prog 88 1 = some 1 := by kernel_rfl
theorem fd88_2 : fldB Try.prog 88 2 = some 2 := by kernel_rfl
theorem fd88_3 : fldB Try.prog 88 3 = some 3 := by kernel_rfl
theorem ty89 : tyI Try.prog 89 = some (7, 80, true) := by kernel_rfl
theorem z89 : zeroOf Try.prog 89 = true := by kernel_rfl
theorem zc89 : (Try.prog.info? 89).map (fun i => (i.zero.map (·.cells.size))) = some (some 7) := by kernel_rfl
theorem us89 : Try.prog.underlying 89 = some (TypeDesc.struct (Array.mk [Field.mk "Op" 3 0 false "" "" 0, Field.mk "Arg" 3 1 false "" "" 8, Field.mk "Term" 88 2 false "" "" 16, Field.mk "To" 3 6 false "" "" 72])) := by kernel_rfl
theorem zl89 : zeroL Try.prog 89 = some [.int .i64 0, .int .i64 0, .int .i64 0, .int .i64 0, .string ByteArray.empty, .slice none 0 0, .int .i64 0] := by kernel_rfl
theorem fd89_0 : fldB Try.prog 89 0 = some 0 := by kernel_rfl
theorem fd89_1 : fldB Try.prog 89 1 = some 1 := by kernel_rfl
theorem fd89_2 : fldB Try.prog 89 2 = some 2 := by kernel_rfl
theorem fd89_3 : fldB Try.prog 89 3 = some 6 := by kernel_rfl
theorem ty90 : tyI Try.prog 90 = some (7, 80, true) := by kernel_rfl
theorem z90 : zeroOf Try.prog 90 = true := by kernel_rfl
theorem zc90 : (Try.prog.info? 90).map (fun i => (i.zero.map (·.cells.size))) = some (some 7) := by kernel_rfl
theorem us90 : Try.prog.underlying 90 = some (TypeDesc.struct (Array.mk [Field.mk "Op" 3 0 false "" "" 0, Field.mk "Arg" 3 1 false "" "" 8, Field.mk "Term" 88 2 false "" "" 16, Field.mk "To" 3 6 false "" "" 72])) := by kernel_rfl
theorem zl90 : zeroL Try.prog 90 = some [.int .i64 0, .int .i64 0, .int .i64 0, .int .i64 0, .string ByteArray.empty, .slice none 0 0, .int .i64 0] := by kernel_rfl
theorem fd90_0 : fldB Try.prog 90 0 = some 0 := by kernel_rfl
theorem fd90_1 : fldB Try.prog 90 1 = some 1 := by kernel_rfl
theorem fd90_2 : fldB Try.prog 90 2 = some 2 := by kernel_rfl
theorem fd90_3 : fldB Try.prog 90 3 = some 6 := by kernel_rfl
theorem ty91 : tyI Try.prog 91 = some (1, 24, false) := by kernel_rfl
theorem u91 : Try.prog.underlying 91 = some (TypeDesc.slice 93) := by kernel_rfl
theorem z91 : zeroOf Try.prog 91 = true := by kernel_rfl
theorem zc91 : (Try.prog.info? 91).map (fun i => (i.zero.map (·.cells.size))) = some (some 1) := by kernel_rfl
theorem ty92 : tyI Try.prog 92 = some (4, 56, true) := by kernel_rfl
theorem z92 : zeroOf Try.prog 92 = true := by kernel_rfl
theorem zc92 : (Try.prog.info? 92).map (fun i => (i.zero.map (·.cells.size))) = some (some 4) := by kernel_rfl
theorem us92 : Try.prog.underlying 92 = some (TypeDesc.struct (Array.mk [Field.mk "Kind" 3 0 false "" "" 0, Field.mk "Num" 3 1 false "" "" 8, Field.mk "Name" 9 2 false "" "" 16, Field.mk "Kids" 91 3 false "" "" 32])) := by kernel_rfl
theorem zl92 : zeroL Try.prog 92 = some [.int .i64 0, .int .i64 0, .string ByteArray.empty, .slice none 0 0] := by kernel_rfl
theorem fd92_0 : fldB Try.prog 92 0 = some 0 := by kernel_rfl
theorem fd92_1 : fldB Try.prog 92 1 = some 1 := by kernel_rfl
theorem fd92_2 : fldB Try.prog 92 2 = some 2 := by kernel_rfl
theorem fd92_3 : fldB Try.prog 92 3 = some 3 := by kernel_rfl
theorem ty93 : tyI Try.prog 93 = some (4, 56, true) := by kernel_rfl
theorem z93 : zeroOf Try.prog 93 = true := by kernel_rfl
theorem zc93 : (Try.prog.info? 93).map (fun i => (i.zero.map (·.cells.size))) = some (some 4) := by kernel_rfl
theorem us93 : Try.prog.underlying 93 = some (TypeDesc.struct (Array.mk [Field.mk "Kind" 3 0 false "" "" 0, Field.mk "Num" 3 1 false "" "" 8, Field.mk "Name" 9 2 false "" "" 16, Field.mk "Kids" 91 3 false "" "" 32])) := by kernel_rfl
theorem zl93 : zeroL Try.prog 93 = some [.int .i64 0, .int .i64 0, .string ByteArray.empty, .slice none 0 0] := by kernel_rfl
theorem fd93_0 : fldB Try.prog 93 0 = some 0 := by kernel_rfl
theorem fd93_1 : fldB Try.prog 93 1 = some 1 := by kernel_rfl
theorem fd93_2 : fldB Try.prog 93 2 = some 2 := by kernel_rfl
theorem fd93_3 : fldB Try.prog 93 3 = some 3 := by kernel_rfl
theorem ty94 : tyI Try.prog 94 = some (7, 80, true) := by kernel_rfl
theorem z94 : zeroOf Try.prog 94 = true := by kernel_rfl
theorem zc94 : (Try.prog.info? 94).map (fun i => (i.zero.map (·.cells.size))) = some (some 7) := by kernel_rfl
theorem us94 : Try.prog.underlying 94 = some (TypeDesc.struct (Array.mk [Field.mk "Op" 3 0 false "" "" 0, Field.mk "Arg" 3 1 false "" "" 8, Field.mk "Term" 93 2 false "" "" 16, Field.mk "To" 3 6 false "" "" 72])) := by kernel_rfl
theorem zl94 : zeroL Try.prog 94 = some [.int .i64 0, .int .i64 0, .int .i64 0, .int .i64 0, .string ByteArray.empty, .slice none 0 0, .int .i64 0] := by kernel_rfl
theorem fd94_0 : fldB Try.prog 94 0 = some 0 := by kernel_rfl
theorem fd94_1 : fldB Try.prog 94 1 = some 1 := by kernel_rfl
theorem fd94_2 : fldB Try.prog 94 2 = some 2 := by kernel_rfl
theorem fd94_3 : fldB Try.prog 94 3 = some 6 := by kernel_rfl
theorem ty95 : tyI Try.prog 95 = some (7, 80, true) := by kernel_rfl
theorem z95 : zeroOf Try.prog 95 = true := by kernel_rfl
theorem zc95 : (Try.prog.info? 95).map (fun i => (i.zero.map (·.cells.size))) = some (some 7) := by kernel_rfl
theorem us95 : Try.prog.underlying 95 = some (TypeDesc.struct (Array.mk [Field.mk "Op" 3 0 false "" "" 0, Field.mk "Arg" 3 1 false "" "" 8, Field.mk "Term" 93 2 false "" "" 16, Field.mk "To" 3 6 false "" "" 72])) := by kernel_rfl
theorem zl95 : zeroL Try.prog 95 = some [.int .i64 0, .int .i64 0, .int .i64 0, .int .i64 0, .string ByteArray.empty, .slice none 0 0, .int .i64 0] := by kernel_rfl
theorem fd95_0 : fldB Try.prog 95 0 = some 0 := by kernel_rfl
theorem fd95_1 : fldB Try.prog 95 1 = some 1 := by kernel_rfl
theorem fd95_2 : fldB Try.prog 95 2 = some 2 := by kernel_rfl
theorem fd95_3 : fldB Try.prog 95 3 = some 6 := by kernel_rfl
theorem ty106 : tyI Try.prog 106 = some (1, 8, false) := by kernel_rfl
theorem u106 : Try.prog.underlying 106 = some (TypeDesc.int IntKind.u64) := by kernel_rfl
theorem z106 : zeroOf Try.prog 106 = true := by kernel_rfl
theorem zc106 : (Try.prog.info? 106).map (fun i => (i.zero.map (·.cells.size))) = some (some 1) := by kernel_rfl
theorem ty116 : tyI Try.prog 116 = some (1, 24, false) := by kernel_rfl
theorem u116 : Try.prog.underlying 116 = some (TypeDesc.slice 5) := by kernel_rfl
theorem z116 : zeroOf Try.prog 116 = true := by kernel_rfl
theorem zc116 : (Try.prog.info? 116).map (fun i => (i.zero.map (·.cells.size))) = some (some 1) := by kernel_rfl
theorem ty129 : tyI Try.prog 129 = some (4, 40, true) := by kernel_rfl
theorem z129 : zeroOf Try.prog 129 = true := by kernel_rfl
theorem zc129 : (Try.prog.info? 129).map (fun i => (i.zero.map (·.cells.size))) = some (some 4) := by kernel_rfl
theorem us129 : Try.prog.underlying 129 = some (TypeDesc.struct (Array.mk [Field.mk "_interface" 17 0 false "" "runtime" 0, Field.mk "concrete" 17 1 false "" "runtime" 8, Field.mk "asserted" 17 2 false "" "runtime" 16, Field.mk "missingMethod" 9 3 false "" "runtime" 24])) := by kernel_rfl
theorem fd129_0 : fldB Try.prog 129 0 = some 0 := by kernel_rfl
theorem fd129_1 : fldB Try.prog 129 1 = some 1 := by kernel_rfl
theorem fd129_2 : fldB Try.prog 129 2 = some 2 := by kernel_rfl
theorem fd129_3 : fldB Try.prog 129 3 = some 3 := by kernel_rfl
theorem ty130 : tyI Try.prog 130 = some (4, 40, true) := by kernel_rfl
theorem z130 : zeroOf Try.prog 130 = true := by kernel_rfl
theorem zc130 : (Try.prog.info? 130).map (fun i => (i.zero.map (·.cells.size))) = some (some 4) := by kernel_rfl
theorem us130 : Try.prog.underlying 130 = some (TypeDesc.struct (Array.mk [Field.mk "_interface" 17 0 false "" "runtime" 0, Field.mk "concrete" 17 1 false "" "runtime" 8, Field.mk "asserted" 17 2 false "" "runtime" 16, Field.mk "missingMethod" 9 3 false "" "runtime" 24])) := by kernel_rfl
theorem fd130_0 : fldB Try.prog 130 0 = some 0 := by kernel_rfl
theorem fd130_1 : fldB Try.prog 130 1 = some 1 := by kernel_rfl
theorem fd130_2 : fldB Try.prog 130 2 = some 2 := by kernel_rfl
theorem fd130_3 : fldB Try.prog 130 3 = some 3 := by kernel_rfl
theorem ty131 : tyI Try.prog 131 = some (0, 0, true) := by kernel_rfl
theorem u131 : Try.prog.underlying 131 = some (TypeDesc.array 0 16) := by kernel_rfl
theorem z131 : zeroOf Try.prog 131 = true := by kernel_rfl
theorem ty132 : tyI Try.prog 132 = some (0, 0, true) := by kernel_rfl
theorem z132 : zeroOf Try.prog 132 = true := by kernel_rfl
theorem us132 : Try.prog.underlying 132 = some (TypeDesc.struct (Array.mk [Field.mk "_" 131 0 false "" "runtime" 0])) := by kernel_rfl
theorem ty133 : tyI Try.prog 133 = some (0, 0, true) := by kernel_rfl
theorem z133 : zeroOf Try.prog 133 = true := by kernel_rfl
theorem us133 : Try.prog.underlying 133 = some (TypeDesc.struct (Array.mk [Field.mk "_" 131 0 false "" "runtime" 0])) := by kernel_rfl
theorem ty135 : tyI Try.prog 135 = some (1, 4, false) := by kernel_rfl
theorem u135 : Try.prog.underlying 135 = some (TypeDesc.int IntKind.u32) := by kernel_rfl
theorem z135 : zeroOf Try.prog 135 = true := by kernel_rfl
theorem zc135 : (Try.prog.info? 135).map (fun i => (i.zero.map (·.cells.size))) = some (some 1) := by kernel_rfl
theorem ty136 : tyI Try.prog 136 = some (1, 1, false) := by kernel_rfl
theorem u136 : Try.prog.underlying 136 = some (TypeDesc.int IntKind.u8) := by kernel_rfl
theorem z136 : zeroOf Try.prog 136 = true := by kernel_rfl
theorem zc136 : (Try.prog.info? 136).map (fun i => (i.zero.map (·.cells.size))) = some (some 1) := by kernel_rfl
theorem ty137 : tyI Try.prog 137 = some (1, 1, false) := by kernel_rfl
theorem u137 : Try.prog.underlying 137 = some (TypeDesc.int IntKind.u8) := by kernel_rfl
theorem z137 : zeroOf Try.prog 137 = true := by kernel_rfl
theorem zc137 : (Try.prog.info? 137).map (fun i => (i.zero.map (·.cells.size))) = some (some 1) := by kernel_rfl
theorem ty140 : tyI Try.prog 140 = some (1, 4, false) := by kernel_rfl
theorem u140 : Try.prog.underlying 140 = some (TypeDesc.int IntKind.i32) := by kernel_rfl
theorem z140 : zeroOf Try.prog 140 = true := by kernel_rfl
theorem zc140 : (Try.prog.info? 140).map (fun i => (i.zero.map (·.cells.size))) = some (some 1) := by kernel_rfl
theorem ty141 : tyI Try.prog 141 = some (1, 4, false) := by kernel_rfl
theorem u141 : Try.prog.underlying 141 = some (TypeDesc.int IntKind.i32) := by kernel_rfl
theorem z141 : zeroOf Try.prog 141 = true := by kernel_rfl
theorem zc141 : (Try.prog.info? 141).map (fun i => (i.zero.map (·.cells.size))) = some (some 1) := by kernel_rfl
theorem ty142 : tyI Try.prog 142 = some (11, 48, true) := by kernel_rfl
theorem z142 : zeroOf Try.prog 142 = true := by kernel_rfl
theorem zc142 : (Try.prog.info? 142).map (fun i => (i.zero.map (·.cells.size))) = some (some 11) := by kernel_rfl
theorem us142 : Try.prog.underlying 142 = some (TypeDesc.struct (Array.mk [Field.mk "Size_" 12 0 false "" "" 0, Field.mk "PtrBytes" 12 1 false "" "" 8, Field.mk "Hash" 135 2 false "" "" 16, Field.mk "TFlag" 136 3 false "" "" 20, Field.mk "Align_" 5 4 false "" "" 21, Field.mk "FieldAlign_" 5 5 false "" "" 22, Field.mk "Kind_" 137 6 false "" "" 23, Field.mk "Equal" 138 7 false "" "" 24, Field.mk "GCData" 139 8 false "" "" 32, Field.mk "Str" 140 9 false "" "" 40, Field.mk "PtrToThis" 141 10 false "" "" 44])) := by kernel_rfl
theorem fd142_0 : fldB Try.prog 142 0 = some 0 := by kernel_rfl
theorem fd142_1 : fldB Try.prog 142 1 = some 1 := by kernel_rfl
theorem fd142_2 : fldB Try.prog 142 2 = some 2 := by kernel_rfl
theorem fd142_3 : fldB Try.prog 142 3 = some 3 := by kernel_rfl
theorem fd142_4 : fldB Try.prog 142 4 = some 4 := by kernel_rfl
theorem fd142_5 : fldB Try.prog 142 5 = some 5 := by kernel_rfl
theorem fd142_6 : fldB Try.prog 142 6 = some 6 := by kernel_rfl
theorem fd142_7 : fldB Try.prog 142 7 = some 7 := by kernel_rfl
theorem fd142_8 : fldB Try.prog 142 8 = some 8 := by kernel_rfl
theorem fd142_9 : fldB Try.prog 142 9 = some 9 := by kernel_rfl
theorem fd142_10 : fldB Try.prog 142 10 = some 10 := by kernel_rfl
theorem ty143 : tyI Try.prog 143 = some (11, 48, true) := by kernel_rfl
theorem z143 : zeroOf Try.prog 143 = true := by kernel_rfl
theorem zc143 : (Try.prog.info? 143).map (fun i => (i.zero.map (·.cells.size))) = some (some 11) := by kernel_rfl
theorem us143 : Try.prog.underlying 143 = some (TypeDesc.struct (Array.mk [Field.mk "Size_" 12 0 false "" "" 0, Field.mk "PtrBytes" 12 1 false "" "" 8, Field.mk "Hash" 135 2 false "" "" 16, Field.mk "TFlag" 136 3 false "" "" 20, Field.mk "Align_" 5 4 false "" "" 21, Field.mk "FieldAlign_" 5 5 false "" "" 22, Field.mk "Kind_" 137 6 false "" "" 23, Field.mk "Equal" 138 7 false "" "" 24, Field.mk "GCData" 139 8 false "" "" 32, Field.mk "Str" 140 9 false "" "" 40, Field.mk "PtrToThis" 141 10 false "" "" 44])) := by kernel_rfl
theorem fd143_0 : fldB Try.prog 143 0 = some 0 := by kernel_rfl
theorem fd143_1 : fldB Try.prog 143 1 = some 1 := by kernel_rfl
theorem fd143_2 : fldB Try.prog 143 2 = some 2 := by kernel_rfl
theorem fd143_3 : fldB Try.prog 143 3 = some 3 := by kernel_rfl
theorem fd143_4 : fldB Try.prog 143 4 = some 4 := by kernel_rfl
theorem fd143_5 : fldB Try.prog 143 5 = some 5 := by kernel_rfl
theorem fd143_6 : fldB Try.prog 143 6 = some 6 := by kernel_rfl
theorem fd143_7 : fldB Try.prog 143 7 = some 7 := by kernel_rfl
theorem fd143_8 : fldB Try.prog 143 8 = some 8 := by kernel_rfl
theorem fd143_9 : fldB Try.prog 143 9 = some 9 := by kernel_rfl
theorem fd143_10 : fldB Try.prog 143 10 = some 10 := by kernel_rfl
end Go.Proofs.Ytokppocbfpjngaa
