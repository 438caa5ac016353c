/- What the program says of its types, printed by program. -/
import Derived.Test.YteephmhilnlkpaaGreatMem
import Derived.Test.YteephmhilnlkpaaGreatProg
import Derived.KernelRfl
namespace Go.Proofs.YteephmhilnlkpaaGreat
open Go Go.Sh Go.Proofs
theorem ty2 : tyI Tryz.prog 2 = some (1, 8, false) := by kernel_rfl
theorem u2 : Tryz.prog.underlying 2 = some (TypeDesc.int IntKind.i64) := by kernel_rfl
theorem z2 : zeroOf Tryz.prog 2 = true := by kernel_rfl
theorem zc2 : (Tryz.prog.info? 2).map (fun i => (i.zero.map (·.cells.size))) = some (some 1) := by kernel_rfl
theorem ty3 : tyI Tryz.prog 3 = some (1, 8, false) := by kernel_rfl
theorem u3 : Tryz.prog.underlying 3 = some (TypeDesc.int IntKind.i64) := by kernel_rfl
theorem z3 : zeroOf Tryz.prog 3 = true := by kernel_rfl
theorem zc3 : (Tryz.prog.info? 3).map (fun i => (i.zero.map (·.cells.size))) = some (some 1) := by kernel_rfl
theorem ty4 : tyI Tryz.prog 4 = some (1, 1, false) := by kernel_rfl
theorem u4 : Tryz.prog.underlying 4 = some TypeDesc.bool := by kernel_rfl
theorem z4 : zeroOf Tryz.prog 4 = true := by kernel_rfl
theorem zc4 : (Tryz.prog.info? 4).map (fun i => (i.zero.map (·.cells.size))) = some (some 1) := by kernel_rfl
theorem ty5 : tyI Tryz.prog 5 = some (1, 1, false) := by kernel_rfl
theorem u5 : Tryz.prog.underlying 5 = some (TypeDesc.int IntKind.u8) := by kernel_rfl
theorem z5 : zeroOf Tryz.prog 5 = true := by kernel_rfl
theorem zc5 : (Tryz.prog.info? 5).map (fun i => (i.zero.map (·.cells.size))) = some (some 1) := by kernel_rfl
theorem ty6 : tyI Tryz.prog 6 = some (1, 1, false) := by kernel_rfl
theorem u6 : Tryz.prog.underlying 6 = some (TypeDesc.int IntKind.u8) := by kernel_rfl
theorem z6 : zeroOf Tryz.prog 6 = true := by kernel_rfl
theorem zc6 : (Tryz.prog.info? 6).map (fun i => (i.zero.map (·.cells.size))) = some (some 1) := by kernel_rfl
theorem ty7 : tyI Tryz.prog 7 = some (4, 24, true) := by kernel_rfl
theorem z7 : zeroOf Tryz.prog 7 = true := by kernel_rfl
theorem zc7 : (Tryz.prog.info? 7).map (fun i => (i.zero.map (·.cells.size))) = some (some 4) := by kernel_rfl
theorem us7 : Tryz.prog.underlying 7 = some (TypeDesc.struct (Array.mk [Field.mk "x" 2 0 false "" "runtime" 0, Field.mk "y" 3 1 false "" "runtime" 8, Field.mk "signed" 4 2 false "" "runtime" 16, Field.mk "code" 6 3 false "" "runtime" 17])) := by kernel_rfl
theorem zl7 : zeroL Tryz.prog 7 = some [.int .i64 0, .int .i64 0, .bool false, .int .u8 0] := by kernel_rfl
theorem fd7_0 : fldB Tryz.prog 7 0 = some 0 := by kernel_rfl
theorem fd7_1 : fldB Tryz.prog 7 1 = some 1 := by kernel_rfl
theorem fd7_2 : fldB Tryz.prog 7 2 = some 2 := by kernel_rfl
theorem fd7_3 : fldB Tryz.prog 7 3 = some 3 := by kernel_rfl
theorem ty8 : tyI Tryz.prog 8 = some (4, 24, true) := by kernel_rfl
theorem z8 : zeroOf Tryz.prog 8 = true := by kernel_rfl
theorem zc8 : (Tryz.prog.info? 8).map (fun i => (i.zero.map (·.cells.size))) = some (some 4) := by kernel_rfl
theorem us8 : Tryz.prog.underlying 8 = some (TypeDesc.struct (Array.mk [Field.mk "x" 2 0 false "" "runtime" 0, Field.mk "y" 3 1 false "" "runtime" 8, Field.mk "signed" 4 2 false "" "runtime" 16, Field.mk "code" 6 3 false "" "runtime" 17])) := by kernel_rfl
theorem zl8 : zeroL Tryz.prog 8 = some [.int .i64 0, .int .i64 0, .bool false, .int .u8 0] := by kernel_rfl
theorem fd8_0 : fldB Tryz.prog 8 0 = some 0 := by kernel_rfl
theorem fd8_1 : fldB Tryz.prog 8 1 = some 1 := by kernel_rfl
theorem fd8_2 : fldB Tryz.prog 8 2 = some 2 := by kernel_rfl
theorem fd8_3 : fldB Tryz.prog 8 3 = some 3 := by kernel_rfl
theorem ty9 : tyI Tryz.prog 9 = some (1, 16, false) := by kernel_rfl
theorem u9 : Tryz.prog.underlying 9 = some TypeDesc.string := by kernel_rfl
theorem z9 : zeroOf Tryz.prog 9 = true := by kernel_rfl
theorem zc9 : (Tryz.prog.info? 9).map (fun i => (i.zero.map (·.cells.size))) = some (some 1) := by kernel_rfl
theorem ty10 : tyI Tryz.prog 10 = some (1, 16, false) := by kernel_rfl
theorem u10 : Tryz.prog.underlying 10 = some TypeDesc.string := by kernel_rfl
theorem z10 : zeroOf Tryz.prog 10 = true := by kernel_rfl
theorem zc10 : (Tryz.prog.info? 10).map (fun i => (i.zero.map (·.cells.size))) = some (some 1) := by kernel_rfl
theorem ty11 : tyI Tryz.prog 11 = some (1, 16, false) := by kernel_rfl
theorem u11 : Tryz.prog.underlying 11 = some TypeDesc.string := by kernel_rfl
theorem z11 : zeroOf Tryz.prog 11 = true := by kernel_rfl
theorem zc11 : (Tryz.prog.info? 11).map (fun i => (i.zero.map (·.cells.size))) = some (some 1) := by kernel_rfl
theorem ty12 : tyI Tryz.prog 12 = some (1, 8, false) := by kernel_rfl
theorem u12 : Tryz.prog.underlying 12 = some (TypeDesc.int IntKind.u64) := by kernel_rfl
theorem z12 : zeroOf Tryz.prog 12 = true := by kernel_rfl
theorem zc12 : (Tryz.prog.info? 12).map (fun i => (i.zero.map (·.cells.size))) = some (some 1) := by kernel_rfl
theorem ty13 : tyI Tryz.prog 13 = some (2, 24, true) := by kernel_rfl
theorem z13 : zeroOf Tryz.prog 13 = true := by kernel_rfl
theorem zc13 : (Tryz.prog.info? 13).map (fun i => (i.zero.map (·.cells.size))) = some (some 2) := by kernel_rfl
theorem us13 : Tryz.prog.underlying 13 = some (TypeDesc.struct (Array.mk [Field.mk "msg" 9 0 false "" "runtime" 0, Field.mk "addr" 12 1 false "" "runtime" 16])) := by kernel_rfl
theorem zl13 : zeroL Tryz.prog 13 = some [.string ByteArray.empty, .int .u64 0] := by kernel_rfl
theorem fd13_0 : fldB Tryz.prog 13 0 = some 0 := by kernel_rfl
theorem fd13_1 : fldB Tryz.prog 13 1 = some 1 := by kernel_rfl
theorem ty14 : tyI Tryz.prog 14 = some (2, 24, true) := by kernel_rfl
theorem z14 : zeroOf Tryz.prog 14 = true := by kernel_rfl
theorem zc14 : (Tryz.prog.info? 14).map (fun i => (i.zero.map (·.cells.size))) = some (some 2) := by kernel_rfl
theorem us14 : Tryz.prog.underlying 14 = some (TypeDesc.struct (Array.mk [Field.mk "msg" 9 0 false "" "runtime" 0, Field.mk "addr" 12 1 false "" "runtime" 16])) := by kernel_rfl
theorem zl14 : zeroL Tryz.prog 14 = some [.string ByteArray.empty, .int .u64 0] := by kernel_rfl
theorem fd14_0 : fldB Tryz.prog 14 0 = some 0 := by kernel_rfl
theorem fd14_1 : fldB Tryz.prog 14 1 = some 1 := by kernel_rfl
theorem ty18 : tyI Tryz.prog 18 = some (1, 8, true) := by kernel_rfl
theorem z18 : zeroOf Tryz.prog 18 = true := by kernel_rfl
theorem zc18 : (Tryz.prog.info? 18).map (fun i => (i.zero.map (·.cells.size))) = some (some 1) := by kernel_rfl
theorem fd18_0 : fldB Tryz.prog 18 0 = some 0 := by kernel_rfl
theorem ty19 : tyI Tryz.prog 19 = some (1, 8, true) := by kernel_rfl
theorem z19 : zeroOf Tryz.prog 19 = true := by kernel_rfl
theorem zc19 : (Tryz.prog.info? 19).map (fun i => (i.zero.map (·.cells.size))) = some (some 1) := by kernel_rfl
theorem fd19_0 : fldB Tryz.prog 19 0 = some 0 := by kernel_rfl
theorem ty21 : tyI Tryz.prog 21 = some (1, 4, false) := by kernel_rfl
theorem u21 : Tryz.prog.underlying 21 = some (TypeDesc.int IntKind.i32) := by kernel_rfl
theorem z21 : zeroOf Tryz.prog 21 = true := by kernel_rfl
theorem zc21 : (Tryz.prog.info? 21).map (fun i => (i.zero.map (·.cells.size))) = some (some 1) := by kernel_rfl
theorem ty22 : tyI Tryz.prog 22 = some (1, 24, false) := by kernel_rfl
theorem u22 : Tryz.prog.underlying 22 = some (TypeDesc.slice 9) := by kernel_rfl
theorem z22 : zeroOf Tryz.prog 22 = true := by kernel_rfl
theorem zc22 : (Tryz.prog.info? 22).map (fun i => (i.zero.map (·.cells.size))) = some (some 1) := by kernel_rfl
theorem ty23 : tyI Tryz.prog 23 = some (1, 24, false) := by kernel_rfl
theorem u23 : Tryz.prog.underlying 23 = some (TypeDesc.slice 3) := by kernel_rfl
theorem z23 : zeroOf Tryz.prog 23 = true := by kernel_rfl
theorem zc23 : (Tryz.prog.info? 23).map (fun i => (i.zero.map (·.cells.size))) = some (some 1) := by kernel_rfl
theorem ty24 : tyI Tryz.prog 24 = some (1, 24, false) := by kernel_rfl
theorem u24 : Tryz.prog.underlying 24 = some (TypeDesc.slice 130) := by kernel_rfl
theorem z24 : zeroOf Tryz.prog 24 = true := by kernel_rfl
theorem zc24 : (Tryz.prog.info? 24).map (fun i => (i.zero.map (·.cells.size))) = some (some 1) := by kernel_rfl
theorem ty25 : tyI Tryz.prog 25 = some (5, 120, true) := by kernel_rfl
theorem z25 : zeroOf Tryz.prog 25 = true := by kernel_rfl
theorem zc25 : (Tryz.prog.info? 25).map (fun i => (i.zero.map (·.cells.size))) = some (some 5) := by kernel_rfl
theorem us25 : Tryz.prog.underlying 25 = some (TypeDesc.struct (Array.mk [Field.mk "Globals" 22 0 false "" "" 0, Field.mk "Locks" 22 1 false "" "" 24, Field.mk "Procs" 22 2 false "" "" 48, Field.mk "Entry" 23 3 false "" "" 72, Field.mk "Ins" 24 4 false "" "" 96])) := by kernel_rfl
theorem zl25 : zeroL Tryz.prog 25 = some [.slice none 0 0, .slice none 0 0, .slice none 0 0, .slice none 0 0, .slice none 0 0] := by kernel_rfl
theorem fd25_0 : fldB Tryz.prog 25 0 = some 0 := by kernel_rfl
theorem fd25_1 : fldB Tryz.prog 25 1 = some 1 := by kernel_rfl
theorem fd25_2 : fldB Tryz.prog 25 2 = some 2 := by kernel_rfl
theorem fd25_3 : fldB Tryz.prog 25 3 = some 3 := by kernel_rfl
theorem fd25_4 : fldB Tryz.prog 25 4 = some 4 := by kernel_rfl
theorem ty26 : tyI Tryz.prog 26 = some (5, 120, true) := by kernel_rfl
theorem z26 : zeroOf Tryz.prog 26 = true := by kernel_rfl
theorem zc26 : (Tryz.prog.info? 26).map (fun i => (i.zero.map (·.cells.size))) = some (some 5) := by kernel_rfl
theorem us26 : Tryz.prog.underlying 26 = some (TypeDesc.struct (Array.mk [Field.mk "Globals" 22 0 false "" "" 0, Field.mk "Locks" 22 1 false "" "" 24, Field.mk "Procs" 22 2 false "" "" 48, Field.mk "Entry" 23 3 false "" "" 72, Field.mk "Ins" 24 4 false "" "" 96])) := by kernel_rfl
theorem zl26 : zeroL Tryz.prog 26 = some [.slice none 0 0, .slice none 0 0, .slice none 0 0, .slice none 0 0, .slice none 0 0] := by kernel_rfl
theorem fd26_0 : fldB Tryz.prog 26 0 = some 0 := by kernel_rfl
theorem fd26_1 : fldB Tryz.prog 26 1 = some 1 := by kernel_rfl
theorem fd26_2 : fldB Tryz.prog 26 2 = some 2 := by kernel_rfl
theorem fd26_3 : fldB Tryz.prog 26 3 = some 3 := by kernel_rfl
theorem fd26_4 : fldB Tryz.prog 26 4 = some 4 := by kernel_rfl
theorem ty27 : tyI Tryz.prog 27 = some (1, 24, false) := by kernel_rfl
theorem u27 : Tryz.prog.underlying 27 = some (TypeDesc.slice 23) := by kernel_rfl
theorem z27 : zeroOf Tryz.prog 27 = true := by kernel_rfl
theorem zc27 : (Tryz.prog.info? 27).map (fun i => (i.zero.map (·.cells.size))) = some (some 1) := by kernel_rfl
theorem ty28 : tyI Tryz.prog 28 = some (3, 72, true) := by kernel_rfl
theorem z28 : zeroOf Tryz.prog 28 = true := by kernel_rfl
theorem zc28 : (Tryz.prog.info? 28).map (fun i => (i.zero.map (·.cells.size))) = some (some 3) := by kernel_rfl
theorem us28 : Tryz.prog.underlying 28 = some (TypeDesc.struct (Array.mk [Field.mk "Vars" 23 0 false "" "" 0, Field.mk "Owner" 23 1 false "" "" 24, Field.mk "Stacks" 27 2 false "" "" 48])) := by kernel_rfl
theorem zl28 : zeroL Tryz.prog 28 = some [.slice none 0 0, .slice none 0 0, .slice none 0 0] := by kernel_rfl
theorem fd28_0 : fldB Tryz.prog 28 0 = some 0 := by kernel_rfl
theorem fd28_1 : fldB Tryz.prog 28 1 = some 1 := by kernel_rfl
theorem fd28_2 : fldB Tryz.prog 28 2 = some 2 := by kernel_rfl
theorem ty29 : tyI Tryz.prog 29 = some (3, 72, true) := by kernel_rfl
theorem z29 : zeroOf Tryz.prog 29 = true := by kernel_rfl
theorem zc29 : (Tryz.prog.info? 29).map (fun i => (i.zero.map (·.cells.size))) = some (some 3) := by kernel_rfl
theorem us29 : Tryz.prog.underlying 29 = some (TypeDesc.struct (Array.mk [Field.mk "Vars" 23 0 false "" "" 0, Field.mk "Owner" 23 1 false "" "" 24, Field.mk "Stacks" 27 2 false "" "" 48])) := by kernel_rfl
theorem zl29 : zeroL Tryz.prog 29 = some [.slice none 0 0, .slice none 0 0, .slice none 0 0] := by kernel_rfl
theorem fd29_0 : fldB Tryz.prog 29 0 = some 0 := by kernel_rfl
theorem fd29_1 : fldB Tryz.prog 29 1 = some 1 := by kernel_rfl
theorem fd29_2 : fldB Tryz.prog 29 2 = some 2 := by kernel_rfl
theorem ty32 : tyI Tryz.prog 32 = some (3, 72, true) := by kernel_rfl
theorem z32 : zeroOf Tryz.prog 32 = true := by kernel_rfl
theorem zc32 : (Tryz.prog.info? 32).map (fun i => (i.zero.map (·.cells.size))) = some (some 3) := by kernel_rfl
theorem us32 : Tryz.prog.underlying 32 = some (TypeDesc.struct (Array.mk [Field.mk "Vars" 23 0 false "" "" 0, Field.mk "Owner" 23 1 false "" "" 24, Field.mk "Stacks" 27 2 false "" "" 48])) := by kernel_rfl
theorem zl32 : zeroL Tryz.prog 32 = some [.slice none 0 0, .slice none 0 0, .slice none 0 0] := by kernel_rfl
theorem fd32_0 : fldB Tryz.prog 32 0 = some 0 := by kernel_rfl
theorem fd32_1 : fldB Tryz.prog 32 1 = some 1 := by kernel_rfl
theorem fd32_2 : fldB Tryz.prog 32 2 = some 2 := by kernel_rfl
theorem ty35 : tyI Tryz.prog 35 = some (1, 24, false) := by kernel_rfl
theorem u35 : Tryz.prog.underlying 35 = some (TypeDesc.slice 135) := by kernel_rfl
theorem z35 : zeroOf Tryz.prog 35 = true := by kernel_rfl
theorem zc35 : (Tryz.prog.info? 35).map (fun i => (i.zero.map (·.cells.size))) = some (some 1) := by kernel_rfl
theorem ty36 : tyI Tryz.prog 36 = some (5, 120, true) := by kernel_rfl
theorem z36 : zeroOf Tryz.prog 36 = true := by kernel_rfl
theorem zc36 : (Tryz.prog.info? 36).map (fun i => (i.zero.map (·.cells.size))) = some (some 5) := by kernel_rfl
theorem us36 : Tryz.prog.underlying 36 = some (TypeDesc.struct (Array.mk [Field.mk "Globals" 22 0 false "" "" 0, Field.mk "Locks" 22 1 false "" "" 24, Field.mk "Procs" 22 2 false "" "" 48, Field.mk "Entry" 23 3 false "" "" 72, Field.mk "Ins" 35 4 false "" "" 96])) := by kernel_rfl
theorem zl36 : zeroL Tryz.prog 36 = some [.slice none 0 0, .slice none 0 0, .slice none 0 0, .slice none 0 0, .slice none 0 0] := by kernel_rfl
theorem fd36_0 : fldB Tryz.prog 36 0 = some 0 := by kernel_rfl
theorem fd36_1 : fldB Tryz.prog 36 1 = some 1 := by kernel_rfl
theorem fd36_2 : fldB Tryz.prog 36 2 = some 2 := by kernel_rfl
theorem fd36_3 : fldB Tryz.prog 36 3 = some 3 := by kernel_rfl
theorem fd36_4 : fldB Tryz.prog 36 4 = some 4 := by kernel_rfl
theorem ty37 : tyI Tryz.prog 37 = some (5, 120, true) := by kernel_rfl
theorem z37 : zeroOf Tryz.prog 37 = true := by kernel_rfl
theorem zc37 : (Tryz.prog.info? 37).map (fun i => (i.zero.map (·.cells.size))) = some (some 5) := by kernel_rfl
theorem us37 : Tryz.prog.underlying 37 = some (TypeDesc.struct (Array.mk [Field.mk "Globals" 22 0 false "" "" 0, Field.mk "Locks" 22 1 false "" "" 24, Field.mk "Procs" 22 2 false "" "" 48, Field.mk "Entry" 23 3 false "" "" 72, Field.mk "Ins" 35 4 false "" "" 96])) := by kernel_rfl
theorem zl37 : zeroL Tryz.prog 37 = some [.slice none 0 0, .slice none 0 0, .slice none 0 0, .slice none 0 0, .slice none 0 0] := by kernel_rfl
theorem fd37_0 : fldB Tryz.prog 37 0 = some 0 := by kernel_rfl
theorem fd37_1 : fldB Tryz.prog 37 1 = some 1 := by kernel_rfl
theorem fd37_2 : fldB Tryz.prog 37 2 = some 2 := by kernel_rfl
theorem fd37_3 : fldB Tryz.prog 37 3 = some 3 := by kernel_rfl
theorem fd37_4 : fldB Tryz.prog 37 4 = some 4 := by kernel_rfl
theorem ty45 : tyI Tryz.prog 45 = some (1, 24, false) := by kernel_rfl
theorem u45 : Tryz.prog.underlying 45 = some (TypeDesc.slice 32) := by kernel_rfl
theorem z45 : zeroOf Tryz.prog 45 = true := by kernel_rfl
theorem zc45 : (Tryz.prog.info? 45).map (fun i => (i.zero.map (·.cells.size))) = some (some 1) := by kernel_rfl
theorem ty61 : tyI Tryz.prog 61 = some (1, 24, false) := by kernel_rfl
theorem u61 : Tryz.prog.underlying 61 = some (TypeDesc.slice 117) := by kernel_rfl
theorem z61 : zeroOf Tryz.prog 61 = true := by kernel_rfl
theorem zc61 : (Tryz.prog.info? 61).map (fun i => (i.zero.map (·.cells.size))) = some (some 1) := by kernel_rfl
theorem ty65 : tyI Tryz.prog 65 = some (1, 24, false) := by kernel_rfl
theorem u65 : Tryz.prog.underlying 65 = some (TypeDesc.slice 113) := by kernel_rfl
theorem z65 : zeroOf Tryz.prog 65 = true := by kernel_rfl
theorem zc65 : (Tryz.prog.info? 65).map (fun i => (i.zero.map (·.cells.size))) = some (some 1) := by kernel_rfl
theorem ty88 : tyI Tryz.prog 88 = some (4, 80, true) := by kernel_rfl
theorem z88 : zeroOf Tryz.prog 88 = true := by kernel_rfl
theorem zc88 : (Tryz.prog.info? 88).map (fun i => (i.zero.map (·.cells.size))) = some (some 4) := by kernel_rfl
theorem zl88 : zeroL Tryz.prog 88 = some [.slice none 0 0, .slice none 0 0, .slice none 0 0, .bool false] := by kernel_rfl
theorem fd88_0 : fldB Tryz.prog 88 0 = some 0 := by kernel_rfl
theorem fd88_1 : fldB Tryz.prog 88 1 = some 1 := by kernel_rfl
theorem fd88_2 : fldB Tryz.prog 88 2 = some 2 := by kernel_rfl
theorem fd88_3 : fldB Tryz.prog 88 3 = some 3 := by kernel_rfl
theorem ty89 : tyI Tryz.prog 89 = some (4, 80, true) := by kernel_rfl
theorem z89 : zeroOf Tryz.prog 89 = true := by kernel_rfl
theorem zc89 : (Tryz.prog.info? 89).map (fun i => (i.zero.map (·.cells.size))) = some (some 4) := by kernel_rfl
theorem zl89 : zeroL Tryz.prog 89 = some [.slice none 0 0, .slice none 0 0, .slice none 0 0, .bool false] := by kernel_rfl
theorem fd89_0 : fldB Tryz.prog 89 0 = some 0 := by kernel_rfl
theorem fd89_1 : fldB Tryz.prog 89 1 = some 1 := by kernel_rfl
theorem fd89_2 : fldB Tryz.prog 89 2 = some 2 := by kernel_rfl
theorem fd89_3 : fldB Tryz.prog 89 3 = some 3 := by kernel_rfl
theorem ty90 : tyI Tryz.prog 90 = some (4, 80, true) := by kernel_rfl
theorem z90 : zeroOf Tryz.prog 90 = true := by kernel_rfl
theorem zc90 : (Tryz.prog.info? 90).map (fun i => (i.zero.map (·.cells.size))) = some (some 4) := by kernel_rfl
theorem zl90 : zeroL Tryz.prog 90 = some [.slice none 0 0, .slice none 0 0, .slice none 0 0, .bool false] := by kernel_rfl
theorem fd90_0 : fldB Tryz.prog 90 0 = some 0 := by kernel_rfl
theorem fd90_1 : fldB Tryz.prog 90 1 = some 1 := by kernel_rfl
theorem fd90_2 : fldB Tryz.prog 90 2 = some 2 := by kernel_rfl
theorem fd90_3 : fldB Tryz.prog 90 3 = some 3 := by kernel_rfl
theorem ty91 : tyI Tryz.prog 91 = some (4, 80, true) := by kernel_rfl
theorem z91 : zeroOf Tryz.prog 91 = true := by kernel_rfl
theorem zc91 : (Tryz.prog.info? 91).map (fun i => (i.zero.map (·.cells.size))) = some (some 4) := by kernel_rfl
theorem zl91 : zeroL Tryz.prog 91 = some [.slice none 0 0, .slice none 0 0, .slice none 0 0, .bool false] := by kernel_rfl
theorem fd91_0 : fldB Tryz.prog 91 0 = some 0 := by kernel_rfl
theorem fd91_1 : fldB Tryz.prog 91 1 = some 1 := by kernel_rfl
theorem fd91_2 : fldB Tryz.prog 91 2 = some 2 := by kernel_rfl
theorem fd91_3 : fldB Tryz.prog 91 3 = some 3 := by kernel_rfl
theorem ty97 : tyI Tryz.prog 97 = some (1, 24, false) := by kernel_rfl
theorem u97 : Tryz.prog.underlying 97 = some (TypeDesc.slice 4) := by kernel_rfl
theorem z97 : zeroOf Tryz.prog 97 = true := by kernel_rfl
theorem zc97 : (Tryz.prog.info? 97).map (fun i => (i.zero.map (·.cells.size))) = some (some 1) := by kernel_rfl
theorem ty98 : tyI Tryz.prog 98 = some (8, 176, true) := by kernel_rfl
theorem z98 : zeroOf Tryz.prog 98 = true := by kernel_rfl
theorem zc98 : (Tryz.prog.info? 98).map (fun i => (i.zero.map (·.cells.size))) = some (some 8) := by kernel_rfl
theorem zl98 : zeroL Tryz.prog 98 = some [.slice none 0 0, .slice none 0 0, .slice none 0 0, .slice none 0 0, .slice none 0 0, .slice none 0 0, .slice none 0 0, .bool false] := by kernel_rfl
theorem fd98_0 : fldB Tryz.prog 98 0 = some 0 := by kernel_rfl
theorem fd98_1 : fldB Tryz.prog 98 1 = some 5 := by kernel_rfl
theorem fd98_2 : fldB Tryz.prog 98 2 = some 6 := by kernel_rfl
theorem fd98_3 : fldB Tryz.prog 98 3 = some 7 := by kernel_rfl
theorem ty99 : tyI Tryz.prog 99 = some (8, 176, true) := by kernel_rfl
theorem z99 : zeroOf Tryz.prog 99 = true := by kernel_rfl
theorem zc99 : (Tryz.prog.info? 99).map (fun i => (i.zero.map (·.cells.size))) = some (some 8) := by kernel_rfl
theorem zl99 : zeroL Tryz.prog 99 = some [.slice none 0 0, .slice none 0 0, .slice none 0 0, .slice none 0 0, .slice none 0 0, .slice none 0 0, .slice none 0 0, .bool false] := by kernel_rfl
theorem fd99_0 : fldB Tryz.prog 99 0 = some 0 := by kernel_rfl
theorem fd99_1 : fldB Tryz.prog 99 1 = some 5 := by kernel_rfl
theorem fd99_2 : fldB Tryz.prog 99 2 = some 6 := by kernel_rfl
theorem fd99_3 : fldB Tryz.prog 99 3 = some 7 := by kernel_rfl
theorem ty102 : tyI Tryz.prog 102 = some (1, 8, false) := by kernel_rfl
theorem u102 : Tryz.prog.underlying 102 = some (TypeDesc.int IntKind.u64) := by kernel_rfl
theorem z102 : zeroOf Tryz.prog 102 = true := by kernel_rfl
theorem zc102 : (Tryz.prog.info? 102).map (fun i => (i.zero.map (·.cells.size))) = some (some 1) := by kernel_rfl
theorem ty112 : tyI Tryz.prog 112 = some (3, 24, true) := by kernel_rfl
theorem z112 : zeroOf Tryz.prog 112 = true := by kernel_rfl
theorem zc112 : (Tryz.prog.info? 112).map (fun i => (i.zero.map (·.cells.size))) = some (some 3) := by kernel_rfl
theorem us112 : Tryz.prog.underlying 112 = some (TypeDesc.struct (Array.mk [Field.mk "From" 3 0 false "" "" 0, Field.mk "To" 3 1 false "" "" 8, Field.mk "At" 3 2 false "" "" 16])) := by kernel_rfl
theorem zl112 : zeroL Tryz.prog 112 = some [.int .i64 0, .int .i64 0, .int .i64 0] := by kernel_rfl
theorem fd112_0 : fldB Tryz.prog 112 0 = some 0 := by kernel_rfl
theorem fd112_1 : fldB Tryz.prog 112 1 = some 1 := by kernel_rfl
theorem fd112_2 : fldB Tryz.prog 112 2 = some 2 := by kernel_rfl
theorem ty113 : tyI Tryz.prog 113 = some (3, 24, true) := by kernel_rfl
theorem z113 : zeroOf Tryz.prog 113 = true := by kernel_rfl
theorem zc113 : (Tryz.prog.info? 113).map (fun i => (i.zero.map (·.cells.size))) = some (some 3) := by kernel_rfl
theorem us113 : Tryz.prog.underlying 113 = some (TypeDesc.struct (Array.mk [Field.mk "From" 3 0 false "" "" 0, Field.mk "To" 3 1 false "" "" 8, Field.mk "At" 3 2 false "" "" 16])) := by kernel_rfl
theorem zl113 : zeroL Tryz.prog 113 = some [.int .i64 0, .int .i64 0, .int .i64 0] := by kernel_rfl
theorem fd113_0 : fldB Tryz.prog 113 0 = some 0 := by kernel_rfl
theorem fd113_1 : fldB Tryz.prog 113 1 = some 1 := by kernel_rfl
theorem fd113_2 : fldB Tryz.prog 113 2 = some 2 := by kernel_rfl
theorem ty116 : tyI Tryz.prog 116 = some (3, 24, true) := by kernel_rfl
theorem z116 : zeroOf Tryz.prog 116 = true := by kernel_rfl
theorem zc116 : (Tryz.prog.info? 116).map (fun i => (i.zero.map (·.cells.size))) = some (some 3) := by kernel_rfl
theorem us116 : Tryz.prog.underlying 116 = some (TypeDesc.struct (Array.mk [Field.mk "Global" 3 0 false "" "" 0, Field.mk "A" 3 1 false "" "" 8, Field.mk "B" 3 2 false "" "" 16])) := by kernel_rfl
theorem zl116 : zeroL Tryz.prog 116 = some [.int .i64 0, .int .i64 0, .int .i64 0] := by kernel_rfl
theorem fd116_0 : fldB Tryz.prog 116 0 = some 0 := by kernel_rfl
theorem fd116_1 : fldB Tryz.prog 116 1 = some 1 := by kernel_rfl
theorem fd116_2 : fldB Tryz.prog 116 2 = some 2 := by kernel_rfl
theorem ty117 : tyI Tryz.prog 117 = some (3, 24, true) := by kernel_rfl
theorem z117 : zeroOf Tryz.prog 117 = true := by kernel_rfl
theorem zc117 : (Tryz.prog.info? 117).map (fun i => (i.zero.map (·.cells.size))) = some (some 3) := by kernel_rfl
theorem us117 : Tryz.prog.underlying 117 = some (TypeDesc.struct (Array.mk [Field.mk "Global" 3 0 false "" "" 0, Field.mk "A" 3 1 false "" "" 8, Field.mk "B" 3 2 false "" "" 16])) := by kernel_rfl
theorem zl117 : zeroL Tryz.prog 117 = some [.int .i64 0, .int .i64 0, .int .i64 0] := by kernel_rfl
theorem fd117_0 : fldB Tryz.prog 117 0 = some 0 := by kernel_rfl
theorem fd117_1 : fldB Tryz.prog 117 1 = some 1 := by kernel_rfl
theorem fd117_2 : fldB Tryz.prog 117 2 = some 2 := by kernel_rfl
theorem ty121 : tyI Tryz.prog 121 = some (1, 24, false) := by kernel_rfl
theorem u121 : Tryz.prog.underlying 121 = some (TypeDesc.slice 186) := by kernel_rfl
theorem z121 : zeroOf Tryz.prog 121 = true := by kernel_rfl
theorem zc121 : (Tryz.prog.info? 121).map (fun i => (i.zero.map (·.cells.size))) = some (some 1) := by kernel_rfl
theorem ty126 : tyI Tryz.prog 126 = some (1, 24, false) := by kernel_rfl
theorem u126 : Tryz.prog.underlying 126 = some (TypeDesc.slice 128) := by kernel_rfl
theorem z126 : zeroOf Tryz.prog 126 = true := by kernel_rfl
theorem zc126 : (Tryz.prog.info? 126).map (fun i => (i.zero.map (·.cells.size))) = some (some 1) := by kernel_rfl
theorem ty127 : tyI Tryz.prog 127 = some (4, 56, true) := by kernel_rfl
theorem z127 : zeroOf Tryz.prog 127 = true := by kernel_rfl
theorem zc127 : (Tryz.prog.info? 127).map (fun i => (i.zero.map (·.cells.size))) = some (some 4) := by kernel_rfl
theorem us127 : Tryz.prog.underlying 127 = some (TypeDesc.struct (Array.mk [Field.mk "Kind" 3 0 false "" "" 0, Field.mk "Num" 3 1 false "" "" 8, Field.mk "Name" 9 2 false "" "" 16, Field.mk "Kids" 126 3 false "" "" 32])) := by kernel_rfl
theorem zl127 : zeroL Tryz.prog 127 = some [.int .i64 0, .int .i64 0, .string ByteArray.empty, .slice none 0 0] := by kernel_rfl
theorem fd127_0 : fldB Tryz.prog 127 0 = some 0 := by kernel_rfl
theorem fd127_1 : fldB Tryz.prog 127 1 = some 1 := by kernel_rfl
theorem fd127_2 : fldB Tryz.prog 127 2 = some 2 := by kernel_rfl
theorem fd127_3 : fldB Tryz.prog 127 3 = some 3 := by kernel_rfl
theorem ty128 : tyI Tryz.prog 128 = some (4, 56, true) := by kernel_rfl
theorem z128 : zeroOf Tryz.prog 128 = true := by kernel_rfl
theorem zc128 : (Tryz.prog.info? 128).map (fun i => (i.zero.map (·.cells.size))) = some (some 4) := by kernel_rfl
theorem us128 : Tryz.prog.underlying 128 = some (TypeDesc.struct (Array.mk [Field.mk "Kind" 3 0 false "" "" 0, Field.mk "Num" 3 1 false "" "" 8, Field.mk "Name" 9 2 false "" "" 16, Field.mk "Kids" 126 3 false "" "" 32])) := by kernel_rfl
theorem zl128 : zeroL Tryz.prog 128 = some [.int .i64 0, .int .i64 0, .string ByteArray.empty, .slice none 0 0] := by kernel_rfl
theorem fd128_0 : fldB Tryz.prog 128 0 = some 0 := by kernel_rfl
theorem fd128_1 : fldB Tryz.prog 128 1 = some 1 := by kernel_rfl
theorem fd128_2 : fldB Tryz.prog 128 2 = some 2 := by kernel_rfl
theorem fd128_3 : fldB Tryz.prog 128 3 = some 3 := by kernel_rfl
theorem ty129 : tyI Tryz.prog 129 = some (7, 80, true) := by kernel_rfl
theorem z129 : zeroOf Tryz.prog 129 = true := by kernel_rfl
theorem zc129 : (Tryz.prog.info? 129).map (fun i => (i.zero.map (·.cells.size))) = some (some 7) := by kernel_rfl
theorem us129 : Tryz.prog.underlying 129 = some (TypeDesc.struct (Array.mk [Field.mk "Op" 3 0 false "" "" 0, Field.mk "Arg" 3 1 false "" "" 8, Field.mk "Term" 128 2 false "" "" 16, Field.mk "To" 3 6 false "" "" 72])) := by kernel_rfl
theorem zl129 : zeroL Tryz.prog 129 = some [.int .i64 0, .int .i64 0, .int .i64 0, .int .i64 0, .string ByteArray.empty, .slice none 0 0, .int .i64 0] := by kernel_rfl
theorem fd129_0 : fldB Tryz.prog 129 0 = some 0 := by kernel_rfl
theorem fd129_1 : fldB Tryz.prog 129 1 = some 1 := by kernel_rfl
theorem fd129_2 : fldB Tryz.prog 129 2 = some 2 := by kernel_rfl
theorem fd129_3 : fldB Tryz.prog 129 3 = some 6 := by kernel_rfl
theorem ty130 : tyI Tryz.prog 130 = some (7, 80, true) := by kernel_rfl
theorem z130 : zeroOf Tryz.prog 130 = true := by kernel_rfl
theorem zc130 : (Tryz.prog.info? 130).map (fun i => (i.zero.map (·.cells.size))) = some (some 7) := by kernel_rfl
theorem us130 : Tryz.prog.underlying 130 = some (TypeDesc.struct (Array.mk [Field.mk "Op" 3 0 false "" "" 0, Field.mk "Arg" 3 1 false "" "" 8, Field.mk "Term" 128 2 false "" "" 16, Field.mk "To" 3 6 false "" "" 72])) := by kernel_rfl
theorem zl130 : zeroL Tryz.prog 130 = some [.int .i64 0, .int .i64 0, .int .i64 0, .int .i64 0, .string ByteArray.empty, .slice none 0 0, .int .i64 0] := by kernel_rfl
theorem fd130_0 : fldB Tryz.prog 130 0 = some 0 := by kernel_rfl
theorem fd130_1 : fldB Tryz.prog 130 1 = some 1 := by kernel_rfl
theorem fd130_2 : fldB Tryz.prog 130 2 = some 2 := by kernel_rfl
theorem fd130_3 : fldB Tryz.prog 130 3 = some 6 := by kernel_rfl
theorem ty131 : tyI Tryz.prog 131 = some (1, 24, false) := by kernel_rfl
theorem u131 : Tryz.prog.underlying 131 = some (TypeDesc.slice 133) := by kernel_rfl
theorem z131 : zeroOf Tryz.prog 131 = true := by kernel_rfl
theorem zc131 : (Tryz.prog.info? 131).map (fun i => (i.zero.map (·.cells.size))) = some (some 1) := by kernel_rfl
theorem ty132 : tyI Tryz.prog 132 = some (4, 56, true) := by kernel_rfl
theorem z132 : zeroOf Tryz.prog 132 = true := by kernel_rfl
theorem zc132 : (Tryz.prog.info? 132).map (fun i => (i.zero.map (·.cells.size))) = some (some 4) := by kernel_rfl
theorem us132 : Tryz.prog.underlying 132 = some (TypeDesc.struct (Array.mk [Field.mk "Kind" 3 0 false "" "" 0, Field.mk "Num" 3 1 false "" "" 8, Field.mk "Name" 9 2 false "" "" 16, Field.mk "Kids" 131 3 false "" "" 32])) := by kernel_rfl
theorem zl132 : zeroL Tryz.prog 132 = some [.int .i64 0, .int .i64 0, .string ByteArray.empty, .slice none 0 0] := by kernel_rfl
theorem fd132_0 : fldB Tryz.prog 132 0 = some 0 := by kernel_rfl
theorem fd132_1 : fldB Tryz.prog 132 1 = some 1 := by kernel_rfl
theorem fd132_2 : fldB Tryz.prog 132 2 = some 2 := by kernel_rfl
theorem fd132_3 : fldB Tryz.prog 132 3 = some 3 := by kernel_rfl
theorem ty133 : tyI Tryz.prog 133 = some (4, 56, true) := by kernel_rfl
theorem z133 : zeroOf Tryz.prog 133 = true := by kernel_rfl
theorem zc133 : (Tryz.prog.info? 133).map (fun i => (i.zero.map (·.cells.size))) = some (some 4) := by kernel_rfl
theorem us133 : Tryz.prog.underlying 133 = some (TypeDesc.struct (Array.mk [Field.mk "Kind" 3 0 false "" "" 0, Field.mk "Num" 3 1 false "" "" 8, Field.mk "Name" 9 2 false "" "" 16, Field.mk "Kids" 131 3 false "" "" 32])) := by kernel_rfl
theorem zl133 : zeroL Tryz.prog 133 = some [.int .i64 0, .int .i64 0, .string ByteArray.empty, .slice none 0 0] := by kernel_rfl
theorem fd133_0 : fldB Tryz.prog 133 0 = some 0 := by kernel_rfl
theorem fd133_1 : fldB Tryz.prog 133 1 = some 1 := by kernel_rfl
theorem fd133_2 : fldB Tryz.prog 133 2 = some 2 := by kernel_rfl
theorem fd133_3 : fldB Tryz.prog 133 3 = some 3 := by kernel_rfl
theorem ty134 : tyI Tryz.prog 134 = some (7, 80, true) := by kernel_rfl
theorem z134 : zeroOf Tryz.prog 134 = true := by kernel_rfl
theorem zc134 : (Tryz.prog.info? 134).map (fun i => (i.zero.map (·.cells.size))) = some (some 7) := by kernel_rfl
theorem us134 : Tryz.prog.underlying 134 = some (TypeDesc.struct (Array.mk [Field.mk "Op" 3 0 false "" "" 0, Field.mk "Arg" 3 1 false "" "" 8, Field.mk "Term" 133 2 false "" "" 16, Field.mk "To" 3 6 false "" "" 72])) := by kernel_rfl
theorem zl134 : zeroL Tryz.prog 134 = some [.int .i64 0, .int .i64 0, .int .i64 0, .int .i64 0, .string ByteArray.empty, .slice none 0 0, .int .i64 0] := by kernel_rfl
theorem fd134_0 : fldB Tryz.prog 134 0 = some 0 := by kernel_rfl
theorem fd134_1 : fldB Tryz.prog 134 1 = some 1 := by kernel_rfl
theorem fd134_2 : fldB Tryz.prog 134 2 = some 2 := by kernel_rfl
theorem fd134_3 : fldB Tryz.prog 134 3 = some 6 := by kernel_rfl
theorem ty135 : tyI Tryz.prog 135 = some (7, 80, true) := by kernel_rfl
theorem z135 : zeroOf Tryz.prog 135 = true := by kernel_rfl
theorem zc135 : (Tryz.prog.info? 135).map (fun i => (i.zero.map (·.cells.size))) = some (some 7) := by kernel_rfl
theorem us135 : Tryz.prog.underlying 135 = some (TypeDesc.struct (Array.mk [Field.mk "Op" 3 0 false "" "" 0, Field.mk "Arg" 3 1 false "" "" 8, Field.mk "Term" 133 2 false "" "" 16, Field.mk "To" 3 6 false "" "" 72])) := by kernel_rfl
theorem zl135 : zeroL Tryz.prog 135 = some [.int .i64 0, .int .i64 0, .int .i64 0, .int .i64 0, .string ByteArray.empty, .slice none 0 0, .int .i64 0] := by kernel_rfl
theorem fd135_0 : fldB Tryz.prog 135 0 = some 0 := by kernel_rfl
theorem fd135_1 : fldB Tryz.prog 135 1 = some 1 := by kernel_rfl
theorem fd135_2 : fldB Tryz.prog 135 2 = some 2 := by kernel_rfl
theorem fd135_3 : fldB Tryz.prog 135 3 = some 6 := by kernel_rfl
theorem ty147 : tyI Tryz.prog 147 = some (1, 24, false) := by kernel_rfl
theorem u147 : Tryz.prog.underlying 147 = some (TypeDesc.slice 207) := by kernel_rfl
theorem z147 : zeroOf Tryz.prog 147 = true := by kernel_rfl
theorem zc147 : (Tryz.prog.info? 147).map (fun i => (i.zero.map (·.cells.size))) = some (some 1) := by kernel_rfl
theorem ty158 : tyI Tryz.prog 158 = some (11, 232, true) := by kernel_rfl
theorem z158 : zeroOf Tryz.prog 158 = true := by kernel_rfl
theorem zc158 : (Tryz.prog.info? 158).map (fun i => (i.zero.map (·.cells.size))) = some (some 11) := by kernel_rfl
theorem zl158 : zeroL Tryz.prog 158 = some [.slice none 0 0, .slice none 0 0, .slice none 0 0, .slice none 0 0, .slice none 0 0, .slice none 0 0, .slice none 0 0, .slice none 0 0, .slice none 0 0, .int .i64 0, .int .i64 0] := by kernel_rfl
theorem fd158_0 : fldB Tryz.prog 158 0 = some 0 := by kernel_rfl
theorem fd158_1 : fldB Tryz.prog 158 1 = some 5 := by kernel_rfl
theorem fd158_2 : fldB Tryz.prog 158 2 = some 6 := by kernel_rfl
theorem fd158_3 : fldB Tryz.prog 158 3 = some 7 := by kernel_rfl
theorem fd158_4 : fldB Tryz.prog 158 4 = some 8 := by kernel_rfl
theorem fd158_5 : fldB Tryz.prog 158 5 = some 9 := by kernel_rfl
theorem fd158_6 : fldB Tryz.prog 158 6 = some 10 := by kernel_rfl
theorem ty159 : tyI Tryz.prog 159 = some (11, 232, true) := by kernel_rfl
theorem z159 : zeroOf Tryz.prog 159 = true := by kernel_rfl
theorem zc159 : (Tryz.prog.info? 159).map (fun i => (i.zero.map (·.cells.size))) = some (some 11) := by kernel_rfl
theorem zl159 : zeroL Tryz.prog 159 = some [.slice none 0 0, .slice none 0 0, .slice none 0 0, .slice none 0 0, .slice none 0 0, .slice none 0 0, .slice none 0 0, .slice none 0 0, .slice none 0 0, .int .i64 0, .int .i64 0] := by kernel_rfl
theorem fd159_0 : fldB Tryz.prog 159 0 = some 0 := by kernel_rfl
theorem fd159_1 : fldB Tryz.prog 159 1 = some 5 := by kernel_rfl
theorem fd159_2 : fldB Tryz.prog 159 2 = some 6 := by kernel_rfl
theorem fd159_3 : fldB Tryz.prog 159 3 = some 7 := by kernel_rfl
theorem fd159_4 : fldB Tryz.prog 159 4 = some 8 := by kernel_rfl
theorem fd159_5 : fldB Tryz.prog 159 5 = some 9 := by kernel_rfl
theorem fd159_6 : fldB Tryz.prog 159 6 = some 10 := by kernel_rfl
theorem ty168 : tyI Tryz.prog 168 = some (1, 24, false) := by kernel_rfl
theorem u168 : Tryz.prog.underlying 168 = some (TypeDesc.slice 171) := by kernel_rfl
theorem z168 : zeroOf Tryz.prog 168 = true := by kernel_rfl
theorem zc168 : (Tryz.prog.info? 168).map (fun i => (i.zero.map (·.cells.size))) = some (some 1) := by kernel_rfl
theorem ty170 : tyI Tryz.prog 170 = some (4, 32, true) := by kernel_rfl
theorem z170 : zeroOf Tryz.prog 170 = true := by kernel_rfl
theorem zc170 : (Tryz.prog.info? 170).map (fun i => (i.zero.map (·.cells.size))) = some (some 4) := by kernel_rfl
theorem us170 : Tryz.prog.underlying 170 = some (TypeDesc.struct (Array.mk [Field.mk "At" 3 0 false "" "" 0, Field.mk "Global" 3 1 false "" "" 8, Field.mk "Write" 4 2 false "" "" 16, Field.mk "Held" 3 3 false "" "" 24])) := by kernel_rfl
theorem zl170 : zeroL Tryz.prog 170 = some [.int .i64 0, .int .i64 0, .bool false, .int .i64 0] := by kernel_rfl
theorem fd170_0 : fldB Tryz.prog 170 0 = some 0 := by kernel_rfl
theorem fd170_1 : fldB Tryz.prog 170 1 = some 1 := by kernel_rfl
theorem fd170_2 : fldB Tryz.prog 170 2 = some 2 := by kernel_rfl
theorem fd170_3 : fldB Tryz.prog 170 3 = some 3 := by kernel_rfl
theorem ty171 : tyI Tryz.prog 171 = some (4, 32, true) := by kernel_rfl
theorem z171 : zeroOf Tryz.prog 171 = true := by kernel_rfl
theorem zc171 : (Tryz.prog.info? 171).map (fun i => (i.zero.map (·.cells.size))) = some (some 4) := by kernel_rfl
theorem us171 : Tryz.prog.underlying 171 = some (TypeDesc.struct (Array.mk [Field.mk "At" 3 0 false "" "" 0, Field.mk "Global" 3 1 false "" "" 8, Field.mk "Write" 4 2 false "" "" 16, Field.mk "Held" 3 3 false "" "" 24])) := by kernel_rfl
theorem zl171 : zeroL Tryz.prog 171 = some [.int .i64 0, .int .i64 0, .bool false, .int .i64 0] := by kernel_rfl
theorem fd171_0 : fldB Tryz.prog 171 0 = some 0 := by kernel_rfl
theorem fd171_1 : fldB Tryz.prog 171 1 = some 1 := by kernel_rfl
theorem fd171_2 : fldB Tryz.prog 171 2 = some 2 := by kernel_rfl
theorem fd171_3 : fldB Tryz.prog 171 3 = some 3 := by kernel_rfl
theorem ty174 : tyI Tryz.prog 174 = some (1, 24, false) := by kernel_rfl
theorem u174 : Tryz.prog.underlying 174 = some (TypeDesc.slice 168) := by kernel_rfl
theorem z174 : zeroOf Tryz.prog 174 = true := by kernel_rfl
theorem zc174 : (Tryz.prog.info? 174).map (fun i => (i.zero.map (·.cells.size))) = some (some 1) := by kernel_rfl
theorem ty183 : tyI Tryz.prog 183 = some (1, 24, false) := by kernel_rfl
theorem u183 : Tryz.prog.underlying 183 = some (TypeDesc.slice 97) := by kernel_rfl
theorem z183 : zeroOf Tryz.prog 183 = true := by kernel_rfl
theorem zc183 : (Tryz.prog.info? 183).map (fun i => (i.zero.map (·.cells.size))) = some (some 1) := by kernel_rfl
theorem ty185 : tyI Tryz.prog 185 = some (2, 16, true) := by kernel_rfl
theorem z185 : zeroOf Tryz.prog 185 = true := by kernel_rfl
theorem zc185 : (Tryz.prog.info? 185).map (fun i => (i.zero.map (·.cells.size))) = some (some 2) := by kernel_rfl
theorem us185 : Tryz.prog.underlying 185 = some (TypeDesc.struct (Array.mk [Field.mk "From" 3 0 false "" "" 0, Field.mk "To" 3 1 false "" "" 8])) := by kernel_rfl
theorem zl185 : zeroL Tryz.prog 185 = some [.int .i64 0, .int .i64 0] := by kernel_rfl
theorem fd185_0 : fldB Tryz.prog 185 0 = some 0 := by kernel_rfl
theorem fd185_1 : fldB Tryz.prog 185 1 = some 1 := by kernel_rfl
theorem ty186 : tyI Tryz.prog 186 = some (2, 16, true) := by kernel_rfl
theorem z186 : zeroOf Tryz.prog 186 = true := by kernel_rfl
theorem zc186 : (Tryz.prog.info? 186).map (fun i => (i.zero.map (·.cells.size))) = some (some 2) := by kernel_rfl
theorem us186 : Tryz.prog.underlying 186 = some (TypeDesc.struct (Array.mk [Field.mk "From" 3 0 false "" "" 0, Field.mk "To" 3 1 false "" "" 8])) := by kernel_rfl
theorem zl186 : zeroL Tryz.prog 186 = some [.int .i64 0, .int .i64 0] := by kernel_rfl
theorem fd186_0 : fldB Tryz.prog 186 0 = some 0 := by kernel_rfl
theorem fd186_1 : fldB Tryz.prog 186 1 = some 1 := by kernel_rfl
theorem ty188 : tyI Tryz.prog 188 = some (1, 24, false) := by kernel_rfl
theorem u188 : Tryz.prog.underlying 188 = some (TypeDesc.slice 190) := by kernel_rfl
theorem z188 : zeroOf Tryz.prog 188 = true := by kernel_rfl
theorem zc188 : (Tryz.prog.info? 188).map (fun i => (i.zero.map (·.cells.size))) = some (some 1) := by kernel_rfl
theorem ty190 : tyI Tryz.prog 190 = some (1, 8, false) := by kernel_rfl
theorem u190 : Tryz.prog.underlying 190 = some (TypeDesc.int IntKind.u64) := by kernel_rfl
theorem z190 : zeroOf Tryz.prog 190 = true := by kernel_rfl
theorem zc190 : (Tryz.prog.info? 190).map (fun i => (i.zero.map (·.cells.size))) = some (some 1) := by kernel_rfl
theorem ty198 : tyI Tryz.prog 198 = some (1, 24, false) := by kernel_rfl
theorem u198 : Tryz.prog.underlying 198 = some (TypeDesc.slice 5) := by kernel_rfl
theorem z198 : zeroOf Tryz.prog 198 = true := by kernel_rfl
theorem zc198 : (Tryz.prog.info? 198).map (fun i => (i.zero.map (·.cells.size))) = some (some 1) := by kernel_rfl
theorem ty206 : tyI Tryz.prog 206 = some (2, 16, true) := by kernel_rfl
theorem z206 : zeroOf Tryz.prog 206 = true := by kernel_rfl
theorem zc206 : (Tryz.prog.info? 206).map (fun i => (i.zero.map (·.cells.size))) = some (some 2) := by kernel_rfl
theorem us206 : Tryz.prog.underlying 206 = some (TypeDesc.struct (Array.mk [Field.mk "Keep" 3 0 false "" "" 0, Field.mk "Gen" 3 1 false "" "" 8])) := by kernel_rfl
theorem zl206 : zeroL Tryz.prog 206 = some [.int .i64 0, .int .i64 0] := by kernel_rfl
theorem fd206_0 : fldB Tryz.prog 206 0 = some 0 := by kernel_rfl
theorem fd206_1 : fldB Tryz.prog 206 1 = some 1 := by kernel_rfl
theorem ty207 : tyI Tryz.prog 207 = some (2, 16, true) := by kernel_rfl
theorem z207 : zeroOf Tryz.prog 207 = true := by kernel_rfl
theorem zc207 : (Tryz.prog.info? 207).map (fun i => (i.zero.map (·.cells.size))) = some (some 2) := by kernel_rfl
theorem us207 : Tryz.prog.underlying 207 = some (TypeDesc.struct (Array.mk [Field.mk "Keep" 3 0 false "" "" 0, Field.mk "Gen" 3 1 false "" "" 8])) := by kernel_rfl
theorem zl207 : zeroL Tryz.prog 207 = some [.int .i64 0, .int .i64 0] := by kernel_rfl
theorem fd207_0 : fldB Tryz.prog 207 0 = some 0 := by kernel_rfl
theorem fd207_1 : fldB Tryz.prog 207 1 = some 1 := by kernel_rfl
theorem ty228 : tyI Tryz.prog 228 = some (1, 8, false) := by kernel_rfl
theorem u228 : Tryz.prog.underlying 228 = some (TypeDesc.int IntKind.i64) := by kernel_rfl
theorem z228 : zeroOf Tryz.prog 228 = true := by kernel_rfl
theorem zc228 : (Tryz.prog.info? 228).map (fun i => (i.zero.map (·.cells.size))) = some (some 1) := by kernel_rfl
theorem ty236 : tyI Tryz.prog 236 = some (1, 4, false) := by kernel_rfl
theorem u236 : Tryz.prog.underlying 236 = some (TypeDesc.int IntKind.u32) := by kernel_rfl
theorem z236 : zeroOf Tryz.prog 236 = true := by kernel_rfl
theorem zc236 : (Tryz.prog.info? 236).map (fun i => (i.zero.map (·.cells.size))) = some (some 1) := by kernel_rfl
theorem ty250 : tyI Tryz.prog 250 = some (1, 8, false) := by kernel_rfl
theorem u250 : Tryz.prog.underlying 250 = some (TypeDesc.int IntKind.u64) := by kernel_rfl
theorem z250 : zeroOf Tryz.prog 250 = true := by kernel_rfl
theorem zc250 : (Tryz.prog.info? 250).map (fun i => (i.zero.map (·.cells.size))) = some (some 1) := by kernel_rfl
theorem ty266 : tyI Tryz.prog 266 = some (4, 40, true) := by kernel_rfl
theorem z266 : zeroOf Tryz.prog 266 = true := by kernel_rfl
theorem zc266 : (Tryz.prog.info? 266).map (fun i => (i.zero.map (·.cells.size))) = some (some 4) := by kernel_rfl
theorem us266 : Tryz.prog.underlying 266 = some (TypeDesc.struct (Array.mk [Field.mk "_interface" 17 0 false "" "runtime" 0, Field.mk "concrete" 17 1 false "" "runtime" 8, Field.mk "asserted" 17 2 false "" "runtime" 16, Field.mk "missingMethod" 9 3 false "" "runtime" 24])) := by kernel_rfl
theorem fd266_0 : fldB Tryz.prog 266 0 = some 0 := by kernel_rfl
theorem fd266_1 : fldB Tryz.prog 266 1 = some 1 := by kernel_rfl
theorem fd266_2 : fldB Tryz.prog 266 2 = some 2 := by kernel_rfl
theorem fd266_3 : fldB Tryz.prog 266 3 = some 3 := by kernel_rfl
theorem ty267 : tyI Tryz.prog 267 = some (4, 40, true) := by kernel_rfl
theorem z267 : zeroOf Tryz.prog 267 = true := by kernel_rfl
theorem zc267 : (Tryz.prog.info? 267).map (fun i => (i.zero.map (·.cells.size))) = some (some 4) := by kernel_rfl
theorem us267 : Tryz.prog.underlying 267 = some (TypeDesc.struct (Array.mk [Field.mk "_interface" 17 0 false "" "runtime" 0, Field.mk "concrete" 17 1 false "" "runtime" 8, Field.mk "asserted" 17 2 false "" "runtime" 16, Field.mk "missingMethod" 9 3 false "" "runtime" 24])) := by kernel_rfl
theorem fd267_0 : fldB Tryz.prog 267 0 = some 0 := by kernel_rfl
theorem fd267_1 : fldB Tryz.prog 267 1 = some 1 := by kernel_rfl
theorem fd267_2 : fldB Tryz.prog 267 2 = some 2 := by kernel_rfl
theorem fd267_3 : fldB Tryz.prog 267 3 = some 3 := by kernel_rfl
theorem ty268 : tyI Tryz.prog 268 = some (0, 0, true) := by kernel_rfl
theorem u268 : Tryz.prog.underlying 268 = some (TypeDesc.array 0 16) := by kernel_rfl
theorem z268 : zeroOf Tryz.prog 268 = true := by kernel_rfl
theorem ty269 : tyI Tryz.prog 269 = some (0, 0, true) := by kernel_rfl
theorem z269 : zeroOf Tryz.prog 269 = true := by kernel_rfl
theorem us269 : Tryz.prog.underlying 269 = some (TypeDesc.struct (Array.mk [Field.mk "_" 268 0 false "" "runtime" 0])) := by kernel_rfl
theorem ty270 : tyI Tryz.prog 270 = some (0, 0, true) := by kernel_rfl
theorem z270 : zeroOf Tryz.prog 270 = true := by kernel_rfl
theorem us270 : Tryz.prog.underlying 270 = some (TypeDesc.struct (Array.mk [Field.mk "_" 268 0 false "" "runtime" 0])) := by kernel_rfl
theorem ty271 : tyI Tryz.prog 271 = some (1, 1, false) := by kernel_rfl
theorem u271 : Tryz.prog.underlying 271 = some (TypeDesc.int IntKind.u8) := by kernel_rfl
theorem z271 : zeroOf Tryz.prog 271 = true := by kernel_rfl
theorem zc271 : (Tryz.prog.info? 271).map (fun i => (i.zero.map (·.cells.size))) = some (some 1) := by kernel_rfl
theorem ty272 : tyI Tryz.prog 272 = some (1, 1, false) := by kernel_rfl
theorem u272 : Tryz.prog.underlying 272 = some (TypeDesc.int IntKind.u8) := by kernel_rfl
theorem z272 : zeroOf Tryz.prog 272 = true := by kernel_rfl
theorem zc272 : (Tryz.prog.info? 272).map (fun i => (i.zero.map (·.cells.size))) = some (some 1) := by kernel_rfl
theorem ty275 : tyI Tryz.prog 275 = some (1, 4, false) := by kernel_rfl
theorem u275 : Tryz.prog.underlying 275 = some (TypeDesc.int IntKind.i32) := by kernel_rfl
theorem z275 : zeroOf Tryz.prog 275 = true := by kernel_rfl
theorem zc275 : (Tryz.prog.info? 275).map (fun i => (i.zero.map (·.cells.size))) = some (some 1) := by kernel_rfl
theorem ty276 : tyI Tryz.prog 276 = some (1, 4, false) := by kernel_rfl
theorem u276 : Tryz.prog.underlying 276 = some (TypeDesc.int IntKind.i32) := by kernel_rfl
theorem z276 : zeroOf Tryz.prog 276 = true := by kernel_rfl
theorem zc276 : (Tryz.prog.info? 276).map (fun i => (i.zero.map (·.cells.size))) = some (some 1) := by kernel_rfl
theorem ty277 : tyI Tryz.prog 277 = some (11, 48, true) := by kernel_rfl
theorem z277 : zeroOf Tryz.prog 277 = true := by kernel_rfl
theorem zc277 : (Tryz.prog.info? 277).map (fun i => (i.zero.map (·.cells.size))) = some (some 11) := by kernel_rfl
theorem us277 : Tryz.prog.underlying 277 = some (TypeDesc.struct (Array.mk [Field.mk "Size_" 12 0 false "" "" 0, Field.mk "PtrBytes" 12 1 false "" "" 8, Field.mk "Hash" 236 2 false "" "" 16, Field.mk "TFlag" 271 3 false "" "" 20, Field.mk "Align_" 5 4 false "" "" 21, Field.mk "FieldAlign_" 5 5 false "" "" 22, Field.mk "Kind_" 272 6 false "" "" 23, Field.mk "Equal" 273 7 false "" "" 24, Field.mk "GCData" 274 8 false "" "" 32, Field.mk "Str" 275 9 false "" "" 40, Field.mk "PtrToThis" 276 10 false "" "" 44])) := by kernel_rfl
theorem fd277_0 : fldB Tryz.prog 277 0 = some 0 := by kernel_rfl
theorem fd277_1 : fldB Tryz.prog 277 1 = some 1 := by kernel_rfl
theorem fd277_2 : fldB Tryz.prog 277 2 = some 2 := by kernel_rfl
theorem fd277_3 : fldB Tryz.prog 277 3 = some 3 := by kernel_rfl
theorem fd277_4 : fldB Tryz.prog 277 4 = some 4 := by kernel_rfl
theorem fd277_5 : fldB Tryz.prog 277 5 = some 5 := by kernel_rfl
theorem fd277_6 : fldB Tryz.prog 277 6 = some 6 := by kernel_rfl
theorem fd277_7 : fldB Tryz.prog 277 7 = some 7 := by kernel_rfl
theorem fd277_8 : fldB Tryz.prog 277 8 = some 8 := by kernel_rfl
theorem fd277_9 : fldB Tryz.prog 277 9 = some 9 := by kernel_rfl
theorem fd277_10 : fldB Tryz.prog 277 10 = some 10 := by kernel_rfl
theorem ty278 : tyI Tryz.prog 278 = some (11, 48, true) := by kernel_rfl
theorem z278 : zeroOf Tryz.prog 278 = true := by kernel_rfl
theorem zc278 : (Tryz.prog.info? 278).map (fun i => (i.zero.map (·.cells.size))) = some (some 11) := by kernel_rfl
theorem us278 : Tryz.prog.underlying 278 = some (TypeDesc.struct (Array.mk [Field.mk "Size_" 12 0 false "" "" 0, Field.mk "PtrBytes" 12 1 false "" "" 8, Field.mk "Hash" 236 2 false "" "" 16, Field.mk "TFlag" 271 3 false "" "" 20, Field.mk "Align_" 5 4 false "" "" 21, Field.mk "FieldAlign_" 5 5 false "" "" 22, Field.mk "Kind_" 272 6 false "" "" 23, Field.mk "Equal" 273 7 false "" "" 24, Field.mk "GCData" 274 8 false "" "" 32, Field.mk "Str" 275 9 false "" "" 40, Field.mk "PtrToThis" 276 10 false "" "" 44])) := by kernel_rfl
theorem fd278_0 : fldB Tryz.prog 278 0 = some 0 := by kernel_rfl
theorem fd278_1 : fldB Tryz.prog 278 1 = some 1 := by kernel_rfl
theorem fd278_2 : fldB Tryz.prog 278 2 = some 2 := by kernel_rfl
theorem fd278_3 : fldB Tryz.prog 278 3 = some 3 := by kernel_rfl
theorem fd278_4 : fldB Tryz.prog 278 4 = some 4 := by kernel_rfl
theorem fd278_5 : fldB Tryz.prog 278 5 = some 5 := by kernel_rfl
theorem fd278_6 : fldB Tryz.prog 278 6 = some 6 := by kernel_rfl
theorem fd278_7 : fldB Tryz.prog 278 7 = some 7 := by kernel_rfl
theorem fd278_8 : fldB Tryz.prog 278 8 = some 8 := by kernel_rfl
theorem fd278_9 : fldB Tryz.prog 278 9 = some 9 := by kernel_rfl
theorem fd278_10 : fldB Tryz.prog 278 10 = some 10 := by kernel_rfl
end Go.Proofs.YteephmhilnlkpaaGreat
