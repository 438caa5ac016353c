/- The reading of the functions, printed by program (decomp.py); each equation is checked by the kernel. -/
import Derived.Test.YtokppocbfpjngaaFns0
import Derived.KernelRfl
set_option linter.unusedVariables false
namespace Go.Proofs.Ytokppocbfpjngaa
open Go Go.Sh Go.Proofs
/-- impl.touchesIn -/
def F76 (a0 a1 a2 : Value) (w : World) (R : Value → World → Prop) : Prop :=
  OP Try.prog (Instr.box 31 a0) w fun x3 w =>
  RD Try.prog (Instr.fieldAt 31 x3 4) w fun x12 =>
  RD Try.prog (Instr.loadAt 29 x12) w fun x13 =>
  RD Try.prog (Instr.indexAt 29 x13 a1) w fun x15 =>
  RD Try.prog (Instr.loadAt 95 x15) w fun x16 =>
  OP Try.prog (Instr.alloc 95 true (.tuple #[])) w fun x7 w =>
  OPU Try.prog (Instr.storeAt 95 x7 x16) w fun w =>
  JOIN [] (fun J4 =>
   RD Try.prog (Instr.fieldAt 95 x7 0) w fun x17 =>
   RD Try.prog (Instr.loadAt 3 x17) w fun x18 =>
   RD Try.prog (bin .neq 3 (.tmp 0) (.const undef) x18 (Value.int .i64 1)) w fun x19 =>
   BR x19
   (RD Try.prog (Instr.fieldAt 95 x7 0) w fun x21 =>
   RD Try.prog (Instr.loadAt 3 x21) w fun x22 =>
   RD Try.prog (bin .neq 3 (.tmp 0) (.const undef) x22 (Value.int .i64 2)) w fun x23 =>
   BR x23
    (R (Value.slice none 0 0) w)
    (J4 [] w))
   (J4 [] w)) (fun u4 w =>
   RD Try.prog (Instr.fieldAt 95 x7 2) w fun x25 =>
   RD Try.prog (Instr.loadAt 93 x25) w fun x26 =>
   CALL Try.prog 110 [x26] w fun x27 w =>
   RD Try.prog (Instr.fieldAt 31 x3 0) w fun x28 =>
   RD Try.prog (Instr.loadAt 22 x28) w fun x29 =>
   RD Try.prog (Builtin.len_ #[22] 3 [x29].toArray) w fun x30 =>
   LOOPI [9, 31] [(Value.slice none 0 0), (Value.int .i64 0)] w fun u7 w next7 =>
    RD Try.prog (bin .lss 3 (.tmp 0) (.tmp 0) (u7 31) x30) w fun x32 =>
    BR x32
     (RD Try.prog (Instr.indexAt 22 x29 (u7 31)) w fun x34 =>
     RD Try.prog (Instr.loadAt 9 x34) w fun x35 =>
     JOIN [9] (fun J11 =>
      CALL Try.prog 111 [x27, x35] w fun x38 w =>
      BR x38
       (RD Try.prog (Instr.build 80 #[(0, a1), (1, (u7 31)), (3, a2)]) w fun x43 =>
       OP Try.prog (Instr.buildSlice 50 1 #[(0, x43)]) w fun x44 w =>
       OP Try.prog (Builtin.append_ #[50, 50] 50 [(u7 9), x44].toArray) w fun x45 w =>
       J11 [x45] w)
       (J11 [(u7 9)] w)) (fun u11 w =>
      RD Try.prog (Instr.fieldAt 95 x7 0) w fun x46 =>
      RD Try.prog (Instr.loadAt 3 x46) w fun x47 =>
      RD Try.prog (bin .eql 3 (.tmp 0) (.const undef) x47 (Value.int .i64 1)) w fun x48 =>
      BR x48
      (RD Try.prog (Instr.fieldAt 95 x7 1) w fun x50 =>
      RD Try.prog (Instr.loadAt 3 x50) w fun x51 =>
      RD Try.prog (bin .eql 3 (.tmp 0) (.tmp 0) x51 (u7 31)) w fun x53 =>
      BR x53
       (RD Try.prog (Instr.build 80 #[(0, a1), (1, (u7 31)), (2, (Value.bool true)), (3, a2)]) w fun x59 =>
       OP Try.prog (Instr.buildSlice 50 1 #[(0, x59)]) w fun x60 w =>
       OP Try.prog (Builtin.append_ #[50, 50] 50 [(u11 9), x60].toArray) w fun x61 w =>
       RD Try.prog (bin .add 3 (.tmp 0) (.const undef) (u7 31) (Value.int .i64 1)) w fun x62 =>
       next7 [x61, x62] w)
       (RD Try.prog (bin .add 3 (.tmp 0) (.const undef) (u7 31) (Value.int .i64 1)) w fun x62 =>
       next7 [(u11 9), x62] w))
      (RD Try.prog (bin .add 3 (.tmp 0) (.const undef) (u7 31) (Value.int .i64 1)) w fun x62 =>
       next7 [(u11 9), x62] w)))
     (R (u7 9) w))
def cfg76 : Cfg := { ext := extL, joins := [(4, 33423424, []), (11, 70300024701440, [9])], loops := [(7, 9223372034707295744, [9, 31])], draws := [], pars := [] }
theorem F76_eq (a0 a1 a2 : Value) (w : World) (R : Value → World → Prop) : vcF Try.prog cfg76 Try.f76 [a0, a1, a2] w R = F76 a0 a1 a2 w R := by kernel_rfl
theorem F76_call {a0 a1 a2 : Value} {w : World} {R : Value → World → Prop} (h : F76 a0 a1 a2 w R) : CALL Try.prog 76 [a0, a1, a2] w R :=
  call_of (g := cfg76) ent mixed Try.func76 (Nat.le_of_ble_eq_true (by kernel_rfl)) (by kernel_rfl) (F76_eq a0 a1 a2 w R ▸ h)

/-- laws.eqTouch -/
def F77 (a0 a1 : Value) (w : World) (R : Value → World → Prop) : Prop :=
  OP Try.prog (Instr.box 80 a0) w fun x2 w =>
  OP Try.prog (Instr.box 80 a1) w fun x3 w =>
  RD Try.prog (Instr.fieldAt 80 x2 0) w fun x5 =>
  RD Try.prog (Instr.loadAt 3 x5) w fun x6 =>
  RD Try.prog (Instr.fieldAt 80 x3 0) w fun x7 =>
  RD Try.prog (Instr.loadAt 3 x7) w fun x8 =>
  RD Try.prog (bin .neq 3 (.tmp 0) (.tmp 0) x6 x8) w fun x9 =>
  BR x9
   (R (Value.bool false) w)
   (RD Try.prog (Instr.fieldAt 80 x2 1) w fun x10 =>
   RD Try.prog (Instr.loadAt 3 x10) w fun x11 =>
   RD Try.prog (Instr.fieldAt 80 x3 1) w fun x12 =>
   RD Try.prog (Instr.loadAt 3 x12) w fun x13 =>
   RD Try.prog (bin .neq 3 (.tmp 0) (.tmp 0) x11 x13) w fun x14 =>
   BR x14
    (R (Value.bool false) w)
    (RD Try.prog (Instr.fieldAt 80 x2 2) w fun x15 =>
    RD Try.prog (Instr.loadAt 4 x15) w fun x16 =>
    RD Try.prog (Instr.fieldAt 80 x3 2) w fun x17 =>
    RD Try.prog (Instr.loadAt 4 x17) w fun x18 =>
    RD Try.prog (bin .neq 4 (.tmp 0) (.tmp 0) x16 x18) w fun x19 =>
    BR x19
     (R (Value.bool false) w)
     (RD Try.prog (Instr.fieldAt 80 x2 3) w fun x20 =>
     RD Try.prog (Instr.loadAt 3 x20) w fun x21 =>
     RD Try.prog (Instr.fieldAt 80 x3 3) w fun x22 =>
     RD Try.prog (Instr.loadAt 3 x22) w fun x23 =>
     RD Try.prog (bin .neq 3 (.tmp 0) (.tmp 0) x21 x23) w fun x24 =>
     BR x24
      (R (Value.bool false) w)
      (R (Value.bool true) w))))
def cfg77 : Cfg := { ext := extL, joins := [], loops := [], draws := [], pars := [] }
theorem F77_eq (a0 a1 : Value) (w : World) (R : Value → World → Prop) : vcF Try.prog cfg77 Try.f77 [a0, a1] w R = F77 a0 a1 w R := by kernel_rfl
theorem F77_call {a0 a1 : Value} {w : World} {R : Value → World → Prop} (h : F77 a0 a1 w R) : CALL Try.prog 77 [a0, a1] w R :=
  call_of (g := cfg77) ent mixed Try.func77 (Nat.le_of_ble_eq_true (by kernel_rfl)) (by kernel_rfl) (F77_eq a0 a1 w R ▸ h)

/-- spec.l24Waits -/
def F78 (a0 a1 a2 : Value) (w : World) (R : Value → World → Prop) : Prop :=
  OP Try.prog (Instr.box 31 a0) w fun x3 w =>
  OP Try.prog (Instr.box 42 a1) w fun x4 w =>
  RD Try.prog (Instr.loadAt 42 x4) w fun x8 =>
  CALL Try.prog 112 [x8, a2] w fun x10 w =>
  (fun w => RD Try.prog (bin .lss 3 (.tmp 0) (.const undef) x10 (Value.int .i64 0)) w fun x12 =>
  BR x12
  (R (Value.int .i64 (-1)) w)
  (RD Try.prog (Instr.fieldAt 31 x3 4) w fun x14 =>
  RD Try.prog (Instr.loadAt 29 x14) w fun x15 =>
  RD Try.prog (Instr.indexAt 29 x15 x10) w fun x17 =>
  RD Try.prog (Instr.fieldAt 95 x17 0) w fun x18 =>
  RD Try.prog (Instr.loadAt 3 x18) w fun x19 =>
  RD Try.prog (bin .neq 3 (.tmp 0) (.const undef) x19 (Value.int .i64 6)) w fun x20 =>
  BR x20
  (R (Value.int .i64 (-1)) w)
  (RD Try.prog (Instr.fieldAt 42 x4 1) w fun x23 =>
  RD Try.prog (Instr.loadAt 23 x23) w fun x24 =>
  RD Try.prog (Instr.fieldAt 31 x3 4) w fun x25 =>
  RD Try.prog (Instr.loadAt 29 x25) w fun x26 =>
  RD Try.prog (Instr.indexAt 29 x26 x10) w fun x28 =>
  RD Try.prog (Instr.fieldAt 95 x28 1) w fun x29 =>
  RD Try.prog (Instr.loadAt 3 x29) w fun x30 =>
  RD Try.prog (Instr.indexAt 23 x24 x30) w fun x31 =>
  RD Try.prog (Instr.loadAt 3 x31) w fun x32 =>
  RD Try.prog (bin .lss 3 (.tmp 0) (.const undef) x32 (Value.int .i64 0)) w fun x33 =>
  BR x33
   (R (Value.int .i64 (-1)) w)
   (RD Try.prog (Instr.fieldAt 31 x3 4) w fun x35 =>
   RD Try.prog (Instr.loadAt 29 x35) w fun x36 =>
   RD Try.prog (Instr.indexAt 29 x36 x10) w fun x38 =>
   RD Try.prog (Instr.fieldAt 95 x38 1) w fun x39 =>
   RD Try.prog (Instr.loadAt 3 x39) w fun x40 =>
   R x40 w)))) (World.drew1 w)
def cfg78 : Cfg := { ext := extL, joins := [], loops := [], draws := [(2, [0, 1, 2, 3, 4, 5, 6, 7, 8, 9, 10, 11, 12, 13, 14, 15, 16, 17, 18, 19, 20, 21, 22, 23], 0)], pars := [] }
theorem F78_eq (a0 a1 a2 : Value) (w : World) (R : Value → World → Prop) : vcF Try.prog cfg78 Try.f78 [a0, a1, a2] w R = F78 a0 a1 a2 w R := by kernel_rfl
theorem F78_call {a0 a1 a2 : Value} {w : World} {R : Value → World → Prop} (h : F78 a0 a1 a2 w R) : CALL Try.prog 78 [a0, a1, a2] w R :=
  call_of (g := cfg78) ent mixed Try.func78 (Nat.le_of_ble_eq_true (by kernel_rfl)) (by kernel_rfl) (F78_eq a0 a1 a2 w R ▸ h)

/-- impl.waits -/
def F79 (a0 a1 a2 : Value) (w : World) (R : Value → World → Prop) : Prop :=
  OP Try.prog (Instr.box 31 a0) w fun x3 w =>
  OP Try.prog (Instr.box 42 a1) w fun x4 w =>
  RD Try.prog (Instr.loadAt 42 x4) w fun x8 =>
  CALL Try.prog 113 [x8, a2] w fun x10 w =>
  (fun w => RD Try.prog (Instr.loadAt 31 x3) w fun x11 =>
  CALL Try.prog 75 [x11, x10] w fun x13 w =>
  RD Try.prog (Op.unary .not x13) w fun x14 =>
  BR x14
  (R (Value.int .i64 (-1)) w)
  (RD Try.prog (Instr.fieldAt 31 x3 4) w fun x16 =>
  RD Try.prog (Instr.loadAt 29 x16) w fun x17 =>
  RD Try.prog (Instr.indexAt 29 x17 x10) w fun x19 =>
  RD Try.prog (Instr.fieldAt 95 x19 0) w fun x20 =>
  RD Try.prog (Instr.loadAt 3 x20) w fun x21 =>
  RD Try.prog (bin .neq 3 (.tmp 0) (.const undef) x21 (Value.int .i64 6)) w fun x22 =>
  BR x22
  (R (Value.int .i64 (-1)) w)
  (RD Try.prog (Instr.loadAt 42 x4) w fun x25 =>
  RD Try.prog (Instr.fieldAt 31 x3 4) w fun x26 =>
  RD Try.prog (Instr.loadAt 29 x26) w fun x27 =>
  RD Try.prog (Instr.indexAt 29 x27 x10) w fun x29 =>
  RD Try.prog (Instr.fieldAt 95 x29 1) w fun x30 =>
  RD Try.prog (Instr.loadAt 3 x30) w fun x31 =>
  CALL Try.prog 114 [x25, x31] w fun x32 w =>
  RD Try.prog (bin .lss 3 (.tmp 0) (.const undef) x32 (Value.int .i64 0)) w fun x33 =>
  BR x33
   (R (Value.int .i64 (-1)) w)
   (RD Try.prog (Instr.fieldAt 31 x3 4) w fun x35 =>
   RD Try.prog (Instr.loadAt 29 x35) w fun x36 =>
   RD Try.prog (Instr.indexAt 29 x36 x10) w fun x38 =>
   RD Try.prog (Instr.fieldAt 95 x38 1) w fun x39 =>
   RD Try.prog (Instr.loadAt 3 x39) w fun x40 =>
   R x40 w)))) (World.drew1 w)
def cfg79 : Cfg := { ext := extL, joins := [], loops := [], draws := [(2, [0, 1, 2, 3, 4, 5, 6, 7, 8, 9, 10, 11, 12, 13, 14, 15, 16, 17, 18, 19, 20, 21, 22, 23], 0)], pars := [] }
theorem F79_eq (a0 a1 a2 : Value) (w : World) (R : Value → World → Prop) : vcF Try.prog cfg79 Try.f79 [a0, a1, a2] w R = F79 a0 a1 a2 w R := by kernel_rfl
theorem F79_call {a0 a1 a2 : Value} {w : World} {R : Value → World → Prop} (h : F79 a0 a1 a2 w R) : CALL Try.prog 79 [a0, a1, a2] w R :=
  call_of (g := cfg79) ent mixed Try.func79 (Nat.le_of_ble_eq_true (by kernel_rfl)) (by kernel_rfl) (F79_eq a0 a1 a2 w R ▸ h)

/-- spec.l21Go -/
def F80 (a0 a1 a2 : Value) (w : World) (R : Value → World → Prop) : Prop :=
  OP Try.prog (Instr.box 31 a0) w fun x3 w =>
  OP Try.prog (Instr.box 42 a1) w fun x4 w =>
  RD Try.prog (Instr.loadAt 42 x4) w fun x8 =>
  CALL Try.prog 112 [x8, a2] w fun x10 w =>
  RD Try.prog (bin .lss 3 (.tmp 0) (.const undef) x10 (Value.int .i64 0)) w fun x12 =>
  BR x12
   (R (Value.bool false) w)
   (RD Try.prog (Instr.fieldAt 31 x3 4) w fun x13 =>
   RD Try.prog (Instr.loadAt 29 x13) w fun x14 =>
   RD Try.prog (Instr.indexAt 29 x14 x10) w fun x16 =>
   RD Try.prog (Instr.fieldAt 95 x16 0) w fun x17 =>
   RD Try.prog (Instr.loadAt 3 x17) w fun x18 =>
   RD Try.prog (bin .eql 3 (.tmp 0) (.const undef) x18 (Value.int .i64 6)) w fun x20 =>
   BR x20
    ((fun w => RD Try.prog (Instr.fieldAt 42 x4 1) w fun x21 =>
    RD Try.prog (Instr.loadAt 23 x21) w fun x22 =>
    RD Try.prog (Instr.fieldAt 31 x3 4) w fun x23 =>
    RD Try.prog (Instr.loadAt 29 x23) w fun x24 =>
    RD Try.prog (Instr.indexAt 29 x24 x10) w fun x26 =>
    RD Try.prog (Instr.fieldAt 95 x26 1) w fun x27 =>
    RD Try.prog (Instr.loadAt 3 x27) w fun x28 =>
    RD Try.prog (Instr.indexAt 23 x22 x28) w fun x29 =>
    RD Try.prog (Instr.loadAt 3 x29) w fun x30 =>
    RD Try.prog (bin .eql 3 (.tmp 0) (.const undef) x30 (Value.int .i64 (-1))) w fun x31 =>
    R x31 w) (World.drew1 w))
    (RD Try.prog (bin .eql 3 (.tmp 0) (.const undef) x18 (Value.int .i64 4)) w fun x33 =>
    BR x33
     (RD Try.prog (Instr.fieldAt 42 x4 2) w fun x34 =>
     RD Try.prog (Instr.loadAt 37 x34) w fun x35 =>
     RD Try.prog (Instr.indexAt 37 x35 a2) w fun x37 =>
     RD Try.prog (Instr.loadAt 23 x37) w fun x38 =>
     RD Try.prog (Builtin.len_ #[23] 3 [x38].toArray) w fun x39 =>
     RD Try.prog (bin .lss 3 (.tmp 0) (.const undef) x39 (Value.int .i64 8)) w fun x40 =>
     R x40 w)
     (R (Value.bool true) w)))
def cfg80 : Cfg := { ext := extL, joins := [], loops := [], draws := [(6, [0, 1, 2, 3, 4, 5, 6, 7, 8, 9, 10, 11], 0)], pars := [] }
theorem F80_eq (a0 a1 a2 : Value) (w : World) (R : Value → World → Prop) : vcF Try.prog cfg80 Try.f80 [a0, a1, a2] w R = F80 a0 a1 a2 w R := by kernel_rfl
theorem F80_call {a0 a1 a2 : Value} {w : World} {R : Value → World → Prop} (h : F80 a0 a1 a2 w R) : CALL Try.prog 80 [a0, a1, a2] w R :=
  call_of (g := cfg80) ent mixed Try.func80 (Nat.le_of_ble_eq_true (by kernel_rfl)) (by kernel_rfl) (F80_eq a0 a1 a2 w R ▸ h)

/-- impl.goes -/
def F81 (a0 a1 a2 : Value) (w : World) (R : Value → World → Prop) : Prop :=
  OP Try.prog (Instr.box 31 a0) w fun x3 w =>
  OP Try.prog (Instr.box 42 a1) w fun x4 w =>
  RD Try.prog (Instr.loadAt 42 x4) w fun x8 =>
  CALL Try.prog 113 [x8, a2] w fun x10 w =>
  RD Try.prog (Instr.loadAt 31 x3) w fun x11 =>
  CALL Try.prog 75 [x11, x10] w fun x13 w =>
  RD Try.prog (Op.unary .not x13) w fun x14 =>
  BR x14
   (R (Value.bool false) w)
   (RD Try.prog (Instr.fieldAt 31 x3 4) w fun x15 =>
   RD Try.prog (Instr.loadAt 29 x15) w fun x16 =>
   RD Try.prog (Instr.indexAt 29 x16 x10) w fun x18 =>
   RD Try.prog (Instr.fieldAt 95 x18 0) w fun x19 =>
   RD Try.prog (Instr.loadAt 3 x19) w fun x20 =>
   RD Try.prog (bin .eql 3 (.tmp 0) (.const undef) x20 (Value.int .i64 6)) w fun x22 =>
   BR x22
    ((fun w => RD Try.prog (Instr.loadAt 42 x4) w fun x23 =>
    RD Try.prog (Instr.fieldAt 31 x3 4) w fun x24 =>
    RD Try.prog (Instr.loadAt 29 x24) w fun x25 =>
    RD Try.prog (Instr.indexAt 29 x25 x10) w fun x27 =>
    RD Try.prog (Instr.fieldAt 95 x27 1) w fun x28 =>
    RD Try.prog (Instr.loadAt 3 x28) w fun x29 =>
    CALL Try.prog 114 [x23, x29] w fun x30 w =>
    RD Try.prog (bin .lss 3 (.tmp 0) (.const undef) x30 (Value.int .i64 0)) w fun x31 =>
    R x31 w) (World.drew1 w))
    (RD Try.prog (bin .eql 3 (.tmp 0) (.const undef) x20 (Value.int .i64 4)) w fun x33 =>
    BR x33
     (RD Try.prog (Instr.fieldAt 42 x4 2) w fun x34 =>
     RD Try.prog (Instr.loadAt 37 x34) w fun x35 =>
     RD Try.prog (Instr.indexAt 37 x35 a2) w fun x37 =>
     RD Try.prog (Instr.loadAt 23 x37) w fun x38 =>
     RD Try.prog (Builtin.len_ #[23] 3 [x38].toArray) w fun x39 =>
     RD Try.prog (bin .lss 3 (.tmp 0) (.const undef) x39 (Value.int .i64 8)) w fun x40 =>
     R x40 w)
     (R (Value.bool true) w)))
def cfg81 : Cfg := { ext := extL, joins := [], loops := [], draws := [(6, [0, 1, 2, 3, 4, 5, 6, 7, 8, 9], 0)], pars := [] }
theorem F81_eq (a0 a1 a2 : Value) (w : World) (R : Value → World → Prop) : vcF Try.prog cfg81 Try.f81 [a0, a1, a2] w R = F81 a0 a1 a2 w R := by kernel_rfl
theorem F81_call {a0 a1 a2 : Value} {w : World} {R : Value → World → Prop} (h : F81 a0 a1 a2 w R) : CALL Try.prog 81 [a0, a1, a2] w R :=
  call_of (g := cfg81) ent mixed Try.func81 (Nat.le_of_ble_eq_true (by kernel_rfl)) (by kernel_rfl) (F81_eq a0 a1 a2 w R ▸ h)

/-- spec.OverIn -/
def F82 (a0 : Value) (w : World) (R : Value → World → Prop) : Prop :=
  OP Try.prog (Instr.box 42 a0) w fun x1 w =>
  LOOPI [3] [(Value.int .i64 0)] w fun u2 w next2 =>
   RD Try.prog (Instr.fieldAt 42 x1 2) w fun x5 =>
   RD Try.prog (Instr.loadAt 37 x5) w fun x6 =>
   RD Try.prog (Builtin.len_ #[37] 3 [x6].toArray) w fun x7 =>
   RD Try.prog (bin .lss 3 (.tmp 0) (.tmp 0) (u2 3) x7) w fun x8 =>
   BR x8
    (RD Try.prog (Instr.fieldAt 42 x1 2) w fun x11 =>
    RD Try.prog (Instr.loadAt 37 x11) w fun x12 =>
    RD Try.prog (Instr.indexAt 37 x12 (u2 3)) w fun x14 =>
    RD Try.prog (Instr.loadAt 23 x14) w fun x15 =>
    RD Try.prog (Builtin.len_ #[23] 3 [x15].toArray) w fun x16 =>
    RD Try.prog (bin .gtr 3 (.tmp 0) (.const undef) x16 (Value.int .i64 0)) w fun x17 =>
    BR x17
     (R (Value.bool false) w)
     (RD Try.prog (bin .add 3 (.tmp 0) (.const undef) (u2 3) (Value.int .i64 1)) w fun x10 =>
     next2 [x10] w))
    (R (Value.bool true) w)
def cfg82 : Cfg := { ext := extL, joins := [], loops := [(2, 262140, [3])], draws := [], pars := [] }
theorem F82_eq (a0 : Value) (w : World) (R : Value → World → Prop) : vcF Try.prog cfg82 Try.f82 [a0] w R = F82 a0 w R := by kernel_rfl
theorem F82_call {a0 : Value} {w : World} {R : Value → World → Prop} (h : F82 a0 w R) : CALL Try.prog 82 [a0] w R :=
  call_of (g := cfg82) ent mixed Try.func82 (Nat.le_of_ble_eq_true (by kernel_rfl)) (by kernel_rfl) (F82_eq a0 w R ▸ h)

/-- spec.l22Ready -/
def F83 (a0 a1 : Value) (w : World) (R : Value → World → Prop) : Prop :=
  OP Try.prog (Instr.box 31 a0) w fun x2 w =>
  OP Try.prog (Instr.box 42 a1) w fun x3 w =>
  OP Try.prog (Instr.buildSlice 23 0 #[]) w fun x7 w =>
  LOOPI [5, 6] [x7, (Value.int .i64 0)] w fun u3 w next3 =>
   RD Try.prog (Instr.fieldAt 42 x3 2) w fun x9 =>
   RD Try.prog (Instr.loadAt 37 x9) w fun x10 =>
   RD Try.prog (Builtin.len_ #[37] 3 [x10].toArray) w fun x11 =>
   RD Try.prog (bin .lss 3 (.tmp 0) (.tmp 0) (u3 6) x11) w fun x12 =>
   BR x12
    (RD Try.prog (Instr.loadAt 31 x2) w fun x15 =>
    RD Try.prog (Instr.loadAt 42 x3) w fun x16 =>
    CALL Try.prog 80 [x15, x16, (u3 6)] w fun x18 w =>
    BR x18
     (OP Try.prog (Instr.buildSlice 23 1 #[(0, (u3 6))]) w fun x21 w =>
     OP Try.prog (Builtin.append_ #[23, 23] 23 [(u3 5), x21].toArray) w fun x22 w =>
     RD Try.prog (bin .add 3 (.tmp 0) (.const undef) (u3 6) (Value.int .i64 1)) w fun x14 =>
     next3 [x22, x14] w)
     (RD Try.prog (bin .add 3 (.tmp 0) (.const undef) (u3 6) (Value.int .i64 1)) w fun x14 =>
     next3 [(u3 5), x14] w))
    (R (u3 5) w)
def cfg83 : Cfg := { ext := extL, joins := [], loops := [(3, 8388448, [5, 6])], draws := [], pars := [] }
theorem F83_eq (a0 a1 : Value) (w : World) (R : Value → World → Prop) : vcF Try.prog cfg83 Try.f83 [a0, a1] w R = F83 a0 a1 w R := by kernel_rfl
theorem F83_call {a0 a1 : Value} {w : World} {R : Value → World → Prop} (h : F83 a0 a1 w R) : CALL Try.prog 83 [a0, a1] w R :=
  call_of (g := cfg83) ent mixed Try.func83 (Nat.le_of_ble_eq_true (by kernel_rfl)) (by kernel_rfl) (F83_eq a0 a1 w R ▸ h)

/-- impl.readyIn -/
def F84 (a0 a1 : Value) (w : World) (R : Value → World → Prop) : Prop :=
  OP Try.prog (Instr.box 31 a0) w fun x2 w =>
  OP Try.prog (Instr.box 42 a1) w fun x3 w =>
  RD Try.prog (Instr.fieldAt 42 x3 2) w fun x7 =>
  RD Try.prog (Instr.loadAt 37 x7) w fun x8 =>
  RD Try.prog (Builtin.len_ #[37] 3 [x8].toArray) w fun x9 =>
  LOOPI [5, 10] [(Value.slice none 0 0), (Value.int .i64 0)] w fun u3 w next3 =>
   RD Try.prog (bin .lss 3 (.tmp 0) (.tmp 0) (u3 10) x9) w fun x11 =>
   BR x11
    (RD Try.prog (Instr.loadAt 31 x2) w fun x13 =>
    RD Try.prog (Instr.loadAt 42 x3) w fun x14 =>
    CALL Try.prog 81 [x13, x14, (u3 10)] w fun x16 w =>
    BR x16
     (OP Try.prog (Instr.buildSlice 23 1 #[(0, (u3 10))]) w fun x19 w =>
     OP Try.prog (Builtin.append_ #[23, 23] 23 [(u3 5), x19].toArray) w fun x20 w =>
     RD Try.prog (bin .add 3 (.tmp 0) (.const undef) (u3 10) (Value.int .i64 1)) w fun x21 =>
     next3 [x20, x21] w)
     (RD Try.prog (bin .add 3 (.tmp 0) (.const undef) (u3 10) (Value.int .i64 1)) w fun x21 =>
     next3 [(u3 5), x21] w))
    (R (u3 5) w)
def cfg84 : Cfg := { ext := extL, joins := [], loops := [(3, 4193376, [5, 10])], draws := [], pars := [] }
theorem F84_eq (a0 a1 : Value) (w : World) (R : Value → World → Prop) : vcF Try.prog cfg84 Try.f84 [a0, a1] w R = F84 a0 a1 w R := by kernel_rfl
theorem F84_call {a0 a1 : Value} {w : World} {R : Value → World → Prop} (h : F84 a0 a1 w R) : CALL Try.prog 84 [a0, a1] w R :=
  call_of (g := cfg84) ent mixed Try.func84 (Nat.le_of_ble_eq_true (by kernel_rfl)) (by kernel_rfl) (F84_eq a0 a1 w R ▸ h)

/-- impl.OverIn -/
def F85 (a0 : Value) (w : World) (R : Value → World → Prop) : Prop :=
  OP Try.prog (Instr.box 42 a0) w fun x1 w =>
  RD Try.prog (Instr.fieldAt 42 x1 2) w fun x5 =>
  RD Try.prog (Instr.loadAt 37 x5) w fun x6 =>
  RD Try.prog (Builtin.len_ #[37] 3 [x6].toArray) w fun x7 =>
  LOOPI [8] [(Value.int .i64 0)] w fun u2 w next2 =>
   RD Try.prog (bin .lss 3 (.tmp 0) (.tmp 0) (u2 8) x7) w fun x9 =>
   BR x9
    (RD Try.prog (Instr.indexAt 37 x6 (u2 8)) w fun x10 =>
    RD Try.prog (Instr.loadAt 23 x10) w fun x11 =>
    RD Try.prog (Builtin.len_ #[23] 3 [x11].toArray) w fun x13 =>
    RD Try.prog (bin .gtr 3 (.tmp 0) (.const undef) x13 (Value.int .i64 0)) w fun x14 =>
    BR x14
     (R (Value.bool false) w)
     (RD Try.prog (bin .add 3 (.tmp 0) (.const undef) (u2 8) (Value.int .i64 1)) w fun x15 =>
     next2 [x15] w))
    (R (Value.bool true) w)
def cfg85 : Cfg := { ext := extL, joins := [], loops := [(2, 65300, [8])], draws := [], pars := [] }
theorem F85_eq (a0 : Value) (w : World) (R : Value → World → Prop) : vcF Try.prog cfg85 Try.f85 [a0] w R = F85 a0 w R := by kernel_rfl
theorem F85_call {a0 : Value} {w : World} {R : Value → World → Prop} (h : F85 a0 w R) : CALL Try.prog 85 [a0] w R :=
  call_of (g := cfg85) ent mixed Try.func85 (Nat.le_of_ble_eq_true (by kernel_rfl)) (by kernel_rfl) (F85_eq a0 w R ▸ h)

/-- spec.l24KnotOf -/
def F86 (a0 a1 a2 : Value) (w : World) (R : Value → World → Prop) : Prop :=
  OP Try.prog (Instr.box 31 a0) w fun x3 w =>
  OP Try.prog (Instr.box 42 a1) w fun x4 w =>
  LOOPI [7, 8, 9] [(Value.int .i64 0), a2, (Value.int .i64 0)] w fun u4 w next4 =>
   RD Try.prog (Instr.fieldAt 42 x4 2) w fun x13 =>
   RD Try.prog (Instr.loadAt 37 x13) w fun x14 =>
   RD Try.prog (Builtin.len_ #[37] 3 [x14].toArray) w fun x15 =>
   RD Try.prog (bin .lss 3 (.tmp 0) (.tmp 0) (u4 9) x15) w fun x16 =>
   BR x16
    (RD Try.prog (Instr.loadAt 31 x3) w fun x19 =>
    RD Try.prog (Instr.loadAt 42 x4) w fun x20 =>
    CALL Try.prog 78 [x19, x20, (u4 8)] w fun x22 w =>
    RD Try.prog (bin .lss 3 (.tmp 0) (.const undef) x22 (Value.int .i64 0)) w fun x24 =>
    BR x24
     (OP Try.prog (Instr.buildSlice 23 0 #[]) w fun x25 w =>
     R x25 w)
     (CALL Try.prog 115 [x22] w fun x28 w =>
     RD Try.prog (bin .or 3 (.tmp 0) (.tmp 0) (u4 7) x28) w fun x29 =>
     RD Try.prog (Instr.fieldAt 42 x4 1) w fun x30 =>
     RD Try.prog (Instr.loadAt 23 x30) w fun x31 =>
     RD Try.prog (Instr.indexAt 23 x31 x22) w fun x33 =>
     RD Try.prog (Instr.loadAt 3 x33) w fun x34 =>
     RD Try.prog (bin .eql 3 (.tmp 0) (.tmp 0) x34 a2) w fun x37 =>
     BR x37
      (CALL Try.prog 116 [x29] w fun x39 w =>
      R x39 w)
      (RD Try.prog (bin .add 3 (.tmp 0) (.const undef) (u4 9) (Value.int .i64 1)) w fun x18 =>
      next4 [x29, x34, x18] w)))
    (OP Try.prog (Instr.buildSlice 23 0 #[]) w fun x40 w =>
    R x40 w)
def cfg86 : Cfg := { ext := extL, joins := [], loops := [(4, 1099511625664, [7, 8, 9])], draws := [], pars := [] }
theorem F86_eq (a0 a1 a2 : Value) (w : World) (R : Value → World → Prop) : vcF Try.prog cfg86 Try.f86 [a0, a1, a2] w R = F86 a0 a1 a2 w R := by kernel_rfl
theorem F86_call {a0 a1 a2 : Value} {w : World} {R : Value → World → Prop} (h : F86 a0 a1 a2 w R) : CALL Try.prog 86 [a0, a1, a2] w R :=
  call_of (g := cfg86) ent mixed Try.func86 (Nat.le_of_ble_eq_true (by kernel_rfl)) (by kernel_rfl) (F86_eq a0 a1 a2 w R ▸ h)

/-- impl.bitsOf -/
def F87 (a0 : Value) (w : World) (R : Value → World → Prop) : Prop :=
  LOOPI [3, 4] [(Value.slice none 0 0), (Value.int .i64 0)] w fun u3 w next3 =>
   RD Try.prog (convert 3 106 (u3 4)) w fun x7 =>
   RD Try.prog (bin .shr 3 (.tmp 0) (.tmp 0) a0 x7) w fun x8 =>
   RD Try.prog (bin .neq 3 (.tmp 0) (.const undef) x8 (Value.int .i64 0)) w fun x9 =>
   BR x9
    (CALL Try.prog 117 [a0, (u3 4)] w fun x14 w =>
    BR x14
     (OP Try.prog (Instr.buildSlice 23 1 #[(0, (u3 4))]) w fun x17 w =>
     OP Try.prog (Builtin.append_ #[23, 23] 23 [(u3 3), x17].toArray) w fun x18 w =>
     RD Try.prog (bin .add 3 (.tmp 0) (.const undef) (u3 4) (Value.int .i64 1)) w fun x11 =>
     next3 [x18, x11] w)
     (RD Try.prog (bin .add 3 (.tmp 0) (.const undef) (u3 4) (Value.int .i64 1)) w fun x11 =>
     next3 [(u3 3), x11] w))
    (R (u3 3) w)
def cfg87 : Cfg := { ext := extL, joins := [], loops := [(3, 524280, [3, 4])], draws := [], pars := [] }
theorem F87_eq (a0 : Value) (w : World) (R : Value → World → Prop) : vcF Try.prog cfg87 Try.f87 [a0] w R = F87 a0 w R := by kernel_rfl
theorem F87_call {a0 : Value} {w : World} {R : Value → World → Prop} (h : F87 a0 w R) : CALL Try.prog 87 [a0] w R :=
  call_of (g := cfg87) ent mixed Try.func87 (Nat.le_of_ble_eq_true (by kernel_rfl)) (by kernel_rfl) (F87_eq a0 w R ▸ h)

/-- impl.knot -/
def F88 (a0 a1 a2 : Value) (w : World) (R : Value → World → Prop) : Prop :=
  OP Try.prog (Instr.box 31 a0) w fun x3 w =>
  OP Try.prog (Instr.box 42 a1) w fun x4 w =>
  RD Try.prog (Instr.fieldAt 42 x4 2) w fun x11 =>
  RD Try.prog (Instr.loadAt 37 x11) w fun x12 =>
  RD Try.prog (Builtin.len_ #[37] 3 [x12].toArray) w fun x13 =>
  LOOPI [7, 8, 14] [(Value.int .i64 0), a2, (Value.int .i64 0)] w fun u3 w next3 =>
   RD Try.prog (bin .lss 3 (.tmp 0) (.tmp 0) (u3 14) x13) w fun x15 =>
   BR x15
    (RD Try.prog (Instr.loadAt 31 x3) w fun x16 =>
    RD Try.prog (Instr.loadAt 42 x4) w fun x17 =>
    CALL Try.prog 79 [x16, x17, (u3 8)] w fun x19 w =>
    RD Try.prog (bin .lss 3 (.tmp 0) (.const undef) x19 (Value.int .i64 0)) w fun x21 =>
    BR x21
     (R (Value.int .i64 0) w)
     (RD Try.prog (convert 3 106 x19) w fun x24 =>
     RD Try.prog (bin .shl 3 (.const undef) (.tmp 0) (Value.int .i64 1) x24) w fun x25 =>
     RD Try.prog (bin .or 3 (.tmp 0) (.tmp 0) (u3 7) x25) w fun x26 =>
     RD Try.prog (Instr.loadAt 42 x4) w fun x27 =>
     CALL Try.prog 114 [x27, x19] w fun x29 w =>
     RD Try.prog (bin .eql 3 (.tmp 0) (.tmp 0) x29 a2) w fun x32 =>
     BR x32
      (R x26 w)
      (RD Try.prog (bin .add 3 (.tmp 0) (.const undef) (u3 14) (Value.int .i64 1)) w fun x34 =>
      next3 [x26, x29, x34] w)))
    (R (Value.int .i64 0) w)
def cfg88 : Cfg := { ext := extL, joins := [], loops := [(3, 34359722944, [7, 8, 14])], draws := [], pars := [] }
theorem F88_eq (a0 a1 a2 : Value) (w : World) (R : Value → World → Prop) : vcF Try.prog cfg88 Try.f88 [a0, a1, a2] w R = F88 a0 a1 a2 w R := by kernel_rfl
theorem F88_call {a0 a1 a2 : Value} {w : World} {R : Value → World → Prop} (h : F88 a0 a1 a2 w R) : CALL Try.prog 88 [a0, a1, a2] w R :=
  call_of (g := cfg88) ent mixed Try.func88 (Nat.le_of_ble_eq_true (by kernel_rfl)) (by kernel_rfl) (F88_eq a0 a1 a2 w R ▸ h)

/-- spec.l24Knot -/
def F89 (a0 a1 : Value) (w : World) (R : Value → World → Prop) : Prop :=
  OP Try.prog (Instr.box 31 a0) w fun x2 w =>
  OP Try.prog (Instr.box 42 a1) w fun x3 w =>
  LOOPI [5, 6] [(Value.int .i64 0), (Value.int .i64 0)] w fun u3 w next3 =>
   RD Try.prog (Instr.fieldAt 42 x3 2) w fun x11 =>
   RD Try.prog (Instr.loadAt 37 x11) w fun x12 =>
   RD Try.prog (Builtin.len_ #[37] 3 [x12].toArray) w fun x13 =>
   RD Try.prog (bin .lss 3 (.tmp 0) (.tmp 0) (u3 6) x13) w fun x14 =>
   BR x14
    (LOOPI [5, 7, 8] [(u3 5), (u3 6), (Value.int .i64 0)] w fun u7 w next7 =>
     RD Try.prog (Instr.fieldAt 42 x3 2) w fun x19 =>
     RD Try.prog (Instr.loadAt 37 x19) w fun x20 =>
     RD Try.prog (Builtin.len_ #[37] 3 [x20].toArray) w fun x21 =>
     RD Try.prog (bin .lss 3 (.tmp 0) (.tmp 0) (u7 8) x21) w fun x22 =>
     BR x22
      (RD Try.prog (Instr.loadAt 31 x2) w fun x25 =>
      RD Try.prog (Instr.loadAt 42 x3) w fun x26 =>
      CALL Try.prog 78 [x25, x26, (u7 7)] w fun x28 w =>
      RD Try.prog (bin .lss 3 (.tmp 0) (.const undef) x28 (Value.int .i64 0)) w fun x30 =>
      BR x30
       (RD Try.prog (bin .add 3 (.tmp 0) (.const undef) (u3 6) (Value.int .i64 1)) w fun x16 =>
       next3 [(u7 5), x16] w)
       (RD Try.prog (Instr.fieldAt 42 x3 1) w fun x31 =>
       RD Try.prog (Instr.loadAt 23 x31) w fun x32 =>
       RD Try.prog (Instr.indexAt 23 x32 x28) w fun x34 =>
       RD Try.prog (Instr.loadAt 3 x34) w fun x35 =>
       RD Try.prog (bin .eql 3 (.tmp 0) (.tmp 0) x35 (u3 6)) w fun x38 =>
       BR x38
        (RD Try.prog (Instr.loadAt 31 x2) w fun x40 =>
        RD Try.prog (Instr.loadAt 42 x3) w fun x41 =>
        CALL Try.prog 78 [x40, x41, (u3 6)] w fun x43 w =>
        CALL Try.prog 115 [x43] w fun x44 w =>
        RD Try.prog (bin .or 3 (.tmp 0) (.tmp 0) (u7 5) x44) w fun x45 =>
        RD Try.prog (bin .add 3 (.tmp 0) (.const undef) (u3 6) (Value.int .i64 1)) w fun x16 =>
        next3 [x45, x16] w)
        (RD Try.prog (bin .add 3 (.tmp 0) (.const undef) (u7 8) (Value.int .i64 1)) w fun x24 =>
        next7 [(u7 5), x35, x24] w)))
      (RD Try.prog (bin .add 3 (.tmp 0) (.const undef) (u3 6) (Value.int .i64 1)) w fun x16 =>
      next3 [(u7 5), x16] w))
    (CALL Try.prog 116 [(u3 5)] w fun x47 w =>
    R x47 w)
def cfg89 : Cfg := { ext := extL, joins := [], loops := [(3, 70368744177632, [5, 6]), (7, 70368743916448, [5, 7, 8])], draws := [], pars := [] }
theorem F89_eq (a0 a1 : Value) (w : World) (R : Value → World → Prop) : vcF Try.prog cfg89 Try.f89 [a0, a1] w R = F89 a0 a1 w R := by kernel_rfl
theorem F89_call {a0 a1 : Value} {w : World} {R : Value → World → Prop} (h : F89 a0 a1 w R) : CALL Try.prog 89 [a0, a1] w R :=
  call_of (g := cfg89) ent mixed Try.func89 (Nat.le_of_ble_eq_true (by kernel_rfl)) (by kernel_rfl) (F89_eq a0 a1 w R ▸ h)

/-- impl.knots -/
def F90 (a0 a1 : Value) (w : World) (R : Value → World → Prop) : Prop :=
  OP Try.prog (Instr.box 31 a0) w fun x2 w =>
  OP Try.prog (Instr.box 42 a1) w fun x3 w =>
  RD Try.prog (Instr.fieldAt 42 x3 2) w fun x7 =>
  RD Try.prog (Instr.loadAt 37 x7) w fun x8 =>
  RD Try.prog (Builtin.len_ #[37] 3 [x8].toArray) w fun x9 =>
  LOOPI [5, 10] [(Value.int .i64 0), (Value.int .i64 0)] w fun u3 w next3 =>
   RD Try.prog (bin .lss 3 (.tmp 0) (.tmp 0) (u3 10) x9) w fun x11 =>
   BR x11
    (RD Try.prog (Instr.loadAt 31 x2) w fun x13 =>
    RD Try.prog (Instr.loadAt 42 x3) w fun x14 =>
    CALL Try.prog 88 [x13, x14, (u3 10)] w fun x16 w =>
    RD Try.prog (bin .neq 3 (.tmp 0) (.const undef) x16 (Value.int .i64 0)) w fun x17 =>
    BR x17
     (RD Try.prog (Instr.loadAt 31 x2) w fun x19 =>
     RD Try.prog (Instr.loadAt 42 x3) w fun x20 =>
     CALL Try.prog 79 [x19, x20, (u3 10)] w fun x22 w =>
     RD Try.prog (convert 3 106 x22) w fun x23 =>
     RD Try.prog (bin .shl 3 (.const undef) (.tmp 0) (Value.int .i64 1) x23) w fun x24 =>
     RD Try.prog (bin .or 3 (.tmp 0) (.tmp 0) (u3 5) x24) w fun x25 =>
     RD Try.prog (bin .add 3 (.tmp 0) (.const undef) (u3 10) (Value.int .i64 1)) w fun x26 =>
     next3 [x25, x26] w)
     (RD Try.prog (bin .add 3 (.tmp 0) (.const undef) (u3 10) (Value.int .i64 1)) w fun x26 =>
     next3 [(u3 5), x26] w))
    (R (u3 5) w)
def cfg90 : Cfg := { ext := extL, joins := [], loops := [(3, 134216800, [5, 10])], draws := [], pars := [] }
theorem F90_eq (a0 a1 : Value) (w : World) (R : Value → World → Prop) : vcF Try.prog cfg90 Try.f90 [a0, a1] w R = F90 a0 a1 w R := by kernel_rfl
theorem F90_call {a0 a1 : Value} {w : World} {R : Value → World → Prop} (h : F90 a0 a1 w R) : CALL Try.prog 90 [a0, a1] w R :=
  call_of (g := cfg90) ent mixed Try.func90 (Nat.le_of_ble_eq_true (by kernel_rfl)) (by kernel_rfl) (F90_eq a0 a1 w R ▸ h)

/-- spec.l21Step -/
def F91 (a0 a1 a2 : Value) (w : World) (R : Value → World → Prop) : Prop :=
  OP Try.prog (Instr.box 31 a0) w fun x3 w =>
  OP Try.prog (Instr.box 42 a1) w fun x4 w =>
  OP Try.prog (Instr.alloc 42 true (.tuple #[])) w fun x6 w =>
  RD Try.prog (Instr.loadAt 42 x4) w fun x12 =>
  CALL Try.prog 118 [x12] w fun x13 w =>
  OP Try.prog (Instr.alloc 42 true (.tuple #[])) w fun x7 w =>
  OPU Try.prog (Instr.storeAt 42 x7 x13) w fun w =>
  RD Try.prog (Instr.fieldAt 42 x7 2) w fun x14 =>
  RD Try.prog (Instr.loadAt 37 x14) w fun x15 =>
  RD Try.prog (Instr.indexAt 37 x15 a2) w fun x17 =>
  RD Try.prog (Instr.loadAt 23 x17) w fun x18 =>
  RD Try.prog (Builtin.len_ #[23] 3 [x18].toArray) w fun x19 =>
  RD Try.prog (bin .sub 3 (.tmp 0) (.const undef) x19 (Value.int .i64 1)) w fun x20 =>
  RD Try.prog (Instr.fieldAt 42 x7 2) w fun x21 =>
  RD Try.prog (Instr.loadAt 37 x21) w fun x22 =>
  RD Try.prog (Instr.indexAt 37 x22 a2) w fun x24 =>
  RD Try.prog (Instr.loadAt 23 x24) w fun x25 =>
  RD Try.prog (Instr.indexAt 23 x25 x20) w fun x27 =>
  RD Try.prog (Instr.loadAt 3 x27) w fun x28 =>
  RD Try.prog (Instr.fieldAt 31 x3 4) w fun x29 =>
  RD Try.prog (Instr.loadAt 29 x29) w fun x30 =>
  RD Try.prog (Instr.indexAt 29 x30 x28) w fun x32 =>
  RD Try.prog (Instr.loadAt 95 x32) w fun x33 =>
  OP Try.prog (Instr.alloc 95 true (.tuple #[])) w fun x10 w =>
  OPU Try.prog (Instr.storeAt 95 x10 x33) w fun w =>
  RD Try.prog (bin .add 3 (.tmp 0) (.const undef) x28 (Value.int .i64 1)) w fun x35 =>
  JOIN [11] (fun J30 =>
   RD Try.prog (Instr.fieldAt 95 x10 0) w fun x36 =>
   RD Try.prog (Instr.loadAt 3 x36) w fun x37 =>
   RD Try.prog (bin .eql 3 (.tmp 0) (.const undef) x37 (Value.int .i64 1)) w fun x39 =>
   BR x39
    ((fun w => RD Try.prog (Instr.fieldAt 42 x7 0) w fun x40 =>
    RD Try.prog (Instr.loadAt 23 x40) w fun x41 =>
    RD Try.prog (Instr.fieldAt 95 x10 1) w fun x42 =>
    RD Try.prog (Instr.loadAt 3 x42) w fun x43 =>
    RD Try.prog (Instr.fieldAt 95 x10 2) w fun x44 =>
    RD Try.prog (Instr.loadAt 93 x44) w fun x45 =>
    RD Try.prog (Instr.fieldAt 31 x3 0) w fun x46 =>
    RD Try.prog (Instr.loadAt 22 x46) w fun x47 =>
    RD Try.prog (Instr.fieldAt 42 x4 0) w fun x48 =>
    RD Try.prog (Instr.loadAt 23 x48) w fun x49 =>
    (fun w_ => CALL Try.prog 119 [x45, x47, x49] w_ fun x50 w =>
    Ext w_ w ∧
    RD Try.prog (Instr.indexAt 23 x41 x43) w fun x51 =>
    OPU Try.prog (Instr.storeAt 3 x51 x50) w fun w =>
    J30 [x35] w) w) (World.drew1 w))
    (RD Try.prog (bin .eql 3 (.tmp 0) (.const undef) x37 (Value.int .i64 2)) w fun x53 =>
    BR x53
     (RD Try.prog (Instr.fieldAt 95 x10 2) w fun x54 =>
     RD Try.prog (Instr.loadAt 93 x54) w fun x55 =>
     RD Try.prog (Instr.fieldAt 31 x3 0) w fun x56 =>
     RD Try.prog (Instr.loadAt 22 x56) w fun x57 =>
     RD Try.prog (Instr.fieldAt 42 x4 0) w fun x58 =>
     RD Try.prog (Instr.loadAt 23 x58) w fun x59 =>
     CALL Try.prog 119 [x55, x57, x59] w fun x60 w =>
     RD Try.prog (bin .eql 3 (.tmp 0) (.const undef) x60 (Value.int .i64 0)) w fun x61 =>
     BR x61
      (RD Try.prog (Instr.fieldAt 95 x10 3) w fun x62 =>
      RD Try.prog (Instr.loadAt 3 x62) w fun x63 =>
      J30 [x63] w)
      (J30 [x35] w))
     (RD Try.prog (bin .eql 3 (.tmp 0) (.const undef) x37 (Value.int .i64 3)) w fun x65 =>
     BR x65
      (RD Try.prog (Instr.fieldAt 95 x10 3) w fun x66 =>
      RD Try.prog (Instr.loadAt 3 x66) w fun x67 =>
      J30 [x67] w)
      (RD Try.prog (bin .eql 3 (.tmp 0) (.const undef) x37 (Value.int .i64 4)) w fun x69 =>
      BR x69
       ((fun w => RD Try.prog (Instr.fieldAt 42 x7 2) w fun x70 =>
       RD Try.prog (Instr.loadAt 37 x70) w fun x71 =>
       RD Try.prog (Instr.fieldAt 42 x7 2) w fun x73 =>
       RD Try.prog (Instr.loadAt 37 x73) w fun x74 =>
       RD Try.prog (Instr.indexAt 37 x74 a2) w fun x76 =>
       RD Try.prog (Instr.loadAt 23 x76) w fun x77 =>
       RD Try.prog (Instr.fieldAt 31 x3 3) w fun x78 =>
       RD Try.prog (Instr.loadAt 23 x78) w fun x79 =>
       RD Try.prog (Instr.fieldAt 95 x10 1) w fun x80 =>
       RD Try.prog (Instr.loadAt 3 x80) w fun x81 =>
       RD Try.prog (Instr.indexAt 23 x79 x81) w fun x82 =>
       RD Try.prog (Instr.loadAt 3 x82) w fun x83 =>
       (fun w_ => OP Try.prog (Instr.buildSlice 23 1 #[(0, x83)]) w_ fun x84 w =>
       Ext w_ w ∧
       (fun w_ => OP Try.prog (Builtin.append_ #[23, 23] 23 [x77, x84].toArray) w_ fun x85 w =>
       Ext w_ w ∧
       RD Try.prog (Instr.indexAt 37 x71 a2) w fun x86 =>
       OPU Try.prog (Instr.storeAt 23 x86 x85) w fun w =>
       RD Try.prog (Instr.loadAt 42 x7) w fun x87 =>
       OPU Try.prog (Instr.storeAt 42 x6 x87) w fun w =>
       RD Try.prog (loadRes 42 x6) w fun r6 => R r6 w) w) w) (World.drew1 w))
       (RD Try.prog (bin .eql 3 (.tmp 0) (.const undef) x37 (Value.int .i64 5)) w fun x89 =>
       BR x89
        (RD Try.prog (Instr.fieldAt 42 x7 2) w fun x90 =>
        RD Try.prog (Instr.loadAt 37 x90) w fun x91 =>
        RD Try.prog (Builtin.len_ #[37] 3 [x91].toArray) w fun x92 =>
        RD Try.prog (bin .lss 3 (.tmp 0) (.const undef) x92 (Value.int .i64 6)) w fun x93 =>
        BR x93
         ((fun w => RD Try.prog (Instr.fieldAt 42 x7 2) w fun x94 =>
         RD Try.prog (Instr.loadAt 37 x94) w fun x95 =>
         RD Try.prog (Instr.fieldAt 31 x3 3) w fun x96 =>
         RD Try.prog (Instr.loadAt 23 x96) w fun x97 =>
         RD Try.prog (Instr.fieldAt 95 x10 1) w fun x98 =>
         RD Try.prog (Instr.loadAt 3 x98) w fun x99 =>
         RD Try.prog (Instr.indexAt 23 x97 x99) w fun x100 =>
         RD Try.prog (Instr.loadAt 3 x100) w fun x101 =>
         (fun w_ => OP Try.prog (Instr.buildSlice 23 1 #[(0, x101)]) w_ fun x102 w =>
         Ext w_ w ∧
         (fun w_ => OP Try.prog (Instr.buildSlice 37 1 #[(0, x102)]) w_ fun x103 w =>
         Ext w_ w ∧
         OP Try.prog (Builtin.append_ #[37, 37] 37 [x95, x103].toArray) w fun x104 w =>
         RD Try.prog (Instr.fieldAt 42 x7 2) w fun x105 =>
         OPU Try.prog (Instr.storeAt 37 x105 x104) w fun w =>
         J30 [x35] w) w) w) (World.drew1 w))
         (J30 [x35] w))
        (RD Try.prog (bin .eql 3 (.tmp 0) (.const undef) x37 (Value.int .i64 6)) w fun x107 =>
        BR x107
         (RD Try.prog (Instr.fieldAt 42 x7 1) w fun x108 =>
         RD Try.prog (Instr.loadAt 23 x108) w fun x109 =>
         RD Try.prog (Instr.fieldAt 95 x10 1) w fun x110 =>
         RD Try.prog (Instr.loadAt 3 x110) w fun x111 =>
         RD Try.prog (Instr.indexAt 23 x109 x111) w fun x113 =>
         OPU Try.prog (Instr.storeAt 3 x113 a2) w fun w =>
         J30 [x35] w)
         (RD Try.prog (bin .eql 3 (.tmp 0) (.const undef) x37 (Value.int .i64 7)) w fun x115 =>
         BR x115
          (RD Try.prog (Instr.fieldAt 42 x7 1) w fun x116 =>
          RD Try.prog (Instr.loadAt 23 x116) w fun x117 =>
          RD Try.prog (Instr.fieldAt 95 x10 1) w fun x118 =>
          RD Try.prog (Instr.loadAt 3 x118) w fun x119 =>
          RD Try.prog (Instr.indexAt 23 x117 x119) w fun x120 =>
          RD Try.prog (Instr.loadAt 3 x120) w fun x121 =>
          RD Try.prog (bin .eql 3 (.tmp 0) (.tmp 0) x121 a2) w fun x123 =>
          BR x123
           (RD Try.prog (Instr.fieldAt 42 x7 1) w fun x124 =>
           RD Try.prog (Instr.loadAt 23 x124) w fun x125 =>
           RD Try.prog (Instr.fieldAt 95 x10 1) w fun x126 =>
           RD Try.prog (Instr.loadAt 3 x126) w fun x127 =>
           RD Try.prog (Instr.indexAt 23 x125 x127) w fun x128 =>
           OPU Try.prog (Instr.storeAt 3 x128 (Value.int .i64 (-1))) w fun w =>
           J30 [x35] w)
           (J30 [x35] w))
          (RD Try.prog (bin .eql 3 (.tmp 0) (.const undef) x37 (Value.int .i64 9)) w fun x130 =>
          BR x130
           ((fun w => RD Try.prog (Instr.fieldAt 42 x7 2) w fun x131 =>
           RD Try.prog (Instr.loadAt 37 x131) w fun x132 =>
           RD Try.prog (Instr.fieldAt 42 x7 2) w fun x134 =>
           RD Try.prog (Instr.loadAt 37 x134) w fun x135 =>
           RD Try.prog (Instr.indexAt 37 x135 a2) w fun x137 =>
           RD Try.prog (Instr.loadAt 23 x137) w fun x138 =>
           RD Try.prog (Instr.sliceAt 23 x138 none (some x20) none) w fun x140 =>
           RD Try.prog (Instr.indexAt 37 x132 a2) w fun x141 =>
           OPU Try.prog (Instr.storeAt 23 x141 x140) w fun w =>
           RD Try.prog (bin .gtr 3 (.tmp 0) (.const undef) x20 (Value.int .i64 0)) w fun x143 =>
           BR x143
            (RD Try.prog (Instr.fieldAt 42 x7 2) w fun x144 =>
            RD Try.prog (Instr.loadAt 37 x144) w fun x145 =>
            RD Try.prog (Instr.indexAt 37 x145 a2) w fun x147 =>
            RD Try.prog (Instr.loadAt 23 x147) w fun x148 =>
            RD Try.prog (bin .sub 3 (.tmp 0) (.const undef) x20 (Value.int .i64 1)) w fun x150 =>
            RD Try.prog (Instr.indexAt 23 x148 x150) w fun x151 =>
            RD Try.prog (Instr.loadAt 3 x151) w fun x152 =>
            RD Try.prog (bin .add 3 (.tmp 0) (.const undef) x152 (Value.int .i64 1)) w fun x153 =>
            RD Try.prog (Instr.indexAt 23 x148 x150) w fun x154 =>
            OPU Try.prog (Instr.storeAt 3 x154 x153) w fun w =>
            RD Try.prog (Instr.loadAt 42 x7) w fun x155 =>
            OPU Try.prog (Instr.storeAt 42 x6 x155) w fun w =>
            RD Try.prog (loadRes 42 x6) w fun r6 => R r6 w)
            (RD Try.prog (Instr.loadAt 42 x7) w fun x155 =>
            OPU Try.prog (Instr.storeAt 42 x6 x155) w fun w =>
            RD Try.prog (loadRes 42 x6) w fun r6 => R r6 w)) (World.drew1 w))
           (J30 [x35] w))))))))) (fun u30 w =>
   RD Try.prog (Instr.fieldAt 42 x7 2) w fun x156 =>
   RD Try.prog (Instr.loadAt 37 x156) w fun x157 =>
   RD Try.prog (Instr.indexAt 37 x157 a2) w fun x159 =>
   RD Try.prog (Instr.loadAt 23 x159) w fun x160 =>
   RD Try.prog (Instr.indexAt 23 x160 x20) w fun x163 =>
   OPU Try.prog (Instr.storeAt 3 x163 (u30 11)) w fun w =>
   RD Try.prog (Instr.loadAt 42 x7) w fun x164 =>
   OPU Try.prog (Instr.storeAt 42 x6 x164) w fun w =>
   RD Try.prog (loadRes 42 x6) w fun r6 => R r6 w)
def cfg91 : Cfg := { ext := extL, joins := [(30, 91343852333181432387730302044767688659776309248, [11])], loops := [], draws := [(8, [0, 1, 2, 3, 4, 5, 6, 7, 8, 9, 10, 11, 12], 1024), (15, [0, 1, 2, 3, 4, 5, 6, 7, 8, 9, 10, 11, 12, 13, 14, 15, 16, 17], 49152), (19, [0, 1, 2, 3, 4, 5, 6, 7, 8, 9, 10, 11, 12], 768), (26, [0, 1, 2, 3, 4, 5, 6, 7, 8, 9, 10, 11], 0)], pars := [] }
theorem F91_eq (a0 a1 a2 : Value) (w : World) (R : Value → World → Prop) : vcF Try.prog cfg91 Try.f91 [a0, a1, a2] w R = F91 a0 a1 a2 w R := by kernel_rfl
theorem F91_call {a0 a1 a2 : Value} {w : World} {R : Value → World → Prop} (h : F91 a0 a1 a2 w R) : CALL Try.prog 91 [a0, a1, a2] w R :=
  call_of (g := cfg91) ent mixed Try.func91 (Nat.le_of_ble_eq_true (by kernel_rfl)) (by kernel_rfl) (F91_eq a0 a1 a2 w R ▸ h)

/-- impl.stepped -/
def F92 (a0 a1 a2 : Value) (w : World) (R : Value → World → Prop) : Prop :=
  OP Try.prog (Instr.box 31 a0) w fun x3 w =>
  OP Try.prog (Instr.box 42 a1) w fun x4 w =>
  OP Try.prog (Instr.alloc 42 true (.tuple #[])) w fun x6 w =>
  RD Try.prog (Instr.loadAt 42 x4) w fun x12 =>
  CALL Try.prog 120 [x12] w fun x13 w =>
  OP Try.prog (Instr.alloc 42 true (.tuple #[])) w fun x7 w =>
  OPU Try.prog (Instr.storeAt 42 x7 x13) w fun w =>
  RD Try.prog (Instr.fieldAt 42 x7 2) w fun x14 =>
  RD Try.prog (Instr.loadAt 37 x14) w fun x15 =>
  RD Try.prog (Instr.indexAt 37 x15 a2) w fun x17 =>
  RD Try.prog (Instr.loadAt 23 x17) w fun x18 =>
  RD Try.prog (Builtin.len_ #[23] 3 [x18].toArray) w fun x20 =>
  RD Try.prog (bin .sub 3 (.tmp 0) (.const undef) x20 (Value.int .i64 1)) w fun x21 =>
  (fun w => RD Try.prog (Instr.fieldAt 31 x3 4) w fun x22 =>
  RD Try.prog (Instr.loadAt 29 x22) w fun x23 =>
  RD Try.prog (Instr.indexAt 23 x18 x21) w fun x26 =>
  RD Try.prog (Instr.loadAt 3 x26) w fun x27 =>
  RD Try.prog (Instr.indexAt 29 x23 x27) w fun x28 =>
  RD Try.prog (Instr.loadAt 95 x28) w fun x29 =>
  (fun w_ => OP Try.prog (Instr.alloc 95 true (.tuple #[])) w_ fun x10 w =>
  Ext w_ w ∧
  OPU Try.prog (Instr.storeAt 95 x10 x29) w fun w =>
  RD Try.prog (Instr.indexAt 23 x18 x21) w fun x32 =>
  RD Try.prog (Instr.loadAt 3 x32) w fun x33 =>
  RD Try.prog (bin .add 3 (.tmp 0) (.const undef) x33 (Value.int .i64 1)) w fun x34 =>
  JOIN [11] (fun J30 =>
   RD Try.prog (Instr.fieldAt 95 x10 0) w fun x35 =>
   RD Try.prog (Instr.loadAt 3 x35) w fun x36 =>
   RD Try.prog (bin .eql 3 (.tmp 0) (.const undef) x36 (Value.int .i64 1)) w fun x38 =>
   BR x38
    ((fun w => RD Try.prog (Instr.fieldAt 42 x7 0) w fun x39 =>
    RD Try.prog (Instr.loadAt 23 x39) w fun x40 =>
    RD Try.prog (Instr.fieldAt 95 x10 1) w fun x41 =>
    RD Try.prog (Instr.loadAt 3 x41) w fun x42 =>
    RD Try.prog (Instr.fieldAt 95 x10 2) w fun x43 =>
    RD Try.prog (Instr.loadAt 93 x43) w fun x44 =>
    RD Try.prog (Instr.fieldAt 31 x3 0) w fun x45 =>
    RD Try.prog (Instr.loadAt 22 x45) w fun x46 =>
    RD Try.prog (Instr.fieldAt 42 x4 0) w fun x47 =>
    RD Try.prog (Instr.loadAt 23 x47) w fun x48 =>
    (fun w_ => CALL Try.prog 121 [x44, x46, x48] w_ fun x49 w =>
    Ext w_ w ∧
    RD Try.prog (Instr.indexAt 23 x40 x42) w fun x50 =>
    OPU Try.prog (Instr.storeAt 3 x50 x49) w fun w =>
    J30 [x34] w) w) (World.drew1 w))
    (RD Try.prog (bin .eql 3 (.tmp 0) (.const undef) x36 (Value.int .i64 2)) w fun x52 =>
    BR x52
     (RD Try.prog (Instr.fieldAt 95 x10 2) w fun x53 =>
     RD Try.prog (Instr.loadAt 93 x53) w fun x54 =>
     RD Try.prog (Instr.fieldAt 31 x3 0) w fun x55 =>
     RD Try.prog (Instr.loadAt 22 x55) w fun x56 =>
     RD Try.prog (Instr.fieldAt 42 x4 0) w fun x57 =>
     RD Try.prog (Instr.loadAt 23 x57) w fun x58 =>
     CALL Try.prog 121 [x54, x56, x58] w fun x59 w =>
     RD Try.prog (bin .eql 3 (.tmp 0) (.const undef) x59 (Value.int .i64 0)) w fun x60 =>
     BR x60
      (RD Try.prog (Instr.fieldAt 95 x10 3) w fun x61 =>
      RD Try.prog (Instr.loadAt 3 x61) w fun x62 =>
      J30 [x62] w)
      (J30 [x34] w))
     (RD Try.prog (bin .eql 3 (.tmp 0) (.const undef) x36 (Value.int .i64 3)) w fun x64 =>
     BR x64
      (RD Try.prog (Instr.fieldAt 95 x10 3) w fun x65 =>
      RD Try.prog (Instr.loadAt 3 x65) w fun x66 =>
      J30 [x66] w)
      (RD Try.prog (bin .eql 3 (.tmp 0) (.const undef) x36 (Value.int .i64 4)) w fun x68 =>
      BR x68
       ((fun w => RD Try.prog (Instr.fieldAt 42 x7 2) w fun x69 =>
       RD Try.prog (Instr.loadAt 37 x69) w fun x70 =>
       RD Try.prog (Instr.fieldAt 31 x3 3) w fun x73 =>
       RD Try.prog (Instr.loadAt 23 x73) w fun x74 =>
       RD Try.prog (Instr.fieldAt 95 x10 1) w fun x75 =>
       RD Try.prog (Instr.loadAt 3 x75) w fun x76 =>
       RD Try.prog (Instr.indexAt 23 x74 x76) w fun x77 =>
       RD Try.prog (Instr.loadAt 3 x77) w fun x78 =>
       (fun w_ => OP Try.prog (Instr.buildSlice 23 1 #[(0, x78)]) w_ fun x79 w =>
       Ext w_ w ∧
       (fun w_ => OP Try.prog (Builtin.append_ #[23, 23] 23 [x18, x79].toArray) w_ fun x80 w =>
       Ext w_ w ∧
       RD Try.prog (Instr.indexAt 37 x70 a2) w fun x81 =>
       OPU Try.prog (Instr.storeAt 23 x81 x80) w fun w =>
       RD Try.prog (Instr.loadAt 42 x7) w fun x82 =>
       OPU Try.prog (Instr.storeAt 42 x6 x82) w fun w =>
       RD Try.prog (loadRes 42 x6) w fun r6 => R r6 w) w) w) (World.drew1 w))
       (RD Try.prog (bin .eql 3 (.tmp 0) (.const undef) x36 (Value.int .i64 5)) w fun x84 =>
       BR x84
        (RD Try.prog (Instr.fieldAt 42 x7 2) w fun x85 =>
        RD Try.prog (Instr.loadAt 37 x85) w fun x86 =>
        RD Try.prog (Builtin.len_ #[37] 3 [x86].toArray) w fun x87 =>
        RD Try.prog (bin .lss 3 (.tmp 0) (.const undef) x87 (Value.int .i64 6)) w fun x88 =>
        BR x88
         ((fun w => RD Try.prog (Instr.fieldAt 42 x7 2) w fun x89 =>
         RD Try.prog (Instr.loadAt 37 x89) w fun x90 =>
         RD Try.prog (Instr.fieldAt 31 x3 3) w fun x91 =>
         RD Try.prog (Instr.loadAt 23 x91) w fun x92 =>
         RD Try.prog (Instr.fieldAt 95 x10 1) w fun x93 =>
         RD Try.prog (Instr.loadAt 3 x93) w fun x94 =>
         RD Try.prog (Instr.indexAt 23 x92 x94) w fun x95 =>
         RD Try.prog (Instr.loadAt 3 x95) w fun x96 =>
         (fun w_ => OP Try.prog (Instr.buildSlice 23 1 #[(0, x96)]) w_ fun x97 w =>
         Ext w_ w ∧
         (fun w_ => OP Try.prog (Instr.buildSlice 37 1 #[(0, x97)]) w_ fun x98 w =>
         Ext w_ w ∧
         OP Try.prog (Builtin.append_ #[37, 37] 37 [x90, x98].toArray) w fun x99 w =>
         RD Try.prog (Instr.fieldAt 42 x7 2) w fun x100 =>
         OPU Try.prog (Instr.storeAt 37 x100 x99) w fun w =>
         J30 [x34] w) w) w) (World.drew1 w))
         (J30 [x34] w))
        (RD Try.prog (bin .eql 3 (.tmp 0) (.const undef) x36 (Value.int .i64 6)) w fun x102 =>
        BR x102
         (RD Try.prog (Instr.fieldAt 42 x7 1) w fun x103 =>
         RD Try.prog (Instr.loadAt 23 x103) w fun x104 =>
         RD Try.prog (Instr.fieldAt 95 x10 1) w fun x105 =>
         RD Try.prog (Instr.loadAt 3 x105) w fun x106 =>
         RD Try.prog (Instr.indexAt 23 x104 x106) w fun x108 =>
         OPU Try.prog (Instr.storeAt 3 x108 a2) w fun w =>
         J30 [x34] w)
         (RD Try.prog (bin .eql 3 (.tmp 0) (.const undef) x36 (Value.int .i64 7)) w fun x110 =>
         BR x110
          (RD Try.prog (Instr.fieldAt 42 x7 1) w fun x111 =>
          RD Try.prog (Instr.loadAt 23 x111) w fun x112 =>
          RD Try.prog (Instr.fieldAt 95 x10 1) w fun x113 =>
          RD Try.prog (Instr.loadAt 3 x113) w fun x114 =>
          RD Try.prog (Instr.indexAt 23 x112 x114) w fun x115 =>
          RD Try.prog (Instr.loadAt 3 x115) w fun x116 =>
          RD Try.prog (bin .eql 3 (.tmp 0) (.tmp 0) x116 a2) w fun x118 =>
          BR x118
           (RD Try.prog (Instr.fieldAt 42 x7 1) w fun x119 =>
           RD Try.prog (Instr.loadAt 23 x119) w fun x120 =>
           RD Try.prog (Instr.fieldAt 95 x10 1) w fun x121 =>
           RD Try.prog (Instr.loadAt 3 x121) w fun x122 =>
           RD Try.prog (Instr.indexAt 23 x120 x122) w fun x123 =>
           OPU Try.prog (Instr.storeAt 3 x123 (Value.int .i64 (-1))) w fun w =>
           J30 [x34] w)
           (J30 [x34] w))
          (RD Try.prog (bin .eql 3 (.tmp 0) (.const undef) x36 (Value.int .i64 9)) w fun x125 =>
          BR x125
           ((fun w => RD Try.prog (Instr.fieldAt 42 x7 2) w fun x126 =>
           RD Try.prog (Instr.loadAt 37 x126) w fun x127 =>
           RD Try.prog (Instr.sliceAt 23 x18 none (some x21) (some x21)) w fun x132 =>
           RD Try.prog (Instr.indexAt 37 x127 a2) w fun x133 =>
           OPU Try.prog (Instr.storeAt 23 x133 x132) w fun w =>
           RD Try.prog (bin .gtr 3 (.tmp 0) (.const undef) x21 (Value.int .i64 0)) w fun x135 =>
           BR x135
            (RD Try.prog (bin .sub 3 (.tmp 0) (.const undef) x21 (Value.int .i64 1)) w fun x138 =>
            RD Try.prog (Instr.indexAt 23 x18 x138) w fun x139 =>
            RD Try.prog (Instr.loadAt 3 x139) w fun x140 =>
            RD Try.prog (bin .add 3 (.tmp 0) (.const undef) x140 (Value.int .i64 1)) w fun x141 =>
            RD Try.prog (Instr.indexAt 23 x18 x138) w fun x142 =>
            OPU Try.prog (Instr.storeAt 3 x142 x141) w fun w =>
            RD Try.prog (Instr.loadAt 42 x7) w fun x143 =>
            OPU Try.prog (Instr.storeAt 42 x6 x143) w fun w =>
            RD Try.prog (loadRes 42 x6) w fun r6 => R r6 w)
            (RD Try.prog (Instr.loadAt 42 x7) w fun x143 =>
            OPU Try.prog (Instr.storeAt 42 x6 x143) w fun w =>
            RD Try.prog (loadRes 42 x6) w fun r6 => R r6 w)) (World.drew1 w))
           (J30 [x34] w))))))))) (fun u30 w =>
   RD Try.prog (Instr.indexAt 23 x18 x21) w fun x147 =>
   OPU Try.prog (Instr.storeAt 3 x147 (u30 11)) w fun w =>
   RD Try.prog (Instr.loadAt 42 x7) w fun x148 =>
   OPU Try.prog (Instr.storeAt 42 x6 x148) w fun w =>
   RD Try.prog (loadRes 42 x6) w fun r6 => R r6 w)) w) (World.drew1 w)
def cfg92 : Cfg := { ext := extL, joins := [(30, 22300745198530623141535718272648327146244096, [11])], loops := [], draws := [(4, [0, 1, 2, 3, 4, 5, 6, 7, 8, 9], 256), (8, [0, 1, 2, 3, 4, 5, 6, 7, 8, 9, 10, 11, 12], 1024), (15, [0, 1, 2, 3, 4, 5, 6, 7, 8, 9, 10, 11, 12, 13], 3072), (19, [0, 1, 2, 3, 4, 5, 6, 7, 8, 9, 10, 11, 12], 768), (26, [0, 1, 2, 3, 4, 5, 6, 7, 8], 0)], pars := [] }
theorem F92_eq (a0 a1 a2 : Value) (w : World) (R : Value → World → Prop) : vcF Try.prog cfg92 Try.f92 [a0, a1, a2] w R = F92 a0 a1 a2 w R := by kernel_rfl
theorem F92_call {a0 a1 a2 : Value} {w : World} {R : Value → World → Prop} (h : F92 a0 a1 a2 w R) : CALL Try.prog 92 [a0, a1, a2] w R :=
  call_of (g := cfg92) ent mixed Try.func92 (Nat.le_of_ble_eq_true (by kernel_rfl)) (by kernel_rfl) (F92_eq a0 a1 a2 w R ▸ h)

/-- laws.szIns -/
def F93 (a0 a1 : Value) (w : World) (R : Value → World → Prop) : Prop :=
  OP Try.prog (Instr.box 90 a0) w fun x2 w =>
  RD Try.prog (Instr.fieldAt 90 x2 2) w fun x5 =>
  RD Try.prog (Instr.loadAt 88 x5) w fun x6 =>
  CALL Try.prog 122 [x6, a1] w fun x8 w =>
  RD Try.prog (bin .lss 3 (.tmp 0) (.const undef) x8 (Value.int .i64 0)) w fun x10 =>
  BR x10
   (R (Value.int .i64 (-1)) w)
   (R x8 w)
def cfg93 : Cfg := { ext := extL, joins := [], loops := [], draws := [], pars := [] }
theorem F93_eq (a0 a1 : Value) (w : World) (R : Value → World → Prop) : vcF Try.prog cfg93 Try.f93 [a0, a1] w R = F93 a0 a1 w R := by kernel_rfl
theorem F93_call {a0 a1 : Value} {w : World} {R : Value → World → Prop} (h : F93 a0 a1 w R) : CALL Try.prog 93 [a0, a1] w R :=
  call_of (g := cfg93) ent mixed Try.func93 (Nat.le_of_ble_eq_true (by kernel_rfl)) (by kernel_rfl) (F93_eq a0 a1 w R ▸ h)

/-- spec.l08Heads -/
def F94 (a0 : Value) (w : World) (R : Value → World → Prop) : Prop :=
  OP Try.prog (Instr.box 31 a0) w fun x1 w =>
  RD Try.prog (Instr.fieldAt 31 x1 0) w fun x5 =>
  RD Try.prog (Instr.loadAt 22 x5) w fun x6 =>
  CALL Try.prog 123 [x6, (Value.int .i64 6)] w fun x7 w =>
  RD Try.prog (Op.unary .not x7) w fun x8 =>
  BR x8
  (R (Value.bool false) w)
  (RD Try.prog (Instr.fieldAt 31 x1 1) w fun x10 =>
  RD Try.prog (Instr.loadAt 22 x10) w fun x11 =>
  CALL Try.prog 123 [x11, (Value.int .i64 6)] w fun x12 w =>
  RD Try.prog (Op.unary .not x12) w fun x13 =>
  BR x13
  (R (Value.bool false) w)
  (RD Try.prog (Instr.fieldAt 31 x1 2) w fun x16 =>
  RD Try.prog (Instr.loadAt 22 x16) w fun x17 =>
  CALL Try.prog 123 [x17, (Value.int .i64 8)] w fun x18 w =>
  RD Try.prog (Op.unary .not x18) w fun x19 =>
  BR x19
  (R (Value.bool false) w)
  (RD Try.prog (Instr.fieldAt 31 x1 0) w fun x22 =>
  RD Try.prog (Instr.loadAt 22 x22) w fun x23 =>
  CALL Try.prog 124 [x23] w fun x24 w =>
  BR x24
  (R (Value.bool false) w)
  (RD Try.prog (Instr.fieldAt 31 x1 1) w fun x27 =>
  RD Try.prog (Instr.loadAt 22 x27) w fun x28 =>
  CALL Try.prog 124 [x28] w fun x29 w =>
  BR x29
  (R (Value.bool false) w)
  (RD Try.prog (Instr.fieldAt 31 x1 2) w fun x32 =>
  RD Try.prog (Instr.loadAt 22 x32) w fun x33 =>
  CALL Try.prog 124 [x33] w fun x34 w =>
  BR x34
  (R (Value.bool false) w)
  (RD Try.prog (Instr.fieldAt 31 x1 3) w fun x37 =>
  RD Try.prog (Instr.loadAt 23 x37) w fun x38 =>
  RD Try.prog (Builtin.len_ #[23] 3 [x38].toArray) w fun x39 =>
  RD Try.prog (Instr.fieldAt 31 x1 2) w fun x40 =>
  RD Try.prog (Instr.loadAt 22 x40) w fun x41 =>
  RD Try.prog (Builtin.len_ #[22] 3 [x41].toArray) w fun x42 =>
  RD Try.prog (bin .neq 3 (.tmp 0) (.tmp 0) x39 x42) w fun x43 =>
  BR x43
  (R (Value.bool false) w)
  (RD Try.prog (Instr.fieldAt 31 x1 4) w fun x46 =>
  RD Try.prog (Instr.loadAt 29 x46) w fun x47 =>
  RD Try.prog (Builtin.len_ #[29] 3 [x47].toArray) w fun x48 =>
  RD Try.prog (bin .gtr 3 (.tmp 0) (.const undef) x48 (Value.int .i64 1500)) w fun x49 =>
  BR x49
  (R (Value.bool false) w)
  (RD Try.prog (Instr.fieldAt 31 x1 2) w fun x52 =>
  RD Try.prog (Instr.loadAt 22 x52) w fun x53 =>
  CALL Try.prog 104 [x53, (Value.string (ByteArray.mk #[109, 97, 105, 110]))] w fun x54 w =>
  RD Try.prog (bin .lss 3 (.tmp 0) (.const undef) x54 (Value.int .i64 0)) w fun x55 =>
  BR x55
   (R (Value.bool false) w)
   (LOOPI [3] [(Value.int .i64 0)] w fun u4 w next4 =>
    RD Try.prog (Instr.fieldAt 31 x1 3) w fun x58 =>
    RD Try.prog (Instr.loadAt 23 x58) w fun x59 =>
    RD Try.prog (Builtin.len_ #[23] 3 [x59].toArray) w fun x60 =>
    RD Try.prog (bin .lss 3 (.tmp 0) (.tmp 0) (u4 3) x60) w fun x61 =>
    BR x61
     ((fun w => RD Try.prog (bin .eql 3 (.tmp 0) (.const undef) (u4 3) (Value.int .i64 0)) w fun x65 =>
     BR x65
     (RD Try.prog (Instr.fieldAt 31 x1 3) w fun x67 =>
     RD Try.prog (Instr.loadAt 23 x67) w fun x68 =>
     RD Try.prog (Instr.indexAt 23 x68 (Value.int .i64 0)) w fun x69 =>
     RD Try.prog (Instr.loadAt 3 x69) w fun x70 =>
     RD Try.prog (bin .neq 3 (.tmp 0) (.const undef) x70 (Value.int .i64 0)) w fun x71 =>
     BR x71
     (R (Value.bool false) w)
     (RD Try.prog (bin .gtr 3 (.tmp 0) (.const undef) (u4 3) (Value.int .i64 0)) w fun x75 =>
     GBR x75
     (RD Try.prog (Instr.fieldAt 31 x1 3) w fun x77 =>
     RD Try.prog (Instr.loadAt 23 x77) w fun x78 =>
     RD Try.prog (Instr.indexAt 23 x78 (u4 3)) w fun x80 =>
     RD Try.prog (Instr.loadAt 3 x80) w fun x81 =>
     RD Try.prog (Instr.fieldAt 31 x1 3) w fun x82 =>
     RD Try.prog (Instr.loadAt 23 x82) w fun x83 =>
     RD Try.prog (bin .sub 3 (.tmp 0) (.const undef) (u4 3) (Value.int .i64 1)) w fun x85 =>
     RD Try.prog (Instr.indexAt 23 x83 x85) w fun x86 =>
     RD Try.prog (Instr.loadAt 3 x86) w fun x87 =>
     RD Try.prog (bin .leq 3 (.tmp 0) (.tmp 0) x81 x87) w fun x88 =>
     BR x88
     (R (Value.bool false) w)
     (RD Try.prog (Instr.fieldAt 31 x1 3) w fun x92 =>
     RD Try.prog (Instr.loadAt 23 x92) w fun x93 =>
     RD Try.prog (Instr.indexAt 23 x93 (u4 3)) w fun x95 =>
     RD Try.prog (Instr.loadAt 3 x95) w fun x96 =>
     RD Try.prog (Instr.fieldAt 31 x1 4) w fun x97 =>
     RD Try.prog (Instr.loadAt 29 x97) w fun x98 =>
     RD Try.prog (Builtin.len_ #[29] 3 [x98].toArray) w fun x99 =>
     RD Try.prog (bin .geq 3 (.tmp 0) (.tmp 0) x96 x99) w fun x100 =>
     BR x100
      (R (Value.bool false) w)
      (RD Try.prog (bin .add 3 (.tmp 0) (.const undef) (u4 3) (Value.int .i64 1)) w fun x63 =>
      next4 [x63] w)))
     (RD Try.prog (Instr.fieldAt 31 x1 3) w fun x92 =>
     RD Try.prog (Instr.loadAt 23 x92) w fun x93 =>
     RD Try.prog (Instr.indexAt 23 x93 (u4 3)) w fun x95 =>
     RD Try.prog (Instr.loadAt 3 x95) w fun x96 =>
     RD Try.prog (Instr.fieldAt 31 x1 4) w fun x97 =>
     RD Try.prog (Instr.loadAt 29 x97) w fun x98 =>
     RD Try.prog (Builtin.len_ #[29] 3 [x98].toArray) w fun x99 =>
     RD Try.prog (bin .geq 3 (.tmp 0) (.tmp 0) x96 x99) w fun x100 =>
     BR x100
      (R (Value.bool false) w)
      (RD Try.prog (bin .add 3 (.tmp 0) (.const undef) (u4 3) (Value.int .i64 1)) w fun x63 =>
      next4 [x63] w))
     (BR undef
     (BR undef
     (R (Value.bool false) w)
     (RD Try.prog (Instr.fieldAt 31 x1 3) w fun x92 =>
     RD Try.prog (Instr.loadAt 23 x92) w fun x93 =>
     RD Try.prog (Instr.indexAt 23 x93 (u4 3)) w fun x95 =>
     RD Try.prog (Instr.loadAt 3 x95) w fun x96 =>
     RD Try.prog (Instr.fieldAt 31 x1 4) w fun x97 =>
     RD Try.prog (Instr.loadAt 29 x97) w fun x98 =>
     RD Try.prog (Builtin.len_ #[29] 3 [x98].toArray) w fun x99 =>
     RD Try.prog (bin .geq 3 (.tmp 0) (.tmp 0) x96 x99) w fun x100 =>
     BR x100
      (R (Value.bool false) w)
      (RD Try.prog (bin .add 3 (.tmp 0) (.const undef) (u4 3) (Value.int .i64 1)) w fun x63 =>
      next4 [x63] w)))
     (RD Try.prog (Instr.fieldAt 31 x1 3) w fun x92 =>
     RD Try.prog (Instr.loadAt 23 x92) w fun x93 =>
     RD Try.prog (Instr.indexAt 23 x93 (u4 3)) w fun x95 =>
     RD Try.prog (Instr.loadAt 3 x95) w fun x96 =>
     RD Try.prog (Instr.fieldAt 31 x1 4) w fun x97 =>
     RD Try.prog (Instr.loadAt 29 x97) w fun x98 =>
     RD Try.prog (Builtin.len_ #[29] 3 [x98].toArray) w fun x99 =>
     RD Try.prog (bin .geq 3 (.tmp 0) (.tmp 0) x96 x99) w fun x100 =>
     BR x100
      (R (Value.bool false) w)
      (RD Try.prog (bin .add 3 (.tmp 0) (.const undef) (u4 3) (Value.int .i64 1)) w fun x63 =>
      next4 [x63] w)))))
     (RD Try.prog (bin .gtr 3 (.tmp 0) (.const undef) (u4 3) (Value.int .i64 0)) w fun x75 =>
     GBR x75
     (RD Try.prog (Instr.fieldAt 31 x1 3) w fun x77 =>
     RD Try.prog (Instr.loadAt 23 x77) w fun x78 =>
     RD Try.prog (Instr.indexAt 23 x78 (u4 3)) w fun x80 =>
     RD Try.prog (Instr.loadAt 3 x80) w fun x81 =>
     RD Try.prog (Instr.fieldAt 31 x1 3) w fun x82 =>
     RD Try.prog (Instr.loadAt 23 x82) w fun x83 =>
     RD Try.prog (bin .sub 3 (.tmp 0) (.const undef) (u4 3) (Value.int .i64 1)) w fun x85 =>
     RD Try.prog (Instr.indexAt 23 x83 x85) w fun x86 =>
     RD Try.prog (Instr.loadAt 3 x86) w fun x87 =>
     RD Try.prog (bin .leq 3 (.tmp 0) (.tmp 0) x81 x87) w fun x88 =>
     BR x88
     (R (Value.bool false) w)
     (RD Try.prog (Instr.fieldAt 31 x1 3) w fun x92 =>
     RD Try.prog (Instr.loadAt 23 x92) w fun x93 =>
     RD Try.prog (Instr.indexAt 23 x93 (u4 3)) w fun x95 =>
     RD Try.prog (Instr.loadAt 3 x95) w fun x96 =>
     RD Try.prog (Instr.fieldAt 31 x1 4) w fun x97 =>
     RD Try.prog (Instr.loadAt 29 x97) w fun x98 =>
     RD Try.prog (Builtin.len_ #[29] 3 [x98].toArray) w fun x99 =>
     RD Try.prog (bin .geq 3 (.tmp 0) (.tmp 0) x96 x99) w fun x100 =>
     BR x100
      (R (Value.bool false) w)
      (RD Try.prog (bin .add 3 (.tmp 0) (.const undef) (u4 3) (Value.int .i64 1)) w fun x63 =>
      next4 [x63] w)))
     (RD Try.prog (Instr.fieldAt 31 x1 3) w fun x92 =>
     RD Try.prog (Instr.loadAt 23 x92) w fun x93 =>
     RD Try.prog (Instr.indexAt 23 x93 (u4 3)) w fun x95 =>
     RD Try.prog (Instr.loadAt 3 x95) w fun x96 =>
     RD Try.prog (Instr.fieldAt 31 x1 4) w fun x97 =>
     RD Try.prog (Instr.loadAt 29 x97) w fun x98 =>
     RD Try.prog (Builtin.len_ #[29] 3 [x98].toArray) w fun x99 =>
     RD Try.prog (bin .geq 3 (.tmp 0) (.tmp 0) x96 x99) w fun x100 =>
     BR x100
      (R (Value.bool false) w)
      (RD Try.prog (bin .add 3 (.tmp 0) (.const undef) (u4 3) (Value.int .i64 1)) w fun x63 =>
      next4 [x63] w))
     (BR undef
     (BR undef
     (R (Value.bool false) w)
     (RD Try.prog (Instr.fieldAt 31 x1 3) w fun x92 =>
     RD Try.prog (Instr.loadAt 23 x92) w fun x93 =>
     RD Try.prog (Instr.indexAt 23 x93 (u4 3)) w fun x95 =>
     RD Try.prog (Instr.loadAt 3 x95) w fun x96 =>
     RD Try.prog (Instr.fieldAt 31 x1 4) w fun x97 =>
     RD Try.prog (Instr.loadAt 29 x97) w fun x98 =>
     RD Try.prog (Builtin.len_ #[29] 3 [x98].toArray) w fun x99 =>
     RD Try.prog (bin .geq 3 (.tmp 0) (.tmp 0) x96 x99) w fun x100 =>
     BR x100
      (R (Value.bool false) w)
      (RD Try.prog (bin .add 3 (.tmp 0) (.const undef) (u4 3) (Value.int .i64 1)) w fun x63 =>
      next4 [x63] w)))
     (RD Try.prog (Instr.fieldAt 31 x1 3) w fun x92 =>
     RD Try.prog (Instr.loadAt 23 x92) w fun x93 =>
     RD Try.prog (Instr.indexAt 23 x93 (u4 3)) w fun x95 =>
     RD Try.prog (Instr.loadAt 3 x95) w fun x96 =>
     RD Try.prog (Instr.fieldAt 31 x1 4) w fun x97 =>
     RD Try.prog (Instr.loadAt 29 x97) w fun x98 =>
     RD Try.prog (Builtin.len_ #[29] 3 [x98].toArray) w fun x99 =>
     RD Try.prog (bin .geq 3 (.tmp 0) (.tmp 0) x96 x99) w fun x100 =>
     BR x100
      (R (Value.bool false) w)
      (RD Try.prog (bin .add 3 (.tmp 0) (.const undef) (u4 3) (Value.int .i64 1)) w fun x63 =>
      next4 [x63] w))))) (World.drew1 w))
     (LOOPI [4] [(Value.int .i64 0)] w fun u9 w next9 =>
      RD Try.prog (Instr.fieldAt 31 x1 4) w fun x103 =>
      RD Try.prog (Instr.loadAt 29 x103) w fun x104 =>
      RD Try.prog (Builtin.len_ #[29] 3 [x104].toArray) w fun x105 =>
      RD Try.prog (bin .lss 3 (.tmp 0) (.tmp 0) (u9 4) x105) w fun x106 =>
      BR x106
       ((fun w => RD Try.prog (Instr.fieldAt 31 x1 4) w fun x109 =>
       RD Try.prog (Instr.loadAt 29 x109) w fun x110 =>
       RD Try.prog (Instr.indexAt 29 x110 (u9 4)) w fun x112 =>
       RD Try.prog (Instr.fieldAt 95 x112 0) w fun x113 =>
       RD Try.prog (Instr.loadAt 3 x113) w fun x114 =>
       RD Try.prog (bin .eql 3 (.tmp 0) (.const undef) x114 (Value.int .i64 9)) w fun x115 =>
       RD Try.prog (Instr.loadAt 31 x1) w fun x116 =>
       RD Try.prog (Instr.loadAt 31 x1) w fun x117 =>
       (fun w_ => CALL Try.prog 126 [x117, (u9 4)] w_ fun x119 w =>
       Ext w_ w ∧
       (fun w_ => CALL Try.prog 125 [x116, x119] w_ fun x120 w =>
       Ext w_ w ∧
       RD Try.prog (bin .eql 3 (.tmp 0) (.tmp 0) x120 (u9 4)) w fun x122 =>
       RD Try.prog (bin .neq 4 (.tmp 0) (.tmp 0) x115 x122) w fun x123 =>
       BR x123
        (R (Value.bool false) w)
        (RD Try.prog (bin .add 3 (.tmp 0) (.const undef) (u9 4) (Value.int .i64 1)) w fun x108 =>
        next9 [x108] w)) w) w) (World.drew1 w))
       (R (Value.bool true) w)))))))))))
def cfg94 : Cfg := { ext := extL, joins := [], loops := [(4, 5070602400912773490798736965644, [3]), (9, 21267642861956253053543306977672691732, [4])], draws := [(6, [0, 1, 2, 3, 4, 5, 6, 7, 8, 9, 10, 11, 12, 13, 14, 15, 16, 17, 18, 19, 20, 21, 22, 23, 24, 25, 26, 27, 28, 29, 30, 31, 32, 33, 34, 35, 36, 37], 0), (11, [0, 1, 2, 3, 4, 5, 6, 7, 8, 9, 12, 10, 11, 13, 14], 3072)], pars := [] }
theorem F94_eq (a0 : Value) (w : World) (R : Value → World → Prop) : vcF Try.prog cfg94 Try.f94 [a0] w R = F94 a0 w R := by kernel_rfl
theorem F94_call {a0 : Value} {w : World} {R : Value → World → Prop} (h : F94 a0 w R) : CALL Try.prog 94 [a0] w R :=
  call_of (g := cfg94) ent mixed Try.func94 (Nat.le_of_ble_eq_true (by kernel_rfl)) (by kernel_rfl) (F94_eq a0 w R ▸ h)

/-- spec.l08Ins -/
def F95 (a0 a1 : Value) (w : World) (R : Value → World → Prop) : Prop :=
  OP Try.prog (Instr.box 31 a0) w fun x2 w =>
  RD Try.prog (Instr.fieldAt 31 x2 4) w fun x10 =>
  RD Try.prog (Instr.loadAt 29 x10) w fun x11 =>
  RD Try.prog (Instr.indexAt 29 x11 a1) w fun x13 =>
  RD Try.prog (Instr.loadAt 95 x13) w fun x14 =>
  OP Try.prog (Instr.alloc 95 true (.tuple #[])) w fun x5 w =>
  OPU Try.prog (Instr.storeAt 95 x5 x14) w fun w =>
  JOIN [6] (fun J12 =>
   RD Try.prog (Instr.fieldAt 95 x5 0) w fun x15 =>
   RD Try.prog (Instr.loadAt 3 x15) w fun x16 =>
   RD Try.prog (bin .eql 3 (.tmp 0) (.const undef) x16 (Value.int .i64 1)) w fun x18 =>
   BR x18
    (RD Try.prog (Instr.fieldAt 31 x2 0) w fun x19 =>
    RD Try.prog (Instr.loadAt 22 x19) w fun x20 =>
    RD Try.prog (Builtin.len_ #[22] 3 [x20].toArray) w fun x21 =>
    RD Try.prog (bin .sub 3 (.tmp 0) (.const undef) x21 (Value.int .i64 1)) w fun x22 =>
    J12 [x22] w)
    (RD Try.prog (bin .eql 3 (.tmp 0) (.const undef) x16 (Value.int .i64 6)) w fun x24 =>
    BR x24
     (RD Try.prog (Instr.fieldAt 31 x2 1) w fun x26 =>
      RD Try.prog (Instr.loadAt 22 x26) w fun x27 =>
      RD Try.prog (Builtin.len_ #[22] 3 [x27].toArray) w fun x28 =>
      RD Try.prog (bin .sub 3 (.tmp 0) (.const undef) x28 (Value.int .i64 1)) w fun x29 =>
      J12 [x29] w)
     (RD Try.prog (bin .eql 3 (.tmp 0) (.const undef) x16 (Value.int .i64 7)) w fun x25 =>
     BR x25
      (RD Try.prog (Instr.fieldAt 31 x2 1) w fun x26 =>
      RD Try.prog (Instr.loadAt 22 x26) w fun x27 =>
      RD Try.prog (Builtin.len_ #[22] 3 [x27].toArray) w fun x28 =>
      RD Try.prog (bin .sub 3 (.tmp 0) (.const undef) x28 (Value.int .i64 1)) w fun x29 =>
      J12 [x29] w)
      (RD Try.prog (bin .eql 3 (.tmp 0) (.const undef) x16 (Value.int .i64 4)) w fun x31 =>
      BR x31
       (RD Try.prog (Instr.fieldAt 31 x2 2) w fun x33 =>
        RD Try.prog (Instr.loadAt 22 x33) w fun x34 =>
        RD Try.prog (Builtin.len_ #[22] 3 [x34].toArray) w fun x35 =>
        RD Try.prog (bin .sub 3 (.tmp 0) (.const undef) x35 (Value.int .i64 1)) w fun x36 =>
        J12 [x36] w)
       (RD Try.prog (bin .eql 3 (.tmp 0) (.const undef) x16 (Value.int .i64 5)) w fun x32 =>
       BR x32
        (RD Try.prog (Instr.fieldAt 31 x2 2) w fun x33 =>
        RD Try.prog (Instr.loadAt 22 x33) w fun x34 =>
        RD Try.prog (Builtin.len_ #[22] 3 [x34].toArray) w fun x35 =>
        RD Try.prog (bin .sub 3 (.tmp 0) (.const undef) x35 (Value.int .i64 1)) w fun x36 =>
        J12 [x36] w)
        (J12 [(Value.int .i64 0)] w)))))) (fun u12 w =>
   RD Try.prog (Instr.fieldAt 95 x5 0) w fun x37 =>
   RD Try.prog (Instr.loadAt 3 x37) w fun x38 =>
   CALL Try.prog 56 [x38, (Value.int .i64 1), (Value.int .i64 9)] w fun x39 w =>
   RD Try.prog (Op.unary .not x39) w fun x40 =>
   BR x40
   (R (Value.bool false) w)
   (RD Try.prog (Instr.fieldAt 95 x5 1) w fun x42 =>
   RD Try.prog (Instr.loadAt 3 x42) w fun x43 =>
   CALL Try.prog 56 [x43, (Value.int .i64 0), (u12 6)] w fun x45 w =>
   RD Try.prog (Op.unary .not x45) w fun x46 =>
   BR x46
    (R (Value.bool false) w)
    (JOIN [] (fun J25 =>
     RD Try.prog (Instr.fieldAt 95 x5 0) w fun x48 =>
     RD Try.prog (Instr.loadAt 3 x48) w fun x49 =>
     RD Try.prog (bin .eql 3 (.tmp 0) (.const undef) x49 (Value.int .i64 1)) w fun x50 =>
     BR x50
     (RD Try.prog (Instr.fieldAt 95 x5 2) w fun x56 =>
      RD Try.prog (Instr.loadAt 93 x56) w fun x57 =>
      CALL Try.prog 127 [x57] w fun x58 w =>
      RD Try.prog (Op.unary .not x58) w fun x59 =>
      BR x59
       (R (Value.bool false) w)
       (RD Try.prog (Instr.fieldAt 95 x5 2) w fun x60 =>
       RD Try.prog (Instr.loadAt 93 x60) w fun x61 =>
       CALL Try.prog 108 [x61] w fun x62 w =>
       LOOPI [8] [(Value.int .i64 0)] w fun u19 w next19 =>
        RD Try.prog (Builtin.len_ #[22] 3 [x62].toArray) w fun x65 =>
        RD Try.prog (bin .lss 3 (.tmp 0) (.tmp 0) (u19 8) x65) w fun x66 =>
        BR x66
         ((fun w => RD Try.prog (Instr.fieldAt 31 x2 0) w fun x69 =>
         RD Try.prog (Instr.loadAt 22 x69) w fun x70 =>
         RD Try.prog (Instr.indexAt 22 x62 (u19 8)) w fun x73 =>
         RD Try.prog (Instr.loadAt 9 x73) w fun x74 =>
         CALL Try.prog 104 [x70, x74] w fun x75 w =>
         RD Try.prog (bin .lss 3 (.tmp 0) (.const undef) x75 (Value.int .i64 0)) w fun x76 =>
         BR x76
          (R (Value.bool false) w)
          (RD Try.prog (bin .add 3 (.tmp 0) (.const undef) (u19 8) (Value.int .i64 1)) w fun x68 =>
          next19 [x68] w)) (World.drew1 w))
         (J25 [] w)))
     (RD Try.prog (Instr.fieldAt 95 x5 0) w fun x52 =>
     RD Try.prog (Instr.loadAt 3 x52) w fun x53 =>
     RD Try.prog (bin .eql 3 (.tmp 0) (.const undef) x53 (Value.int .i64 2)) w fun x54 =>
     BR x54
      (RD Try.prog (Instr.fieldAt 95 x5 2) w fun x56 =>
      RD Try.prog (Instr.loadAt 93 x56) w fun x57 =>
      CALL Try.prog 127 [x57] w fun x58 w =>
      RD Try.prog (Op.unary .not x58) w fun x59 =>
      BR x59
       (R (Value.bool false) w)
       (RD Try.prog (Instr.fieldAt 95 x5 2) w fun x60 =>
       RD Try.prog (Instr.loadAt 93 x60) w fun x61 =>
       CALL Try.prog 108 [x61] w fun x62 w =>
       LOOPI [8] [(Value.int .i64 0)] w fun u19 w next19 =>
        RD Try.prog (Builtin.len_ #[22] 3 [x62].toArray) w fun x65 =>
        RD Try.prog (bin .lss 3 (.tmp 0) (.tmp 0) (u19 8) x65) w fun x66 =>
        BR x66
         ((fun w => RD Try.prog (Instr.fieldAt 31 x2 0) w fun x69 =>
         RD Try.prog (Instr.loadAt 22 x69) w fun x70 =>
         RD Try.prog (Instr.indexAt 22 x62 (u19 8)) w fun x73 =>
         RD Try.prog (Instr.loadAt 9 x73) w fun x74 =>
         CALL Try.prog 104 [x70, x74] w fun x75 w =>
         RD Try.prog (bin .lss 3 (.tmp 0) (.const undef) x75 (Value.int .i64 0)) w fun x76 =>
         BR x76
          (R (Value.bool false) w)
          (RD Try.prog (bin .add 3 (.tmp 0) (.const undef) (u19 8) (Value.int .i64 1)) w fun x68 =>
          next19 [x68] w)) (World.drew1 w))
         (J25 [] w)))
      (RD Try.prog (Instr.fieldAt 95 x5 2) w fun x77 =>
      RD Try.prog (Instr.loadAt 93 x77) w fun x78 =>
      RD Try.prog (Instr.build 93 #[]) w fun x79 =>
      CALL Try.prog 128 [x78, x79] w fun x80 w =>
      RD Try.prog (Op.unary .not x80) w fun x81 =>
      BR x81
       (R (Value.bool false) w)
       (J25 [] w)))) (fun u25 w =>
     JOIN [] (fun J27 =>
      RD Try.prog (Instr.fieldAt 95 x5 0) w fun x82 =>
      RD Try.prog (Instr.loadAt 3 x82) w fun x83 =>
      RD Try.prog (bin .neq 3 (.tmp 0) (.const undef) x83 (Value.int .i64 2)) w fun x84 =>
      BR x84
      (RD Try.prog (Instr.fieldAt 95 x5 0) w fun x86 =>
      RD Try.prog (Instr.loadAt 3 x86) w fun x87 =>
      RD Try.prog (bin .neq 3 (.tmp 0) (.const undef) x87 (Value.int .i64 3)) w fun x88 =>
      BR x88
       (RD Try.prog (Instr.fieldAt 95 x5 3) w fun x90 =>
       RD Try.prog (Instr.loadAt 3 x90) w fun x91 =>
       RD Try.prog (bin .eql 3 (.tmp 0) (.const undef) x91 (Value.int .i64 0)) w fun x92 =>
       R x92 w)
       (J27 [] w))
      (J27 [] w)) (fun u27 w =>
      RD Try.prog (Instr.loadAt 31 x2) w fun x93 =>
      CALL Try.prog 126 [x93, a1] w fun x95 w =>
      (fun w => RD Try.prog (Instr.fieldAt 95 x5 3) w fun x96 =>
      RD Try.prog (Instr.loadAt 3 x96) w fun x97 =>
      RD Try.prog (Instr.fieldAt 31 x2 3) w fun x98 =>
      RD Try.prog (Instr.loadAt 23 x98) w fun x99 =>
      RD Try.prog (Instr.indexAt 23 x99 x95) w fun x101 =>
      RD Try.prog (Instr.loadAt 3 x101) w fun x102 =>
      RD Try.prog (Instr.loadAt 31 x2) w fun x103 =>
      (fun w_ => CALL Try.prog 125 [x103, x95] w_ fun x105 w =>
      Ext w_ w ∧
      CALL Try.prog 56 [x97, x102, x105] w fun x106 w =>
      R x106 w) w) (World.drew1 w))))))
def cfg95 : Cfg := { ext := extL, joins := [(12, 137438920768, [6]), (25, 4835703278177041722114448, []), (27, 9898684611004583682494169104, [])], loops := [(19, 151106504079791792062736, [8])], draws := [(21, [0, 1, 2, 3, 4, 5, 6, 7], 0), (28, [0, 1, 2, 3, 4, 5, 6, 7, 8, 9, 10, 11], 512)], pars := [] }
theorem F95_eq (a0 a1 : Value) (w : World) (R : Value → World → Prop) : vcF Try.prog cfg95 Try.f95 [a0, a1] w R = F95 a0 a1 w R := by kernel_rfl
theorem F95_call {a0 a1 : Value} {w : World} {R : Value → World → Prop} (h : F95 a0 a1 w R) : CALL Try.prog 95 [a0, a1] w R :=
  call_of (g := cfg95) ent mixed Try.func95 (Nat.le_of_ble_eq_true (by kernel_rfl)) (by kernel_rfl) (F95_eq a0 a1 w R ▸ h)

/-- laws.toIns -/
def F96 (a0 : Value) (w : World) (R : Value → World → Prop) : Prop :=
  OP Try.prog (Instr.box 90 a0) w fun x1 w =>
  OP Try.prog (Instr.alloc 95 true (.tuple #[])) w fun x2 w =>
  OP Try.prog (Instr.alloc 95 true (.tuple #[])) w fun x3 w =>
  RD Try.prog (Instr.fieldAt 90 x1 0) w fun x4 =>
  RD Try.prog (Instr.loadAt 3 x4) w fun x5 =>
  RD Try.prog (Instr.fieldAt 95 x3 0) w fun x6 =>
  OPU Try.prog (Instr.storeAt 3 x6 x5) w fun w =>
  RD Try.prog (Instr.fieldAt 90 x1 1) w fun x7 =>
  RD Try.prog (Instr.loadAt 3 x7) w fun x8 =>
  RD Try.prog (Instr.fieldAt 95 x3 1) w fun x9 =>
  OPU Try.prog (Instr.storeAt 3 x9 x8) w fun w =>
  RD Try.prog (Instr.fieldAt 90 x1 2) w fun x10 =>
  RD Try.prog (Instr.loadAt 88 x10) w fun x11 =>
  CALL Try.prog 129 [x11] w fun x12 w =>
  RD Try.prog (Instr.fieldAt 95 x3 2) w fun x13 =>
  OPU Try.prog (Instr.storeAt 93 x13 x12) w fun w =>
  RD Try.prog (Instr.fieldAt 90 x1 3) w fun x14 =>
  RD Try.prog (Instr.loadAt 3 x14) w fun x15 =>
  RD Try.prog (Instr.fieldAt 95 x3 3) w fun x16 =>
  OPU Try.prog (Instr.storeAt 3 x16 x15) w fun w =>
  RD Try.prog (Instr.loadAt 95 x3) w fun x17 =>
  OPU Try.prog (Instr.storeAt 95 x2 x17) w fun w =>
  RD Try.prog (loadRes 95 x2) w fun r2 => R r2 w
def cfg96 : Cfg := { ext := extL, joins := [], loops := [], draws := [], pars := [] }
theorem F96_eq (a0 : Value) (w : World) (R : Value → World → Prop) : vcF Try.prog cfg96 Try.f96 [a0] w R = F96 a0 w R := by kernel_rfl
theorem F96_call {a0 : Value} {w : World} {R : Value → World → Prop} (h : F96 a0 w R) : CALL Try.prog 96 [a0] w R :=
  call_of (g := cfg96) ent mixed Try.func96 (Nat.le_of_ble_eq_true (by kernel_rfl)) (by kernel_rfl) (F96_eq a0 w R ▸ h)

/-- impl.namesRight -/
def F97 (a0 : Value) (w : World) (R : Value → World → Prop) : Prop :=
  OP Try.prog (Instr.box 31 a0) w fun x1 w =>
  RD Try.prog (Instr.fieldAt 31 x1 0) w fun x3 =>
  RD Try.prog (Instr.loadAt 22 x3) w fun x4 =>
  CALL Try.prog 130 [x4, (Value.int .i64 6)] w fun x5 w =>
  RD Try.prog (Op.unary .not x5) w fun x6 =>
  BR x6
  (R (Value.bool false) w)
  (RD Try.prog (Instr.fieldAt 31 x1 1) w fun x8 =>
  RD Try.prog (Instr.loadAt 22 x8) w fun x9 =>
  CALL Try.prog 130 [x9, (Value.int .i64 6)] w fun x10 w =>
  RD Try.prog (Op.unary .not x10) w fun x11 =>
  BR x11
  (R (Value.bool false) w)
  (RD Try.prog (Instr.fieldAt 31 x1 2) w fun x14 =>
  RD Try.prog (Instr.loadAt 22 x14) w fun x15 =>
  CALL Try.prog 130 [x15, (Value.int .i64 8)] w fun x16 w =>
  RD Try.prog (Op.unary .not x16) w fun x17 =>
  BR x17
   (R (Value.bool false) w)
   (RD Try.prog (Instr.fieldAt 31 x1 0) w fun x19 =>
   RD Try.prog (Instr.loadAt 22 x19) w fun x20 =>
   CALL Try.prog 131 [x20] w fun x21 w =>
   BR x21
   (R (Value.bool false) w)
   (RD Try.prog (Instr.fieldAt 31 x1 1) w fun x23 =>
   RD Try.prog (Instr.loadAt 22 x23) w fun x24 =>
   CALL Try.prog 131 [x24] w fun x25 w =>
   BR x25
   (R (Value.bool false) w)
   (RD Try.prog (Instr.fieldAt 31 x1 2) w fun x28 =>
   RD Try.prog (Instr.loadAt 22 x28) w fun x29 =>
   CALL Try.prog 131 [x29] w fun x30 w =>
   BR x30
    (R (Value.bool false) w)
    (RD Try.prog (Instr.fieldAt 31 x1 2) w fun x32 =>
    RD Try.prog (Instr.loadAt 22 x32) w fun x33 =>
    CALL Try.prog 111 [x33, (Value.string (ByteArray.mk #[109, 97, 105, 110]))] w fun x34 w =>
    R x34 w))))))
def cfg97 : Cfg := { ext := extL, joins := [], loops := [], draws := [], pars := [] }
theorem F97_eq (a0 : Value) (w : World) (R : Value → World → Prop) : vcF Try.prog cfg97 Try.f97 [a0] w R = F97 a0 w R := by kernel_rfl
theorem F97_call {a0 : Value} {w : World} {R : Value → World → Prop} (h : F97 a0 w R) : CALL Try.prog 97 [a0] w R :=
  call_of (g := cfg97) ent mixed Try.func97 (Nat.le_of_ble_eq_true (by kernel_rfl)) (by kernel_rfl) (F97_eq a0 w R ▸ h)

/-- impl.entriesRight -/
def F98 (a0 : Value) (w : World) (R : Value → World → Prop) : Prop :=
  OP Try.prog (Instr.box 31 a0) w fun x1 w =>
  RD Try.prog (Instr.fieldAt 31 x1 4) w fun x9 =>
  RD Try.prog (Instr.loadAt 29 x9) w fun x10 =>
  RD Try.prog (Builtin.len_ #[29] 3 [x10].toArray) w fun x11 =>
  RD Try.prog (bin .gtr 3 (.tmp 0) (.const undef) x11 (Value.int .i64 1500)) w fun x12 =>
  BR x12
  (R (Value.bool false) w)
  (RD Try.prog (Instr.fieldAt 31 x1 3) w fun x14 =>
  RD Try.prog (Instr.loadAt 23 x14) w fun x15 =>
  RD Try.prog (Builtin.len_ #[23] 3 [x15].toArray) w fun x16 =>
  RD Try.prog (Instr.fieldAt 31 x1 2) w fun x17 =>
  RD Try.prog (Instr.loadAt 22 x17) w fun x18 =>
  RD Try.prog (Builtin.len_ #[22] 3 [x18].toArray) w fun x19 =>
  RD Try.prog (bin .neq 3 (.tmp 0) (.tmp 0) x16 x19) w fun x20 =>
  BR x20
  (R (Value.bool false) w)
  (RD Try.prog (Instr.fieldAt 31 x1 3) w fun x23 =>
  RD Try.prog (Instr.loadAt 23 x23) w fun x24 =>
  RD Try.prog (Instr.indexAt 23 x24 (Value.int .i64 0)) w fun x25 =>
  RD Try.prog (Instr.loadAt 3 x25) w fun x26 =>
  RD Try.prog (bin .neq 3 (.tmp 0) (.const undef) x26 (Value.int .i64 0)) w fun x27 =>
  BR x27
   (R (Value.bool false) w)
   (RD Try.prog (Instr.fieldAt 31 x1 4) w fun x29 =>
   RD Try.prog (Instr.loadAt 29 x29) w fun x30 =>
   RD Try.prog (Builtin.len_ #[29] 3 [x30].toArray) w fun x31 =>
   LOOPI [3, 32] [(Value.int .i64 0), (Value.int .i64 0)] w fun u5 w next5 =>
    RD Try.prog (bin .lss 3 (.tmp 0) (.tmp 0) (u5 32) x31) w fun x33 =>
    BR x33
     (RD Try.prog (Instr.indexAt 29 x30 (u5 32)) w fun x34 =>
     RD Try.prog (Instr.loadAt 95 x34) w fun x35 =>
     OP Try.prog (Instr.alloc 95 true (.tuple #[])) w fun x5 w =>
     OPU Try.prog (Instr.storeAt 95 x5 x35) w fun w =>
     RD Try.prog (Instr.fieldAt 95 x5 0) w fun x36 =>
     RD Try.prog (Instr.loadAt 3 x36) w fun x37 =>
     RD Try.prog (bin .eql 3 (.tmp 0) (.const undef) x37 (Value.int .i64 9)) w fun x38 =>
     BR x38
      (RD Try.prog (bin .add 3 (.tmp 0) (.const undef) (u5 3) (Value.int .i64 1)) w fun x40 =>
      RD Try.prog (bin .add 3 (.tmp 0) (.const undef) (u5 32) (Value.int .i64 1)) w fun x41 =>
      next5 [x40, x41] w)
      (RD Try.prog (bin .add 3 (.tmp 0) (.const undef) (u5 32) (Value.int .i64 1)) w fun x41 =>
      next5 [(u5 3), x41] w))
     (RD Try.prog (Instr.fieldAt 31 x1 3) w fun x43 =>
     RD Try.prog (Instr.loadAt 23 x43) w fun x44 =>
     RD Try.prog (Builtin.len_ #[23] 3 [x44].toArray) w fun x45 =>
     RD Try.prog (bin .neq 3 (.tmp 0) (.tmp 0) (u5 3) x45) w fun x46 =>
     BR x46
      (R (Value.bool false) w)
      (RD Try.prog (Instr.fieldAt 31 x1 3) w fun x47 =>
      RD Try.prog (Instr.loadAt 23 x47) w fun x48 =>
      RD Try.prog (Builtin.len_ #[23] 3 [x48].toArray) w fun x49 =>
      LOOPI [50] [(Value.int .i64 0)] w fun u13 w next13 =>
       RD Try.prog (bin .lss 3 (.tmp 0) (.tmp 0) (u13 50) x49) w fun x51 =>
       BR x51
        ((fun w => RD Try.prog (Instr.fieldAt 31 x1 3) w fun x53 =>
        RD Try.prog (Instr.loadAt 23 x53) w fun x54 =>
        RD Try.prog (Instr.indexAt 23 x54 (u13 50)) w fun x56 =>
        RD Try.prog (Instr.loadAt 3 x56) w fun x57 =>
        RD Try.prog (Instr.fieldAt 31 x1 4) w fun x58 =>
        RD Try.prog (Instr.loadAt 29 x58) w fun x59 =>
        RD Try.prog (Builtin.len_ #[29] 3 [x59].toArray) w fun x60 =>
        JOIN [8] (fun J18 =>
         RD Try.prog (bin .add 3 (.tmp 0) (.const undef) (u13 50) (Value.int .i64 1)) w fun x62 =>
         RD Try.prog (Instr.fieldAt 31 x1 3) w fun x63 =>
         RD Try.prog (Instr.loadAt 23 x63) w fun x64 =>
         RD Try.prog (Builtin.len_ #[23] 3 [x64].toArray) w fun x65 =>
         RD Try.prog (bin .lss 3 (.tmp 0) (.tmp 0) x62 x65) w fun x66 =>
         BR x66
          (RD Try.prog (Instr.fieldAt 31 x1 3) w fun x67 =>
          RD Try.prog (Instr.loadAt 23 x67) w fun x68 =>
          RD Try.prog (bin .add 3 (.tmp 0) (.const undef) (u13 50) (Value.int .i64 1)) w fun x70 =>
          RD Try.prog (Instr.indexAt 23 x68 x70) w fun x71 =>
          RD Try.prog (Instr.loadAt 3 x71) w fun x72 =>
          J18 [x72] w)
          (J18 [x60] w)) (fun u18 w =>
         RD Try.prog (bin .leq 3 (.tmp 0) (.tmp 0) (u18 8) x57) w fun x75 =>
         BR x75
         (R (Value.bool false) w)
         (RD Try.prog (Instr.fieldAt 31 x1 4) w fun x78 =>
         RD Try.prog (Instr.loadAt 29 x78) w fun x79 =>
         RD Try.prog (Builtin.len_ #[29] 3 [x79].toArray) w fun x80 =>
         RD Try.prog (bin .gtr 3 (.tmp 0) (.tmp 0) (u18 8) x80) w fun x81 =>
         BR x81
         (R (Value.bool false) w)
         (RD Try.prog (Instr.fieldAt 31 x1 4) w fun x84 =>
         RD Try.prog (Instr.loadAt 29 x84) w fun x85 =>
         RD Try.prog (bin .sub 3 (.tmp 0) (.const undef) (u18 8) (Value.int .i64 1)) w fun x87 =>
         RD Try.prog (Instr.indexAt 29 x85 x87) w fun x88 =>
         RD Try.prog (Instr.fieldAt 95 x88 0) w fun x89 =>
         RD Try.prog (Instr.loadAt 3 x89) w fun x90 =>
         RD Try.prog (bin .neq 3 (.tmp 0) (.const undef) x90 (Value.int .i64 9)) w fun x91 =>
         BR x91
          (R (Value.bool false) w)
          (RD Try.prog (bin .add 3 (.tmp 0) (.const undef) (u13 50) (Value.int .i64 1)) w fun x93 =>
          next13 [x93] w))))) (World.drew1 w))
        (R (Value.bool true) w))))))
def cfg98 : Cfg := { ext := extL, joins := [(18, 9442427122730076733696, [8])], loops := [(5, 4393751543848, [3, 32]), (13, 19807040628564958498479145412, [50])], draws := [(15, [0, 1, 2, 3, 4, 5, 6, 7, 8, 9], 0)], pars := [] }
theorem F98_eq (a0 : Value) (w : World) (R : Value → World → Prop) : vcF Try.prog cfg98 Try.f98 [a0] w R = F98 a0 w R := by kernel_rfl
theorem F98_call {a0 : Value} {w : World} {R : Value → World → Prop} (h : F98 a0 w R) : CALL Try.prog 98 [a0] w R :=
  call_of (g := cfg98) ent mixed Try.func98 (Nat.le_of_ble_eq_true (by kernel_rfl)) (by kernel_rfl) (F98_eq a0 w R ▸ h)

/-- impl.endOfProc -/
def F99 (a0 a1 : Value) (w : World) (R : Value → World → Prop) : Prop :=
  OP Try.prog (Instr.box 31 a0) w fun x2 w =>
  RD Try.prog (bin .add 3 (.tmp 0) (.const undef) a1 (Value.int .i64 1)) w fun x6 =>
  RD Try.prog (Instr.fieldAt 31 x2 3) w fun x7 =>
  RD Try.prog (Instr.loadAt 23 x7) w fun x8 =>
  RD Try.prog (Builtin.len_ #[23] 3 [x8].toArray) w fun x9 =>
  RD Try.prog (bin .lss 3 (.tmp 0) (.tmp 0) x6 x9) w fun x10 =>
  BR x10
   (RD Try.prog (Instr.fieldAt 31 x2 3) w fun x11 =>
   RD Try.prog (Instr.loadAt 23 x11) w fun x12 =>
   RD Try.prog (bin .add 3 (.tmp 0) (.const undef) a1 (Value.int .i64 1)) w fun x14 =>
   RD Try.prog (Instr.indexAt 23 x12 x14) w fun x15 =>
   RD Try.prog (Instr.loadAt 3 x15) w fun x16 =>
   R x16 w)
   (RD Try.prog (Instr.fieldAt 31 x2 4) w fun x17 =>
   RD Try.prog (Instr.loadAt 29 x17) w fun x18 =>
   RD Try.prog (Builtin.len_ #[29] 3 [x18].toArray) w fun x19 =>
   R x19 w)
def cfg99 : Cfg := { ext := extL, joins := [], loops := [], draws := [], pars := [] }
theorem F99_eq (a0 a1 : Value) (w : World) (R : Value → World → Prop) : vcF Try.prog cfg99 Try.f99 [a0, a1] w R = F99 a0 a1 w R := by kernel_rfl
theorem F99_call {a0 a1 : Value} {w : World} {R : Value → World → Prop} (h : F99 a0 a1 w R) : CALL Try.prog 99 [a0, a1] w R :=
  call_of (g := cfg99) ent mixed Try.func99 (Nat.le_of_ble_eq_true (by kernel_rfl)) (by kernel_rfl) (F99_eq a0 a1 w R ▸ h)

/-- impl.insRight -/
def F100 (a0 a1 a2 a3 : Value) (w : World) (R : Value → World → Prop) : Prop :=
  OP Try.prog (Instr.box 31 a0) w fun x4 w =>
  OP Try.prog (Instr.box 95 a1) w fun x5 w =>
  (fun w => RD Try.prog (Instr.fieldAt 95 x5 0) w fun x11 =>
  RD Try.prog (Instr.loadAt 3 x11) w fun x12 =>
  RD Try.prog (bin .lss 3 (.tmp 0) (.const undef) x12 (Value.int .i64 1)) w fun x13 =>
  BR x13
  (R (Value.bool false) w)
  (RD Try.prog (Instr.fieldAt 95 x5 0) w fun x15 =>
  RD Try.prog (Instr.loadAt 3 x15) w fun x16 =>
  RD Try.prog (bin .gtr 3 (.tmp 0) (.const undef) x16 (Value.int .i64 9)) w fun x17 =>
  BR x17
  (R (Value.bool false) w)
  (RD Try.prog (Instr.fieldAt 95 x5 1) w fun x20 =>
  RD Try.prog (Instr.loadAt 3 x20) w fun x21 =>
  RD Try.prog (bin .lss 3 (.tmp 0) (.const undef) x21 (Value.int .i64 0)) w fun x22 =>
  BR x22
  (R (Value.bool false) w)
  (RD Try.prog (Instr.fieldAt 95 x5 1) w fun x25 =>
  RD Try.prog (Instr.loadAt 3 x25) w fun x26 =>
  RD Try.prog (Instr.loadAt 31 x4) w fun x27 =>
  RD Try.prog (Instr.fieldAt 95 x5 0) w fun x28 =>
  RD Try.prog (Instr.loadAt 3 x28) w fun x29 =>
  (fun w_ => CALL Try.prog 132 [x27, x29] w_ fun x30 w =>
  Ext w_ w ∧
  RD Try.prog (bin .geq 3 (.tmp 0) (.tmp 0) x26 x30) w fun x31 =>
  BR x31
   (R (Value.bool false) w)
   (JOIN [] (fun J14 =>
    RD Try.prog (Instr.fieldAt 95 x5 0) w fun x33 =>
    RD Try.prog (Instr.loadAt 3 x33) w fun x34 =>
    RD Try.prog (bin .eql 3 (.tmp 0) (.const undef) x34 (Value.int .i64 1)) w fun x35 =>
    BR x35
    (RD Try.prog (Instr.fieldAt 95 x5 2) w fun x41 =>
     RD Try.prog (Instr.loadAt 93 x41) w fun x42 =>
     CALL Try.prog 133 [x42] w fun x43 w =>
     RD Try.prog (Op.unary .not x43) w fun x44 =>
     BR x44
      (R (Value.bool false) w)
      (RD Try.prog (Instr.fieldAt 95 x5 2) w fun x45 =>
      RD Try.prog (Instr.loadAt 93 x45) w fun x46 =>
      CALL Try.prog 110 [x46] w fun x47 w =>
      RD Try.prog (Builtin.len_ #[22] 3 [x47].toArray) w fun x48 =>
      LOOPI [49] [(Value.int .i64 0)] w fun u7 w next7 =>
       RD Try.prog (bin .lss 3 (.tmp 0) (.tmp 0) (u7 49) x48) w fun x50 =>
       BR x50
        (RD Try.prog (Instr.indexAt 22 x47 (u7 49)) w fun x51 =>
        RD Try.prog (Instr.loadAt 9 x51) w fun x52 =>
        RD Try.prog (Instr.fieldAt 31 x4 0) w fun x53 =>
        RD Try.prog (Instr.loadAt 22 x53) w fun x54 =>
        CALL Try.prog 111 [x54, x52] w fun x56 w =>
        RD Try.prog (Op.unary .not x56) w fun x57 =>
        BR x57
         (R (Value.bool false) w)
         (RD Try.prog (bin .add 3 (.tmp 0) (.const undef) (u7 49) (Value.int .i64 1)) w fun x58 =>
         next7 [x58] w))
        (J14 [] w)))
    (RD Try.prog (Instr.fieldAt 95 x5 0) w fun x37 =>
    RD Try.prog (Instr.loadAt 3 x37) w fun x38 =>
    RD Try.prog (bin .eql 3 (.tmp 0) (.const undef) x38 (Value.int .i64 2)) w fun x39 =>
    BR x39
     (RD Try.prog (Instr.fieldAt 95 x5 2) w fun x41 =>
     RD Try.prog (Instr.loadAt 93 x41) w fun x42 =>
     CALL Try.prog 133 [x42] w fun x43 w =>
     RD Try.prog (Op.unary .not x43) w fun x44 =>
     BR x44
      (R (Value.bool false) w)
      (RD Try.prog (Instr.fieldAt 95 x5 2) w fun x45 =>
      RD Try.prog (Instr.loadAt 93 x45) w fun x46 =>
      CALL Try.prog 110 [x46] w fun x47 w =>
      RD Try.prog (Builtin.len_ #[22] 3 [x47].toArray) w fun x48 =>
      LOOPI [49] [(Value.int .i64 0)] w fun u7 w next7 =>
       RD Try.prog (bin .lss 3 (.tmp 0) (.tmp 0) (u7 49) x48) w fun x50 =>
       BR x50
        (RD Try.prog (Instr.indexAt 22 x47 (u7 49)) w fun x51 =>
        RD Try.prog (Instr.loadAt 9 x51) w fun x52 =>
        RD Try.prog (Instr.fieldAt 31 x4 0) w fun x53 =>
        RD Try.prog (Instr.loadAt 22 x53) w fun x54 =>
        CALL Try.prog 111 [x54, x52] w fun x56 w =>
        RD Try.prog (Op.unary .not x56) w fun x57 =>
        BR x57
         (R (Value.bool false) w)
         (RD Try.prog (bin .add 3 (.tmp 0) (.const undef) (u7 49) (Value.int .i64 1)) w fun x58 =>
         next7 [x58] w))
        (J14 [] w)))
     (RD Try.prog (Instr.fieldAt 95 x5 2) w fun x59 =>
     RD Try.prog (Instr.loadAt 93 x59) w fun x60 =>
     CALL Try.prog 134 [x60] w fun x61 w =>
     RD Try.prog (Op.unary .not x61) w fun x62 =>
     BR x62
      (R (Value.bool false) w)
      (J14 [] w)))) (fun u14 w =>
    RD Try.prog (Instr.fieldAt 95 x5 0) w fun x63 =>
    RD Try.prog (Instr.loadAt 3 x63) w fun x64 =>
    RD Try.prog (bin .eql 3 (.tmp 0) (.const undef) x64 (Value.int .i64 2)) w fun x65 =>
    BR x65
    (RD Try.prog (Instr.fieldAt 95 x5 3) w fun x71 =>
     RD Try.prog (Instr.loadAt 3 x71) w fun x72 =>
     RD Try.prog (bin .geq 3 (.tmp 0) (.tmp 0) x72 a2) w fun x74 =>
     BR x74
     (RD Try.prog (Instr.fieldAt 95 x5 3) w fun x76 =>
     RD Try.prog (Instr.loadAt 3 x76) w fun x77 =>
     RD Try.prog (bin .lss 3 (.tmp 0) (.tmp 0) x77 a3) w fun x79 =>
     R x79 w)
     (R (Value.bool false) w))
    (RD Try.prog (Instr.fieldAt 95 x5 0) w fun x67 =>
    RD Try.prog (Instr.loadAt 3 x67) w fun x68 =>
    RD Try.prog (bin .eql 3 (.tmp 0) (.const undef) x68 (Value.int .i64 3)) w fun x69 =>
    BR x69
     (RD Try.prog (Instr.fieldAt 95 x5 3) w fun x71 =>
     RD Try.prog (Instr.loadAt 3 x71) w fun x72 =>
     RD Try.prog (bin .geq 3 (.tmp 0) (.tmp 0) x72 a2) w fun x74 =>
     BR x74
     (RD Try.prog (Instr.fieldAt 95 x5 3) w fun x76 =>
     RD Try.prog (Instr.loadAt 3 x76) w fun x77 =>
     RD Try.prog (bin .lss 3 (.tmp 0) (.tmp 0) x77 a3) w fun x79 =>
     R x79 w)
     (R (Value.bool false) w))
     (RD Try.prog (Instr.fieldAt 95 x5 3) w fun x81 =>
     RD Try.prog (Instr.loadAt 3 x81) w fun x82 =>
     RD Try.prog (bin .eql 3 (.tmp 0) (.const undef) x82 (Value.int .i64 0)) w fun x83 =>
     R x83 w))))) w)))) (World.drew1 w)
def cfg100 : Cfg := { ext := extL, joins := [(14, 9223372028264842496, [])], loops := [(7, 575897802350003456, [49])], draws := [(1, [0, 1, 2, 3, 4, 5, 6, 7, 8, 9, 10, 11, 12, 13, 14, 15, 16, 17, 18, 19, 20, 21], 524288)], pars := [] }
theorem F100_eq (a0 a1 a2 a3 : Value) (w : World) (R : Value → World → Prop) : vcF Try.prog cfg100 Try.f100 [a0, a1, a2, a3] w R = F100 a0 a1 a2 a3 w R := by kernel_rfl
theorem F100_call {a0 a1 a2 a3 : Value} {w : World} {R : Value → World → Prop} (h : F100 a0 a1 a2 a3 w R) : CALL Try.prog 100 [a0, a1, a2, a3] w R :=
  call_of (g := cfg100) ent mixed Try.func100 (Nat.le_of_ble_eq_true (by kernel_rfl)) (by kernel_rfl) (F100_eq a0 a1 a2 a3 w R ▸ h)

/-- laws.eqIns -/
def F101 (a0 a1 : Value) (w : World) (R : Value → World → Prop) : Prop :=
  OP Try.prog (Instr.box 95 a0) w fun x2 w =>
  OP Try.prog (Instr.box 95 a1) w fun x3 w =>
  RD Try.prog (Instr.fieldAt 95 x2 0) w fun x5 =>
  RD Try.prog (Instr.loadAt 3 x5) w fun x6 =>
  RD Try.prog (Instr.fieldAt 95 x3 0) w fun x7 =>
  RD Try.prog (Instr.loadAt 3 x7) w fun x8 =>
  RD Try.prog (bin .neq 3 (.tmp 0) (.tmp 0) x6 x8) w fun x9 =>
  BR x9
   (R (Value.bool false) w)
   (RD Try.prog (Instr.fieldAt 95 x2 1) w fun x10 =>
   RD Try.prog (Instr.loadAt 3 x10) w fun x11 =>
   RD Try.prog (Instr.fieldAt 95 x3 1) w fun x12 =>
   RD Try.prog (Instr.loadAt 3 x12) w fun x13 =>
   RD Try.prog (bin .neq 3 (.tmp 0) (.tmp 0) x11 x13) w fun x14 =>
   BR x14
    (R (Value.bool false) w)
    (RD Try.prog (Instr.fieldAt 95 x2 2) w fun x15 =>
    RD Try.prog (Instr.loadAt 93 x15) w fun x16 =>
    RD Try.prog (Instr.fieldAt 95 x3 2) w fun x17 =>
    RD Try.prog (Instr.loadAt 93 x17) w fun x18 =>
    CALL Try.prog 135 [x16, x18] w fun x19 w =>
    RD Try.prog (Op.unary .not x19) w fun x20 =>
    BR x20
     (R (Value.bool false) w)
     (RD Try.prog (Instr.fieldAt 95 x2 3) w fun x21 =>
     RD Try.prog (Instr.loadAt 3 x21) w fun x22 =>
     RD Try.prog (Instr.fieldAt 95 x3 3) w fun x23 =>
     RD Try.prog (Instr.loadAt 3 x23) w fun x24 =>
     RD Try.prog (bin .neq 3 (.tmp 0) (.tmp 0) x22 x24) w fun x25 =>
     BR x25
      (R (Value.bool false) w)
      (R (Value.bool true) w))))
def cfg101 : Cfg := { ext := extL, joins := [], loops := [], draws := [], pars := [] }
theorem F101_eq (a0 a1 : Value) (w : World) (R : Value → World → Prop) : vcF Try.prog cfg101 Try.f101 [a0, a1] w R = F101 a0 a1 w R := by kernel_rfl
theorem F101_call {a0 a1 : Value} {w : World} {R : Value → World → Prop} (h : F101 a0 a1 w R) : CALL Try.prog 101 [a0, a1] w R :=
  call_of (g := cfg101) ent mixed Try.func101 (Nat.le_of_ble_eq_true (by kernel_rfl)) (by kernel_rfl) (F101_eq a0 a1 w R ▸ h)

/-- spec.l21Stack -/
def F102 (a0 a1 : Value) (w : World) (R : Value → World → Prop) : Prop :=
  OP Try.prog (Instr.box 31 a0) w fun x2 w =>
  RD Try.prog (Builtin.len_ #[23] 3 [a1].toArray) w fun x9 =>
  RD Try.prog (bin .gtr 3 (.tmp 0) (.const undef) x9 (Value.int .i64 8)) w fun x10 =>
  BR x10
   (R (Value.bool false) w)
   (LOOPI [5] [(Value.int .i64 0)] w fun u4 w next4 =>
    RD Try.prog (Builtin.len_ #[23] 3 [a1].toArray) w fun x13 =>
    RD Try.prog (bin .lss 3 (.tmp 0) (.tmp 0) (u4 5) x13) w fun x14 =>
    BR x14
     ((fun w => RD Try.prog (Instr.indexAt 23 a1 (u4 5)) w fun x19 =>
     RD Try.prog (Instr.loadAt 3 x19) w fun x20 =>
     RD Try.prog (Instr.fieldAt 31 x2 4) w fun x21 =>
     RD Try.prog (Instr.loadAt 29 x21) w fun x22 =>
     RD Try.prog (Builtin.len_ #[29] 3 [x22].toArray) w fun x23 =>
     RD Try.prog (bin .sub 3 (.tmp 0) (.const undef) x23 (Value.int .i64 1)) w fun x24 =>
     CALL Try.prog 56 [x20, (Value.int .i64 0), x24] w fun x25 w =>
     RD Try.prog (Op.unary .not x25) w fun x26 =>
     BR x26
      (R (Value.bool false) w)
      (RD Try.prog (bin .add 3 (.tmp 0) (.const undef) (u4 5) (Value.int .i64 1)) w fun x16 =>
      next4 [x16] w)) (World.drew1 w))
     (LOOPI [6] [(Value.int .i64 0)] w fun u9 w next9 =>
      RD Try.prog (bin .add 3 (.tmp 0) (.const undef) (u9 6) (Value.int .i64 1)) w fun x28 =>
      RD Try.prog (Builtin.len_ #[23] 3 [a1].toArray) w fun x30 =>
      RD Try.prog (bin .lss 3 (.tmp 0) (.tmp 0) x28 x30) w fun x31 =>
      BR x31
       ((fun w => RD Try.prog (Instr.fieldAt 31 x2 4) w fun x34 =>
       RD Try.prog (Instr.loadAt 29 x34) w fun x35 =>
       RD Try.prog (Instr.indexAt 23 a1 (u9 6)) w fun x38 =>
       RD Try.prog (Instr.loadAt 3 x38) w fun x39 =>
       RD Try.prog (Instr.indexAt 29 x35 x39) w fun x40 =>
       RD Try.prog (Instr.loadAt 95 x40) w fun x41 =>
       (fun w_ => OP Try.prog (Instr.alloc 95 true (.tuple #[])) w_ fun x7 w =>
       Ext w_ w ∧
       OPU Try.prog (Instr.storeAt 95 x7 x41) w fun w =>
       (fun w => RD Try.prog (Instr.fieldAt 95 x7 0) w fun x42 =>
       RD Try.prog (Instr.loadAt 3 x42) w fun x43 =>
       RD Try.prog (bin .neq 3 (.tmp 0) (.const undef) x43 (Value.int .i64 4)) w fun x44 =>
       BR x44
       (R (Value.bool false) w)
       (RD Try.prog (Instr.loadAt 31 x2) w fun x46 =>
       RD Try.prog (bin .add 3 (.tmp 0) (.const undef) (u9 6) (Value.int .i64 1)) w fun x49 =>
       RD Try.prog (Instr.indexAt 23 a1 x49) w fun x50 =>
       RD Try.prog (Instr.loadAt 3 x50) w fun x51 =>
       RD Try.prog (Instr.fieldAt 95 x7 1) w fun x53 =>
       RD Try.prog (Instr.loadAt 3 x53) w fun x54 =>
       (fun w_ => CALL Try.prog 126 [x46, x51] w_ fun x52 w =>
       Ext w_ w ∧
       RD Try.prog (bin .neq 3 (.tmp 0) (.tmp 0) x52 x54) w fun x55 =>
       BR x55
        (R (Value.bool false) w)
        (RD Try.prog (bin .add 3 (.tmp 0) (.const undef) (u9 6) (Value.int .i64 1)) w fun x33 =>
        next9 [x33] w)) w)) (World.drew1 w)) w) (World.drew1 w))
       (R (Value.bool true) w)))
def cfg102 : Cfg := { ext := extL, joins := [], loops := [(4, 134215728, [5]), (9, 144115187941638352, [6])], draws := [(6, [0, 1, 2, 3, 4, 5, 6, 7, 8, 9], 0), (11, [0, 1, 2, 3, 4, 5, 6, 7, 8, 9], 256), (12, [0, 1, 2, 3, 4, 5, 6, 7, 8, 9, 11, 12, 10, 13, 14], 1024)], pars := [] }
theorem F102_eq (a0 a1 : Value) (w : World) (R : Value → World → Prop) : vcF Try.prog cfg102 Try.f102 [a0, a1] w R = F102 a0 a1 w R := by kernel_rfl
theorem F102_call {a0 a1 : Value} {w : World} {R : Value → World → Prop} (h : F102 a0 a1 w R) : CALL Try.prog 102 [a0, a1] w R :=
  call_of (g := cfg102) ent mixed Try.func102 (Nat.le_of_ble_eq_true (by kernel_rfl)) (by kernel_rfl) (F102_eq a0 a1 w R ▸ h)

/-- impl.stackRight -/
def F103 (a0 a1 : Value) (w : World) (R : Value → World → Prop) : Prop :=
  OP Try.prog (Instr.box 31 a0) w fun x2 w =>
  RD Try.prog (Builtin.len_ #[23] 3 [a1].toArray) w fun x8 =>
  RD Try.prog (bin .gtr 3 (.tmp 0) (.const undef) x8 (Value.int .i64 8)) w fun x9 =>
  BR x9
   (R (Value.bool false) w)
   (RD Try.prog (Builtin.len_ #[23] 3 [a1].toArray) w fun x11 =>
   LOOPI [12] [(Value.int .i64 0)] w fun u4 w next4 =>
    RD Try.prog (bin .lss 3 (.tmp 0) (.tmp 0) (u4 12) x11) w fun x13 =>
    BR x13
     (RD Try.prog (Instr.indexAt 23 a1 (u4 12)) w fun x15 =>
     RD Try.prog (Instr.loadAt 3 x15) w fun x16 =>
     RD Try.prog (Instr.loadAt 31 x2) w fun x17 =>
     CALL Try.prog 75 [x17, x16] w fun x19 w =>
     RD Try.prog (Op.unary .not x19) w fun x20 =>
     BR x20
      (R (Value.bool false) w)
      (RD Try.prog (bin .add 3 (.tmp 0) (.const undef) (u4 12) (Value.int .i64 1)) w fun x22 =>
      RD Try.prog (Builtin.len_ #[23] 3 [a1].toArray) w fun x24 =>
      RD Try.prog (bin .eql 3 (.tmp 0) (.tmp 0) x22 x24) w fun x25 =>
      BR x25
       (R (Value.bool true) w)
       ((fun w => RD Try.prog (Instr.fieldAt 31 x2 4) w fun x26 =>
       RD Try.prog (Instr.loadAt 29 x26) w fun x27 =>
       RD Try.prog (Instr.indexAt 29 x27 x16) w fun x29 =>
       RD Try.prog (Instr.fieldAt 95 x29 0) w fun x30 =>
       RD Try.prog (Instr.loadAt 3 x30) w fun x31 =>
       RD Try.prog (bin .neq 3 (.tmp 0) (.const undef) x31 (Value.int .i64 4)) w fun x32 =>
       BR x32
       (R (Value.bool false) w)
       (RD Try.prog (Instr.loadAt 31 x2) w fun x34 =>
       RD Try.prog (bin .add 3 (.tmp 0) (.const undef) (u4 12) (Value.int .i64 1)) w fun x37 =>
       RD Try.prog (Instr.indexAt 23 a1 x37) w fun x38 =>
       RD Try.prog (Instr.loadAt 3 x38) w fun x39 =>
       CALL Try.prog 75 [x34, x39] w fun x40 w =>
       RD Try.prog (Op.unary .not x40) w fun x41 =>
       BR x41
       (R (Value.bool false) w)
       (RD Try.prog (Instr.loadAt 31 x2) w fun x44 =>
       RD Try.prog (bin .add 3 (.tmp 0) (.const undef) (u4 12) (Value.int .i64 1)) w fun x47 =>
       RD Try.prog (Instr.indexAt 23 a1 x47) w fun x48 =>
       RD Try.prog (Instr.loadAt 3 x48) w fun x49 =>
       RD Try.prog (Instr.fieldAt 31 x2 4) w fun x51 =>
       RD Try.prog (Instr.loadAt 29 x51) w fun x52 =>
       RD Try.prog (Instr.indexAt 29 x52 x16) w fun x54 =>
       RD Try.prog (Instr.fieldAt 95 x54 1) w fun x55 =>
       RD Try.prog (Instr.loadAt 3 x55) w fun x56 =>
       (fun w_ => CALL Try.prog 136 [x44, x49] w_ fun x50 w =>
       Ext w_ w ∧
       RD Try.prog (bin .neq 3 (.tmp 0) (.tmp 0) x50 x56) w fun x57 =>
       BR x57
        (R (Value.bool false) w)
        (RD Try.prog (bin .add 3 (.tmp 0) (.const undef) (u4 12) (Value.int .i64 1)) w fun x59 =>
        next4 [x59] w)) w))) (World.drew1 w))))
     (R (Value.bool true) w))
def cfg103 : Cfg := { ext := extL, joins := [], loops := [(4, 1152921504606842992, [12])], draws := [(9, [0, 1, 2, 3, 4, 5, 6, 7, 8, 9, 10, 11, 12, 13, 14, 15, 16, 17, 18, 19, 20, 21, 22, 23, 25, 26, 27, 28, 29, 30, 24, 31, 32], 16777216)], pars := [] }
theorem F103_eq (a0 a1 : Value) (w : World) (R : Value → World → Prop) : vcF Try.prog cfg103 Try.f103 [a0, a1] w R = F103 a0 a1 w R := by kernel_rfl
theorem F103_call {a0 a1 : Value} {w : World} {R : Value → World → Prop} (h : F103 a0 a1 w R) : CALL Try.prog 103 [a0, a1] w R :=
  call_of (g := cfg103) ent mixed Try.func103 (Nat.le_of_ble_eq_true (by kernel_rfl)) (by kernel_rfl) (F103_eq a0 a1 w R ▸ h)

/-- spec.PlaceOf -/
def F104 (a0 a1 : Value) (w : World) (R : Value → World → Prop) : Prop :=
  LOOPI [5] [(Value.int .i64 0)] w fun u2 w next2 =>
   RD Try.prog (Builtin.len_ #[22] 3 [a0].toArray) w fun x8 =>
   RD Try.prog (bin .lss 3 (.tmp 0) (.tmp 0) (u2 5) x8) w fun x9 =>
   BR x9
    (RD Try.prog (Instr.indexAt 22 a0 (u2 5)) w fun x14 =>
    RD Try.prog (Instr.loadAt 9 x14) w fun x15 =>
    RD Try.prog (bin .eql 9 (.tmp 0) (.tmp 0) x15 a1) w fun x17 =>
    BR x17
     (R (u2 5) w)
     (RD Try.prog (bin .add 3 (.tmp 0) (.const undef) (u2 5) (Value.int .i64 1)) w fun x11 =>
     next2 [x11] w))
    (R (Value.int .i64 (-1)) w)
def cfg104 : Cfg := { ext := extL, joins := [], loops := [(2, 524272, [5])], draws := [], pars := [] }
theorem F104_eq (a0 a1 : Value) (w : World) (R : Value → World → Prop) : vcF Try.prog cfg104 Try.f104 [a0, a1] w R = F104 a0 a1 w R := by kernel_rfl
theorem F104_call {a0 a1 : Value} {w : World} {R : Value → World → Prop} (h : F104 a0 a1 w R) : CALL Try.prog 104 [a0, a1] w R :=
  call_of (g := cfg104) ent mixed Try.func104 (Nat.le_of_ble_eq_true (by kernel_rfl)) (by kernel_rfl) (F104_eq a0 a1 w R ▸ h)

/-- slices.Index[[]string,string] -/
def F105 (a0 a1 : Value) (w : World) (R : Value → World → Prop) : Prop :=
  RD Try.prog (Builtin.len_ #[22] 3 [a0].toArray) w fun x7 =>
  LOOPI [8] [(Value.int .i64 0)] w fun u2 w next2 =>
   RD Try.prog (bin .lss 3 (.tmp 0) (.tmp 0) (u2 8) x7) w fun x9 =>
   BR x9
    (RD Try.prog (Instr.indexAt 22 a0 (u2 8)) w fun x14 =>
    RD Try.prog (Instr.loadAt 9 x14) w fun x15 =>
    RD Try.prog (bin .eql 9 (.tmp 0) (.tmp 0) a1 x15) w fun x16 =>
    BR x16
     (R (u2 8) w)
     (RD Try.prog (bin .add 3 (.tmp 0) (.const undef) (u2 8) (Value.int .i64 1)) w fun x18 =>
     next2 [x18] w))
    (R (Value.int .i64 (-1)) w)
def cfg105 : Cfg := { ext := extL, joins := [], loops := [(2, 524080, [8])], draws := [], pars := [] }
theorem F105_eq (a0 a1 : Value) (w : World) (R : Value → World → Prop) : vcF Try.prog cfg105 Try.f105 [a0, a1] w R = F105 a0 a1 w R := by kernel_rfl
theorem F105_call {a0 a1 : Value} {w : World} {R : Value → World → Prop} (h : F105 a0 a1 w R) : CALL Try.prog 105 [a0, a1] w R :=
  call_of (g := cfg105) ent mixed Try.func105 (Nat.le_of_ble_eq_true (by kernel_rfl)) (by kernel_rfl) (F105_eq a0 a1 w R ▸ h)

/-- laws.markText -/
def F106 (a0 : Value) (w : World) (R : Value → World → Prop) : Prop :=
  RD Try.prog (bin .leq 3 (.tmp 0) (.const undef) a0 (Value.int .i64 0)) w fun x5 =>
  BR x5
   (R (Value.string (ByteArray.mk #[109, 48])) w)
   (LOOPI [0, 3] [a0, (Value.string (ByteArray.mk #[]))] w fun u4 w next4 =>
    RD Try.prog (bin .gtr 3 (.tmp 0) (.const undef) (u4 0) (Value.int .i64 0)) w fun x7 =>
    BR x7
     (RD Try.prog (bin .rem 3 (.tmp 0) (.const undef) (u4 0) (Value.int .i64 10)) w fun x9 =>
     RD Try.prog (bin .add 3 (.const undef) (.tmp 0) (Value.int .i64 48) x9) w fun x10 =>
     RD Try.prog (convert 3 5 x10) w fun x11 =>
     OP Try.prog (Instr.buildSlice 116 1 #[(0, x11)]) w fun x12 w =>
     RD Try.prog (convert 116 9 x12) w fun x13 =>
     RD Try.prog (bin .add 9 (.tmp 0) (.tmp 0) x13 (u4 3)) w fun x15 =>
     RD Try.prog (bin .quo 3 (.tmp 0) (.const undef) (u4 0) (Value.int .i64 10)) w fun x17 =>
     next4 [x17, x15] w)
     (RD Try.prog (bin .add 9 (.const undef) (.tmp 0) (Value.string (ByteArray.mk #[109])) (u4 3)) w fun x19 =>
     R x19 w))
def cfg106 : Cfg := { ext := extL, joins := [], loops := [(4, 262089, [0, 3])], draws := [], pars := [] }
theorem F106_eq (a0 : Value) (w : World) (R : Value → World → Prop) : vcF Try.prog cfg106 Try.f106 [a0] w R = F106 a0 w R := by kernel_rfl
theorem F106_call {a0 : Value} {w : World} {R : Value → World → Prop} (h : F106 a0 w R) : CALL Try.prog 106 [a0] w R :=
  call_of (g := cfg106) ent mixed Try.func106 (Nat.le_of_ble_eq_true (by kernel_rfl)) (by kernel_rfl) (F106_eq a0 w R ▸ h)

/-- laws.markTermS -/
def F107 (a0 a1 : Value) (w : World) (R : Value → World → Prop) : Prop :=
  LOOPI [1, 5] [a1, (Value.int .i64 0)] w fun u2 w next2 =>
   RD Try.prog (Builtin.len_ #[91] 3 [a0].toArray) w fun x8 =>
   RD Try.prog (bin .lss 3 (.tmp 0) (.tmp 0) (u2 5) x8) w fun x9 =>
   BR x9
    (RD Try.prog (Instr.indexAt 91 a0 (u2 5)) w fun x15 =>
    RD Try.prog (Instr.fieldAt 93 x15 0) w fun x16 =>
    OPU Try.prog (Instr.storeAt 3 x16 (u2 1)) w fun w =>
    RD Try.prog (bin .add 3 (.tmp 0) (.const undef) (u2 1) (Value.int .i64 1)) w fun x18 =>
    RD Try.prog (Instr.indexAt 91 a0 (u2 5)) w fun x22 =>
    RD Try.prog (Instr.fieldAt 93 x22 1) w fun x23 =>
    OPU Try.prog (Instr.storeAt 3 x23 x18) w fun w =>
    RD Try.prog (bin .add 3 (.tmp 0) (.const undef) x18 (Value.int .i64 1)) w fun x25 =>
    CALL Try.prog 106 [x25] w fun x29 w =>
    RD Try.prog (Instr.indexAt 91 a0 (u2 5)) w fun x30 =>
    RD Try.prog (Instr.fieldAt 93 x30 2) w fun x31 =>
    OPU Try.prog (Instr.storeAt 9 x31 x29) w fun w =>
    RD Try.prog (bin .add 3 (.tmp 0) (.const undef) x25 (Value.int .i64 1)) w fun x33 =>
    RD Try.prog (Instr.indexAt 91 a0 (u2 5)) w fun x36 =>
    RD Try.prog (Instr.fieldAt 93 x36 3) w fun x37 =>
    RD Try.prog (Instr.loadAt 91 x37) w fun x38 =>
    CALL Try.prog 107 [x38, x33] w fun x40 w =>
    RD Try.prog (bin .add 3 (.tmp 0) (.const undef) (u2 5) (Value.int .i64 1)) w fun x11 =>
    next2 [x40, x11] w)
    (R (u2 1) w)
def cfg107 : Cfg := { ext := extL, joins := [], loops := [(2, 2199023255522, [1, 5])], draws := [], pars := [] }
theorem F107_eq (a0 a1 : Value) (w : World) (R : Value → World → Prop) : vcF Try.prog cfg107 Try.f107 [a0, a1] w R = F107 a0 a1 w R := by kernel_rfl
theorem F107_call {a0 a1 : Value} {w : World} {R : Value → World → Prop} (h : F107 a0 a1 w R) : CALL Try.prog 107 [a0, a1] w R :=
  call_of (g := cfg107) ent mixed Try.func107 (Nat.le_of_ble_eq_true (by kernel_rfl)) (by kernel_rfl) (F107_eq a0 a1 w R ▸ h)

/-- spec.ReadsOf -/
def F108 (a0 : Value) (w : World) (R : Value → World → Prop) : Prop :=
  OP Try.prog (Instr.box 93 a0) w fun x1 w =>
  RD Try.prog (Instr.loadAt 93 x1) w fun x3 =>
  CALL Try.prog 127 [x3] w fun x4 w =>
  RD Try.prog (Op.unary .not x4) w fun x5 =>
  BR x5
   (OP Try.prog (Instr.buildSlice 22 0 #[]) w fun x6 w =>
   R x6 w)
   (RD Try.prog (Instr.loadAt 93 x1) w fun x7 =>
   OP Try.prog (Instr.buildSlice 22 0 #[]) w fun x8 w =>
   CALL Try.prog 137 [x7, x8] w fun x9 w =>
   R x9 w)
def cfg108 : Cfg := { ext := extL, joins := [], loops := [], draws := [], pars := [] }
theorem F108_eq (a0 : Value) (w : World) (R : Value → World → Prop) : vcF Try.prog cfg108 Try.f108 [a0] w R = F108 a0 w R := by kernel_rfl
theorem F108_call {a0 : Value} {w : World} {R : Value → World → Prop} (h : F108 a0 w R) : CALL Try.prog 108 [a0] w R :=
  call_of (g := cfg108) ent mixed Try.func108 (Nat.le_of_ble_eq_true (by kernel_rfl)) (by kernel_rfl) (F108_eq a0 w R ▸ h)

/-- spec.l04Has -/
def F109 (a0 a1 : Value) (w : World) (R : Value → World → Prop) : Prop :=
  LOOPI [5] [(Value.int .i64 0)] w fun u2 w next2 =>
   RD Try.prog (Builtin.len_ #[22] 3 [a0].toArray) w fun x8 =>
   RD Try.prog (bin .lss 3 (.tmp 0) (.tmp 0) (u2 5) x8) w fun x9 =>
   BR x9
    (RD Try.prog (Instr.indexAt 22 a0 (u2 5)) w fun x14 =>
    RD Try.prog (Instr.loadAt 9 x14) w fun x15 =>
    RD Try.prog (bin .eql 9 (.tmp 0) (.tmp 0) x15 a1) w fun x17 =>
    BR x17
     (R (Value.bool true) w)
     (RD Try.prog (bin .add 3 (.tmp 0) (.const undef) (u2 5) (Value.int .i64 1)) w fun x11 =>
     next2 [x11] w))
    (R (Value.bool false) w)
def cfg109 : Cfg := { ext := extL, joins := [], loops := [(2, 262128, [5])], draws := [], pars := [] }
theorem F109_eq (a0 a1 : Value) (w : World) (R : Value → World → Prop) : vcF Try.prog cfg109 Try.f109 [a0, a1] w R = F109 a0 a1 w R := by kernel_rfl
theorem F109_call {a0 a1 : Value} {w : World} {R : Value → World → Prop} (h : F109 a0 a1 w R) : CALL Try.prog 109 [a0, a1] w R :=
  call_of (g := cfg109) ent mixed Try.func109 (Nat.le_of_ble_eq_true (by kernel_rfl)) (by kernel_rfl) (F109_eq a0 a1 w R ▸ h)

/-- impl.ReadsOf -/
def F110 (a0 : Value) (w : World) (R : Value → World → Prop) : Prop :=
  OP Try.prog (Instr.box 93 a0) w fun x1 w =>
  RD Try.prog (Instr.loadAt 93 x1) w fun x3 =>
  CALL Try.prog 133 [x3] w fun x4 w =>
  RD Try.prog (Op.unary .not x4) w fun x5 =>
  BR x5
   (R (Value.slice none 0 0) w)
   (RD Try.prog (Instr.loadAt 93 x1) w fun x6 =>
   CALL Try.prog 138 [(Value.slice none 0 0), x6] w fun x7 w =>
   R x7 w)
def cfg110 : Cfg := { ext := extL, joins := [], loops := [], draws := [], pars := [] }
theorem F110_eq (a0 : Value) (w : World) (R : Value → World → Prop) : vcF Try.prog cfg110 Try.f110 [a0] w R = F110 a0 w R := by kernel_rfl
theorem F110_call {a0 : Value} {w : World} {R : Value → World → Prop} (h : F110 a0 w R) : CALL Try.prog 110 [a0] w R :=
  call_of (g := cfg110) ent mixed Try.func110 (Nat.le_of_ble_eq_true (by kernel_rfl)) (by kernel_rfl) (F110_eq a0 w R ▸ h)

/-- slices.Contains[[]string,string] -/
def F111 (a0 a1 : Value) (w : World) (R : Value → World → Prop) : Prop :=
  CALL Try.prog 105 [a0, a1] w fun x7 w =>
  RD Try.prog (bin .geq 3 (.tmp 0) (.const undef) x7 (Value.int .i64 0)) w fun x8 =>
  R x8 w
def cfg111 : Cfg := { ext := extL, joins := [], loops := [], draws := [], pars := [] }
theorem F111_eq (a0 a1 : Value) (w : World) (R : Value → World → Prop) : vcF Try.prog cfg111 Try.f111 [a0, a1] w R = F111 a0 a1 w R := by kernel_rfl
theorem F111_call {a0 a1 : Value} {w : World} {R : Value → World → Prop} (h : F111 a0 a1 w R) : CALL Try.prog 111 [a0, a1] w R :=
  call_of (g := cfg111) ent mixed Try.func111 (Nat.le_of_ble_eq_true (by kernel_rfl)) (by kernel_rfl) (F111_eq a0 a1 w R ▸ h)

/-- spec.AtOf -/
def F112 (a0 a1 : Value) (w : World) (R : Value → World → Prop) : Prop :=
  OP Try.prog (Instr.box 42 a0) w fun x2 w =>
  RD Try.prog (Instr.fieldAt 42 x2 2) w fun x6 =>
  RD Try.prog (Instr.loadAt 37 x6) w fun x7 =>
  RD Try.prog (Builtin.len_ #[37] 3 [x7].toArray) w fun x8 =>
  RD Try.prog (bin .sub 3 (.tmp 0) (.const undef) x8 (Value.int .i64 1)) w fun x9 =>
  CALL Try.prog 56 [a1, (Value.int .i64 0), x9] w fun x10 w =>
  RD Try.prog (Op.unary .not x10) w fun x11 =>
  BR x11
  (R (Value.int .i64 (-1)) w)
  (RD Try.prog (Instr.fieldAt 42 x2 2) w fun x13 =>
  RD Try.prog (Instr.loadAt 37 x13) w fun x14 =>
  RD Try.prog (Instr.indexAt 37 x14 a1) w fun x16 =>
  RD Try.prog (Instr.loadAt 23 x16) w fun x17 =>
  RD Try.prog (Builtin.len_ #[23] 3 [x17].toArray) w fun x18 =>
  RD Try.prog (bin .eql 3 (.tmp 0) (.const undef) x18 (Value.int .i64 0)) w fun x19 =>
  BR x19
   (R (Value.int .i64 (-1)) w)
   ((fun w => RD Try.prog (Instr.fieldAt 42 x2 2) w fun x21 =>
   RD Try.prog (Instr.loadAt 37 x21) w fun x22 =>
   RD Try.prog (Instr.indexAt 37 x22 a1) w fun x24 =>
   RD Try.prog (Instr.loadAt 23 x24) w fun x25 =>
   RD Try.prog (Instr.fieldAt 42 x2 2) w fun x26 =>
   RD Try.prog (Instr.loadAt 37 x26) w fun x27 =>
   RD Try.prog (Instr.indexAt 37 x27 a1) w fun x29 =>
   RD Try.prog (Instr.loadAt 23 x29) w fun x30 =>
   RD Try.prog (Builtin.len_ #[23] 3 [x30].toArray) w fun x31 =>
   RD Try.prog (bin .sub 3 (.tmp 0) (.const undef) x31 (Value.int .i64 1)) w fun x32 =>
   RD Try.prog (Instr.indexAt 23 x25 x32) w fun x33 =>
   RD Try.prog (Instr.loadAt 3 x33) w fun x34 =>
   R x34 w) (World.drew1 w)))
def cfg112 : Cfg := { ext := extL, joins := [], loops := [], draws := [(3, [0, 1, 2, 3, 4, 5, 6, 7, 8, 9, 10, 11, 12, 13, 14], 0)], pars := [] }
theorem F112_eq (a0 a1 : Value) (w : World) (R : Value → World → Prop) : vcF Try.prog cfg112 Try.f112 [a0, a1] w R = F112 a0 a1 w R := by kernel_rfl
theorem F112_call {a0 a1 : Value} {w : World} {R : Value → World → Prop} (h : F112 a0 a1 w R) : CALL Try.prog 112 [a0, a1] w R :=
  call_of (g := cfg112) ent mixed Try.func112 (Nat.le_of_ble_eq_true (by kernel_rfl)) (by kernel_rfl) (F112_eq a0 a1 w R ▸ h)

/-- impl.AtOf -/
def F113 (a0 a1 : Value) (w : World) (R : Value → World → Prop) : Prop :=
  OP Try.prog (Instr.box 42 a0) w fun x2 w =>
  RD Try.prog (bin .lss 3 (.tmp 0) (.const undef) a1 (Value.int .i64 0)) w fun x6 =>
  BR x6
  (R (Value.int .i64 (-1)) w)
  (RD Try.prog (Instr.fieldAt 42 x2 2) w fun x9 =>
  RD Try.prog (Instr.loadAt 37 x9) w fun x10 =>
  RD Try.prog (Builtin.len_ #[37] 3 [x10].toArray) w fun x11 =>
  RD Try.prog (bin .geq 3 (.tmp 0) (.tmp 0) a1 x11) w fun x12 =>
  BR x12
  (R (Value.int .i64 (-1)) w)
  (RD Try.prog (Instr.fieldAt 42 x2 2) w fun x15 =>
  RD Try.prog (Instr.loadAt 37 x15) w fun x16 =>
  RD Try.prog (Instr.indexAt 37 x16 a1) w fun x18 =>
  RD Try.prog (Instr.loadAt 23 x18) w fun x19 =>
  RD Try.prog (Builtin.len_ #[23] 3 [x19].toArray) w fun x20 =>
  RD Try.prog (bin .eql 3 (.tmp 0) (.const undef) x20 (Value.int .i64 0)) w fun x21 =>
  BR x21
   (R (Value.int .i64 (-1)) w)
   ((fun w => RD Try.prog (Instr.fieldAt 42 x2 2) w fun x23 =>
   RD Try.prog (Instr.loadAt 37 x23) w fun x24 =>
   RD Try.prog (Instr.indexAt 37 x24 a1) w fun x26 =>
   RD Try.prog (Instr.loadAt 23 x26) w fun x27 =>
   RD Try.prog (Instr.fieldAt 42 x2 2) w fun x28 =>
   RD Try.prog (Instr.loadAt 37 x28) w fun x29 =>
   RD Try.prog (Instr.indexAt 37 x29 a1) w fun x31 =>
   RD Try.prog (Instr.loadAt 23 x31) w fun x32 =>
   RD Try.prog (Builtin.len_ #[23] 3 [x32].toArray) w fun x33 =>
   RD Try.prog (bin .sub 3 (.tmp 0) (.const undef) x33 (Value.int .i64 1)) w fun x34 =>
   RD Try.prog (Instr.indexAt 23 x27 x34) w fun x35 =>
   RD Try.prog (Instr.loadAt 3 x35) w fun x36 =>
   R x36 w) (World.drew1 w))))
def cfg113 : Cfg := { ext := extL, joins := [], loops := [], draws := [(3, [0, 1, 2, 3, 4, 5, 6, 7, 8, 9, 10, 11, 12, 13, 14], 0)], pars := [] }
theorem F113_eq (a0 a1 : Value) (w : World) (R : Value → World → Prop) : vcF Try.prog cfg113 Try.f113 [a0, a1] w R = F113 a0 a1 w R := by kernel_rfl
theorem F113_call {a0 a1 : Value} {w : World} {R : Value → World → Prop} (h : F113 a0 a1 w R) : CALL Try.prog 113 [a0, a1] w R :=
  call_of (g := cfg113) ent mixed Try.func113 (Nat.le_of_ble_eq_true (by kernel_rfl)) (by kernel_rfl) (F113_eq a0 a1 w R ▸ h)

/-- impl.holderOf -/
def F114 (a0 a1 : Value) (w : World) (R : Value → World → Prop) : Prop :=
  OP Try.prog (Instr.box 42 a0) w fun x2 w =>
  RD Try.prog (bin .lss 3 (.tmp 0) (.const undef) a1 (Value.int .i64 0)) w fun x6 =>
  BR x6
  (R (Value.int .i64 (-1)) w)
  (RD Try.prog (Instr.fieldAt 42 x2 1) w fun x9 =>
  RD Try.prog (Instr.loadAt 23 x9) w fun x10 =>
  RD Try.prog (Builtin.len_ #[23] 3 [x10].toArray) w fun x11 =>
  RD Try.prog (bin .geq 3 (.tmp 0) (.tmp 0) a1 x11) w fun x12 =>
  BR x12
   (R (Value.int .i64 (-1)) w)
   (RD Try.prog (Instr.fieldAt 42 x2 1) w fun x14 =>
   RD Try.prog (Instr.loadAt 23 x14) w fun x15 =>
   RD Try.prog (Instr.indexAt 23 x15 a1) w fun x17 =>
   RD Try.prog (Instr.loadAt 3 x17) w fun x18 =>
   RD Try.prog (Builtin.max_ #[3, 3] 3 [x18, (Value.int .i64 (-1))].toArray) w fun x19 =>
   R x19 w))
def cfg114 : Cfg := { ext := extL, joins := [], loops := [], draws := [], pars := [] }
theorem F114_eq (a0 a1 : Value) (w : World) (R : Value → World → Prop) : vcF Try.prog cfg114 Try.f114 [a0, a1] w R = F114 a0 a1 w R := by kernel_rfl
theorem F114_call {a0 a1 : Value} {w : World} {R : Value → World → Prop} (h : F114 a0 a1 w R) : CALL Try.prog 114 [a0, a1] w R :=
  call_of (g := cfg114) ent mixed Try.func114 (Nat.le_of_ble_eq_true (by kernel_rfl)) (by kernel_rfl) (F114_eq a0 a1 w R ▸ h)

/-- spec.l12Bit -/
def F115 (a0 : Value) (w : World) (R : Value → World → Prop) : Prop :=
  RD Try.prog (convert 3 106 a0) w fun x4 =>
  RD Try.prog (bin .shl 3 (.const undef) (.tmp 0) (Value.int .i64 1) x4) w fun x5 =>
  R x5 w
def cfg115 : Cfg := { ext := extL, joins := [], loops := [], draws := [], pars := [] }
theorem F115_eq (a0 : Value) (w : World) (R : Value → World → Prop) : vcF Try.prog cfg115 Try.f115 [a0] w R = F115 a0 w R := by kernel_rfl
theorem F115_call {a0 : Value} {w : World} {R : Value → World → Prop} (h : F115 a0 w R) : CALL Try.prog 115 [a0] w R :=
  call_of (g := cfg115) ent mixed Try.func115 (Nat.le_of_ble_eq_true (by kernel_rfl)) (by kernel_rfl) (F115_eq a0 w R ▸ h)

/-- spec.ListOf -/
def F116 (a0 : Value) (w : World) (R : Value → World → Prop) : Prop :=
  OP Try.prog (Instr.buildSlice 23 0 #[]) w fun x5 w =>
  LOOPI [3, 4] [x5, (Value.int .i64 0)] w fun u3 w next3 =>
   CALL Try.prog 139 [a0] w fun x7 w =>
   BR x7
   (RD Try.prog (bin .lss 3 (.tmp 0) (.const undef) (u3 4) (Value.int .i64 6)) w fun x10 =>
   BR x10
    (CALL Try.prog 140 [a0, (u3 4)] w fun x16 w =>
    BR x16
     (OP Try.prog (Instr.buildSlice 23 1 #[(0, (u3 4))]) w fun x19 w =>
     OP Try.prog (Builtin.append_ #[23, 23] 23 [(u3 3), x19].toArray) w fun x20 w =>
     RD Try.prog (bin .add 3 (.tmp 0) (.const undef) (u3 4) (Value.int .i64 1)) w fun x13 =>
     next3 [x20, x13] w)
     (RD Try.prog (bin .add 3 (.tmp 0) (.const undef) (u3 4) (Value.int .i64 1)) w fun x13 =>
     next3 [(u3 3), x13] w))
    (R (u3 3) w))
   (R (u3 3) w)
def cfg116 : Cfg := { ext := extL, joins := [], loops := [(3, 2097112, [3, 4])], draws := [], pars := [] }
theorem F116_eq (a0 : Value) (w : World) (R : Value → World → Prop) : vcF Try.prog cfg116 Try.f116 [a0] w R = F116 a0 w R := by kernel_rfl
theorem F116_call {a0 : Value} {w : World} {R : Value → World → Prop} (h : F116 a0 w R) : CALL Try.prog 116 [a0] w R :=
  call_of (g := cfg116) ent mixed Try.func116 (Nat.le_of_ble_eq_true (by kernel_rfl)) (by kernel_rfl) (F116_eq a0 w R ▸ h)

/-- impl.hasBit -/
def F117 (a0 a1 : Value) (w : World) (R : Value → World → Prop) : Prop :=
  RD Try.prog (convert 3 106 a1) w fun x7 =>
  RD Try.prog (bin .shr 3 (.tmp 0) (.tmp 0) a0 x7) w fun x8 =>
  RD Try.prog (bin .and 3 (.tmp 0) (.const undef) x8 (Value.int .i64 1)) w fun x9 =>
  RD Try.prog (bin .eql 3 (.tmp 0) (.const undef) x9 (Value.int .i64 1)) w fun x10 =>
  R x10 w
def cfg117 : Cfg := { ext := extL, joins := [], loops := [], draws := [], pars := [] }
theorem F117_eq (a0 a1 : Value) (w : World) (R : Value → World → Prop) : vcF Try.prog cfg117 Try.f117 [a0, a1] w R = F117 a0 a1 w R := by kernel_rfl
theorem F117_call {a0 a1 : Value} {w : World} {R : Value → World → Prop} (h : F117 a0 a1 w R) : CALL Try.prog 117 [a0, a1] w R :=
  call_of (g := cfg117) ent mixed Try.func117 (Nat.le_of_ble_eq_true (by kernel_rfl)) (by kernel_rfl) (F117_eq a0 a1 w R ▸ h)

/-- spec.l21Copy -/
def F118 (a0 : Value) (w : World) (R : Value → World → Prop) : Prop :=
  OP Try.prog (Instr.box 42 a0) w fun x1 w =>
  OP Try.prog (Instr.alloc 42 true (.tuple #[])) w fun x2 w =>
  (fun w0 => PAR w0 (fun Q =>
   (∀ (u1 : Env) (w : World), Ext w0 w → (True) → (fun w1 => OP Try.prog (Instr.buildSlice 23 0 #[]) w fun x5 w =>
  Ext w1 w ∧ Q 0 x5 w) w) ∧
   (∀ (u1 : Env) (w : World), Ext w0 w → (True) → (fun w1 => RD Try.prog (Instr.fieldAt 42 x1 0) w fun x6 =>
  Ext w1 w ∧ Q 1 x6 w) w) ∧
   (∀ (u1 : Env) (w : World), Ext w0 w → (Q 1 (u1 6) w ∧ True) → (fun w1 => RD Try.prog (Instr.loadAt 23 (u1 6)) w fun x7 =>
  Ext w1 w ∧ Q 2 x7 w) w) ∧
   (∀ (u1 : Env) (w : World), Ext w0 w → (Q 0 (u1 5) w ∧ Q 2 (u1 7) w ∧ True) → (fun w1 => OP Try.prog (Builtin.append_ #[23, 23] 23 [(u1 5), (u1 7)].toArray) w fun x8 w =>
  Ext w1 w ∧ Q 3 x8 w) w) ∧
   (∀ (u1 : Env) (w : World), Ext w0 w → (True) → (fun w1 => OP Try.prog (Instr.buildSlice 23 0 #[]) w fun x9 w =>
  Ext w1 w ∧ Q 4 x9 w) w) ∧
   (∀ (u1 : Env) (w : World), Ext w0 w → (True) → (fun w1 => RD Try.prog (Instr.fieldAt 42 x1 1) w fun x10 =>
  Ext w1 w ∧ Q 5 x10 w) w) ∧
   (∀ (u1 : Env) (w : World), Ext w0 w → (Q 5 (u1 10) w ∧ True) → (fun w1 => RD Try.prog (Instr.loadAt 23 (u1 10)) w fun x11 =>
  Ext w1 w ∧ Q 6 x11 w) w) ∧
   (∀ (u1 : Env) (w : World), Ext w0 w → (Q 4 (u1 9) w ∧ Q 6 (u1 11) w ∧ Q 3 (u1 8) w ∧ True) → (fun w1 => OP Try.prog (Builtin.append_ #[23, 23] 23 [(u1 9), (u1 11)].toArray) w fun x12 w =>
  Ext w1 w ∧ Q 7 x12 w) w) ∧
   (∀ (u1 : Env) (w : World), Ext w0 w → (Q 3 (u1 8) w ∧ Q 7 (u1 12) w ∧ True) → (fun w1 => RD Try.prog (Instr.build 42 #[(0, (u1 8)), (1, (u1 12))]) w fun x13 =>
  Ext w1 w ∧ Q 8 x13 w) w) ∧
   (∀ (u1 : Env) (w : World), Ext w0 w → (True) → (fun w1 => OP Try.prog (Instr.alloc 42 true (.tuple #[])) w fun x3 w =>
  Ext w1 w ∧ Q 9 x3 w) w) ∧
   True)
   (fun Q => ∀ (u1 : Env) (w : World), Ext w0 w → (Q 0 (u1 5) w ∧ Q 1 (u1 6) w ∧ Q 2 (u1 7) w ∧ Q 3 (u1 8) w ∧ Q 4 (u1 9) w ∧ Q 5 (u1 10) w ∧ Q 6 (u1 11) w ∧ Q 7 (u1 12) w ∧ Q 8 (u1 13) w ∧ Q 9 (u1 3) w ∧ True) →
   OPU Try.prog (Instr.storeAt 42 (u1 3) (u1 13)) w fun w =>
  LOOPI [4] [(Value.int .i64 0)] w fun u3 w next3 =>
   RD Try.prog (Instr.fieldAt 42 x1 2) w fun x15 =>
   RD Try.prog (Instr.loadAt 37 x15) w fun x16 =>
   RD Try.prog (Builtin.len_ #[37] 3 [x16].toArray) w fun x17 =>
   RD Try.prog (bin .lss 3 (.tmp 0) (.tmp 0) (u3 4) x17) w fun x18 =>
   BR x18
    ((fun w => RD Try.prog (Instr.fieldAt 42 (u1 3) 2) w fun x21 =>
    RD Try.prog (Instr.loadAt 37 x21) w fun x22 =>
    RD Try.prog (Instr.fieldAt 42 x1 2) w fun x24 =>
    RD Try.prog (Instr.loadAt 37 x24) w fun x25 =>
    RD Try.prog (Instr.indexAt 37 x25 (u3 4)) w fun x27 =>
    RD Try.prog (Instr.loadAt 23 x27) w fun x28 =>
    (fun w_ => OP Try.prog (Instr.buildSlice 23 0 #[]) w_ fun x23 w =>
    Ext w_ w ∧
    (fun w_ => OP Try.prog (Builtin.append_ #[23, 23] 23 [x23, x28].toArray) w_ fun x29 w =>
    Ext w_ w ∧
    (fun w_ => OP Try.prog (Instr.buildSlice 37 1 #[(0, x29)]) w_ fun x30 w =>
    Ext w_ w ∧
    OP Try.prog (Builtin.append_ #[37, 37] 37 [x22, x30].toArray) w fun x31 w =>
    RD Try.prog (Instr.fieldAt 42 (u1 3) 2) w fun x32 =>
    OPU Try.prog (Instr.storeAt 37 x32 x31) w fun w =>
    RD Try.prog (bin .add 3 (.tmp 0) (.const undef) (u3 4) (Value.int .i64 1)) w fun x20 =>
    next3 [x20] w) w) w) w) (World.drew1 w))
    (RD Try.prog (Instr.loadAt 42 (u1 3)) w fun x33 =>
    OPU Try.prog (Instr.storeAt 42 x2 x33) w fun w =>
    RD Try.prog (loadRes 42 x2) w fun r2 => R r2 w))) (World.drew1 w)
def cfg118 : Cfg := { ext := extL, joins := [], loops := [(3, 8589918224, [4])], draws := [(5, [0, 1, 3, 4, 5, 6, 7, 2, 8, 9, 10, 11, 12], 772)], pars := [(1, 16360, 10)] }
theorem F118_eq (a0 : Value) (w : World) (R : Value → World → Prop) : vcF Try.prog cfg118 Try.f118 [a0] w R = F118 a0 w R := by kernel_rfl
theorem F118_call {a0 : Value} {w : World} {R : Value → World → Prop} (h : F118 a0 w R) : CALL Try.prog 118 [a0] w R :=
  call_of (g := cfg118) ent mixed Try.func118 (Nat.le_of_ble_eq_true (by kernel_rfl)) (by kernel_rfl) (F118_eq a0 w R ▸ h)

/-- spec.Worked -/
def F119 (a0 a1 a2 : Value) (w : World) (R : Value → World → Prop) : Prop :=
  OP Try.prog (Instr.box 93 a0) w fun x3 w =>
  RD Try.prog (Instr.loadAt 93 x3) w fun x7 =>
  CALL Try.prog 127 [x7] w fun x8 w =>
  RD Try.prog (Op.unary .not x8) w fun x9 =>
  BR x9
   (R (Value.int .i64 0) w)
   (RD Try.prog (Instr.loadAt 93 x3) w fun x10 =>
   CALL Try.prog 141 [x10, a1, a2] w fun x13 w =>
   R x13 w)
def cfg119 : Cfg := { ext := extL, joins := [], loops := [], draws := [], pars := [] }
theorem F119_eq (a0 a1 a2 : Value) (w : World) (R : Value → World → Prop) : vcF Try.prog cfg119 Try.f119 [a0, a1, a2] w R = F119 a0 a1 a2 w R := by kernel_rfl
theorem F119_call {a0 a1 a2 : Value} {w : World} {R : Value → World → Prop} (h : F119 a0 a1 a2 w R) : CALL Try.prog 119 [a0, a1, a2] w R :=
  call_of (g := cfg119) ent mixed Try.func119 (Nat.le_of_ble_eq_true (by kernel_rfl)) (by kernel_rfl) (F119_eq a0 a1 a2 w R ▸ h)

/-- impl.copyState -/
def F120 (a0 : Value) (w : World) (R : Value → World → Prop) : Prop :=
  OP Try.prog (Instr.box 42 a0) w fun x1 w =>
  OP Try.prog (Instr.alloc 42 true (.tuple #[])) w fun x2 w =>
  (fun w0 => PAR w0 (fun Q =>
   (∀ (u1 : Env) (w : World), Ext w0 w → (True) → (fun w1 => RD Try.prog (Instr.fieldAt 42 x1 0) w fun x6 =>
  Ext w1 w ∧ Q 0 x6 w) w) ∧
   (∀ (u1 : Env) (w : World), Ext w0 w → (Q 0 (u1 6) w ∧ True) → (fun w1 => RD Try.prog (Instr.loadAt 23 (u1 6)) w fun x7 =>
  Ext w1 w ∧ Q 1 x7 w) w) ∧
   (∀ (u1 : Env) (w : World), Ext w0 w → (Q 1 (u1 7) w ∧ True) → (fun w1 => CALL Try.prog 142 [(u1 7)] w fun x8 w =>
  Ext w1 w ∧ Q 2 x8 w) w) ∧
   (∀ (u1 : Env) (w : World), Ext w0 w → (True) → (fun w1 => RD Try.prog (Instr.fieldAt 42 x1 1) w fun x9 =>
  Ext w1 w ∧ Q 3 x9 w) w) ∧
   (∀ (u1 : Env) (w : World), Ext w0 w → (Q 3 (u1 9) w ∧ True) → (fun w1 => RD Try.prog (Instr.loadAt 23 (u1 9)) w fun x10 =>
  Ext w1 w ∧ Q 4 x10 w) w) ∧
   (∀ (u1 : Env) (w : World), Ext w0 w → (Q 4 (u1 10) w ∧ Q 2 (u1 8) w ∧ True) → (fun w1 => CALL Try.prog 142 [(u1 10)] w fun x11 w =>
  Ext w1 w ∧ Q 5 x11 w) w) ∧
   (∀ (u1 : Env) (w : World), Ext w0 w → (Q 2 (u1 8) w ∧ Q 5 (u1 11) w ∧ True) → (fun w1 => RD Try.prog (Instr.build 42 #[(0, (u1 8)), (1, (u1 11))]) w fun x12 =>
  Ext w1 w ∧ Q 6 x12 w) w) ∧
   (∀ (u1 : Env) (w : World), Ext w0 w → (True) → (fun w1 => OP Try.prog (Instr.alloc 42 true (.tuple #[])) w fun x3 w =>
  Ext w1 w ∧ Q 7 x3 w) w) ∧
   True)
   (fun Q => ∀ (u1 : Env) (w : World), Ext w0 w → (Q 0 (u1 6) w ∧ Q 1 (u1 7) w ∧ Q 2 (u1 8) w ∧ Q 3 (u1 9) w ∧ Q 4 (u1 10) w ∧ Q 5 (u1 11) w ∧ Q 6 (u1 12) w ∧ Q 7 (u1 3) w ∧ True) →
   OPU Try.prog (Instr.storeAt 42 (u1 3) (u1 12)) w fun w =>
  RD Try.prog (Instr.fieldAt 42 x1 2) w fun x13 =>
  RD Try.prog (Instr.loadAt 37 x13) w fun x14 =>
  RD Try.prog (Builtin.len_ #[37] 3 [x14].toArray) w fun x15 =>
  LOOPI [16] [(Value.int .i64 0)] w fun u3 w next3 =>
   RD Try.prog (bin .lss 3 (.tmp 0) (.tmp 0) (u3 16) x15) w fun x17 =>
   BR x17
    (RD Try.prog (Instr.indexAt 37 x14 (u3 16)) w fun x18 =>
    RD Try.prog (Instr.loadAt 23 x18) w fun x19 =>
    (fun w => RD Try.prog (Instr.fieldAt 42 (u1 3) 2) w fun x20 =>
    RD Try.prog (Instr.loadAt 37 x20) w fun x21 =>
    (fun w_ => CALL Try.prog 142 [x19] w_ fun x23 w =>
    Ext w_ w ∧
    (fun w_ => OP Try.prog (Instr.buildSlice 37 1 #[(0, x23)]) w_ fun x24 w =>
    Ext w_ w ∧
    OP Try.prog (Builtin.append_ #[37, 37] 37 [x21, x24].toArray) w fun x25 w =>
    RD Try.prog (Instr.fieldAt 42 (u1 3) 2) w fun x26 =>
    OPU Try.prog (Instr.storeAt 37 x26 x25) w fun w =>
    RD Try.prog (bin .add 3 (.tmp 0) (.const undef) (u3 16) (Value.int .i64 1)) w fun x27 =>
    next3 [x27] w) w) w) (World.drew1 w))
    (RD Try.prog (Instr.loadAt 42 (u1 3)) w fun x28 =>
    OPU Try.prog (Instr.storeAt 42 x2 x28) w fun w =>
    RD Try.prog (loadRes 42 x2) w fun r2 => R r2 w))) (World.drew1 w)
def cfg120 : Cfg := { ext := extL, joins := [], loops := [(3, 268369952, [16])], draws := [(5, [0, 1, 2, 3, 4, 5, 6, 7], 24)], pars := [(1, 8136, 8)] }
theorem F120_eq (a0 : Value) (w : World) (R : Value → World → Prop) : vcF Try.prog cfg120 Try.f120 [a0] w R = F120 a0 w R := by kernel_rfl
theorem F120_call {a0 : Value} {w : World} {R : Value → World → Prop} (h : F120 a0 w R) : CALL Try.prog 120 [a0] w R :=
  call_of (g := cfg120) ent mixed Try.func120 (Nat.le_of_ble_eq_true (by kernel_rfl)) (by kernel_rfl) (F120_eq a0 w R ▸ h)

/-- impl.workOut -/
def F121 (a0 a1 a2 : Value) (w : World) (R : Value → World → Prop) : Prop :=
  OP Try.prog (Instr.box 93 a0) w fun x3 w =>
  RD Try.prog (Instr.fieldAt 93 x3 0) w fun x10 =>
  RD Try.prog (Instr.loadAt 3 x10) w fun x11 =>
  RD Try.prog (bin .eql 3 (.tmp 0) (.const undef) x11 (Value.int .i64 1)) w fun x13 =>
  BR x13
   (RD Try.prog (Instr.fieldAt 93 x3 1) w fun x14 =>
   RD Try.prog (Instr.loadAt 3 x14) w fun x15 =>
   CALL Try.prog 143 [x15] w fun x16 w =>
   R x16 w)
   (RD Try.prog (bin .eql 3 (.tmp 0) (.const undef) x11 (Value.int .i64 2)) w fun x18 =>
   BR x18
    (RD Try.prog (Instr.fieldAt 93 x3 2) w fun x20 =>
    RD Try.prog (Instr.loadAt 9 x20) w fun x21 =>
    CALL Try.prog 105 [a1, x21] w fun x22 w =>
    RD Try.prog (bin .lss 3 (.tmp 0) (.const undef) x22 (Value.int .i64 0)) w fun x24 =>
    BR x24
    (R (Value.int .i64 0) w)
    (RD Try.prog (Builtin.len_ #[23] 3 [a2].toArray) w fun x28 =>
    RD Try.prog (bin .geq 3 (.tmp 0) (.tmp 0) x22 x28) w fun x29 =>
    BR x29
     (R (Value.int .i64 0) w)
     (RD Try.prog (Instr.indexAt 23 a2 x22) w fun x33 =>
     RD Try.prog (Instr.loadAt 3 x33) w fun x34 =>
     CALL Try.prog 143 [x34] w fun x35 w =>
     R x35 w)))
    (RD Try.prog (Instr.fieldAt 93 x3 3) w fun x36 =>
    RD Try.prog (Instr.loadAt 91 x36) w fun x37 =>
    RD Try.prog (Instr.indexAt 91 x37 (Value.int .i64 0)) w fun x38 =>
    RD Try.prog (Instr.loadAt 93 x38) w fun x39 =>
    CALL Try.prog 121 [x39, a1, a2] w fun x42 w =>
    RD Try.prog (Instr.fieldAt 93 x3 0) w fun x43 =>
    RD Try.prog (Instr.loadAt 3 x43) w fun x44 =>
    RD Try.prog (bin .eql 3 (.tmp 0) (.const undef) x44 (Value.int .i64 8)) w fun x45 =>
    BR x45
     (RD Try.prog (bin .eql 3 (.tmp 0) (.const undef) x42 (Value.int .i64 0)) w fun x47 =>
     CALL Try.prog 144 [x47] w fun x48 w =>
     R x48 w)
     (RD Try.prog (Instr.fieldAt 93 x3 3) w fun x49 =>
     RD Try.prog (Instr.loadAt 91 x49) w fun x50 =>
     RD Try.prog (Instr.indexAt 91 x50 (Value.int .i64 1)) w fun x51 =>
     RD Try.prog (Instr.loadAt 93 x51) w fun x52 =>
     CALL Try.prog 121 [x52, a1, a2] w fun x55 w =>
     RD Try.prog (Instr.fieldAt 93 x3 0) w fun x56 =>
     RD Try.prog (Instr.loadAt 3 x56) w fun x57 =>
     RD Try.prog (bin .eql 3 (.tmp 0) (.const undef) x57 (Value.int .i64 3)) w fun x59 =>
     BR x59
      (RD Try.prog (bin .add 3 (.tmp 0) (.tmp 0) x42 x55) w fun x62 =>
      CALL Try.prog 143 [x62] w fun x63 w =>
      R x63 w)
      (RD Try.prog (bin .eql 3 (.tmp 0) (.const undef) x57 (Value.int .i64 4)) w fun x65 =>
      BR x65
       (RD Try.prog (bin .sub 3 (.tmp 0) (.tmp 0) x42 x55) w fun x68 =>
       CALL Try.prog 143 [x68] w fun x69 w =>
       R x69 w)
       (RD Try.prog (bin .eql 3 (.tmp 0) (.const undef) x57 (Value.int .i64 5)) w fun x71 =>
       BR x71
        (RD Try.prog (bin .mul 3 (.tmp 0) (.tmp 0) x42 x55) w fun x74 =>
        CALL Try.prog 143 [x74] w fun x75 w =>
        R x75 w)
        (RD Try.prog (bin .eql 3 (.tmp 0) (.const undef) x57 (Value.int .i64 6)) w fun x77 =>
        BR x77
         (RD Try.prog (bin .lss 3 (.tmp 0) (.tmp 0) x42 x55) w fun x80 =>
         CALL Try.prog 144 [x80] w fun x81 w =>
         R x81 w)
         (RD Try.prog (bin .eql 3 (.tmp 0) (.const undef) x57 (Value.int .i64 7)) w fun x83 =>
         BR x83
          (RD Try.prog (bin .eql 3 (.tmp 0) (.tmp 0) x42 x55) w fun x86 =>
          CALL Try.prog 144 [x86] w fun x87 w =>
          R x87 w)
          (RD Try.prog (bin .neq 3 (.tmp 0) (.const undef) x42 (Value.int .i64 0)) w fun x89 =>
          BR x89
          (RD Try.prog (bin .neq 3 (.tmp 0) (.const undef) x55 (Value.int .i64 0)) w fun x92 =>
          CALL Try.prog 144 [x92] w fun x94 w =>
          R x94 w)
          (CALL Try.prog 144 [(Value.bool false)] w fun x94 w =>
          R x94 w)))))))))
def cfg121 : Cfg := { ext := extL, joins := [], loops := [], draws := [], pars := [] }
theorem F121_eq (a0 a1 a2 : Value) (w : World) (R : Value → World → Prop) : vcF Try.prog cfg121 Try.f121 [a0, a1, a2] w R = F121 a0 a1 a2 w R := by kernel_rfl
theorem F121_call {a0 a1 a2 : Value} {w : World} {R : Value → World → Prop} (h : F121 a0 a1 a2 w R) : CALL Try.prog 121 [a0, a1, a2] w R :=
  call_of (g := cfg121) ent mixed Try.func121 (Nat.le_of_ble_eq_true (by kernel_rfl)) (by kernel_rfl) (F121_eq a0 a1 a2 w R ▸ h)

/-- laws.szTerm -/
def F122 (a0 a1 : Value) (w : World) (R : Value → World → Prop) : Prop :=
  OP Try.prog (Instr.box 88 a0) w fun x2 w =>
  RD Try.prog (Instr.fieldAt 88 x2 2) w fun x6 =>
  RD Try.prog (Instr.loadAt 9 x6) w fun x7 =>
  RD Try.prog (Builtin.len_ #[9] 3 [x7].toArray) w fun x8 =>
  RD Try.prog (bin .sub 3 (.tmp 0) (.tmp 0) a1 x8) w fun x9 =>
  RD Try.prog (bin .lss 3 (.tmp 0) (.const undef) x9 (Value.int .i64 0)) w fun x11 =>
  BR x11
   (R (Value.int .i64 (-1)) w)
   (RD Try.prog (Instr.fieldAt 88 x2 3) w fun x12 =>
   RD Try.prog (Instr.loadAt 86 x12) w fun x13 =>
   CALL Try.prog 145 [x13, x9] w fun x15 w =>
   RD Try.prog (bin .lss 3 (.tmp 0) (.const undef) x15 (Value.int .i64 0)) w fun x17 =>
   BR x17
    (R (Value.int .i64 (-1)) w)
    (R x15 w))
def cfg122 : Cfg := { ext := extL, joins := [], loops := [], draws := [], pars := [] }
theorem F122_eq (a0 a1 : Value) (w : World) (R : Value → World → Prop) : vcF Try.prog cfg122 Try.f122 [a0, a1] w R = F122 a0 a1 w R := by kernel_rfl
theorem F122_call {a0 a1 : Value} {w : World} {R : Value → World → Prop} (h : F122 a0 a1 w R) : CALL Try.prog 122 [a0, a1] w R :=
  call_of (g := cfg122) ent mixed Try.func122 (Nat.le_of_ble_eq_true (by kernel_rfl)) (by kernel_rfl) (F122_eq a0 a1 w R ▸ h)

/-- spec.l05Names -/
def F123 (a0 a1 : Value) (w : World) (R : Value → World → Prop) : Prop :=
  RD Try.prog (Builtin.len_ #[22] 3 [a0].toArray) w fun x7 =>
  RD Try.prog (bin .gtr 3 (.tmp 0) (.tmp 0) x7 a1) w fun x9 =>
  BR x9
   (R (Value.bool false) w)
   (LOOPI [5] [(Value.int .i64 0)] w fun u4 w next4 =>
    RD Try.prog (Builtin.len_ #[22] 3 [a0].toArray) w fun x12 =>
    RD Try.prog (bin .lss 3 (.tmp 0) (.tmp 0) (u4 5) x12) w fun x13 =>
    BR x13
     (RD Try.prog (Instr.indexAt 22 a0 (u4 5)) w fun x18 =>
     RD Try.prog (Instr.loadAt 9 x18) w fun x19 =>
     CALL Try.prog 146 [x19] w fun x20 w =>
     RD Try.prog (Op.unary .not x20) w fun x21 =>
     BR x21
      (R (Value.bool false) w)
      (RD Try.prog (bin .add 3 (.tmp 0) (.const undef) (u4 5) (Value.int .i64 1)) w fun x15 =>
      next4 [x15] w))
     (R (Value.bool true) w))
def cfg123 : Cfg := { ext := extL, joins := [], loops := [(4, 4193328, [5])], draws := [], pars := [] }
theorem F123_eq (a0 a1 : Value) (w : World) (R : Value → World → Prop) : vcF Try.prog cfg123 Try.f123 [a0, a1] w R = F123 a0 a1 w R := by kernel_rfl
theorem F123_call {a0 a1 : Value} {w : World} {R : Value → World → Prop} (h : F123 a0 a1 w R) : CALL Try.prog 123 [a0, a1] w R :=
  call_of (g := cfg123) ent mixed Try.func123 (Nat.le_of_ble_eq_true (by kernel_rfl)) (by kernel_rfl) (F123_eq a0 a1 w R ▸ h)

/-- spec.l07Twice -/
def F124 (a0 : Value) (w : World) (R : Value → World → Prop) : Prop :=
  LOOPI [3] [(Value.int .i64 0)] w fun u2 w next2 =>
   RD Try.prog (Builtin.len_ #[22] 3 [a0].toArray) w fun x6 =>
   RD Try.prog (bin .lss 3 (.tmp 0) (.tmp 0) (u2 3) x6) w fun x7 =>
   BR x7
    ((fun w => RD Try.prog (Instr.sliceAt 22 a0 none (some (u2 3)) none) w fun x12 =>
    RD Try.prog (Instr.indexAt 22 a0 (u2 3)) w fun x15 =>
    RD Try.prog (Instr.loadAt 9 x15) w fun x16 =>
    CALL Try.prog 109 [x12, x16] w fun x17 w =>
    BR x17
     (R (Value.bool true) w)
     (RD Try.prog (bin .add 3 (.tmp 0) (.const undef) (u2 3) (Value.int .i64 1)) w fun x9 =>
     next2 [x9] w)) (World.drew1 w))
    (R (Value.bool false) w)
def cfg124 : Cfg := { ext := extL, joins := [], loops := [(2, 262140, [3])], draws := [(4, [0, 1, 2, 3, 4, 5, 6, 7], 0)], pars := [] }
theorem F124_eq (a0 : Value) (w : World) (R : Value → World → Prop) : vcF Try.prog cfg124 Try.f124 [a0] w R = F124 a0 w R := by kernel_rfl
theorem F124_call {a0 : Value} {w : World} {R : Value → World → Prop} (h : F124 a0 w R) : CALL Try.prog 124 [a0] w R :=
  call_of (g := cfg124) ent mixed Try.func124 (Nat.le_of_ble_eq_true (by kernel_rfl)) (by kernel_rfl) (F124_eq a0 w R ▸ h)

/-- spec.l08End -/
def F125 (a0 a1 : Value) (w : World) (R : Value → World → Prop) : Prop :=
  OP Try.prog (Instr.box 31 a0) w fun x2 w =>
  RD Try.prog (bin .add 3 (.tmp 0) (.const undef) a1 (Value.int .i64 1)) w fun x6 =>
  RD Try.prog (Instr.fieldAt 31 x2 3) w fun x7 =>
  RD Try.prog (Instr.loadAt 23 x7) w fun x8 =>
  RD Try.prog (Builtin.len_ #[23] 3 [x8].toArray) w fun x9 =>
  RD Try.prog (bin .lss 3 (.tmp 0) (.tmp 0) x6 x9) w fun x10 =>
  BR x10
   (RD Try.prog (Instr.fieldAt 31 x2 3) w fun x11 =>
   RD Try.prog (Instr.loadAt 23 x11) w fun x12 =>
   RD Try.prog (bin .add 3 (.tmp 0) (.const undef) a1 (Value.int .i64 1)) w fun x14 =>
   RD Try.prog (Instr.indexAt 23 x12 x14) w fun x15 =>
   RD Try.prog (Instr.loadAt 3 x15) w fun x16 =>
   RD Try.prog (bin .sub 3 (.tmp 0) (.const undef) x16 (Value.int .i64 1)) w fun x17 =>
   R x17 w)
   (RD Try.prog (Instr.fieldAt 31 x2 4) w fun x18 =>
   RD Try.prog (Instr.loadAt 29 x18) w fun x19 =>
   RD Try.prog (Builtin.len_ #[29] 3 [x19].toArray) w fun x20 =>
   RD Try.prog (bin .sub 3 (.tmp 0) (.const undef) x20 (Value.int .i64 1)) w fun x21 =>
   R x21 w)
def cfg125 : Cfg := { ext := extL, joins := [], loops := [], draws := [], pars := [] }
theorem F125_eq (a0 a1 : Value) (w : World) (R : Value → World → Prop) : vcF Try.prog cfg125 Try.f125 [a0, a1] w R = F125 a0 a1 w R := by kernel_rfl
theorem F125_call {a0 a1 : Value} {w : World} {R : Value → World → Prop} (h : F125 a0 a1 w R) : CALL Try.prog 125 [a0, a1] w R :=
  call_of (g := cfg125) ent mixed Try.func125 (Nat.le_of_ble_eq_true (by kernel_rfl)) (by kernel_rfl) (F125_eq a0 a1 w R ▸ h)

/-- spec.l08Proc -/
def F126 (a0 a1 : Value) (w : World) (R : Value → World → Prop) : Prop :=
  OP Try.prog (Instr.box 31 a0) w fun x2 w =>
  RD Try.prog (Instr.fieldAt 31 x2 3) w fun x6 =>
  RD Try.prog (Instr.loadAt 23 x6) w fun x7 =>
  RD Try.prog (Builtin.len_ #[23] 3 [x7].toArray) w fun x8 =>
  RD Try.prog (bin .sub 3 (.tmp 0) (.const undef) x8 (Value.int .i64 1)) w fun x9 =>
  LOOPI [5] [x9] w fun u2 w next2 =>
   RD Try.prog (bin .geq 3 (.tmp 0) (.const undef) (u2 5) (Value.int .i64 0)) w fun x11 =>
   BR x11
    (RD Try.prog (Instr.fieldAt 31 x2 3) w fun x14 =>
    RD Try.prog (Instr.loadAt 23 x14) w fun x15 =>
    RD Try.prog (Instr.indexAt 23 x15 (u2 5)) w fun x17 =>
    RD Try.prog (Instr.loadAt 3 x17) w fun x18 =>
    RD Try.prog (bin .leq 3 (.tmp 0) (.tmp 0) x18 a1) w fun x20 =>
    BR x20
     (R (u2 5) w)
     (RD Try.prog (bin .sub 3 (.tmp 0) (.const undef) (u2 5) (Value.int .i64 1)) w fun x13 =>
     next2 [x13] w))
    (R (Value.int .i64 (-1)) w)
def cfg126 : Cfg := { ext := extL, joins := [], loops := [(2, 4193328, [5])], draws := [], pars := [] }
theorem F126_eq (a0 a1 : Value) (w : World) (R : Value → World → Prop) : vcF Try.prog cfg126 Try.f126 [a0, a1] w R = F126 a0 a1 w R := by kernel_rfl
theorem F126_call {a0 a1 : Value} {w : World} {R : Value → World → Prop} (h : F126 a0 a1 w R) : CALL Try.prog 126 [a0, a1] w R :=
  call_of (g := cfg126) ent mixed Try.func126 (Nat.le_of_ble_eq_true (by kernel_rfl)) (by kernel_rfl) (F126_eq a0 a1 w R ▸ h)

/-- spec.TermOk -/
def F127 (a0 : Value) (w : World) (R : Value → World → Prop) : Prop :=
  OP Try.prog (Instr.box 93 a0) w fun x1 w =>
  RD Try.prog (Instr.loadAt 93 x1) w fun x3 =>
  CALL Try.prog 147 [x3, (Value.int .i64 6)] w fun x4 w =>
  R x4 w
def cfg127 : Cfg := { ext := extL, joins := [], loops := [], draws := [], pars := [] }
theorem F127_eq (a0 : Value) (w : World) (R : Value → World → Prop) : vcF Try.prog cfg127 Try.f127 [a0] w R = F127 a0 w R := by kernel_rfl
theorem F127_call {a0 : Value} {w : World} {R : Value → World → Prop} (h : F127 a0 w R) : CALL Try.prog 127 [a0] w R :=
  call_of (g := cfg127) ent mixed Try.func127 (Nat.le_of_ble_eq_true (by kernel_rfl)) (by kernel_rfl) (F127_eq a0 w R ▸ h)

/-- spec.SameTerm -/
def F128 (a0 a1 : Value) (w : World) (R : Value → World → Prop) : Prop :=
  OP Try.prog (Instr.box 93 a0) w fun x2 w =>
  OP Try.prog (Instr.box 93 a1) w fun x3 w =>
  RD Try.prog (Instr.fieldAt 93 x2 0) w fun x6 =>
  RD Try.prog (Instr.loadAt 3 x6) w fun x7 =>
  RD Try.prog (Instr.fieldAt 93 x3 0) w fun x8 =>
  RD Try.prog (Instr.loadAt 3 x8) w fun x9 =>
  RD Try.prog (bin .neq 3 (.tmp 0) (.tmp 0) x7 x9) w fun x10 =>
  BR x10
  (R (Value.bool false) w)
  (RD Try.prog (Instr.fieldAt 93 x2 1) w fun x12 =>
  RD Try.prog (Instr.loadAt 3 x12) w fun x13 =>
  RD Try.prog (Instr.fieldAt 93 x3 1) w fun x14 =>
  RD Try.prog (Instr.loadAt 3 x14) w fun x15 =>
  RD Try.prog (bin .neq 3 (.tmp 0) (.tmp 0) x13 x15) w fun x16 =>
  BR x16
  (R (Value.bool false) w)
  (RD Try.prog (Instr.fieldAt 93 x2 2) w fun x19 =>
  RD Try.prog (Instr.loadAt 9 x19) w fun x20 =>
  RD Try.prog (Instr.fieldAt 93 x3 2) w fun x21 =>
  RD Try.prog (Instr.loadAt 9 x21) w fun x22 =>
  RD Try.prog (bin .neq 9 (.tmp 0) (.tmp 0) x20 x22) w fun x23 =>
  BR x23
  (R (Value.bool false) w)
  (RD Try.prog (Instr.fieldAt 93 x2 3) w fun x26 =>
  RD Try.prog (Instr.loadAt 91 x26) w fun x27 =>
  RD Try.prog (Builtin.len_ #[91] 3 [x27].toArray) w fun x28 =>
  RD Try.prog (Instr.fieldAt 93 x3 3) w fun x29 =>
  RD Try.prog (Instr.loadAt 91 x29) w fun x30 =>
  RD Try.prog (Builtin.len_ #[91] 3 [x30].toArray) w fun x31 =>
  RD Try.prog (bin .neq 3 (.tmp 0) (.tmp 0) x28 x31) w fun x32 =>
  BR x32
   (R (Value.bool false) w)
   (LOOPI [5] [(Value.int .i64 0)] w fun u4 w next4 =>
    RD Try.prog (Instr.fieldAt 93 x2 3) w fun x35 =>
    RD Try.prog (Instr.loadAt 91 x35) w fun x36 =>
    RD Try.prog (Builtin.len_ #[91] 3 [x36].toArray) w fun x37 =>
    RD Try.prog (bin .lss 3 (.tmp 0) (.tmp 0) (u4 5) x37) w fun x38 =>
    BR x38
     ((fun w => RD Try.prog (Instr.fieldAt 93 x2 3) w fun x41 =>
     RD Try.prog (Instr.loadAt 91 x41) w fun x42 =>
     RD Try.prog (Instr.indexAt 91 x42 (u4 5)) w fun x44 =>
     RD Try.prog (Instr.loadAt 93 x44) w fun x45 =>
     RD Try.prog (Instr.fieldAt 93 x3 3) w fun x46 =>
     RD Try.prog (Instr.loadAt 91 x46) w fun x47 =>
     RD Try.prog (Instr.indexAt 91 x47 (u4 5)) w fun x49 =>
     RD Try.prog (Instr.loadAt 93 x49) w fun x50 =>
     CALL Try.prog 128 [x45, x50] w fun x51 w =>
     RD Try.prog (Op.unary .not x51) w fun x52 =>
     BR x52
      (R (Value.bool false) w)
      (RD Try.prog (bin .add 3 (.tmp 0) (.const undef) (u4 5) (Value.int .i64 1)) w fun x40 =>
      next4 [x40] w)) (World.drew1 w))
     (R (Value.bool true) w)))))
def cfg128 : Cfg := { ext := extL, joins := [], loops := [(4, 9007182074871856, [5])], draws := [(6, [0, 1, 2, 3, 4, 5, 6, 7, 8, 9, 10, 11], 0)], pars := [] }
theorem F128_eq (a0 a1 : Value) (w : World) (R : Value → World → Prop) : vcF Try.prog cfg128 Try.f128 [a0, a1] w R = F128 a0 a1 w R := by kernel_rfl
theorem F128_call {a0 a1 : Value} {w : World} {R : Value → World → Prop} (h : F128 a0 a1 w R) : CALL Try.prog 128 [a0, a1] w R :=
  call_of (g := cfg128) ent mixed Try.func128 (Nat.le_of_ble_eq_true (by kernel_rfl)) (by kernel_rfl) (F128_eq a0 a1 w R ▸ h)

/-- laws.toTerm -/
def F129 (a0 : Value) (w : World) (R : Value → World → Prop) : Prop :=
  OP Try.prog (Instr.box 88 a0) w fun x1 w =>
  OP Try.prog (Instr.alloc 93 true (.tuple #[])) w fun x2 w =>
  OP Try.prog (Instr.alloc 93 true (.tuple #[])) w fun x3 w =>
  RD Try.prog (Instr.fieldAt 88 x1 0) w fun x4 =>
  RD Try.prog (Instr.loadAt 3 x4) w fun x5 =>
  RD Try.prog (Instr.fieldAt 93 x3 0) w fun x6 =>
  OPU Try.prog (Instr.storeAt 3 x6 x5) w fun w =>
  RD Try.prog (Instr.fieldAt 88 x1 1) w fun x7 =>
  RD Try.prog (Instr.loadAt 3 x7) w fun x8 =>
  RD Try.prog (Instr.fieldAt 93 x3 1) w fun x9 =>
  OPU Try.prog (Instr.storeAt 3 x9 x8) w fun w =>
  RD Try.prog (Instr.fieldAt 88 x1 2) w fun x10 =>
  RD Try.prog (Instr.loadAt 9 x10) w fun x11 =>
  RD Try.prog (Instr.fieldAt 93 x3 2) w fun x12 =>
  OPU Try.prog (Instr.storeAt 9 x12 x11) w fun w =>
  RD Try.prog (Instr.fieldAt 88 x1 3) w fun x13 =>
  RD Try.prog (Instr.loadAt 86 x13) w fun x14 =>
  CALL Try.prog 148 [x14] w fun x15 w =>
  RD Try.prog (Instr.fieldAt 93 x3 3) w fun x16 =>
  OPU Try.prog (Instr.storeAt 91 x16 x15) w fun w =>
  RD Try.prog (Instr.loadAt 93 x3) w fun x17 =>
  OPU Try.prog (Instr.storeAt 93 x2 x17) w fun w =>
  RD Try.prog (loadRes 93 x2) w fun r2 => R r2 w
def cfg129 : Cfg := { ext := extL, joins := [], loops := [], draws := [], pars := [] }
theorem F129_eq (a0 : Value) (w : World) (R : Value → World → Prop) : vcF Try.prog cfg129 Try.f129 [a0] w R = F129 a0 w R := by kernel_rfl
theorem F129_call {a0 : Value} {w : World} {R : Value → World → Prop} (h : F129 a0 w R) : CALL Try.prog 129 [a0] w R :=
  call_of (g := cfg129) ent mixed Try.func129 (Nat.le_of_ble_eq_true (by kernel_rfl)) (by kernel_rfl) (F129_eq a0 w R ▸ h)

/-- impl.areNames -/
def F130 (a0 a1 : Value) (w : World) (R : Value → World → Prop) : Prop :=
  RD Try.prog (Builtin.len_ #[22] 3 [a0].toArray) w fun x8 =>
  RD Try.prog (bin .gtr 3 (.tmp 0) (.tmp 0) x8 a1) w fun x10 =>
  BR x10
   (R (Value.bool false) w)
   (RD Try.prog (Builtin.len_ #[22] 3 [a0].toArray) w fun x12 =>
   LOOPI [13] [(Value.int .i64 0)] w fun u4 w next4 =>
    RD Try.prog (bin .lss 3 (.tmp 0) (.tmp 0) (u4 13) x12) w fun x14 =>
    BR x14
     (RD Try.prog (Instr.indexAt 22 a0 (u4 13)) w fun x15 =>
     RD Try.prog (Instr.loadAt 9 x15) w fun x16 =>
     CALL Try.prog 149 [x16] w fun x18 w =>
     RD Try.prog (Op.unary .not x18) w fun x19 =>
     BR x19
      (R (Value.bool false) w)
      (RD Try.prog (bin .add 3 (.tmp 0) (.const undef) (u4 13) (Value.int .i64 1)) w fun x20 =>
      next4 [x20] w))
     (R (Value.bool true) w))
def cfg130 : Cfg := { ext := extL, joins := [], loops := [(4, 2089040, [13])], draws := [], pars := [] }
theorem F130_eq (a0 a1 : Value) (w : World) (R : Value → World → Prop) : vcF Try.prog cfg130 Try.f130 [a0, a1] w R = F130 a0 a1 w R := by kernel_rfl
theorem F130_call {a0 a1 : Value} {w : World} {R : Value → World → Prop} (h : F130 a0 a1 w R) : CALL Try.prog 130 [a0, a1] w R :=
  call_of (g := cfg130) ent mixed Try.func130 (Nat.le_of_ble_eq_true (by kernel_rfl)) (by kernel_rfl) (F130_eq a0 a1 w R ▸ h)

/-- impl.hasTwice -/
def F131 (a0 : Value) (w : World) (R : Value → World → Prop) : Prop :=
  RD Try.prog (Builtin.len_ #[22] 3 [a0].toArray) w fun x6 =>
  LOOPI [7] [(Value.int .i64 0)] w fun u2 w next2 =>
   RD Try.prog (bin .lss 3 (.tmp 0) (.tmp 0) (u2 7) x6) w fun x8 =>
   BR x8
    (RD Try.prog (Instr.indexAt 22 a0 (u2 7)) w fun x10 =>
    RD Try.prog (Instr.loadAt 9 x10) w fun x11 =>
    RD Try.prog (bin .add 3 (.tmp 0) (.const undef) (u2 7) (Value.int .i64 1)) w fun x14 =>
    RD Try.prog (Instr.sliceAt 22 a0 (some x14) none none) w fun x15 =>
    CALL Try.prog 111 [x15, x11] w fun x17 w =>
    BR x17
     (R (Value.bool true) w)
     (RD Try.prog (bin .add 3 (.tmp 0) (.const undef) (u2 7) (Value.int .i64 1)) w fun x18 =>
     next2 [x18] w))
    (R (Value.bool false) w)
def cfg131 : Cfg := { ext := extL, joins := [], loops := [(2, 524188, [7])], draws := [], pars := [] }
theorem F131_eq (a0 : Value) (w : World) (R : Value → World → Prop) : vcF Try.prog cfg131 Try.f131 [a0] w R = F131 a0 w R := by kernel_rfl
theorem F131_call {a0 : Value} {w : World} {R : Value → World → Prop} (h : F131 a0 w R) : CALL Try.prog 131 [a0] w R :=
  call_of (g := cfg131) ent mixed Try.func131 (Nat.le_of_ble_eq_true (by kernel_rfl)) (by kernel_rfl) (F131_eq a0 w R ▸ h)

/-- impl.argMost -/
def F132 (a0 a1 : Value) (w : World) (R : Value → World → Prop) : Prop :=
  OP Try.prog (Instr.box 31 a0) w fun x2 w =>
  RD Try.prog (bin .eql 3 (.tmp 0) (.const undef) a1 (Value.int .i64 1)) w fun x7 =>
  BR x7
   (RD Try.prog (Instr.fieldAt 31 x2 0) w fun x8 =>
   RD Try.prog (Instr.loadAt 22 x8) w fun x9 =>
   RD Try.prog (Builtin.len_ #[22] 3 [x9].toArray) w fun x10 =>
   R x10 w)
   (RD Try.prog (bin .eql 3 (.tmp 0) (.const undef) a1 (Value.int .i64 4)) w fun x12 =>
   BR x12
    (RD Try.prog (Instr.fieldAt 31 x2 2) w fun x14 =>
     RD Try.prog (Instr.loadAt 22 x14) w fun x15 =>
     RD Try.prog (Builtin.len_ #[22] 3 [x15].toArray) w fun x16 =>
     R x16 w)
    (RD Try.prog (bin .eql 3 (.tmp 0) (.const undef) a1 (Value.int .i64 5)) w fun x13 =>
    BR x13
     (RD Try.prog (Instr.fieldAt 31 x2 2) w fun x14 =>
     RD Try.prog (Instr.loadAt 22 x14) w fun x15 =>
     RD Try.prog (Builtin.len_ #[22] 3 [x15].toArray) w fun x16 =>
     R x16 w)
     (RD Try.prog (bin .eql 3 (.tmp 0) (.const undef) a1 (Value.int .i64 6)) w fun x18 =>
     BR x18
      (RD Try.prog (Instr.fieldAt 31 x2 1) w fun x20 =>
       RD Try.prog (Instr.loadAt 22 x20) w fun x21 =>
       RD Try.prog (Builtin.len_ #[22] 3 [x21].toArray) w fun x22 =>
       R x22 w)
      (RD Try.prog (bin .eql 3 (.tmp 0) (.const undef) a1 (Value.int .i64 7)) w fun x19 =>
      BR x19
       (RD Try.prog (Instr.fieldAt 31 x2 1) w fun x20 =>
       RD Try.prog (Instr.loadAt 22 x20) w fun x21 =>
       RD Try.prog (Builtin.len_ #[22] 3 [x21].toArray) w fun x22 =>
       R x22 w)
       (R (Value.int .i64 1) w)))))
def cfg132 : Cfg := { ext := extL, joins := [], loops := [], draws := [], pars := [] }
theorem F132_eq (a0 a1 : Value) (w : World) (R : Value → World → Prop) : vcF Try.prog cfg132 Try.f132 [a0, a1] w R = F132 a0 a1 w R := by kernel_rfl
theorem F132_call {a0 a1 : Value} {w : World} {R : Value → World → Prop} (h : F132 a0 a1 w R) : CALL Try.prog 132 [a0, a1] w R :=
  call_of (g := cfg132) ent mixed Try.func132 (Nat.le_of_ble_eq_true (by kernel_rfl)) (by kernel_rfl) (F132_eq a0 a1 w R ▸ h)

/-- impl.TermOk -/
def F133 (a0 : Value) (w : World) (R : Value → World → Prop) : Prop :=
  OP Try.prog (Instr.box 93 a0) w fun x1 w =>
  RD Try.prog (Instr.loadAt 93 x1) w fun x3 =>
  CALL Try.prog 150 [x3, (Value.int .i64 6)] w fun x4 w =>
  R x4 w
def cfg133 : Cfg := { ext := extL, joins := [], loops := [], draws := [], pars := [] }
theorem F133_eq (a0 : Value) (w : World) (R : Value → World → Prop) : vcF Try.prog cfg133 Try.f133 [a0] w R = F133 a0 w R := by kernel_rfl
theorem F133_call {a0 : Value} {w : World} {R : Value → World → Prop} (h : F133 a0 w R) : CALL Try.prog 133 [a0] w R :=
  call_of (g := cfg133) ent mixed Try.func133 (Nat.le_of_ble_eq_true (by kernel_rfl)) (by kernel_rfl) (F133_eq a0 w R ▸ h)

end Go.Proofs.Ytokppocbfpjngaa
