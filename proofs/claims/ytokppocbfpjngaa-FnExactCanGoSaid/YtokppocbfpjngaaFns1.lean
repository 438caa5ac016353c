/- The reading of the functions, printed by program (decomp.py); each equation is checked by the kernel. -/
import Derived.Test.YtokppocbfpjngaaFns0
import Derived.KernelRfl
set_option linter.unusedVariables false
namespace Go.Proofs.Ytokppocbfpjngaa
open Go Go.Sh Go.Proofs
/-- laws.FnExactRoundLine -/
def F3 (a0 a1 : Value) (w : World) (R : Value → World → Prop) : Prop :=
  OP Try.prog (Instr.box 26 a0) w fun x2 w =>
  RD Try.prog (Builtin.len_ #[23] 3 [a1].toArray) w fun x11 =>
  RD Try.prog (bin .gtr 3 (.tmp 0) (.const undef) x11 (Value.int .i64 1048576)) w fun x12 =>
  BR x12
   (R (Value.bool true) w)
   (RD Try.prog (Instr.loadAt 26 x2) w fun x13 =>
   CALL Try.prog 14 [x13, (Value.int .i64 1048576)] w fun x15 w =>
   RD Try.prog (bin .lss 3 (.tmp 0) (.const undef) x15 (Value.int .i64 0)) w fun x17 =>
   BR x17
    (R (Value.bool true) w)
    (RD Try.prog (Instr.loadAt 26 x2) w fun x18 =>
    CALL Try.prog 16 [x18] w fun x19 w =>
    CALL Try.prog 17 [a1] w fun x21 w =>
    CALL Try.prog 15 [x19, x21] w fun x22 w =>
    RD Try.prog (Instr.loadAt 26 x2) w fun x23 =>
    CALL Try.prog 16 [x23] w fun x24 w =>
    OP Try.prog (Instr.alloc 31 true (.tuple #[])) w fun x7 w =>
    OPU Try.prog (Instr.storeAt 31 x7 x24) w fun w =>
    CALL Try.prog 17 [a1] w fun x26 w =>
    RD Try.prog (Instr.loadAt 31 x7) w fun x27 =>
    CALL Try.prog 18 [x27, x26] w fun x29 w =>
    RD Try.prog (bin .neq 9 (.tmp 0) (.tmp 0) x29 x22) w fun x32 =>
    BR x32
     (R (Value.bool false) w)
     ((fun w => RD Try.prog (Instr.loadAt 31 x7) w fun x33 =>
     RD Try.prog (Instr.loadAt 26 x2) w fun x34 =>
     (fun w_ => CALL Try.prog 16 [x34] w_ fun x35 w =>
     Ext w_ w ∧
     CALL Try.prog 19 [x33, x35] w fun x36 w =>
     RD Try.prog (Op.unary .not x36) w fun x37 =>
     BR x37
      (R (Value.bool false) w)
      (CALL Try.prog 17 [a1] w fun x40 w =>
      CALL Try.prog 20 [x26, x40] w fun x41 w =>
      RD Try.prog (Op.unary .not x41) w fun x42 =>
      BR x42
       (R (Value.bool false) w)
       (R (Value.bool true) w))) w) (World.drew1 w))))
def cfg3 : Cfg := { ext := extL, joins := [], loops := [], draws := [(13, [0, 1, 2, 3, 4], 4)], pars := [] }
theorem F3_eq (a0 a1 : Value) (w : World) (R : Value → World → Prop) : vcF Try.prog cfg3 Try.f3 [a0, a1] w R = F3 a0 a1 w R := by kernel_rfl
theorem F3_call {a0 a1 : Value} {w : World} {R : Value → World → Prop} (h : F3 a0 a1 w R) : CALL Try.prog 3 [a0, a1] w R :=
  call_of (g := cfg3) ent mixed Try.func3 (Nat.le_of_ble_eq_true (by kernel_rfl)) (by kernel_rfl) (F3_eq a0 a1 w R ▸ h)

/-- laws.FnExactStateOk -/
def F4 (a0 a1 : Value) (w : World) (R : Value → World → Prop) : Prop :=
  OP Try.prog (Instr.box 26 a0) w fun x2 w =>
  OP Try.prog (Instr.box 39 a1) w fun x3 w =>
  RD Try.prog (Instr.loadAt 26 x2) w fun x10 =>
  CALL Try.prog 14 [x10, (Value.int .i64 1048576)] w fun x12 w =>
  RD Try.prog (bin .lss 3 (.tmp 0) (.const undef) x12 (Value.int .i64 0)) w fun x14 =>
  BR x14
   (R (Value.bool true) w)
   (RD Try.prog (Instr.loadAt 39 x3) w fun x15 =>
   CALL Try.prog 21 [x15, x12] w fun x17 w =>
   RD Try.prog (bin .lss 3 (.tmp 0) (.const undef) x17 (Value.int .i64 0)) w fun x19 =>
   BR x19
    (R (Value.bool true) w)
    ((fun w => RD Try.prog (Instr.loadAt 26 x2) w fun x20 =>
    RD Try.prog (Instr.loadAt 39 x3) w fun x22 =>
    (fun w_ => CALL Try.prog 16 [x20] w_ fun x21 w =>
    Ext w_ w ∧
    CALL Try.prog 23 [x22] w fun x23 w =>
    CALL Try.prog 22 [x21, x23] w fun x24 w =>
    RD Try.prog (Instr.loadAt 26 x2) w fun x25 =>
    CALL Try.prog 16 [x25] w fun x26 w =>
    OP Try.prog (Instr.alloc 31 true (.tuple #[])) w fun x7 w =>
    OPU Try.prog (Instr.storeAt 31 x7 x26) w fun w =>
    RD Try.prog (Instr.loadAt 39 x3) w fun x27 =>
    CALL Try.prog 23 [x27] w fun x28 w =>
    OP Try.prog (Instr.alloc 42 true (.tuple #[])) w fun x8 w =>
    OPU Try.prog (Instr.storeAt 42 x8 x28) w fun w =>
    RD Try.prog (Instr.loadAt 31 x7) w fun x29 =>
    RD Try.prog (Instr.loadAt 42 x8) w fun x30 =>
    CALL Try.prog 24 [x29, x30] w fun x31 w =>
    RD Try.prog (bin .neq 4 (.tmp 0) (.tmp 0) x31 x24) w fun x34 =>
    BR x34
     (R (Value.bool false) w)
     ((fun w => RD Try.prog (Instr.loadAt 31 x7) w fun x35 =>
     RD Try.prog (Instr.loadAt 26 x2) w fun x36 =>
     (fun w_ => CALL Try.prog 16 [x36] w_ fun x37 w =>
     Ext w_ w ∧
     CALL Try.prog 19 [x35, x37] w fun x38 w =>
     RD Try.prog (Op.unary .not x38) w fun x39 =>
     BR x39
      (R (Value.bool false) w)
      ((fun w => RD Try.prog (Instr.loadAt 42 x8) w fun x40 =>
      RD Try.prog (Instr.loadAt 39 x3) w fun x41 =>
      (fun w_ => CALL Try.prog 23 [x41] w_ fun x42 w =>
      Ext w_ w ∧
      CALL Try.prog 25 [x40, x42] w fun x43 w =>
      RD Try.prog (Op.unary .not x43) w fun x44 =>
      BR x44
       (R (Value.bool false) w)
       (R (Value.bool true) w)) w) (World.drew1 w))) w) (World.drew1 w))) w) (World.drew1 w)))
def cfg4 : Cfg := { ext := extL, joins := [], loops := [], draws := [(8, [0, 2, 1, 3, 4, 5], 2), (14, [0, 1, 2, 3, 4], 4), (16, [0, 1, 2, 3, 4], 4)], pars := [] }
theorem F4_eq (a0 a1 : Value) (w : World) (R : Value → World → Prop) : vcF Try.prog cfg4 Try.f4 [a0, a1] w R = F4 a0 a1 w R := by kernel_rfl
theorem F4_call {a0 a1 : Value} {w : World} {R : Value → World → Prop} (h : F4 a0 a1 w R) : CALL Try.prog 4 [a0, a1] w R :=
  call_of (g := cfg4) ent mixed Try.func4 (Nat.le_of_ble_eq_true (by kernel_rfl)) (by kernel_rfl) (F4_eq a0 a1 w R ▸ h)

/-- laws.FnExactStartOf -/
def F5 (a0 : Value) (w : World) (R : Value → World → Prop) : Prop :=
  OP Try.prog (Instr.box 26 a0) w fun x1 w =>
  RD Try.prog (Instr.loadAt 26 x1) w fun x11 =>
  CALL Try.prog 14 [x11, (Value.int .i64 1048576)] w fun x13 w =>
  RD Try.prog (bin .lss 3 (.tmp 0) (.const undef) x13 (Value.int .i64 0)) w fun x15 =>
  BR x15
   (R (Value.bool true) w)
   (RD Try.prog (Instr.loadAt 26 x1) w fun x16 =>
   CALL Try.prog 16 [x16] w fun x17 w =>
   CALL Try.prog 26 [x17] w fun x18 w =>
   OP Try.prog (Instr.alloc 42 true (.tuple #[])) w fun x4 w =>
   OPU Try.prog (Instr.storeAt 42 x4 x18) w fun w =>
   RD Try.prog (Instr.loadAt 26 x1) w fun x19 =>
   CALL Try.prog 16 [x19] w fun x20 w =>
   OP Try.prog (Instr.alloc 31 true (.tuple #[])) w fun x5 w =>
   OPU Try.prog (Instr.storeAt 31 x5 x20) w fun w =>
   RD Try.prog (Instr.loadAt 31 x5) w fun x21 =>
   CALL Try.prog 27 [x21] w fun x22 w =>
   OP Try.prog (Instr.alloc 42 true (.tuple #[])) w fun x6 w =>
   OPU Try.prog (Instr.storeAt 42 x6 x22) w fun w =>
   RD Try.prog (Instr.loadAt 42 x6) w fun x23 =>
   RD Try.prog (Instr.loadAt 42 x4) w fun x24 =>
   CALL Try.prog 25 [x23, x24] w fun x25 w =>
   RD Try.prog (Op.unary .not x25) w fun x26 =>
   BR x26
    (R (Value.bool false) w)
    ((fun w => RD Try.prog (Instr.loadAt 31 x5) w fun x27 =>
    RD Try.prog (Instr.loadAt 26 x1) w fun x28 =>
    (fun w_ => CALL Try.prog 16 [x28] w_ fun x29 w =>
    Ext w_ w ∧
    CALL Try.prog 19 [x27, x29] w fun x30 w =>
    RD Try.prog (Op.unary .not x30) w fun x31 =>
    BR x31
     (R (Value.bool false) w)
     (RD Try.prog (Instr.loadAt 31 x5) w fun x32 =>
     CALL Try.prog 28 [x32, (Value.int .i64 1)] w fun x34 w =>
     RD Try.prog (bin .lss 3 (.tmp 0) (.const undef) x34 (Value.int .i64 0)) w fun x36 =>
     BR x36
     (R (Value.bool false) w)
     (RD Try.prog (Instr.loadAt 42 x6) w fun x38 =>
     RD Try.prog (Instr.loadAt 42 x4) w fun x39 =>
     CALL Try.prog 25 [x38, x39] w fun x40 w =>
     RD Try.prog (Op.unary .not x40) w fun x41 =>
     BR x41
      (R (Value.bool false) w)
      (RD Try.prog (Instr.loadAt 42 x6) w fun x43 =>
      CALL Try.prog 29 [x43, (Value.int .i64 1)] w fun x45 w =>
      RD Try.prog (Instr.loadAt 42 x6) w fun x46 =>
      CALL Try.prog 30 [x46, (Value.int .i64 1)] w fun x48 w =>
      RD Try.prog (bin .lss 3 (.tmp 0) (.const undef) x48 (Value.int .i64 0)) w fun x50 =>
      BR x50
       (R (Value.bool false) w)
       (RD Try.prog (bin .neq 3 (.tmp 0) (.tmp 0) x48 x45) w fun x53 =>
       BR x53
        (R (Value.bool false) w)
        (RD Try.prog (Instr.loadAt 26 x1) w fun x54 =>
        CALL Try.prog 16 [x54] w fun x55 w =>
        CALL Try.prog 27 [x55] w fun x56 w =>
        OP Try.prog (Instr.alloc 42 true (.tuple #[])) w fun x10 w =>
        OPU Try.prog (Instr.storeAt 42 x10 x56) w fun w =>
        RD Try.prog (Instr.loadAt 42 x10) w fun x57 =>
        RD Try.prog (Instr.loadAt 42 x4) w fun x58 =>
        CALL Try.prog 25 [x57, x58] w fun x59 w =>
        RD Try.prog (Op.unary .not x59) w fun x60 =>
        BR x60
         (R (Value.bool false) w)
         (RD Try.prog (Instr.loadAt 42 x6) w fun x61 =>
         CALL Try.prog 30 [x61, (Value.int .i64 1)] w fun x63 w =>
         RD Try.prog (bin .lss 3 (.tmp 0) (.const undef) x63 (Value.int .i64 0)) w fun x65 =>
         BR x65
          (R (Value.bool false) w)
          (RD Try.prog (bin .neq 3 (.tmp 0) (.tmp 0) x63 x45) w fun x68 =>
          BR x68
           (R (Value.bool false) w)
           (R (Value.bool true) w))))))))) w) (World.drew1 w)))
def cfg5 : Cfg := { ext := extL, joins := [], loops := [], draws := [(10, [0, 1, 2, 3, 4], 4)], pars := [] }
theorem F5_eq (a0 : Value) (w : World) (R : Value → World → Prop) : vcF Try.prog cfg5 Try.f5 [a0] w R = F5 a0 w R := by kernel_rfl
theorem F5_call {a0 : Value} {w : World} {R : Value → World → Prop} (h : F5 a0 w R) : CALL Try.prog 5 [a0] w R :=
  call_of (g := cfg5) ent mixed Try.func5 (Nat.le_of_ble_eq_true (by kernel_rfl)) (by kernel_rfl) (F5_eq a0 w R ▸ h)

/-- laws.FnExactTouchedAt -/
def F6 (a0 a1 : Value) (w : World) (R : Value → World → Prop) : Prop :=
  OP Try.prog (Instr.box 26 a0) w fun x2 w =>
  RD Try.prog (Instr.loadAt 26 x2) w fun x13 =>
  CALL Try.prog 14 [x13, (Value.int .i64 1048576)] w fun x15 w =>
  RD Try.prog (bin .lss 3 (.tmp 0) (.const undef) x15 (Value.int .i64 0)) w fun x17 =>
  BR x17
   (R (Value.bool true) w)
   (RD Try.prog (Instr.loadAt 26 x2) w fun x18 =>
   CALL Try.prog 16 [x18] w fun x19 w =>
   CALL Try.prog 31 [x19, a1] w fun x21 w =>
   RD Try.prog (Instr.loadAt 26 x2) w fun x22 =>
   CALL Try.prog 16 [x22] w fun x23 w =>
   OP Try.prog (Instr.alloc 31 true (.tuple #[])) w fun x7 w =>
   OPU Try.prog (Instr.storeAt 31 x7 x23) w fun w =>
   RD Try.prog (Instr.loadAt 31 x7) w fun x24 =>
   CALL Try.prog 32 [x24, a1] w fun x26 w =>
   CALL Try.prog 33 [x26, x21] w fun x29 w =>
   RD Try.prog (Op.unary .not x29) w fun x30 =>
   BR x30
    (R (Value.bool false) w)
    ((fun w => RD Try.prog (Instr.loadAt 31 x7) w fun x31 =>
    RD Try.prog (Instr.loadAt 26 x2) w fun x32 =>
    (fun w_ => CALL Try.prog 16 [x32] w_ fun x33 w =>
    Ext w_ w ∧
    CALL Try.prog 19 [x31, x33] w fun x34 w =>
    RD Try.prog (Op.unary .not x34) w fun x35 =>
    BR x35
     (R (Value.bool false) w)
     (RD Try.prog (Instr.loadAt 31 x7) w fun x36 =>
     CALL Try.prog 28 [x36, (Value.int .i64 1)] w fun x38 w =>
     RD Try.prog (bin .lss 3 (.tmp 0) (.const undef) x38 (Value.int .i64 0)) w fun x40 =>
     BR x40
     (R (Value.bool false) w)
     (CALL Try.prog 33 [x26, x21] w fun x44 w =>
     RD Try.prog (Op.unary .not x44) w fun x45 =>
     BR x45
      (R (Value.bool false) w)
      (CALL Try.prog 34 [x26, (Value.int .i64 1)] w fun x49 w =>
      CALL Try.prog 35 [x26, (Value.int .i64 1)] w fun x52 w =>
      RD Try.prog (bin .lss 3 (.tmp 0) (.const undef) x52 (Value.int .i64 0)) w fun x54 =>
      BR x54
       (R (Value.bool false) w)
       (RD Try.prog (bin .neq 3 (.tmp 0) (.tmp 0) x52 x49) w fun x57 =>
       BR x57
        (R (Value.bool false) w)
        (RD Try.prog (Instr.loadAt 26 x2) w fun x58 =>
        CALL Try.prog 16 [x58] w fun x59 w =>
        CALL Try.prog 32 [x59, a1] w fun x61 w =>
        CALL Try.prog 33 [x61, x21] w fun x64 w =>
        RD Try.prog (Op.unary .not x64) w fun x65 =>
        BR x65
         (R (Value.bool false) w)
         (CALL Try.prog 35 [x26, (Value.int .i64 1)] w fun x68 w =>
         RD Try.prog (bin .lss 3 (.tmp 0) (.const undef) x68 (Value.int .i64 0)) w fun x70 =>
         BR x70
          (R (Value.bool false) w)
          (RD Try.prog (bin .neq 3 (.tmp 0) (.tmp 0) x68 x49) w fun x73 =>
          BR x73
           (R (Value.bool false) w)
           (R (Value.bool true) w))))))))) w) (World.drew1 w)))
def cfg6 : Cfg := { ext := extL, joins := [], loops := [], draws := [(10, [0, 1, 2, 3, 4], 4)], pars := [] }
theorem F6_eq (a0 a1 : Value) (w : World) (R : Value → World → Prop) : vcF Try.prog cfg6 Try.f6 [a0, a1] w R = F6 a0 a1 w R := by kernel_rfl
theorem F6_call {a0 a1 : Value} {w : World} {R : Value → World → Prop} (h : F6 a0 a1 w R) : CALL Try.prog 6 [a0, a1] w R :=
  call_of (g := cfg6) ent mixed Try.func6 (Nat.le_of_ble_eq_true (by kernel_rfl)) (by kernel_rfl) (F6_eq a0 a1 w R ▸ h)

/-- laws.FnExactWaitsFor -/
def F7 (a0 a1 a2 : Value) (w : World) (R : Value → World → Prop) : Prop :=
  OP Try.prog (Instr.box 26 a0) w fun x3 w =>
  OP Try.prog (Instr.box 39 a1) w fun x4 w =>
  RD Try.prog (Instr.loadAt 26 x3) w fun x12 =>
  CALL Try.prog 14 [x12, (Value.int .i64 1048576)] w fun x14 w =>
  RD Try.prog (bin .lss 3 (.tmp 0) (.const undef) x14 (Value.int .i64 0)) w fun x16 =>
  BR x16
   (R (Value.bool true) w)
   (RD Try.prog (Instr.loadAt 39 x4) w fun x17 =>
   CALL Try.prog 21 [x17, x14] w fun x19 w =>
   RD Try.prog (bin .lss 3 (.tmp 0) (.const undef) x19 (Value.int .i64 0)) w fun x21 =>
   BR x21
    (R (Value.bool true) w)
    ((fun w => RD Try.prog (Instr.loadAt 26 x3) w fun x22 =>
    RD Try.prog (Instr.loadAt 39 x4) w fun x24 =>
    (fun w_ => CALL Try.prog 16 [x22] w_ fun x23 w =>
    Ext w_ w ∧
    (fun w_ => CALL Try.prog 23 [x24] w_ fun x25 w =>
    Ext w_ w ∧
    CALL Try.prog 36 [x23, x25, a2] w fun x27 w =>
    RD Try.prog (Instr.loadAt 26 x3) w fun x28 =>
    CALL Try.prog 16 [x28] w fun x29 w =>
    OP Try.prog (Instr.alloc 31 true (.tuple #[])) w fun x9 w =>
    OPU Try.prog (Instr.storeAt 31 x9 x29) w fun w =>
    RD Try.prog (Instr.loadAt 39 x4) w fun x30 =>
    CALL Try.prog 23 [x30] w fun x31 w =>
    OP Try.prog (Instr.alloc 42 true (.tuple #[])) w fun x10 w =>
    OPU Try.prog (Instr.storeAt 42 x10 x31) w fun w =>
    RD Try.prog (Instr.loadAt 31 x9) w fun x32 =>
    RD Try.prog (Instr.loadAt 42 x10) w fun x33 =>
    CALL Try.prog 37 [x32, x33, a2] w fun x35 w =>
    RD Try.prog (bin .neq 3 (.tmp 0) (.tmp 0) x35 x27) w fun x38 =>
    BR x38
     (R (Value.bool false) w)
     ((fun w => RD Try.prog (Instr.loadAt 31 x9) w fun x39 =>
     RD Try.prog (Instr.loadAt 26 x3) w fun x40 =>
     (fun w_ => CALL Try.prog 16 [x40] w_ fun x41 w =>
     Ext w_ w ∧
     CALL Try.prog 19 [x39, x41] w fun x42 w =>
     RD Try.prog (Op.unary .not x42) w fun x43 =>
     BR x43
      (R (Value.bool false) w)
      ((fun w => RD Try.prog (Instr.loadAt 42 x10) w fun x44 =>
      RD Try.prog (Instr.loadAt 39 x4) w fun x45 =>
      (fun w_ => CALL Try.prog 23 [x45] w_ fun x46 w =>
      Ext w_ w ∧
      CALL Try.prog 25 [x44, x46] w fun x47 w =>
      RD Try.prog (Op.unary .not x47) w fun x48 =>
      BR x48
       (R (Value.bool false) w)
       (R (Value.bool true) w)) w) (World.drew1 w))) w) (World.drew1 w))) w) w) (World.drew1 w)))
def cfg7 : Cfg := { ext := extL, joins := [], loops := [], draws := [(8, [0, 2, 4, 1, 3, 5, 6], 10), (14, [0, 1, 2, 3, 4], 4), (16, [0, 1, 2, 3, 4], 4)], pars := [] }
theorem F7_eq (a0 a1 a2 : Value) (w : World) (R : Value → World → Prop) : vcF Try.prog cfg7 Try.f7 [a0, a1, a2] w R = F7 a0 a1 a2 w R := by kernel_rfl
theorem F7_call {a0 a1 a2 : Value} {w : World} {R : Value → World → Prop} (h : F7 a0 a1 a2 w R) : CALL Try.prog 7 [a0, a1, a2] w R :=
  call_of (g := cfg7) ent mixed Try.func7 (Nat.le_of_ble_eq_true (by kernel_rfl)) (by kernel_rfl) (F7_eq a0 a1 a2 w R ▸ h)

/-- laws.FnExactCanGo -/
def F8 (a0 a1 a2 : Value) (w : World) (R : Value → World → Prop) : Prop :=
  OP Try.prog (Instr.box 26 a0) w fun x3 w =>
  OP Try.prog (Instr.box 39 a1) w fun x4 w =>
  RD Try.prog (Instr.loadAt 26 x3) w fun x12 =>
  CALL Try.prog 14 [x12, (Value.int .i64 1048576)] w fun x14 w =>
  RD Try.prog (bin .lss 3 (.tmp 0) (.const undef) x14 (Value.int .i64 0)) w fun x16 =>
  BR x16
   (R (Value.bool true) w)
   (RD Try.prog (Instr.loadAt 39 x4) w fun x17 =>
   CALL Try.prog 21 [x17, x14] w fun x19 w =>
   RD Try.prog (bin .lss 3 (.tmp 0) (.const undef) x19 (Value.int .i64 0)) w fun x21 =>
   BR x21
    (R (Value.bool true) w)
    ((fun w => RD Try.prog (Instr.loadAt 26 x3) w fun x22 =>
    RD Try.prog (Instr.loadAt 39 x4) w fun x24 =>
    (fun w_ => CALL Try.prog 16 [x22] w_ fun x23 w =>
    Ext w_ w ∧
    (fun w_ => CALL Try.prog 23 [x24] w_ fun x25 w =>
    Ext w_ w ∧
    CALL Try.prog 38 [x23, x25, a2] w fun x27 w =>
    RD Try.prog (Instr.loadAt 26 x3) w fun x28 =>
    CALL Try.prog 16 [x28] w fun x29 w =>
    OP Try.prog (Instr.alloc 31 true (.tuple #[])) w fun x9 w =>
    OPU Try.prog (Instr.storeAt 31 x9 x29) w fun w =>
    RD Try.prog (Instr.loadAt 39 x4) w fun x30 =>
    CALL Try.prog 23 [x30] w fun x31 w =>
    OP Try.prog (Instr.alloc 42 true (.tuple #[])) w fun x10 w =>
    OPU Try.prog (Instr.storeAt 42 x10 x31) w fun w =>
    RD Try.prog (Instr.loadAt 31 x9) w fun x32 =>
    RD Try.prog (Instr.loadAt 42 x10) w fun x33 =>
    CALL Try.prog 39 [x32, x33, a2] w fun x35 w =>
    RD Try.prog (bin .neq 4 (.tmp 0) (.tmp 0) x35 x27) w fun x38 =>
    BR x38
     (R (Value.bool false) w)
     ((fun w => RD Try.prog (Instr.loadAt 31 x9) w fun x39 =>
     RD Try.prog (Instr.loadAt 26 x3) w fun x40 =>
     (fun w_ => CALL Try.prog 16 [x40] w_ fun x41 w =>
     Ext w_ w ∧
     CALL Try.prog 19 [x39, x41] w fun x42 w =>
     RD Try.prog (Op.unary .not x42) w fun x43 =>
     BR x43
      (R (Value.bool false) w)
      ((fun w => RD Try.prog (Instr.loadAt 42 x10) w fun x44 =>
      RD Try.prog (Instr.loadAt 39 x4) w fun x45 =>
      (fun w_ => CALL Try.prog 23 [x45] w_ fun x46 w =>
      Ext w_ w ∧
      CALL Try.prog 25 [x44, x46] w fun x47 w =>
      RD Try.prog (Op.unary .not x47) w fun x48 =>
      BR x48
       (R (Value.bool false) w)
       (R (Value.bool true) w)) w) (World.drew1 w))) w) (World.drew1 w))) w) w) (World.drew1 w)))
def cfg8 : Cfg := { ext := extL, joins := [], loops := [], draws := [(8, [0, 2, 4, 1, 3, 5, 6], 10), (14, [0, 1, 2, 3, 4], 4), (16, [0, 1, 2, 3, 4], 4)], pars := [] }
theorem F8_eq (a0 a1 a2 : Value) (w : World) (R : Value → World → Prop) : vcF Try.prog cfg8 Try.f8 [a0, a1, a2] w R = F8 a0 a1 a2 w R := by kernel_rfl
theorem F8_call {a0 a1 a2 : Value} {w : World} {R : Value → World → Prop} (h : F8 a0 a1 a2 w R) : CALL Try.prog 8 [a0, a1, a2] w R :=
  call_of (g := cfg8) ent mixed Try.func8 (Nat.le_of_ble_eq_true (by kernel_rfl)) (by kernel_rfl) (F8_eq a0 a1 a2 w R ▸ h)

/-- laws.FnExactStoppedIn -/
def F9 (a0 a1 : Value) (w : World) (R : Value → World → Prop) : Prop :=
  OP Try.prog (Instr.box 26 a0) w fun x2 w =>
  OP Try.prog (Instr.box 39 a1) w fun x3 w =>
  RD Try.prog (Instr.loadAt 26 x2) w fun x10 =>
  CALL Try.prog 14 [x10, (Value.int .i64 1048576)] w fun x12 w =>
  RD Try.prog (bin .lss 3 (.tmp 0) (.const undef) x12 (Value.int .i64 0)) w fun x14 =>
  BR x14
   (R (Value.bool true) w)
   (RD Try.prog (Instr.loadAt 39 x3) w fun x15 =>
   CALL Try.prog 21 [x15, x12] w fun x17 w =>
   RD Try.prog (bin .lss 3 (.tmp 0) (.const undef) x17 (Value.int .i64 0)) w fun x19 =>
   BR x19
    (R (Value.bool true) w)
    ((fun w => RD Try.prog (Instr.loadAt 26 x2) w fun x20 =>
    RD Try.prog (Instr.loadAt 39 x3) w fun x22 =>
    (fun w_ => CALL Try.prog 16 [x20] w_ fun x21 w =>
    Ext w_ w ∧
    CALL Try.prog 23 [x22] w fun x23 w =>
    CALL Try.prog 40 [x21, x23] w fun x24 w =>
    RD Try.prog (Instr.loadAt 26 x2) w fun x25 =>
    CALL Try.prog 16 [x25] w fun x26 w =>
    OP Try.prog (Instr.alloc 31 true (.tuple #[])) w fun x7 w =>
    OPU Try.prog (Instr.storeAt 31 x7 x26) w fun w =>
    RD Try.prog (Instr.loadAt 39 x3) w fun x27 =>
    CALL Try.prog 23 [x27] w fun x28 w =>
    OP Try.prog (Instr.alloc 42 true (.tuple #[])) w fun x8 w =>
    OPU Try.prog (Instr.storeAt 42 x8 x28) w fun w =>
    RD Try.prog (Instr.loadAt 31 x7) w fun x29 =>
    RD Try.prog (Instr.loadAt 42 x8) w fun x30 =>
    CALL Try.prog 41 [x29, x30] w fun x31 w =>
    RD Try.prog (bin .neq 4 (.tmp 0) (.tmp 0) x31 x24) w fun x34 =>
    BR x34
     (R (Value.bool false) w)
     ((fun w => RD Try.prog (Instr.loadAt 31 x7) w fun x35 =>
     RD Try.prog (Instr.loadAt 26 x2) w fun x36 =>
     (fun w_ => CALL Try.prog 16 [x36] w_ fun x37 w =>
     Ext w_ w ∧
     CALL Try.prog 19 [x35, x37] w fun x38 w =>
     RD Try.prog (Op.unary .not x38) w fun x39 =>
     BR x39
      (R (Value.bool false) w)
      ((fun w => RD Try.prog (Instr.loadAt 42 x8) w fun x40 =>
      RD Try.prog (Instr.loadAt 39 x3) w fun x41 =>
      (fun w_ => CALL Try.prog 23 [x41] w_ fun x42 w =>
      Ext w_ w ∧
      CALL Try.prog 25 [x40, x42] w fun x43 w =>
      RD Try.prog (Op.unary .not x43) w fun x44 =>
      BR x44
       (R (Value.bool false) w)
       (R (Value.bool true) w)) w) (World.drew1 w))) w) (World.drew1 w))) w) (World.drew1 w)))
def cfg9 : Cfg := { ext := extL, joins := [], loops := [], draws := [(8, [0, 2, 1, 3, 4, 5], 2), (14, [0, 1, 2, 3, 4], 4), (16, [0, 1, 2, 3, 4], 4)], pars := [] }
theorem F9_eq (a0 a1 : Value) (w : World) (R : Value → World → Prop) : vcF Try.prog cfg9 Try.f9 [a0, a1] w R = F9 a0 a1 w R := by kernel_rfl
theorem F9_call {a0 a1 : Value} {w : World} {R : Value → World → Prop} (h : F9 a0 a1 w R) : CALL Try.prog 9 [a0, a1] w R :=
  call_of (g := cfg9) ent mixed Try.func9 (Nat.le_of_ble_eq_true (by kernel_rfl)) (by kernel_rfl) (F9_eq a0 a1 w R ▸ h)

/-- laws.FnExactReadyIn -/
def F10 (a0 a1 : Value) (w : World) (R : Value → World → Prop) : Prop :=
  OP Try.prog (Instr.box 26 a0) w fun x2 w =>
  OP Try.prog (Instr.box 39 a1) w fun x3 w =>
  RD Try.prog (Instr.loadAt 26 x2) w fun x14 =>
  CALL Try.prog 14 [x14, (Value.int .i64 1048576)] w fun x16 w =>
  RD Try.prog (bin .lss 3 (.tmp 0) (.const undef) x16 (Value.int .i64 0)) w fun x18 =>
  BR x18
   (R (Value.bool true) w)
   (RD Try.prog (Instr.loadAt 39 x3) w fun x19 =>
   CALL Try.prog 21 [x19, x16] w fun x21 w =>
   RD Try.prog (bin .lss 3 (.tmp 0) (.const undef) x21 (Value.int .i64 0)) w fun x23 =>
   BR x23
    (R (Value.bool true) w)
    ((fun w => RD Try.prog (Instr.loadAt 26 x2) w fun x24 =>
    RD Try.prog (Instr.loadAt 39 x3) w fun x26 =>
    (fun w_ => CALL Try.prog 16 [x24] w_ fun x25 w =>
    Ext w_ w ∧
    CALL Try.prog 23 [x26] w fun x27 w =>
    CALL Try.prog 42 [x25, x27] w fun x28 w =>
    RD Try.prog (Instr.loadAt 26 x2) w fun x29 =>
    CALL Try.prog 16 [x29] w fun x30 w =>
    OP Try.prog (Instr.alloc 31 true (.tuple #[])) w fun x7 w =>
    OPU Try.prog (Instr.storeAt 31 x7 x30) w fun w =>
    RD Try.prog (Instr.loadAt 39 x3) w fun x31 =>
    CALL Try.prog 23 [x31] w fun x32 w =>
    OP Try.prog (Instr.alloc 42 true (.tuple #[])) w fun x8 w =>
    OPU Try.prog (Instr.storeAt 42 x8 x32) w fun w =>
    RD Try.prog (Instr.loadAt 31 x7) w fun x33 =>
    RD Try.prog (Instr.loadAt 42 x8) w fun x34 =>
    CALL Try.prog 43 [x33, x34] w fun x35 w =>
    CALL Try.prog 20 [x35, x28] w fun x38 w =>
    RD Try.prog (Op.unary .not x38) w fun x39 =>
    BR x39
     (R (Value.bool false) w)
     ((fun w => RD Try.prog (Instr.loadAt 31 x7) w fun x40 =>
     RD Try.prog (Instr.loadAt 26 x2) w fun x41 =>
     (fun w_ => CALL Try.prog 16 [x41] w_ fun x42 w =>
     Ext w_ w ∧
     CALL Try.prog 19 [x40, x42] w fun x43 w =>
     RD Try.prog (Op.unary .not x43) w fun x44 =>
     BR x44
      (R (Value.bool false) w)
      ((fun w => RD Try.prog (Instr.loadAt 42 x8) w fun x45 =>
      RD Try.prog (Instr.loadAt 39 x3) w fun x46 =>
      (fun w_ => CALL Try.prog 23 [x46] w_ fun x47 w =>
      Ext w_ w ∧
      CALL Try.prog 25 [x45, x47] w fun x48 w =>
      RD Try.prog (Op.unary .not x48) w fun x49 =>
      BR x49
       (R (Value.bool false) w)
       (RD Try.prog (Instr.loadAt 31 x7) w fun x50 =>
       CALL Try.prog 28 [x50, (Value.int .i64 1)] w fun x52 w =>
       RD Try.prog (Instr.loadAt 42 x8) w fun x53 =>
       CALL Try.prog 29 [x53, x52] w fun x55 w =>
       RD Try.prog (bin .lss 3 (.tmp 0) (.const undef) x55 (Value.int .i64 0)) w fun x57 =>
       BR x57
       (R (Value.bool false) w)
       (CALL Try.prog 20 [x35, x28] w fun x61 w =>
       RD Try.prog (Op.unary .not x61) w fun x62 =>
       BR x62
        (R (Value.bool false) w)
        (CALL Try.prog 44 [x35, (Value.int .i64 1)] w fun x66 w =>
        CALL Try.prog 45 [x35, (Value.int .i64 1)] w fun x69 w =>
        RD Try.prog (bin .lss 3 (.tmp 0) (.const undef) x69 (Value.int .i64 0)) w fun x71 =>
        BR x71
         (R (Value.bool false) w)
         (RD Try.prog (bin .neq 3 (.tmp 0) (.tmp 0) x69 x66) w fun x74 =>
         BR x74
          (R (Value.bool false) w)
          ((fun w => RD Try.prog (Instr.loadAt 26 x2) w fun x75 =>
          RD Try.prog (Instr.loadAt 39 x3) w fun x77 =>
          (fun w_ => CALL Try.prog 16 [x75] w_ fun x76 w =>
          Ext w_ w ∧
          CALL Try.prog 23 [x77] w fun x78 w =>
          CALL Try.prog 43 [x76, x78] w fun x79 w =>
          CALL Try.prog 20 [x79, x28] w fun x82 w =>
          RD Try.prog (Op.unary .not x82) w fun x83 =>
          BR x83
           (R (Value.bool false) w)
           (CALL Try.prog 45 [x35, (Value.int .i64 1)] w fun x86 w =>
           RD Try.prog (bin .lss 3 (.tmp 0) (.const undef) x86 (Value.int .i64 0)) w fun x88 =>
           BR x88
            (R (Value.bool false) w)
            (RD Try.prog (bin .neq 3 (.tmp 0) (.tmp 0) x86 x66) w fun x91 =>
            BR x91
             (R (Value.bool false) w)
             (R (Value.bool true) w)))) w) (World.drew1 w))))))) w) (World.drew1 w))) w) (World.drew1 w))) w) (World.drew1 w)))
def cfg10 : Cfg := { ext := extL, joins := [], loops := [], draws := [(8, [0, 2, 1, 3, 4, 5], 2), (14, [0, 1, 2, 3, 4], 4), (16, [0, 1, 2, 3, 4], 4), (31, [0, 2, 1, 3, 4, 5], 2)], pars := [] }
theorem F10_eq (a0 a1 : Value) (w : World) (R : Value → World → Prop) : vcF Try.prog cfg10 Try.f10 [a0, a1] w R = F10 a0 a1 w R := by kernel_rfl
theorem F10_call {a0 a1 : Value} {w : World} {R : Value → World → Prop} (h : F10 a0 a1 w R) : CALL Try.prog 10 [a0, a1] w R :=
  call_of (g := cfg10) ent mixed Try.func10 (Nat.le_of_ble_eq_true (by kernel_rfl)) (by kernel_rfl) (F10_eq a0 a1 w R ▸ h)

/-- laws.FnExactKnotOf -/
def F11 (a0 a1 a2 : Value) (w : World) (R : Value → World → Prop) : Prop :=
  OP Try.prog (Instr.box 26 a0) w fun x3 w =>
  OP Try.prog (Instr.box 39 a1) w fun x4 w =>
  RD Try.prog (Instr.loadAt 26 x3) w fun x16 =>
  CALL Try.prog 14 [x16, (Value.int .i64 1048576)] w fun x18 w =>
  RD Try.prog (bin .lss 3 (.tmp 0) (.const undef) x18 (Value.int .i64 0)) w fun x20 =>
  BR x20
   (R (Value.bool true) w)
   (RD Try.prog (Instr.loadAt 39 x4) w fun x21 =>
   CALL Try.prog 21 [x21, x18] w fun x23 w =>
   RD Try.prog (bin .lss 3 (.tmp 0) (.const undef) x23 (Value.int .i64 0)) w fun x25 =>
   BR x25
    (R (Value.bool true) w)
    ((fun w => RD Try.prog (Instr.loadAt 26 x3) w fun x26 =>
    RD Try.prog (Instr.loadAt 39 x4) w fun x28 =>
    (fun w_ => CALL Try.prog 16 [x26] w_ fun x27 w =>
    Ext w_ w ∧
    (fun w_ => CALL Try.prog 23 [x28] w_ fun x29 w =>
    Ext w_ w ∧
    CALL Try.prog 46 [x27, x29, a2] w fun x31 w =>
    RD Try.prog (Instr.loadAt 26 x3) w fun x32 =>
    CALL Try.prog 16 [x32] w fun x33 w =>
    OP Try.prog (Instr.alloc 31 true (.tuple #[])) w fun x9 w =>
    OPU Try.prog (Instr.storeAt 31 x9 x33) w fun w =>
    RD Try.prog (Instr.loadAt 39 x4) w fun x34 =>
    CALL Try.prog 23 [x34] w fun x35 w =>
    OP Try.prog (Instr.alloc 42 true (.tuple #[])) w fun x10 w =>
    OPU Try.prog (Instr.storeAt 42 x10 x35) w fun w =>
    RD Try.prog (Instr.loadAt 31 x9) w fun x36 =>
    RD Try.prog (Instr.loadAt 42 x10) w fun x37 =>
    CALL Try.prog 47 [x36, x37, a2] w fun x39 w =>
    CALL Try.prog 20 [x39, x31] w fun x42 w =>
    RD Try.prog (Op.unary .not x42) w fun x43 =>
    BR x43
     (R (Value.bool false) w)
     ((fun w => RD Try.prog (Instr.loadAt 31 x9) w fun x44 =>
     RD Try.prog (Instr.loadAt 26 x3) w fun x45 =>
     (fun w_ => CALL Try.prog 16 [x45] w_ fun x46 w =>
     Ext w_ w ∧
     CALL Try.prog 19 [x44, x46] w fun x47 w =>
     RD Try.prog (Op.unary .not x47) w fun x48 =>
     BR x48
      (R (Value.bool false) w)
      ((fun w => RD Try.prog (Instr.loadAt 42 x10) w fun x49 =>
      RD Try.prog (Instr.loadAt 39 x4) w fun x50 =>
      (fun w_ => CALL Try.prog 23 [x50] w_ fun x51 w =>
      Ext w_ w ∧
      CALL Try.prog 25 [x49, x51] w fun x52 w =>
      RD Try.prog (Op.unary .not x52) w fun x53 =>
      BR x53
       (R (Value.bool false) w)
       (RD Try.prog (Instr.loadAt 31 x9) w fun x54 =>
       CALL Try.prog 28 [x54, (Value.int .i64 1)] w fun x56 w =>
       RD Try.prog (Instr.loadAt 42 x10) w fun x57 =>
       CALL Try.prog 29 [x57, x56] w fun x59 w =>
       RD Try.prog (bin .lss 3 (.tmp 0) (.const undef) x59 (Value.int .i64 0)) w fun x61 =>
       BR x61
       (R (Value.bool false) w)
       (CALL Try.prog 20 [x39, x31] w fun x65 w =>
       RD Try.prog (Op.unary .not x65) w fun x66 =>
       BR x66
        (R (Value.bool false) w)
        (CALL Try.prog 44 [x39, (Value.int .i64 1)] w fun x70 w =>
        CALL Try.prog 45 [x39, (Value.int .i64 1)] w fun x73 w =>
        RD Try.prog (bin .lss 3 (.tmp 0) (.const undef) x73 (Value.int .i64 0)) w fun x75 =>
        BR x75
         (R (Value.bool false) w)
         (RD Try.prog (bin .neq 3 (.tmp 0) (.tmp 0) x73 x70) w fun x78 =>
         BR x78
          (R (Value.bool false) w)
          ((fun w => RD Try.prog (Instr.loadAt 26 x3) w fun x79 =>
          RD Try.prog (Instr.loadAt 39 x4) w fun x81 =>
          (fun w_ => CALL Try.prog 16 [x79] w_ fun x80 w =>
          Ext w_ w ∧
          (fun w_ => CALL Try.prog 23 [x81] w_ fun x82 w =>
          Ext w_ w ∧
          CALL Try.prog 47 [x80, x82, a2] w fun x84 w =>
          CALL Try.prog 20 [x84, x31] w fun x87 w =>
          RD Try.prog (Op.unary .not x87) w fun x88 =>
          BR x88
           (R (Value.bool false) w)
           (CALL Try.prog 45 [x39, (Value.int .i64 1)] w fun x91 w =>
           RD Try.prog (bin .lss 3 (.tmp 0) (.const undef) x91 (Value.int .i64 0)) w fun x93 =>
           BR x93
            (R (Value.bool false) w)
            (RD Try.prog (bin .neq 3 (.tmp 0) (.tmp 0) x91 x70) w fun x96 =>
            BR x96
             (R (Value.bool false) w)
             (R (Value.bool true) w)))) w) w) (World.drew1 w))))))) w) (World.drew1 w))) w) (World.drew1 w))) w) w) (World.drew1 w)))
def cfg11 : Cfg := { ext := extL, joins := [], loops := [], draws := [(8, [0, 2, 4, 1, 3, 5, 6], 10), (14, [0, 1, 2, 3, 4], 4), (16, [0, 1, 2, 3, 4], 4), (31, [0, 2, 4, 1, 3, 5, 6], 10)], pars := [] }
theorem F11_eq (a0 a1 a2 : Value) (w : World) (R : Value → World → Prop) : vcF Try.prog cfg11 Try.f11 [a0, a1, a2] w R = F11 a0 a1 a2 w R := by kernel_rfl
theorem F11_call {a0 a1 a2 : Value} {w : World} {R : Value → World → Prop} (h : F11 a0 a1 a2 w R) : CALL Try.prog 11 [a0, a1, a2] w R :=
  call_of (g := cfg11) ent mixed Try.func11 (Nat.le_of_ble_eq_true (by kernel_rfl)) (by kernel_rfl) (F11_eq a0 a1 a2 w R ▸ h)

/-- laws.FnExactKnotIn -/
def F12 (a0 a1 : Value) (w : World) (R : Value → World → Prop) : Prop :=
  OP Try.prog (Instr.box 26 a0) w fun x2 w =>
  OP Try.prog (Instr.box 39 a1) w fun x3 w =>
  RD Try.prog (Instr.loadAt 26 x2) w fun x14 =>
  CALL Try.prog 14 [x14, (Value.int .i64 1048576)] w fun x16 w =>
  RD Try.prog (bin .lss 3 (.tmp 0) (.const undef) x16 (Value.int .i64 0)) w fun x18 =>
  BR x18
   (R (Value.bool true) w)
   (RD Try.prog (Instr.loadAt 39 x3) w fun x19 =>
   CALL Try.prog 21 [x19, x16] w fun x21 w =>
   RD Try.prog (bin .lss 3 (.tmp 0) (.const undef) x21 (Value.int .i64 0)) w fun x23 =>
   BR x23
    (R (Value.bool true) w)
    ((fun w => RD Try.prog (Instr.loadAt 26 x2) w fun x24 =>
    RD Try.prog (Instr.loadAt 39 x3) w fun x26 =>
    (fun w_ => CALL Try.prog 16 [x24] w_ fun x25 w =>
    Ext w_ w ∧
    CALL Try.prog 23 [x26] w fun x27 w =>
    CALL Try.prog 48 [x25, x27] w fun x28 w =>
    RD Try.prog (Instr.loadAt 26 x2) w fun x29 =>
    CALL Try.prog 16 [x29] w fun x30 w =>
    OP Try.prog (Instr.alloc 31 true (.tuple #[])) w fun x7 w =>
    OPU Try.prog (Instr.storeAt 31 x7 x30) w fun w =>
    RD Try.prog (Instr.loadAt 39 x3) w fun x31 =>
    CALL Try.prog 23 [x31] w fun x32 w =>
    OP Try.prog (Instr.alloc 42 true (.tuple #[])) w fun x8 w =>
    OPU Try.prog (Instr.storeAt 42 x8 x32) w fun w =>
    RD Try.prog (Instr.loadAt 31 x7) w fun x33 =>
    RD Try.prog (Instr.loadAt 42 x8) w fun x34 =>
    CALL Try.prog 49 [x33, x34] w fun x35 w =>
    CALL Try.prog 20 [x35, x28] w fun x38 w =>
    RD Try.prog (Op.unary .not x38) w fun x39 =>
    BR x39
     (R (Value.bool false) w)
     ((fun w => RD Try.prog (Instr.loadAt 31 x7) w fun x40 =>
     RD Try.prog (Instr.loadAt 26 x2) w fun x41 =>
     (fun w_ => CALL Try.prog 16 [x41] w_ fun x42 w =>
     Ext w_ w ∧
     CALL Try.prog 19 [x40, x42] w fun x43 w =>
     RD Try.prog (Op.unary .not x43) w fun x44 =>
     BR x44
      (R (Value.bool false) w)
      ((fun w => RD Try.prog (Instr.loadAt 42 x8) w fun x45 =>
      RD Try.prog (Instr.loadAt 39 x3) w fun x46 =>
      (fun w_ => CALL Try.prog 23 [x46] w_ fun x47 w =>
      Ext w_ w ∧
      CALL Try.prog 25 [x45, x47] w fun x48 w =>
      RD Try.prog (Op.unary .not x48) w fun x49 =>
      BR x49
       (R (Value.bool false) w)
       (RD Try.prog (Instr.loadAt 31 x7) w fun x50 =>
       CALL Try.prog 28 [x50, (Value.int .i64 1)] w fun x52 w =>
       RD Try.prog (Instr.loadAt 42 x8) w fun x53 =>
       CALL Try.prog 29 [x53, x52] w fun x55 w =>
       RD Try.prog (bin .lss 3 (.tmp 0) (.const undef) x55 (Value.int .i64 0)) w fun x57 =>
       BR x57
       (R (Value.bool false) w)
       (CALL Try.prog 20 [x35, x28] w fun x61 w =>
       RD Try.prog (Op.unary .not x61) w fun x62 =>
       BR x62
        (R (Value.bool false) w)
        (CALL Try.prog 44 [x35, (Value.int .i64 1)] w fun x66 w =>
        CALL Try.prog 45 [x35, (Value.int .i64 1)] w fun x69 w =>
        RD Try.prog (bin .lss 3 (.tmp 0) (.const undef) x69 (Value.int .i64 0)) w fun x71 =>
        BR x71
         (R (Value.bool false) w)
         (RD Try.prog (bin .neq 3 (.tmp 0) (.tmp 0) x69 x66) w fun x74 =>
         BR x74
          (R (Value.bool false) w)
          ((fun w => RD Try.prog (Instr.loadAt 26 x2) w fun x75 =>
          RD Try.prog (Instr.loadAt 39 x3) w fun x77 =>
          (fun w_ => CALL Try.prog 16 [x75] w_ fun x76 w =>
          Ext w_ w ∧
          CALL Try.prog 23 [x77] w fun x78 w =>
          CALL Try.prog 49 [x76, x78] w fun x79 w =>
          CALL Try.prog 20 [x79, x28] w fun x82 w =>
          RD Try.prog (Op.unary .not x82) w fun x83 =>
          BR x83
           (R (Value.bool false) w)
           (CALL Try.prog 45 [x35, (Value.int .i64 1)] w fun x86 w =>
           RD Try.prog (bin .lss 3 (.tmp 0) (.const undef) x86 (Value.int .i64 0)) w fun x88 =>
           BR x88
            (R (Value.bool false) w)
            (RD Try.prog (bin .neq 3 (.tmp 0) (.tmp 0) x86 x66) w fun x91 =>
            BR x91
             (R (Value.bool false) w)
             (R (Value.bool true) w)))) w) (World.drew1 w))))))) w) (World.drew1 w))) w) (World.drew1 w))) w) (World.drew1 w)))
def cfg12 : Cfg := { ext := extL, joins := [], loops := [], draws := [(8, [0, 2, 1, 3, 4, 5], 2), (14, [0, 1, 2, 3, 4], 4), (16, [0, 1, 2, 3, 4], 4), (31, [0, 2, 1, 3, 4, 5], 2)], pars := [] }
theorem F12_eq (a0 a1 : Value) (w : World) (R : Value → World → Prop) : vcF Try.prog cfg12 Try.f12 [a0, a1] w R = F12 a0 a1 w R := by kernel_rfl
theorem F12_call {a0 a1 : Value} {w : World} {R : Value → World → Prop} (h : F12 a0 a1 w R) : CALL Try.prog 12 [a0, a1] w R :=
  call_of (g := cfg12) ent mixed Try.func12 (Nat.le_of_ble_eq_true (by kernel_rfl)) (by kernel_rfl) (F12_eq a0 a1 w R ▸ h)

/-- laws.FnExactRunOf -/
def F13 (a0 a1 : Value) (w : World) (R : Value → World → Prop) : Prop :=
  OP Try.prog (Instr.box 26 a0) w fun x2 w =>
  RD Try.prog (Builtin.len_ #[23] 3 [a1].toArray) w fun x18 =>
  RD Try.prog (bin .gtr 3 (.tmp 0) (.const undef) x18 (Value.int .i64 1048576)) w fun x19 =>
  BR x19
   (R (Value.bool true) w)
   (RD Try.prog (Instr.loadAt 26 x2) w fun x20 =>
   CALL Try.prog 14 [x20, (Value.int .i64 1048576)] w fun x22 w =>
   RD Try.prog (bin .lss 3 (.tmp 0) (.const undef) x22 (Value.int .i64 0)) w fun x24 =>
   BR x24
    (R (Value.bool true) w)
    (RD Try.prog (Instr.loadAt 26 x2) w fun x26 =>
    CALL Try.prog 16 [x26] w fun x27 w =>
    CALL Try.prog 17 [a1] w fun x29 w =>
    CALL Try.prog 50 [x27, x29] w fun x30 w =>
    RD Try.prog (Instr.extract x30 0) w fun x31 =>
    RD Try.prog (Instr.extract x30 1) w fun x32 =>
    OP Try.prog (Instr.alloc 42 true (.tuple #[])) w fun x6 w =>
    OPU Try.prog (Instr.storeAt 42 x6 x31) w fun w =>
    RD Try.prog (Instr.loadAt 26 x2) w fun x33 =>
    CALL Try.prog 16 [x33] w fun x34 w =>
    OP Try.prog (Instr.alloc 31 true (.tuple #[])) w fun x8 w =>
    OPU Try.prog (Instr.storeAt 31 x8 x34) w fun w =>
    CALL Try.prog 17 [a1] w fun x36 w =>
    RD Try.prog (Instr.loadAt 31 x8) w fun x38 =>
    CALL Try.prog 51 [x38, x36] w fun x40 w =>
    RD Try.prog (Instr.extract x40 0) w fun x41 =>
    RD Try.prog (Instr.extract x40 1) w fun x42 =>
    OP Try.prog (Instr.alloc 42 true (.tuple #[])) w fun x10 w =>
    OPU Try.prog (Instr.storeAt 42 x10 x41) w fun w =>
    RD Try.prog (Instr.loadAt 42 x10) w fun x43 =>
    RD Try.prog (Instr.loadAt 42 x6) w fun x44 =>
    CALL Try.prog 25 [x43, x44] w fun x45 w =>
    RD Try.prog (Op.unary .not x45) w fun x46 =>
    BR x46
    (R (Value.bool false) w)
    (CALL Try.prog 20 [x42, x32] w fun x50 w =>
    RD Try.prog (Op.unary .not x50) w fun x51 =>
    BR x51
     (R (Value.bool false) w)
     ((fun w => RD Try.prog (Instr.loadAt 31 x8) w fun x53 =>
     RD Try.prog (Instr.loadAt 26 x2) w fun x54 =>
     (fun w_ => CALL Try.prog 16 [x54] w_ fun x55 w =>
     Ext w_ w ∧
     CALL Try.prog 19 [x53, x55] w fun x56 w =>
     RD Try.prog (Op.unary .not x56) w fun x57 =>
     BR x57
      (R (Value.bool false) w)
      (CALL Try.prog 17 [a1] w fun x60 w =>
      CALL Try.prog 20 [x36, x60] w fun x61 w =>
      RD Try.prog (Op.unary .not x61) w fun x62 =>
      BR x62
       (R (Value.bool false) w)
       (RD Try.prog (Instr.loadAt 31 x8) w fun x63 =>
       CALL Try.prog 28 [x63, (Value.int .i64 1)] w fun x65 w =>
       CALL Try.prog 44 [x36, x65] w fun x68 w =>
       RD Try.prog (bin .lss 3 (.tmp 0) (.const undef) x68 (Value.int .i64 0)) w fun x70 =>
       BR x70
       (R (Value.bool false) w)
       (RD Try.prog (Instr.loadAt 42 x10) w fun x72 =>
       RD Try.prog (Instr.loadAt 42 x6) w fun x73 =>
       CALL Try.prog 25 [x72, x73] w fun x74 w =>
       RD Try.prog (Op.unary .not x74) w fun x75 =>
       BR x75
       (R (Value.bool false) w)
       (CALL Try.prog 20 [x42, x32] w fun x80 w =>
       RD Try.prog (Op.unary .not x80) w fun x81 =>
       BR x81
        (R (Value.bool false) w)
        (RD Try.prog (Instr.loadAt 42 x10) w fun x83 =>
        CALL Try.prog 29 [x83, (Value.int .i64 1)] w fun x85 w =>
        CALL Try.prog 44 [x42, x85] w fun x88 w =>
        RD Try.prog (Instr.loadAt 42 x10) w fun x89 =>
        CALL Try.prog 30 [x89, (Value.int .i64 1)] w fun x91 w =>
        RD Try.prog (bin .lss 3 (.tmp 0) (.const undef) x91 (Value.int .i64 0)) w fun x93 =>
        BR x93
         (R (Value.bool false) w)
         (CALL Try.prog 45 [x42, x91] w fun x96 w =>
         RD Try.prog (bin .lss 3 (.tmp 0) (.const undef) x96 (Value.int .i64 0)) w fun x98 =>
         BR x98
          (R (Value.bool false) w)
          (RD Try.prog (bin .neq 3 (.tmp 0) (.tmp 0) x96 x88) w fun x101 =>
          BR x101
           (R (Value.bool false) w)
           (RD Try.prog (Instr.loadAt 26 x2) w fun x103 =>
           CALL Try.prog 16 [x103] w fun x104 w =>
           CALL Try.prog 17 [a1] w fun x106 w =>
           CALL Try.prog 51 [x104, x106] w fun x107 w =>
           RD Try.prog (Instr.extract x107 0) w fun x108 =>
           RD Try.prog (Instr.extract x107 1) w fun x109 =>
           OP Try.prog (Instr.alloc 42 true (.tuple #[])) w fun x15 w =>
           OPU Try.prog (Instr.storeAt 42 x15 x108) w fun w =>
           RD Try.prog (Instr.loadAt 42 x15) w fun x110 =>
           RD Try.prog (Instr.loadAt 42 x6) w fun x111 =>
           CALL Try.prog 25 [x110, x111] w fun x112 w =>
           RD Try.prog (Op.unary .not x112) w fun x113 =>
           BR x113
           (R (Value.bool false) w)
           (CALL Try.prog 20 [x109, x32] w fun x117 w =>
           RD Try.prog (Op.unary .not x117) w fun x118 =>
           BR x118
            (R (Value.bool false) w)
            (RD Try.prog (Instr.loadAt 42 x10) w fun x120 =>
            CALL Try.prog 30 [x120, (Value.int .i64 1)] w fun x122 w =>
            RD Try.prog (bin .lss 3 (.tmp 0) (.const undef) x122 (Value.int .i64 0)) w fun x124 =>
            BR x124
             (R (Value.bool false) w)
             (CALL Try.prog 45 [x42, x122] w fun x127 w =>
             RD Try.prog (bin .lss 3 (.tmp 0) (.const undef) x127 (Value.int .i64 0)) w fun x129 =>
             BR x129
              (R (Value.bool false) w)
              (RD Try.prog (bin .neq 3 (.tmp 0) (.tmp 0) x127 x88) w fun x132 =>
              BR x132
               (R (Value.bool false) w)
               (R (Value.bool true) w)))))))))))))) w) (World.drew1 w)))))
def cfg13 : Cfg := { ext := extL, joins := [], loops := [], draws := [(13, [0, 1, 2, 3, 4], 4)], pars := [] }
theorem F13_eq (a0 a1 : Value) (w : World) (R : Value → World → Prop) : vcF Try.prog cfg13 Try.f13 [a0, a1] w R = F13 a0 a1 w R := by kernel_rfl
theorem F13_call {a0 a1 : Value} {w : World} {R : Value → World → Prop} (h : F13 a0 a1 w R) : CALL Try.prog 13 [a0, a1] w R :=
  call_of (g := cfg13) ent mixed Try.func13 (Nat.le_of_ble_eq_true (by kernel_rfl)) (by kernel_rfl) (F13_eq a0 a1 w R ▸ h)

/-- laws.szCode -/
def F14 (a0 a1 : Value) (w : World) (R : Value → World → Prop) : Prop :=
  OP Try.prog (Instr.box 26 a0) w fun x2 w =>
  RD Try.prog (Instr.fieldAt 26 x2 0) w fun x5 =>
  RD Try.prog (Instr.loadAt 22 x5) w fun x6 =>
  CALL Try.prog 52 [x6, a1] w fun x8 w =>
  RD Try.prog (bin .lss 3 (.tmp 0) (.const undef) x8 (Value.int .i64 0)) w fun x10 =>
  BR x10
   (R (Value.int .i64 (-1)) w)
   (RD Try.prog (Instr.fieldAt 26 x2 1) w fun x11 =>
   RD Try.prog (Instr.loadAt 22 x11) w fun x12 =>
   CALL Try.prog 52 [x12, x8] w fun x14 w =>
   RD Try.prog (bin .lss 3 (.tmp 0) (.const undef) x14 (Value.int .i64 0)) w fun x16 =>
   BR x16
    (R (Value.int .i64 (-1)) w)
    (RD Try.prog (Instr.fieldAt 26 x2 2) w fun x17 =>
    RD Try.prog (Instr.loadAt 22 x17) w fun x18 =>
    CALL Try.prog 52 [x18, x14] w fun x20 w =>
    RD Try.prog (bin .lss 3 (.tmp 0) (.const undef) x20 (Value.int .i64 0)) w fun x22 =>
    BR x22
     (R (Value.int .i64 (-1)) w)
     (RD Try.prog (Instr.fieldAt 26 x2 3) w fun x23 =>
     RD Try.prog (Instr.loadAt 23 x23) w fun x24 =>
     CALL Try.prog 53 [x24, x20] w fun x26 w =>
     RD Try.prog (bin .lss 3 (.tmp 0) (.const undef) x26 (Value.int .i64 0)) w fun x28 =>
     BR x28
      (R (Value.int .i64 (-1)) w)
      (RD Try.prog (Instr.fieldAt 26 x2 4) w fun x29 =>
      RD Try.prog (Instr.loadAt 24 x29) w fun x30 =>
      CALL Try.prog 54 [x30, x26] w fun x32 w =>
      RD Try.prog (bin .lss 3 (.tmp 0) (.const undef) x32 (Value.int .i64 0)) w fun x34 =>
      BR x34
       (R (Value.int .i64 (-1)) w)
       (R x32 w)))))
def cfg14 : Cfg := { ext := extL, joins := [], loops := [], draws := [], pars := [] }
theorem F14_eq (a0 a1 : Value) (w : World) (R : Value → World → Prop) : vcF Try.prog cfg14 Try.f14 [a0, a1] w R = F14 a0 a1 w R := by kernel_rfl
theorem F14_call {a0 a1 : Value} {w : World} {R : Value → World → Prop} (h : F14 a0 a1 w R) : CALL Try.prog 14 [a0, a1] w R :=
  call_of (g := cfg14) ent mixed Try.func14 (Nat.le_of_ble_eq_true (by kernel_rfl)) (by kernel_rfl) (F14_eq a0 a1 w R ▸ h)

/-- spec.RoundLine -/
def F15 (a0 a1 : Value) (w : World) (R : Value → World → Prop) : Prop :=
  OP Try.prog (Instr.box 31 a0) w fun x2 w =>
  RD Try.prog (Instr.loadAt 31 x2) w fun x7 =>
  CALL Try.prog 55 [x7] w fun x8 w =>
  RD Try.prog (Op.unary .not x8) w fun x9 =>
  BR x9
  (R (Value.string (ByteArray.mk #[])) w)
  (RD Try.prog (Builtin.len_ #[23] 3 [a1].toArray) w fun x12 =>
  RD Try.prog (bin .eql 3 (.tmp 0) (.const undef) x12 (Value.int .i64 0)) w fun x13 =>
  BR x13
  (R (Value.string (ByteArray.mk #[])) w)
  (RD Try.prog (Builtin.len_ #[23] 3 [a1].toArray) w fun x17 =>
  RD Try.prog (bin .gtr 3 (.tmp 0) (.const undef) x17 (Value.int .i64 6)) w fun x18 =>
  BR x18
   (R (Value.string (ByteArray.mk #[])) w)
   (LOOPI [5, 6] [(Value.string (ByteArray.mk #[114, 111, 117, 110, 100])), (Value.int .i64 0)] w fun u5 w next5 =>
    RD Try.prog (Builtin.len_ #[23] 3 [a1].toArray) w fun x22 =>
    RD Try.prog (bin .lss 3 (.tmp 0) (.tmp 0) (u5 6) x22) w fun x23 =>
    BR x23
     ((fun w => RD Try.prog (Instr.indexAt 23 a1 (u5 6)) w fun x28 =>
     RD Try.prog (Instr.loadAt 3 x28) w fun x29 =>
     RD Try.prog (Instr.fieldAt 31 x2 1) w fun x30 =>
     RD Try.prog (Instr.loadAt 22 x30) w fun x31 =>
     RD Try.prog (Builtin.len_ #[22] 3 [x31].toArray) w fun x32 =>
     RD Try.prog (bin .sub 3 (.tmp 0) (.const undef) x32 (Value.int .i64 1)) w fun x33 =>
     CALL Try.prog 56 [x29, (Value.int .i64 0), x33] w fun x34 w =>
     RD Try.prog (Op.unary .not x34) w fun x35 =>
     BR x35
      (R (Value.string (ByteArray.mk #[])) w)
      ((fun w => RD Try.prog (bin .add 9 (.tmp 0) (.const undef) (u5 5) (Value.string (ByteArray.mk #[32]))) w fun x37 =>
      RD Try.prog (Instr.fieldAt 31 x2 1) w fun x38 =>
      RD Try.prog (Instr.loadAt 22 x38) w fun x39 =>
      RD Try.prog (Instr.indexAt 23 a1 (u5 6)) w fun x42 =>
      RD Try.prog (Instr.loadAt 3 x42) w fun x43 =>
      RD Try.prog (Instr.indexAt 22 x39 x43) w fun x44 =>
      RD Try.prog (Instr.loadAt 9 x44) w fun x45 =>
      RD Try.prog (bin .add 9 (.tmp 0) (.tmp 0) x37 x45) w fun x46 =>
      RD Try.prog (bin .add 3 (.tmp 0) (.const undef) (u5 6) (Value.int .i64 1)) w fun x25 =>
      next5 [x46, x25] w) (World.drew1 w))) (World.drew1 w))
     (RD Try.prog (bin .add 9 (.tmp 0) (.const undef) (u5 5) (Value.string (ByteArray.mk #[10]))) w fun x48 =>
     R x48 w))))
def cfg15 : Cfg := { ext := extL, joins := [], loops := [(5, 140737487306864, [5, 6])], draws := [(7, [0, 1, 2, 3, 4, 5, 6, 7, 8, 9], 0), (9, [0, 1, 2, 3, 4, 5, 6, 7, 8, 9, 10, 11], 0)], pars := [] }
theorem F15_eq (a0 a1 : Value) (w : World) (R : Value → World → Prop) : vcF Try.prog cfg15 Try.f15 [a0, a1] w R = F15 a0 a1 w R := by kernel_rfl
theorem F15_call {a0 a1 : Value} {w : World} {R : Value → World → Prop} (h : F15 a0 a1 w R) : CALL Try.prog 15 [a0, a1] w R :=
  call_of (g := cfg15) ent mixed Try.func15 (Nat.le_of_ble_eq_true (by kernel_rfl)) (by kernel_rfl) (F15_eq a0 a1 w R ▸ h)

/-- laws.toCode -/
def F16 (a0 : Value) (w : World) (R : Value → World → Prop) : Prop :=
  OP Try.prog (Instr.box 26 a0) w fun x1 w =>
  OP Try.prog (Instr.alloc 31 true (.tuple #[])) w fun x2 w =>
  OP Try.prog (Instr.alloc 31 true (.tuple #[])) w fun x3 w =>
  RD Try.prog (Instr.fieldAt 26 x1 0) w fun x4 =>
  RD Try.prog (Instr.loadAt 22 x4) w fun x5 =>
  CALL Try.prog 57 [x5] w fun x6 w =>
  RD Try.prog (Instr.fieldAt 31 x3 0) w fun x7 =>
  OPU Try.prog (Instr.storeAt 22 x7 x6) w fun w =>
  RD Try.prog (Instr.fieldAt 26 x1 1) w fun x8 =>
  RD Try.prog (Instr.loadAt 22 x8) w fun x9 =>
  CALL Try.prog 57 [x9] w fun x10 w =>
  RD Try.prog (Instr.fieldAt 31 x3 1) w fun x11 =>
  OPU Try.prog (Instr.storeAt 22 x11 x10) w fun w =>
  RD Try.prog (Instr.fieldAt 26 x1 2) w fun x12 =>
  RD Try.prog (Instr.loadAt 22 x12) w fun x13 =>
  CALL Try.prog 57 [x13] w fun x14 w =>
  RD Try.prog (Instr.fieldAt 31 x3 2) w fun x15 =>
  OPU Try.prog (Instr.storeAt 22 x15 x14) w fun w =>
  RD Try.prog (Instr.fieldAt 26 x1 3) w fun x16 =>
  RD Try.prog (Instr.loadAt 23 x16) w fun x17 =>
  CALL Try.prog 17 [x17] w fun x18 w =>
  RD Try.prog (Instr.fieldAt 31 x3 3) w fun x19 =>
  OPU Try.prog (Instr.storeAt 23 x19 x18) w fun w =>
  RD Try.prog (Instr.fieldAt 26 x1 4) w fun x20 =>
  RD Try.prog (Instr.loadAt 24 x20) w fun x21 =>
  CALL Try.prog 58 [x21] w fun x22 w =>
  RD Try.prog (Instr.fieldAt 31 x3 4) w fun x23 =>
  OPU Try.prog (Instr.storeAt 29 x23 x22) w fun w =>
  RD Try.prog (Instr.loadAt 31 x3) w fun x24 =>
  OPU Try.prog (Instr.storeAt 31 x2 x24) w fun w =>
  RD Try.prog (loadRes 31 x2) w fun r2 => R r2 w
def cfg16 : Cfg := { ext := extL, joins := [], loops := [], draws := [], pars := [] }
theorem F16_eq (a0 : Value) (w : World) (R : Value → World → Prop) : vcF Try.prog cfg16 Try.f16 [a0] w R = F16 a0 w R := by kernel_rfl
theorem F16_call {a0 : Value} {w : World} {R : Value → World → Prop} (h : F16 a0 w R) : CALL Try.prog 16 [a0] w R :=
  call_of (g := cfg16) ent mixed Try.func16 (Nat.le_of_ble_eq_true (by kernel_rfl)) (by kernel_rfl) (F16_eq a0 w R ▸ h)

/-- laws.toIntS -/
def F17 (a0 : Value) (w : World) (R : Value → World → Prop) : Prop :=
  RD Try.prog (Builtin.len_ #[23] 3 [a0].toArray) w fun x6 =>
  OP Try.prog (Instr.makeSlice 23 x6 x6) w fun x7 w =>
  LOOPI [4] [(Value.int .i64 0)] w fun u3 w next3 =>
   RD Try.prog (Builtin.len_ #[23] 3 [a0].toArray) w fun x10 =>
   RD Try.prog (bin .lss 3 (.tmp 0) (.tmp 0) (u3 4) x10) w fun x11 =>
   BR x11
    (RD Try.prog (Instr.indexAt 23 a0 (u3 4)) w fun x18 =>
    RD Try.prog (Instr.loadAt 3 x18) w fun x19 =>
    RD Try.prog (Instr.indexAt 23 x7 (u3 4)) w fun x20 =>
    OPU Try.prog (Instr.storeAt 3 x20 x19) w fun w =>
    RD Try.prog (bin .add 3 (.tmp 0) (.const undef) (u3 4) (Value.int .i64 1)) w fun x13 =>
    next3 [x13] w)
    (R x7 w)
def cfg17 : Cfg := { ext := extL, joins := [], loops := [(3, 2096912, [4])], draws := [], pars := [] }
theorem F17_eq (a0 : Value) (w : World) (R : Value → World → Prop) : vcF Try.prog cfg17 Try.f17 [a0] w R = F17 a0 w R := by kernel_rfl
theorem F17_call {a0 : Value} {w : World} {R : Value → World → Prop} (h : F17 a0 w R) : CALL Try.prog 17 [a0] w R :=
  call_of (g := cfg17) ent mixed Try.func17 (Nat.le_of_ble_eq_true (by kernel_rfl)) (by kernel_rfl) (F17_eq a0 w R ▸ h)

/-- impl.RoundLine -/
def F18 (a0 a1 : Value) (w : World) (R : Value → World → Prop) : Prop :=
  OP Try.prog (Instr.box 31 a0) w fun x2 w =>
  RD Try.prog (Builtin.len_ #[23] 3 [a1].toArray) w fun x9 =>
  RD Try.prog (bin .eql 3 (.tmp 0) (.const undef) x9 (Value.int .i64 0)) w fun x10 =>
  BR x10
  (R (Value.string (ByteArray.mk #[])) w)
  (RD Try.prog (Builtin.len_ #[23] 3 [a1].toArray) w fun x13 =>
  RD Try.prog (bin .gtr 3 (.tmp 0) (.const undef) x13 (Value.int .i64 6)) w fun x14 =>
  BR x14
  (R (Value.string (ByteArray.mk #[])) w)
  (RD Try.prog (Instr.loadAt 31 x2) w fun x17 =>
  CALL Try.prog 59 [x17] w fun x18 w =>
  RD Try.prog (Op.unary .not x18) w fun x19 =>
  BR x19
   (R (Value.string (ByteArray.mk #[])) w)
   (RD Try.prog (Builtin.len_ #[23] 3 [a1].toArray) w fun x22 =>
   LOOPI [5, 23] [(Value.string (ByteArray.mk #[114, 111, 117, 110, 100])), (Value.int .i64 0)] w fun u5 w next5 =>
    RD Try.prog (bin .lss 3 (.tmp 0) (.tmp 0) (u5 23) x22) w fun x24 =>
    BR x24
     (RD Try.prog (Instr.indexAt 23 a1 (u5 23)) w fun x25 =>
     RD Try.prog (Instr.loadAt 3 x25) w fun x26 =>
     RD Try.prog (bin .lss 3 (.tmp 0) (.const undef) x26 (Value.int .i64 0)) w fun x28 =>
     BR x28
     (R (Value.string (ByteArray.mk #[])) w)
     (RD Try.prog (Instr.fieldAt 31 x2 1) w fun x31 =>
     RD Try.prog (Instr.loadAt 22 x31) w fun x32 =>
     RD Try.prog (Builtin.len_ #[22] 3 [x32].toArray) w fun x33 =>
     RD Try.prog (bin .geq 3 (.tmp 0) (.tmp 0) x26 x33) w fun x34 =>
     BR x34
      (R (Value.string (ByteArray.mk #[])) w)
      (RD Try.prog (Instr.fieldAt 31 x2 1) w fun x37 =>
      RD Try.prog (Instr.loadAt 22 x37) w fun x38 =>
      RD Try.prog (Instr.indexAt 22 x38 x26) w fun x40 =>
      RD Try.prog (Instr.loadAt 9 x40) w fun x41 =>
      RD Try.prog (bin .add 9 (.const undef) (.tmp 0) (Value.string (ByteArray.mk #[32])) x41) w fun x42 =>
      RD Try.prog (bin .add 9 (.tmp 0) (.tmp 0) (u5 5) x42) w fun x43 =>
      RD Try.prog (bin .add 3 (.tmp 0) (.const undef) (u5 23) (Value.int .i64 1)) w fun x44 =>
      next5 [x43, x44] w)))
     (RD Try.prog (bin .add 9 (.tmp 0) (.const undef) (u5 5) (Value.string (ByteArray.mk #[10]))) w fun x46 =>
     R x46 w))))
def cfg18 : Cfg := { ext := extL, joins := [], loops := [(5, 35184363700400, [5, 23])], draws := [], pars := [] }
theorem F18_eq (a0 a1 : Value) (w : World) (R : Value → World → Prop) : vcF Try.prog cfg18 Try.f18 [a0, a1] w R = F18 a0 a1 w R := by kernel_rfl
theorem F18_call {a0 a1 : Value} {w : World} {R : Value → World → Prop} (h : F18 a0 a1 w R) : CALL Try.prog 18 [a0, a1] w R :=
  call_of (g := cfg18) ent mixed Try.func18 (Nat.le_of_ble_eq_true (by kernel_rfl)) (by kernel_rfl) (F18_eq a0 a1 w R ▸ h)

/-- laws.eqCode -/
def F19 (a0 a1 : Value) (w : World) (R : Value → World → Prop) : Prop :=
  OP Try.prog (Instr.box 31 a0) w fun x2 w =>
  OP Try.prog (Instr.box 31 a1) w fun x3 w =>
  RD Try.prog (Instr.fieldAt 31 x2 0) w fun x5 =>
  RD Try.prog (Instr.loadAt 22 x5) w fun x6 =>
  RD Try.prog (Instr.fieldAt 31 x3 0) w fun x7 =>
  RD Try.prog (Instr.loadAt 22 x7) w fun x8 =>
  CALL Try.prog 60 [x6, x8] w fun x9 w =>
  RD Try.prog (Op.unary .not x9) w fun x10 =>
  BR x10
   (R (Value.bool false) w)
   (RD Try.prog (Instr.fieldAt 31 x2 1) w fun x11 =>
   RD Try.prog (Instr.loadAt 22 x11) w fun x12 =>
   RD Try.prog (Instr.fieldAt 31 x3 1) w fun x13 =>
   RD Try.prog (Instr.loadAt 22 x13) w fun x14 =>
   CALL Try.prog 60 [x12, x14] w fun x15 w =>
   RD Try.prog (Op.unary .not x15) w fun x16 =>
   BR x16
    (R (Value.bool false) w)
    (RD Try.prog (Instr.fieldAt 31 x2 2) w fun x17 =>
    RD Try.prog (Instr.loadAt 22 x17) w fun x18 =>
    RD Try.prog (Instr.fieldAt 31 x3 2) w fun x19 =>
    RD Try.prog (Instr.loadAt 22 x19) w fun x20 =>
    CALL Try.prog 60 [x18, x20] w fun x21 w =>
    RD Try.prog (Op.unary .not x21) w fun x22 =>
    BR x22
     (R (Value.bool false) w)
     (RD Try.prog (Instr.fieldAt 31 x2 3) w fun x23 =>
     RD Try.prog (Instr.loadAt 23 x23) w fun x24 =>
     RD Try.prog (Instr.fieldAt 31 x3 3) w fun x25 =>
     RD Try.prog (Instr.loadAt 23 x25) w fun x26 =>
     CALL Try.prog 20 [x24, x26] w fun x27 w =>
     RD Try.prog (Op.unary .not x27) w fun x28 =>
     BR x28
      (R (Value.bool false) w)
      (RD Try.prog (Instr.fieldAt 31 x2 4) w fun x29 =>
      RD Try.prog (Instr.loadAt 29 x29) w fun x30 =>
      RD Try.prog (Instr.fieldAt 31 x3 4) w fun x31 =>
      RD Try.prog (Instr.loadAt 29 x31) w fun x32 =>
      CALL Try.prog 61 [x30, x32] w fun x33 w =>
      RD Try.prog (Op.unary .not x33) w fun x34 =>
      BR x34
       (R (Value.bool false) w)
       (R (Value.bool true) w)))))
def cfg19 : Cfg := { ext := extL, joins := [], loops := [], draws := [], pars := [] }
theorem F19_eq (a0 a1 : Value) (w : World) (R : Value → World → Prop) : vcF Try.prog cfg19 Try.f19 [a0, a1] w R = F19 a0 a1 w R := by kernel_rfl
theorem F19_call {a0 a1 : Value} {w : World} {R : Value → World → Prop} (h : F19 a0 a1 w R) : CALL Try.prog 19 [a0, a1] w R :=
  call_of (g := cfg19) ent mixed Try.func19 (Nat.le_of_ble_eq_true (by kernel_rfl)) (by kernel_rfl) (F19_eq a0 a1 w R ▸ h)

/-- laws.eqIntS -/
def F20 (a0 a1 : Value) (w : World) (R : Value → World → Prop) : Prop :=
  RD Try.prog (Builtin.len_ #[23] 3 [a0].toArray) w fun x7 =>
  RD Try.prog (Builtin.len_ #[23] 3 [a1].toArray) w fun x9 =>
  RD Try.prog (bin .neq 3 (.tmp 0) (.tmp 0) x7 x9) w fun x10 =>
  BR x10
   (R (Value.bool false) w)
   (LOOPI [5] [(Value.int .i64 0)] w fun u4 w next4 =>
    RD Try.prog (Builtin.len_ #[23] 3 [a0].toArray) w fun x13 =>
    RD Try.prog (bin .lss 3 (.tmp 0) (.tmp 0) (u4 5) x13) w fun x14 =>
    BR x14
     ((fun w => RD Try.prog (Instr.indexAt 23 a0 (u4 5)) w fun x19 =>
     RD Try.prog (Instr.loadAt 3 x19) w fun x20 =>
     RD Try.prog (Instr.indexAt 23 a1 (u4 5)) w fun x23 =>
     RD Try.prog (Instr.loadAt 3 x23) w fun x24 =>
     RD Try.prog (bin .neq 3 (.tmp 0) (.tmp 0) x20 x24) w fun x25 =>
     BR x25
      (R (Value.bool false) w)
      (RD Try.prog (bin .add 3 (.tmp 0) (.const undef) (u4 5) (Value.int .i64 1)) w fun x16 =>
      next4 [x16] w)) (World.drew1 w))
     (R (Value.bool true) w))
def cfg20 : Cfg := { ext := extL, joins := [], loops := [(4, 67106864, [5])], draws := [(6, [0, 1, 2, 3, 4, 5, 6, 7, 8], 0)], pars := [] }
theorem F20_eq (a0 a1 : Value) (w : World) (R : Value → World → Prop) : vcF Try.prog cfg20 Try.f20 [a0, a1] w R = F20 a0 a1 w R := by kernel_rfl
theorem F20_call {a0 a1 : Value} {w : World} {R : Value → World → Prop} (h : F20 a0 a1 w R) : CALL Try.prog 20 [a0, a1] w R :=
  call_of (g := cfg20) ent mixed Try.func20 (Nat.le_of_ble_eq_true (by kernel_rfl)) (by kernel_rfl) (F20_eq a0 a1 w R ▸ h)

/-- laws.szState -/
def F21 (a0 a1 : Value) (w : World) (R : Value → World → Prop) : Prop :=
  OP Try.prog (Instr.box 39 a0) w fun x2 w =>
  RD Try.prog (Instr.fieldAt 39 x2 0) w fun x5 =>
  RD Try.prog (Instr.loadAt 23 x5) w fun x6 =>
  CALL Try.prog 53 [x6, a1] w fun x8 w =>
  RD Try.prog (bin .lss 3 (.tmp 0) (.const undef) x8 (Value.int .i64 0)) w fun x10 =>
  BR x10
   (R (Value.int .i64 (-1)) w)
   (RD Try.prog (Instr.fieldAt 39 x2 1) w fun x11 =>
   RD Try.prog (Instr.loadAt 23 x11) w fun x12 =>
   CALL Try.prog 53 [x12, x8] w fun x14 w =>
   RD Try.prog (bin .lss 3 (.tmp 0) (.const undef) x14 (Value.int .i64 0)) w fun x16 =>
   BR x16
    (R (Value.int .i64 (-1)) w)
    (RD Try.prog (Instr.fieldAt 39 x2 2) w fun x17 =>
    RD Try.prog (Instr.loadAt 37 x17) w fun x18 =>
    CALL Try.prog 62 [x18, x14] w fun x20 w =>
    RD Try.prog (bin .lss 3 (.tmp 0) (.const undef) x20 (Value.int .i64 0)) w fun x22 =>
    BR x22
     (R (Value.int .i64 (-1)) w)
     (R x20 w)))
def cfg21 : Cfg := { ext := extL, joins := [], loops := [], draws := [], pars := [] }
theorem F21_eq (a0 a1 : Value) (w : World) (R : Value → World → Prop) : vcF Try.prog cfg21 Try.f21 [a0, a1] w R = F21 a0 a1 w R := by kernel_rfl
theorem F21_call {a0 a1 : Value} {w : World} {R : Value → World → Prop} (h : F21 a0 a1 w R) : CALL Try.prog 21 [a0, a1] w R :=
  call_of (g := cfg21) ent mixed Try.func21 (Nat.le_of_ble_eq_true (by kernel_rfl)) (by kernel_rfl) (F21_eq a0 a1 w R ▸ h)

/-- spec.StateOk -/
def F22 (a0 a1 : Value) (w : World) (R : Value → World → Prop) : Prop :=
  OP Try.prog (Instr.box 31 a0) w fun x2 w =>
  OP Try.prog (Instr.box 42 a1) w fun x3 w =>
  RD Try.prog (Instr.loadAt 31 x2) w fun x5 =>
  CALL Try.prog 55 [x5] w fun x6 w =>
  BR x6
  (RD Try.prog (Instr.loadAt 31 x2) w fun x8 =>
  RD Try.prog (Instr.loadAt 42 x3) w fun x9 =>
  CALL Try.prog 63 [x8, x9] w fun x10 w =>
  R x10 w)
  (R (Value.bool false) w)
def cfg22 : Cfg := { ext := extL, joins := [], loops := [], draws := [], pars := [] }
theorem F22_eq (a0 a1 : Value) (w : World) (R : Value → World → Prop) : vcF Try.prog cfg22 Try.f22 [a0, a1] w R = F22 a0 a1 w R := by kernel_rfl
theorem F22_call {a0 a1 : Value} {w : World} {R : Value → World → Prop} (h : F22 a0 a1 w R) : CALL Try.prog 22 [a0, a1] w R :=
  call_of (g := cfg22) ent mixed Try.func22 (Nat.le_of_ble_eq_true (by kernel_rfl)) (by kernel_rfl) (F22_eq a0 a1 w R ▸ h)

/-- laws.toState -/
def F23 (a0 : Value) (w : World) (R : Value → World → Prop) : Prop :=
  OP Try.prog (Instr.box 39 a0) w fun x1 w =>
  OP Try.prog (Instr.alloc 42 true (.tuple #[])) w fun x2 w =>
  OP Try.prog (Instr.alloc 42 true (.tuple #[])) w fun x3 w =>
  RD Try.prog (Instr.fieldAt 39 x1 0) w fun x4 =>
  RD Try.prog (Instr.loadAt 23 x4) w fun x5 =>
  CALL Try.prog 17 [x5] w fun x6 w =>
  RD Try.prog (Instr.fieldAt 42 x3 0) w fun x7 =>
  OPU Try.prog (Instr.storeAt 23 x7 x6) w fun w =>
  RD Try.prog (Instr.fieldAt 39 x1 1) w fun x8 =>
  RD Try.prog (Instr.loadAt 23 x8) w fun x9 =>
  CALL Try.prog 17 [x9] w fun x10 w =>
  RD Try.prog (Instr.fieldAt 42 x3 1) w fun x11 =>
  OPU Try.prog (Instr.storeAt 23 x11 x10) w fun w =>
  RD Try.prog (Instr.fieldAt 39 x1 2) w fun x12 =>
  RD Try.prog (Instr.loadAt 37 x12) w fun x13 =>
  CALL Try.prog 64 [x13] w fun x14 w =>
  RD Try.prog (Instr.fieldAt 42 x3 2) w fun x15 =>
  OPU Try.prog (Instr.storeAt 37 x15 x14) w fun w =>
  RD Try.prog (Instr.loadAt 42 x3) w fun x16 =>
  OPU Try.prog (Instr.storeAt 42 x2 x16) w fun w =>
  RD Try.prog (loadRes 42 x2) w fun r2 => R r2 w
def cfg23 : Cfg := { ext := extL, joins := [], loops := [], draws := [], pars := [] }
theorem F23_eq (a0 : Value) (w : World) (R : Value → World → Prop) : vcF Try.prog cfg23 Try.f23 [a0] w R = F23 a0 w R := by kernel_rfl
theorem F23_call {a0 : Value} {w : World} {R : Value → World → Prop} (h : F23 a0 w R) : CALL Try.prog 23 [a0] w R :=
  call_of (g := cfg23) ent mixed Try.func23 (Nat.le_of_ble_eq_true (by kernel_rfl)) (by kernel_rfl) (F23_eq a0 w R ▸ h)

/-- impl.StateOk -/
def F24 (a0 a1 : Value) (w : World) (R : Value → World → Prop) : Prop :=
  OP Try.prog (Instr.box 31 a0) w fun x2 w =>
  OP Try.prog (Instr.box 42 a1) w fun x3 w =>
  RD Try.prog (Instr.loadAt 31 x2) w fun x5 =>
  CALL Try.prog 59 [x5] w fun x6 w =>
  BR x6
  (RD Try.prog (Instr.loadAt 31 x2) w fun x8 =>
  RD Try.prog (Instr.loadAt 42 x3) w fun x9 =>
  CALL Try.prog 65 [x8, x9] w fun x10 w =>
  R x10 w)
  (R (Value.bool false) w)
def cfg24 : Cfg := { ext := extL, joins := [], loops := [], draws := [], pars := [] }
theorem F24_eq (a0 a1 : Value) (w : World) (R : Value → World → Prop) : vcF Try.prog cfg24 Try.f24 [a0, a1] w R = F24 a0 a1 w R := by kernel_rfl
theorem F24_call {a0 a1 : Value} {w : World} {R : Value → World → Prop} (h : F24 a0 a1 w R) : CALL Try.prog 24 [a0, a1] w R :=
  call_of (g := cfg24) ent mixed Try.func24 (Nat.le_of_ble_eq_true (by kernel_rfl)) (by kernel_rfl) (F24_eq a0 a1 w R ▸ h)

/-- laws.eqState -/
def F25 (a0 a1 : Value) (w : World) (R : Value → World → Prop) : Prop :=
  OP Try.prog (Instr.box 42 a0) w fun x2 w =>
  OP Try.prog (Instr.box 42 a1) w fun x3 w =>
  RD Try.prog (Instr.fieldAt 42 x2 0) w fun x5 =>
  RD Try.prog (Instr.loadAt 23 x5) w fun x6 =>
  RD Try.prog (Instr.fieldAt 42 x3 0) w fun x7 =>
  RD Try.prog (Instr.loadAt 23 x7) w fun x8 =>
  CALL Try.prog 20 [x6, x8] w fun x9 w =>
  RD Try.prog (Op.unary .not x9) w fun x10 =>
  BR x10
   (R (Value.bool false) w)
   (RD Try.prog (Instr.fieldAt 42 x2 1) w fun x11 =>
   RD Try.prog (Instr.loadAt 23 x11) w fun x12 =>
   RD Try.prog (Instr.fieldAt 42 x3 1) w fun x13 =>
   RD Try.prog (Instr.loadAt 23 x13) w fun x14 =>
   CALL Try.prog 20 [x12, x14] w fun x15 w =>
   RD Try.prog (Op.unary .not x15) w fun x16 =>
   BR x16
    (R (Value.bool false) w)
    (RD Try.prog (Instr.fieldAt 42 x2 2) w fun x17 =>
    RD Try.prog (Instr.loadAt 37 x17) w fun x18 =>
    RD Try.prog (Instr.fieldAt 42 x3 2) w fun x19 =>
    RD Try.prog (Instr.loadAt 37 x19) w fun x20 =>
    CALL Try.prog 66 [x18, x20] w fun x21 w =>
    RD Try.prog (Op.unary .not x21) w fun x22 =>
    BR x22
     (R (Value.bool false) w)
     (R (Value.bool true) w)))
def cfg25 : Cfg := { ext := extL, joins := [], loops := [], draws := [], pars := [] }
theorem F25_eq (a0 a1 : Value) (w : World) (R : Value → World → Prop) : vcF Try.prog cfg25 Try.f25 [a0, a1] w R = F25 a0 a1 w R := by kernel_rfl
theorem F25_call {a0 a1 : Value} {w : World} {R : Value → World → Prop} (h : F25 a0 a1 w R) : CALL Try.prog 25 [a0, a1] w R :=
  call_of (g := cfg25) ent mixed Try.func25 (Nat.le_of_ble_eq_true (by kernel_rfl)) (by kernel_rfl) (F25_eq a0 a1 w R ▸ h)

/-- spec.StartOf -/
def F26 (a0 : Value) (w : World) (R : Value → World → Prop) : Prop :=
  OP Try.prog (Instr.box 31 a0) w fun x1 w =>
  OP Try.prog (Instr.alloc 42 true (.tuple #[])) w fun x2 w =>
  RD Try.prog (Instr.loadAt 31 x1) w fun x5 =>
  CALL Try.prog 55 [x5] w fun x6 w =>
  RD Try.prog (Op.unary .not x6) w fun x7 =>
  BR x7
   (RD Try.prog (Instr.build 42 #[]) w fun x8 =>
   OPU Try.prog (Instr.storeAt 42 x2 x8) w fun w =>
   RD Try.prog (loadRes 42 x2) w fun r2 => R r2 w)
   (RD Try.prog (Instr.fieldAt 31 x1 0) w fun x9 =>
   RD Try.prog (Instr.loadAt 22 x9) w fun x10 =>
   RD Try.prog (Builtin.len_ #[22] 3 [x10].toArray) w fun x11 =>
   OP Try.prog (Instr.makeSlice 23 x11 x11) w fun x12 w =>
   RD Try.prog (Instr.build 42 #[(0, x12)]) w fun x13 =>
   OP Try.prog (Instr.alloc 42 true (.tuple #[])) w fun x3 w =>
   OPU Try.prog (Instr.storeAt 42 x3 x13) w fun w =>
   LOOPI [4] [(Value.int .i64 0)] w fun u5 w next5 =>
    RD Try.prog (Instr.fieldAt 31 x1 1) w fun x15 =>
    RD Try.prog (Instr.loadAt 22 x15) w fun x16 =>
    RD Try.prog (Builtin.len_ #[22] 3 [x16].toArray) w fun x17 =>
    RD Try.prog (bin .lss 3 (.tmp 0) (.tmp 0) (u5 4) x17) w fun x18 =>
    BR x18
     (RD Try.prog (Instr.fieldAt 42 x3 1) w fun x21 =>
     RD Try.prog (Instr.loadAt 23 x21) w fun x22 =>
     OP Try.prog (Instr.buildSlice 23 1 #[(0, (Value.int .i64 (-1)))]) w fun x23 w =>
     OP Try.prog (Builtin.append_ #[23, 23] 23 [x22, x23].toArray) w fun x24 w =>
     RD Try.prog (Instr.fieldAt 42 x3 1) w fun x25 =>
     OPU Try.prog (Instr.storeAt 23 x25 x24) w fun w =>
     RD Try.prog (bin .add 3 (.tmp 0) (.const undef) (u5 4) (Value.int .i64 1)) w fun x20 =>
     next5 [x20] w)
     ((fun w => RD Try.prog (Instr.fieldAt 42 x3 2) w fun x26 =>
     RD Try.prog (Instr.loadAt 37 x26) w fun x27 =>
     RD Try.prog (Instr.fieldAt 31 x1 3) w fun x28 =>
     RD Try.prog (Instr.loadAt 23 x28) w fun x29 =>
     RD Try.prog (Instr.loadAt 31 x1) w fun x30 =>
     (fun w_ => CALL Try.prog 67 [x30] w_ fun x31 w =>
     Ext w_ w ∧
     RD Try.prog (Instr.indexAt 23 x29 x31) w fun x32 =>
     RD Try.prog (Instr.loadAt 3 x32) w fun x33 =>
     (fun w_ => OP Try.prog (Instr.buildSlice 23 1 #[(0, x33)]) w_ fun x34 w =>
     Ext w_ w ∧
     (fun w_ => OP Try.prog (Instr.buildSlice 37 1 #[(0, x34)]) w_ fun x35 w =>
     Ext w_ w ∧
     OP Try.prog (Builtin.append_ #[37, 37] 37 [x27, x35].toArray) w fun x36 w =>
     RD Try.prog (Instr.fieldAt 42 x3 2) w fun x37 =>
     OPU Try.prog (Instr.storeAt 37 x37 x36) w fun w =>
     RD Try.prog (Instr.loadAt 42 x3) w fun x38 =>
     OPU Try.prog (Instr.storeAt 42 x2 x38) w fun w =>
     RD Try.prog (loadRes 42 x2) w fun r2 => R r2 w) w) w) w) (World.drew1 w)))
def cfg26 : Cfg := { ext := extL, joins := [], loops := [(5, 67092496, [4])], draws := [(8, [0, 1, 2, 3, 4, 5, 6, 7, 8, 9, 10, 11, 12], 800)], pars := [] }
theorem F26_eq (a0 : Value) (w : World) (R : Value → World → Prop) : vcF Try.prog cfg26 Try.f26 [a0] w R = F26 a0 w R := by kernel_rfl
theorem F26_call {a0 : Value} {w : World} {R : Value → World → Prop} (h : F26 a0 w R) : CALL Try.prog 26 [a0] w R :=
  call_of (g := cfg26) ent mixed Try.func26 (Nat.le_of_ble_eq_true (by kernel_rfl)) (by kernel_rfl) (F26_eq a0 w R ▸ h)

/-- impl.StartOf -/
def F27 (a0 : Value) (w : World) (R : Value → World → Prop) : Prop :=
  OP Try.prog (Instr.box 31 a0) w fun x1 w =>
  OP Try.prog (Instr.alloc 42 true (.tuple #[])) w fun x2 w =>
  RD Try.prog (Instr.loadAt 31 x1) w fun x3 =>
  CALL Try.prog 59 [x3] w fun x4 w =>
  RD Try.prog (Op.unary .not x4) w fun x5 =>
  BR x5
   (RD Try.prog (Instr.build 42 #[]) w fun x6 =>
   OPU Try.prog (Instr.storeAt 42 x2 x6) w fun w =>
   RD Try.prog (loadRes 42 x2) w fun r2 => R r2 w)
   (RD Try.prog (Instr.loadAt 31 x1) w fun x7 =>
   CALL Try.prog 68 [x7] w fun x8 w =>
   OPU Try.prog (Instr.storeAt 42 x2 x8) w fun w =>
   RD Try.prog (loadRes 42 x2) w fun r2 => R r2 w)
def cfg27 : Cfg := { ext := extL, joins := [], loops := [], draws := [], pars := [] }
theorem F27_eq (a0 : Value) (w : World) (R : Value → World → Prop) : vcF Try.prog cfg27 Try.f27 [a0] w R = F27 a0 w R := by kernel_rfl
theorem F27_call {a0 : Value} {w : World} {R : Value → World → Prop} (h : F27 a0 w R) : CALL Try.prog 27 [a0] w R :=
  call_of (g := cfg27) ent mixed Try.func27 (Nat.le_of_ble_eq_true (by kernel_rfl)) (by kernel_rfl) (F27_eq a0 w R ▸ h)

/-- laws.markCode -/
def F28 (a0 a1 : Value) (w : World) (R : Value → World → Prop) : Prop :=
  OP Try.prog (Instr.box 31 a0) w fun x2 w =>
  RD Try.prog (Instr.fieldAt 31 x2 0) w fun x5 =>
  RD Try.prog (Instr.loadAt 22 x5) w fun x6 =>
  CALL Try.prog 69 [x6, a1] w fun x8 w =>
  RD Try.prog (Instr.fieldAt 31 x2 1) w fun x9 =>
  RD Try.prog (Instr.loadAt 22 x9) w fun x10 =>
  CALL Try.prog 69 [x10, x8] w fun x12 w =>
  RD Try.prog (Instr.fieldAt 31 x2 2) w fun x13 =>
  RD Try.prog (Instr.loadAt 22 x13) w fun x14 =>
  CALL Try.prog 69 [x14, x12] w fun x16 w =>
  RD Try.prog (Instr.fieldAt 31 x2 3) w fun x17 =>
  RD Try.prog (Instr.loadAt 23 x17) w fun x18 =>
  CALL Try.prog 44 [x18, x16] w fun x20 w =>
  RD Try.prog (Instr.fieldAt 31 x2 4) w fun x21 =>
  RD Try.prog (Instr.loadAt 29 x21) w fun x22 =>
  CALL Try.prog 70 [x22, x20] w fun x24 w =>
  R x24 w
def cfg28 : Cfg := { ext := extL, joins := [], loops := [], draws := [], pars := [] }
theorem F28_eq (a0 a1 : Value) (w : World) (R : Value → World → Prop) : vcF Try.prog cfg28 Try.f28 [a0, a1] w R = F28 a0 a1 w R := by kernel_rfl
theorem F28_call {a0 a1 : Value} {w : World} {R : Value → World → Prop} (h : F28 a0 a1 w R) : CALL Try.prog 28 [a0, a1] w R :=
  call_of (g := cfg28) ent mixed Try.func28 (Nat.le_of_ble_eq_true (by kernel_rfl)) (by kernel_rfl) (F28_eq a0 a1 w R ▸ h)

/-- laws.markState -/
def F29 (a0 a1 : Value) (w : World) (R : Value → World → Prop) : Prop :=
  OP Try.prog (Instr.box 42 a0) w fun x2 w =>
  RD Try.prog (Instr.fieldAt 42 x2 0) w fun x5 =>
  RD Try.prog (Instr.loadAt 23 x5) w fun x6 =>
  CALL Try.prog 44 [x6, a1] w fun x8 w =>
  RD Try.prog (Instr.fieldAt 42 x2 1) w fun x9 =>
  RD Try.prog (Instr.loadAt 23 x9) w fun x10 =>
  CALL Try.prog 44 [x10, x8] w fun x12 w =>
  RD Try.prog (Instr.fieldAt 42 x2 2) w fun x13 =>
  RD Try.prog (Instr.loadAt 37 x13) w fun x14 =>
  CALL Try.prog 71 [x14, x12] w fun x16 w =>
  R x16 w
def cfg29 : Cfg := { ext := extL, joins := [], loops := [], draws := [], pars := [] }
theorem F29_eq (a0 a1 : Value) (w : World) (R : Value → World → Prop) : vcF Try.prog cfg29 Try.f29 [a0, a1] w R = F29 a0 a1 w R := by kernel_rfl
theorem F29_call {a0 a1 : Value} {w : World} {R : Value → World → Prop} (h : F29 a0 a1 w R) : CALL Try.prog 29 [a0, a1] w R :=
  call_of (g := cfg29) ent mixed Try.func29 (Nat.le_of_ble_eq_true (by kernel_rfl)) (by kernel_rfl) (F29_eq a0 a1 w R ▸ h)

/-- laws.heldState -/
def F30 (a0 a1 : Value) (w : World) (R : Value → World → Prop) : Prop :=
  OP Try.prog (Instr.box 42 a0) w fun x2 w =>
  RD Try.prog (Instr.fieldAt 42 x2 0) w fun x5 =>
  RD Try.prog (Instr.loadAt 23 x5) w fun x6 =>
  CALL Try.prog 45 [x6, a1] w fun x8 w =>
  RD Try.prog (bin .lss 3 (.tmp 0) (.const undef) x8 (Value.int .i64 0)) w fun x10 =>
  BR x10
   (R (Value.int .i64 (-1)) w)
   (RD Try.prog (Instr.fieldAt 42 x2 1) w fun x11 =>
   RD Try.prog (Instr.loadAt 23 x11) w fun x12 =>
   CALL Try.prog 45 [x12, x8] w fun x14 w =>
   RD Try.prog (bin .lss 3 (.tmp 0) (.const undef) x14 (Value.int .i64 0)) w fun x16 =>
   BR x16
    (R (Value.int .i64 (-1)) w)
    (RD Try.prog (Instr.fieldAt 42 x2 2) w fun x17 =>
    RD Try.prog (Instr.loadAt 37 x17) w fun x18 =>
    CALL Try.prog 72 [x18, x14] w fun x20 w =>
    RD Try.prog (bin .lss 3 (.tmp 0) (.const undef) x20 (Value.int .i64 0)) w fun x22 =>
    BR x22
     (R (Value.int .i64 (-1)) w)
     (R x20 w)))
def cfg30 : Cfg := { ext := extL, joins := [], loops := [], draws := [], pars := [] }
theorem F30_eq (a0 a1 : Value) (w : World) (R : Value → World → Prop) : vcF Try.prog cfg30 Try.f30 [a0, a1] w R = F30 a0 a1 w R := by kernel_rfl
theorem F30_call {a0 a1 : Value} {w : World} {R : Value → World → Prop} (h : F30 a0 a1 w R) : CALL Try.prog 30 [a0, a1] w R :=
  call_of (g := cfg30) ent mixed Try.func30 (Nat.le_of_ble_eq_true (by kernel_rfl)) (by kernel_rfl) (F30_eq a0 a1 w R ▸ h)

/-- spec.TouchedAt -/
def F31 (a0 a1 : Value) (w : World) (R : Value → World → Prop) : Prop :=
  OP Try.prog (Instr.box 31 a0) w fun x2 w =>
  RD Try.prog (Instr.loadAt 31 x2) w fun x5 =>
  CALL Try.prog 73 [x5, a1] w fun x7 w =>
  RD Try.prog (Op.unary .not x7) w fun x8 =>
  BR x8
   (OP Try.prog (Instr.buildSlice 50 0 #[]) w fun x9 w =>
   R x9 w)
   (RD Try.prog (Instr.loadAt 31 x2) w fun x10 =>
   CALL Try.prog 74 [x10, a1, (Value.int .i64 0)] w fun x12 w =>
   R x12 w)
def cfg31 : Cfg := { ext := extL, joins := [], loops := [], draws := [], pars := [] }
theorem F31_eq (a0 a1 : Value) (w : World) (R : Value → World → Prop) : vcF Try.prog cfg31 Try.f31 [a0, a1] w R = F31 a0 a1 w R := by kernel_rfl
theorem F31_call {a0 a1 : Value} {w : World} {R : Value → World → Prop} (h : F31 a0 a1 w R) : CALL Try.prog 31 [a0, a1] w R :=
  call_of (g := cfg31) ent mixed Try.func31 (Nat.le_of_ble_eq_true (by kernel_rfl)) (by kernel_rfl) (F31_eq a0 a1 w R ▸ h)

/-- impl.TouchedAt -/
def F32 (a0 a1 : Value) (w : World) (R : Value → World → Prop) : Prop :=
  OP Try.prog (Instr.box 31 a0) w fun x2 w =>
  RD Try.prog (Instr.loadAt 31 x2) w fun x5 =>
  CALL Try.prog 75 [x5, a1] w fun x7 w =>
  RD Try.prog (Op.unary .not x7) w fun x8 =>
  BR x8
  (R (Value.slice none 0 0) w)
  (RD Try.prog (Instr.loadAt 31 x2) w fun x10 =>
  CALL Try.prog 59 [x10] w fun x11 w =>
  RD Try.prog (Op.unary .not x11) w fun x12 =>
  BR x12
   (R (Value.slice none 0 0) w)
   (RD Try.prog (Instr.loadAt 31 x2) w fun x14 =>
   CALL Try.prog 76 [x14, a1, (Value.int .i64 0)] w fun x16 w =>
   R x16 w))
def cfg32 : Cfg := { ext := extL, joins := [], loops := [], draws := [], pars := [] }
theorem F32_eq (a0 a1 : Value) (w : World) (R : Value → World → Prop) : vcF Try.prog cfg32 Try.f32 [a0, a1] w R = F32 a0 a1 w R := by kernel_rfl
theorem F32_call {a0 a1 : Value} {w : World} {R : Value → World → Prop} (h : F32 a0 a1 w R) : CALL Try.prog 32 [a0, a1] w R :=
  call_of (g := cfg32) ent mixed Try.func32 (Nat.le_of_ble_eq_true (by kernel_rfl)) (by kernel_rfl) (F32_eq a0 a1 w R ▸ h)

/-- laws.eqTouchS -/
def F33 (a0 a1 : Value) (w : World) (R : Value → World → Prop) : Prop :=
  RD Try.prog (Builtin.len_ #[50] 3 [a0].toArray) w fun x7 =>
  RD Try.prog (Builtin.len_ #[50] 3 [a1].toArray) w fun x9 =>
  RD Try.prog (bin .neq 3 (.tmp 0) (.tmp 0) x7 x9) w fun x10 =>
  BR x10
   (R (Value.bool false) w)
   (LOOPI [5] [(Value.int .i64 0)] w fun u4 w next4 =>
    RD Try.prog (Builtin.len_ #[50] 3 [a0].toArray) w fun x13 =>
    RD Try.prog (bin .lss 3 (.tmp 0) (.tmp 0) (u4 5) x13) w fun x14 =>
    BR x14
     ((fun w => RD Try.prog (Instr.indexAt 50 a0 (u4 5)) w fun x19 =>
     RD Try.prog (Instr.loadAt 80 x19) w fun x20 =>
     RD Try.prog (Instr.indexAt 50 a1 (u4 5)) w fun x23 =>
     RD Try.prog (Instr.loadAt 80 x23) w fun x24 =>
     CALL Try.prog 77 [x20, x24] w fun x25 w =>
     RD Try.prog (Op.unary .not x25) w fun x26 =>
     BR x26
      (R (Value.bool false) w)
      (RD Try.prog (bin .add 3 (.tmp 0) (.const undef) (u4 5) (Value.int .i64 1)) w fun x16 =>
      next4 [x16] w)) (World.drew1 w))
     (R (Value.bool true) w))
def cfg33 : Cfg := { ext := extL, joins := [], loops := [(4, 134215728, [5])], draws := [(6, [0, 1, 2, 3, 4, 5, 6, 7, 8, 9], 0)], pars := [] }
theorem F33_eq (a0 a1 : Value) (w : World) (R : Value → World → Prop) : vcF Try.prog cfg33 Try.f33 [a0, a1] w R = F33 a0 a1 w R := by kernel_rfl
theorem F33_call {a0 a1 : Value} {w : World} {R : Value → World → Prop} (h : F33 a0 a1 w R) : CALL Try.prog 33 [a0, a1] w R :=
  call_of (g := cfg33) ent mixed Try.func33 (Nat.le_of_ble_eq_true (by kernel_rfl)) (by kernel_rfl) (F33_eq a0 a1 w R ▸ h)

/-- laws.markTouchS -/
def F34 (a0 a1 : Value) (w : World) (R : Value → World → Prop) : Prop :=
  LOOPI [1, 5] [a1, (Value.int .i64 0)] w fun u2 w next2 =>
   RD Try.prog (Builtin.len_ #[50] 3 [a0].toArray) w fun x8 =>
   RD Try.prog (bin .lss 3 (.tmp 0) (.tmp 0) (u2 5) x8) w fun x9 =>
   BR x9
    (RD Try.prog (Instr.indexAt 50 a0 (u2 5)) w fun x15 =>
    RD Try.prog (Instr.fieldAt 80 x15 0) w fun x16 =>
    OPU Try.prog (Instr.storeAt 3 x16 (u2 1)) w fun w =>
    RD Try.prog (bin .add 3 (.tmp 0) (.const undef) (u2 1) (Value.int .i64 1)) w fun x18 =>
    RD Try.prog (Instr.indexAt 50 a0 (u2 5)) w fun x22 =>
    RD Try.prog (Instr.fieldAt 80 x22 1) w fun x23 =>
    OPU Try.prog (Instr.storeAt 3 x23 x18) w fun w =>
    RD Try.prog (bin .add 3 (.tmp 0) (.const undef) x18 (Value.int .i64 1)) w fun x25 =>
    RD Try.prog (bin .rem 3 (.tmp 0) (.const undef) x25 (Value.int .i64 3)) w fun x29 =>
    RD Try.prog (bin .eql 3 (.tmp 0) (.const undef) x29 (Value.int .i64 0)) w fun x30 =>
    RD Try.prog (Instr.indexAt 50 a0 (u2 5)) w fun x31 =>
    RD Try.prog (Instr.fieldAt 80 x31 2) w fun x32 =>
    OPU Try.prog (Instr.storeAt 4 x32 x30) w fun w =>
    RD Try.prog (bin .add 3 (.tmp 0) (.const undef) x25 (Value.int .i64 1)) w fun x34 =>
    RD Try.prog (Instr.indexAt 50 a0 (u2 5)) w fun x38 =>
    RD Try.prog (Instr.fieldAt 80 x38 3) w fun x39 =>
    OPU Try.prog (Instr.storeAt 3 x39 x34) w fun w =>
    RD Try.prog (bin .add 3 (.tmp 0) (.const undef) x34 (Value.int .i64 1)) w fun x41 =>
    RD Try.prog (bin .add 3 (.tmp 0) (.const undef) (u2 5) (Value.int .i64 1)) w fun x11 =>
    next2 [x41, x11] w)
    (R (u2 1) w)
def cfg34 : Cfg := { ext := extL, joins := [], loops := [(2, 4398046511074, [1, 5])], draws := [], pars := [] }
theorem F34_eq (a0 a1 : Value) (w : World) (R : Value → World → Prop) : vcF Try.prog cfg34 Try.f34 [a0, a1] w R = F34 a0 a1 w R := by kernel_rfl
theorem F34_call {a0 a1 : Value} {w : World} {R : Value → World → Prop} (h : F34 a0 a1 w R) : CALL Try.prog 34 [a0, a1] w R :=
  call_of (g := cfg34) ent mixed Try.func34 (Nat.le_of_ble_eq_true (by kernel_rfl)) (by kernel_rfl) (F34_eq a0 a1 w R ▸ h)

/-- laws.heldTouchS -/
def F35 (a0 a1 : Value) (w : World) (R : Value → World → Prop) : Prop :=
  LOOPI [1, 5] [a1, (Value.int .i64 0)] w fun u2 w next2 =>
   RD Try.prog (Builtin.len_ #[50] 3 [a0].toArray) w fun x8 =>
   RD Try.prog (bin .lss 3 (.tmp 0) (.tmp 0) (u2 5) x8) w fun x9 =>
   BR x9
    (RD Try.prog (Instr.indexAt 50 a0 (u2 5)) w fun x14 =>
    RD Try.prog (Instr.fieldAt 80 x14 0) w fun x15 =>
    RD Try.prog (Instr.loadAt 3 x15) w fun x16 =>
    RD Try.prog (bin .neq 3 (.tmp 0) (.tmp 0) x16 (u2 1)) w fun x18 =>
    BR x18
     (R (Value.int .i64 (-1)) w)
     (RD Try.prog (bin .add 3 (.tmp 0) (.const undef) (u2 1) (Value.int .i64 1)) w fun x20 =>
     RD Try.prog (Instr.indexAt 50 a0 (u2 5)) w fun x23 =>
     RD Try.prog (Instr.fieldAt 80 x23 1) w fun x24 =>
     RD Try.prog (Instr.loadAt 3 x24) w fun x25 =>
     RD Try.prog (bin .neq 3 (.tmp 0) (.tmp 0) x25 x20) w fun x27 =>
     BR x27
      (R (Value.int .i64 (-1)) w)
      (RD Try.prog (bin .add 3 (.tmp 0) (.const undef) x20 (Value.int .i64 1)) w fun x29 =>
      RD Try.prog (Instr.indexAt 50 a0 (u2 5)) w fun x32 =>
      RD Try.prog (Instr.fieldAt 80 x32 2) w fun x33 =>
      RD Try.prog (Instr.loadAt 4 x33) w fun x34 =>
      RD Try.prog (bin .rem 3 (.tmp 0) (.const undef) x29 (Value.int .i64 3)) w fun x36 =>
      RD Try.prog (bin .eql 3 (.tmp 0) (.const undef) x36 (Value.int .i64 0)) w fun x37 =>
      RD Try.prog (bin .neq 4 (.tmp 0) (.tmp 0) x34 x37) w fun x38 =>
      BR x38
       (R (Value.int .i64 (-1)) w)
       (RD Try.prog (bin .add 3 (.tmp 0) (.const undef) x29 (Value.int .i64 1)) w fun x40 =>
       RD Try.prog (Instr.indexAt 50 a0 (u2 5)) w fun x43 =>
       RD Try.prog (Instr.fieldAt 80 x43 3) w fun x44 =>
       RD Try.prog (Instr.loadAt 3 x44) w fun x45 =>
       RD Try.prog (bin .neq 3 (.tmp 0) (.tmp 0) x45 x40) w fun x47 =>
       BR x47
        (R (Value.int .i64 (-1)) w)
        (RD Try.prog (bin .add 3 (.tmp 0) (.const undef) x40 (Value.int .i64 1)) w fun x49 =>
        RD Try.prog (bin .add 3 (.tmp 0) (.const undef) (u2 5) (Value.int .i64 1)) w fun x11 =>
        next2 [x49, x11] w)))))
    (R (u2 1) w)
def cfg35 : Cfg := { ext := extL, joins := [], loops := [(2, 1125899906842610, [1, 5])], draws := [], pars := [] }
theorem F35_eq (a0 a1 : Value) (w : World) (R : Value → World → Prop) : vcF Try.prog cfg35 Try.f35 [a0, a1] w R = F35 a0 a1 w R := by kernel_rfl
theorem F35_call {a0 a1 : Value} {w : World} {R : Value → World → Prop} (h : F35 a0 a1 w R) : CALL Try.prog 35 [a0, a1] w R :=
  call_of (g := cfg35) ent mixed Try.func35 (Nat.le_of_ble_eq_true (by kernel_rfl)) (by kernel_rfl) (F35_eq a0 a1 w R ▸ h)

/-- spec.WaitsFor -/
def F36 (a0 a1 a2 : Value) (w : World) (R : Value → World → Prop) : Prop :=
  OP Try.prog (Instr.box 31 a0) w fun x3 w =>
  OP Try.prog (Instr.box 42 a1) w fun x4 w =>
  RD Try.prog (Instr.loadAt 31 x3) w fun x7 =>
  RD Try.prog (Instr.loadAt 42 x4) w fun x8 =>
  CALL Try.prog 22 [x7, x8] w fun x9 w =>
  RD Try.prog (Op.unary .not x9) w fun x10 =>
  BR x10
   (R (Value.int .i64 (-1)) w)
   (RD Try.prog (Instr.loadAt 31 x3) w fun x11 =>
   RD Try.prog (Instr.loadAt 42 x4) w fun x12 =>
   CALL Try.prog 78 [x11, x12, a2] w fun x14 w =>
   R x14 w)
def cfg36 : Cfg := { ext := extL, joins := [], loops := [], draws := [], pars := [] }
theorem F36_eq (a0 a1 a2 : Value) (w : World) (R : Value → World → Prop) : vcF Try.prog cfg36 Try.f36 [a0, a1, a2] w R = F36 a0 a1 a2 w R := by kernel_rfl
theorem F36_call {a0 a1 a2 : Value} {w : World} {R : Value → World → Prop} (h : F36 a0 a1 a2 w R) : CALL Try.prog 36 [a0, a1, a2] w R :=
  call_of (g := cfg36) ent mixed Try.func36 (Nat.le_of_ble_eq_true (by kernel_rfl)) (by kernel_rfl) (F36_eq a0 a1 a2 w R ▸ h)

/-- impl.WaitsFor -/
def F37 (a0 a1 a2 : Value) (w : World) (R : Value → World → Prop) : Prop :=
  OP Try.prog (Instr.box 31 a0) w fun x3 w =>
  OP Try.prog (Instr.box 42 a1) w fun x4 w =>
  RD Try.prog (Instr.loadAt 31 x3) w fun x7 =>
  RD Try.prog (Instr.loadAt 42 x4) w fun x8 =>
  CALL Try.prog 24 [x7, x8] w fun x9 w =>
  RD Try.prog (Op.unary .not x9) w fun x10 =>
  BR x10
   (R (Value.int .i64 (-1)) w)
   (RD Try.prog (Instr.loadAt 31 x3) w fun x11 =>
   RD Try.prog (Instr.loadAt 42 x4) w fun x12 =>
   CALL Try.prog 79 [x11, x12, a2] w fun x14 w =>
   R x14 w)
def cfg37 : Cfg := { ext := extL, joins := [], loops := [], draws := [], pars := [] }
theorem F37_eq (a0 a1 a2 : Value) (w : World) (R : Value → World → Prop) : vcF Try.prog cfg37 Try.f37 [a0, a1, a2] w R = F37 a0 a1 a2 w R := by kernel_rfl
theorem F37_call {a0 a1 a2 : Value} {w : World} {R : Value → World → Prop} (h : F37 a0 a1 a2 w R) : CALL Try.prog 37 [a0, a1, a2] w R :=
  call_of (g := cfg37) ent mixed Try.func37 (Nat.le_of_ble_eq_true (by kernel_rfl)) (by kernel_rfl) (F37_eq a0 a1 a2 w R ▸ h)

/-- spec.CanGo -/
def F38 (a0 a1 a2 : Value) (w : World) (R : Value → World → Prop) : Prop :=
  OP Try.prog (Instr.box 31 a0) w fun x3 w =>
  OP Try.prog (Instr.box 42 a1) w fun x4 w =>
  RD Try.prog (Instr.loadAt 31 x3) w fun x7 =>
  RD Try.prog (Instr.loadAt 42 x4) w fun x8 =>
  CALL Try.prog 22 [x7, x8] w fun x9 w =>
  BR x9
  (RD Try.prog (Instr.loadAt 31 x3) w fun x11 =>
  RD Try.prog (Instr.loadAt 42 x4) w fun x12 =>
  CALL Try.prog 80 [x11, x12, a2] w fun x14 w =>
  R x14 w)
  (R (Value.bool false) w)
def cfg38 : Cfg := { ext := extL, joins := [], loops := [], draws := [], pars := [] }
theorem F38_eq (a0 a1 a2 : Value) (w : World) (R : Value → World → Prop) : vcF Try.prog cfg38 Try.f38 [a0, a1, a2] w R = F38 a0 a1 a2 w R := by kernel_rfl
theorem F38_call {a0 a1 a2 : Value} {w : World} {R : Value → World → Prop} (h : F38 a0 a1 a2 w R) : CALL Try.prog 38 [a0, a1, a2] w R :=
  call_of (g := cfg38) ent mixed Try.func38 (Nat.le_of_ble_eq_true (by kernel_rfl)) (by kernel_rfl) (F38_eq a0 a1 a2 w R ▸ h)

/-- impl.CanGo -/
def F39 (a0 a1 a2 : Value) (w : World) (R : Value → World → Prop) : Prop :=
  OP Try.prog (Instr.box 31 a0) w fun x3 w =>
  OP Try.prog (Instr.box 42 a1) w fun x4 w =>
  RD Try.prog (Instr.loadAt 31 x3) w fun x7 =>
  RD Try.prog (Instr.loadAt 42 x4) w fun x8 =>
  CALL Try.prog 24 [x7, x8] w fun x9 w =>
  BR x9
  (RD Try.prog (Instr.loadAt 31 x3) w fun x11 =>
  RD Try.prog (Instr.loadAt 42 x4) w fun x12 =>
  CALL Try.prog 81 [x11, x12, a2] w fun x14 w =>
  R x14 w)
  (R (Value.bool false) w)
def cfg39 : Cfg := { ext := extL, joins := [], loops := [], draws := [], pars := [] }
theorem F39_eq (a0 a1 a2 : Value) (w : World) (R : Value → World → Prop) : vcF Try.prog cfg39 Try.f39 [a0, a1, a2] w R = F39 a0 a1 a2 w R := by kernel_rfl
theorem F39_call {a0 a1 a2 : Value} {w : World} {R : Value → World → Prop} (h : F39 a0 a1 a2 w R) : CALL Try.prog 39 [a0, a1, a2] w R :=
  call_of (g := cfg39) ent mixed Try.func39 (Nat.le_of_ble_eq_true (by kernel_rfl)) (by kernel_rfl) (F39_eq a0 a1 a2 w R ▸ h)

/-- spec.StoppedIn -/
def F40 (a0 a1 : Value) (w : World) (R : Value → World → Prop) : Prop :=
  OP Try.prog (Instr.box 31 a0) w fun x2 w =>
  OP Try.prog (Instr.box 42 a1) w fun x3 w =>
  RD Try.prog (Instr.loadAt 31 x2) w fun x5 =>
  RD Try.prog (Instr.loadAt 42 x3) w fun x6 =>
  CALL Try.prog 22 [x5, x6] w fun x7 w =>
  BR x7
  (RD Try.prog (Instr.loadAt 42 x3) w fun x9 =>
  CALL Try.prog 82 [x9] w fun x10 w =>
  RD Try.prog (Op.unary .not x10) w fun x11 =>
  BR x11
  (RD Try.prog (Instr.loadAt 31 x2) w fun x14 =>
  RD Try.prog (Instr.loadAt 42 x3) w fun x15 =>
  CALL Try.prog 83 [x14, x15] w fun x16 w =>
  RD Try.prog (Builtin.len_ #[23] 3 [x16].toArray) w fun x17 =>
  RD Try.prog (bin .eql 3 (.tmp 0) (.const undef) x17 (Value.int .i64 0)) w fun x18 =>
  R x18 w)
  (R (Value.bool false) w))
  (R (Value.bool false) w)
def cfg40 : Cfg := { ext := extL, joins := [], loops := [], draws := [], pars := [] }
theorem F40_eq (a0 a1 : Value) (w : World) (R : Value → World → Prop) : vcF Try.prog cfg40 Try.f40 [a0, a1] w R = F40 a0 a1 w R := by kernel_rfl
theorem F40_call {a0 a1 : Value} {w : World} {R : Value → World → Prop} (h : F40 a0 a1 w R) : CALL Try.prog 40 [a0, a1] w R :=
  call_of (g := cfg40) ent mixed Try.func40 (Nat.le_of_ble_eq_true (by kernel_rfl)) (by kernel_rfl) (F40_eq a0 a1 w R ▸ h)

/-- impl.StoppedIn -/
def F41 (a0 a1 : Value) (w : World) (R : Value → World → Prop) : Prop :=
  OP Try.prog (Instr.box 31 a0) w fun x2 w =>
  OP Try.prog (Instr.box 42 a1) w fun x3 w =>
  RD Try.prog (Instr.loadAt 31 x2) w fun x5 =>
  RD Try.prog (Instr.loadAt 42 x3) w fun x6 =>
  CALL Try.prog 24 [x5, x6] w fun x7 w =>
  BR x7
  (RD Try.prog (Instr.loadAt 31 x2) w fun x9 =>
  RD Try.prog (Instr.loadAt 42 x3) w fun x10 =>
  CALL Try.prog 84 [x9, x10] w fun x11 w =>
  RD Try.prog (Builtin.len_ #[23] 3 [x11].toArray) w fun x12 =>
  RD Try.prog (bin .eql 3 (.tmp 0) (.const undef) x12 (Value.int .i64 0)) w fun x13 =>
  BR x13
  (RD Try.prog (Instr.loadAt 42 x3) w fun x16 =>
  CALL Try.prog 85 [x16] w fun x17 w =>
  RD Try.prog (Op.unary .not x17) w fun x18 =>
  R x18 w)
  (R (Value.bool false) w))
  (R (Value.bool false) w)
def cfg41 : Cfg := { ext := extL, joins := [], loops := [], draws := [], pars := [] }
theorem F41_eq (a0 a1 : Value) (w : World) (R : Value → World → Prop) : vcF Try.prog cfg41 Try.f41 [a0, a1] w R = F41 a0 a1 w R := by kernel_rfl
theorem F41_call {a0 a1 : Value} {w : World} {R : Value → World → Prop} (h : F41 a0 a1 w R) : CALL Try.prog 41 [a0, a1] w R :=
  call_of (g := cfg41) ent mixed Try.func41 (Nat.le_of_ble_eq_true (by kernel_rfl)) (by kernel_rfl) (F41_eq a0 a1 w R ▸ h)

/-- spec.ReadyIn -/
def F42 (a0 a1 : Value) (w : World) (R : Value → World → Prop) : Prop :=
  OP Try.prog (Instr.box 31 a0) w fun x2 w =>
  OP Try.prog (Instr.box 42 a1) w fun x3 w =>
  RD Try.prog (Instr.loadAt 31 x2) w fun x5 =>
  RD Try.prog (Instr.loadAt 42 x3) w fun x6 =>
  CALL Try.prog 22 [x5, x6] w fun x7 w =>
  RD Try.prog (Op.unary .not x7) w fun x8 =>
  BR x8
   (OP Try.prog (Instr.buildSlice 23 0 #[]) w fun x9 w =>
   R x9 w)
   (RD Try.prog (Instr.loadAt 31 x2) w fun x10 =>
   RD Try.prog (Instr.loadAt 42 x3) w fun x11 =>
   CALL Try.prog 83 [x10, x11] w fun x12 w =>
   R x12 w)
def cfg42 : Cfg := { ext := extL, joins := [], loops := [], draws := [], pars := [] }
theorem F42_eq (a0 a1 : Value) (w : World) (R : Value → World → Prop) : vcF Try.prog cfg42 Try.f42 [a0, a1] w R = F42 a0 a1 w R := by kernel_rfl
theorem F42_call {a0 a1 : Value} {w : World} {R : Value → World → Prop} (h : F42 a0 a1 w R) : CALL Try.prog 42 [a0, a1] w R :=
  call_of (g := cfg42) ent mixed Try.func42 (Nat.le_of_ble_eq_true (by kernel_rfl)) (by kernel_rfl) (F42_eq a0 a1 w R ▸ h)

/-- impl.ReadyIn -/
def F43 (a0 a1 : Value) (w : World) (R : Value → World → Prop) : Prop :=
  OP Try.prog (Instr.box 31 a0) w fun x2 w =>
  OP Try.prog (Instr.box 42 a1) w fun x3 w =>
  RD Try.prog (Instr.loadAt 31 x2) w fun x5 =>
  RD Try.prog (Instr.loadAt 42 x3) w fun x6 =>
  CALL Try.prog 24 [x5, x6] w fun x7 w =>
  RD Try.prog (Op.unary .not x7) w fun x8 =>
  BR x8
   (R (Value.slice none 0 0) w)
   (RD Try.prog (Instr.loadAt 31 x2) w fun x9 =>
   RD Try.prog (Instr.loadAt 42 x3) w fun x10 =>
   CALL Try.prog 84 [x9, x10] w fun x11 w =>
   R x11 w)
def cfg43 : Cfg := { ext := extL, joins := [], loops := [], draws := [], pars := [] }
theorem F43_eq (a0 a1 : Value) (w : World) (R : Value → World → Prop) : vcF Try.prog cfg43 Try.f43 [a0, a1] w R = F43 a0 a1 w R := by kernel_rfl
theorem F43_call {a0 a1 : Value} {w : World} {R : Value → World → Prop} (h : F43 a0 a1 w R) : CALL Try.prog 43 [a0, a1] w R :=
  call_of (g := cfg43) ent mixed Try.func43 (Nat.le_of_ble_eq_true (by kernel_rfl)) (by kernel_rfl) (F43_eq a0 a1 w R ▸ h)

/-- laws.markIntS -/
def F44 (a0 a1 : Value) (w : World) (R : Value → World → Prop) : Prop :=
  LOOPI [1, 5] [a1, (Value.int .i64 0)] w fun u2 w next2 =>
   RD Try.prog (Builtin.len_ #[23] 3 [a0].toArray) w fun x8 =>
   RD Try.prog (bin .lss 3 (.tmp 0) (.tmp 0) (u2 5) x8) w fun x9 =>
   BR x9
    (RD Try.prog (Instr.indexAt 23 a0 (u2 5)) w fun x15 =>
    OPU Try.prog (Instr.storeAt 3 x15 (u2 1)) w fun w =>
    RD Try.prog (bin .add 3 (.tmp 0) (.const undef) (u2 1) (Value.int .i64 1)) w fun x17 =>
    RD Try.prog (bin .add 3 (.tmp 0) (.const undef) (u2 5) (Value.int .i64 1)) w fun x11 =>
    next2 [x17, x11] w)
    (R (u2 1) w)
def cfg44 : Cfg := { ext := extL, joins := [], loops := [(2, 262114, [1, 5])], draws := [], pars := [] }
theorem F44_eq (a0 a1 : Value) (w : World) (R : Value → World → Prop) : vcF Try.prog cfg44 Try.f44 [a0, a1] w R = F44 a0 a1 w R := by kernel_rfl
theorem F44_call {a0 a1 : Value} {w : World} {R : Value → World → Prop} (h : F44 a0 a1 w R) : CALL Try.prog 44 [a0, a1] w R :=
  call_of (g := cfg44) ent mixed Try.func44 (Nat.le_of_ble_eq_true (by kernel_rfl)) (by kernel_rfl) (F44_eq a0 a1 w R ▸ h)

/-- laws.heldIntS -/
def F45 (a0 a1 : Value) (w : World) (R : Value → World → Prop) : Prop :=
  LOOPI [1, 5] [a1, (Value.int .i64 0)] w fun u2 w next2 =>
   RD Try.prog (Builtin.len_ #[23] 3 [a0].toArray) w fun x8 =>
   RD Try.prog (bin .lss 3 (.tmp 0) (.tmp 0) (u2 5) x8) w fun x9 =>
   BR x9
    (RD Try.prog (Instr.indexAt 23 a0 (u2 5)) w fun x14 =>
    RD Try.prog (Instr.loadAt 3 x14) w fun x15 =>
    RD Try.prog (bin .neq 3 (.tmp 0) (.tmp 0) x15 (u2 1)) w fun x17 =>
    BR x17
     (R (Value.int .i64 (-1)) w)
     (RD Try.prog (bin .add 3 (.tmp 0) (.const undef) (u2 1) (Value.int .i64 1)) w fun x19 =>
     RD Try.prog (bin .add 3 (.tmp 0) (.const undef) (u2 5) (Value.int .i64 1)) w fun x11 =>
     next2 [x19, x11] w))
    (R (u2 1) w)
def cfg45 : Cfg := { ext := extL, joins := [], loops := [(2, 1048562, [1, 5])], draws := [], pars := [] }
theorem F45_eq (a0 a1 : Value) (w : World) (R : Value → World → Prop) : vcF Try.prog cfg45 Try.f45 [a0, a1] w R = F45 a0 a1 w R := by kernel_rfl
theorem F45_call {a0 a1 : Value} {w : World} {R : Value → World → Prop} (h : F45 a0 a1 w R) : CALL Try.prog 45 [a0, a1] w R :=
  call_of (g := cfg45) ent mixed Try.func45 (Nat.le_of_ble_eq_true (by kernel_rfl)) (by kernel_rfl) (F45_eq a0 a1 w R ▸ h)

/-- spec.KnotOf -/
def F46 (a0 a1 a2 : Value) (w : World) (R : Value → World → Prop) : Prop :=
  OP Try.prog (Instr.box 31 a0) w fun x3 w =>
  OP Try.prog (Instr.box 42 a1) w fun x4 w =>
  RD Try.prog (Instr.loadAt 31 x3) w fun x7 =>
  RD Try.prog (Instr.loadAt 42 x4) w fun x8 =>
  CALL Try.prog 22 [x7, x8] w fun x9 w =>
  RD Try.prog (Op.unary .not x9) w fun x10 =>
  BR x10
  (OP Try.prog (Instr.buildSlice 23 0 #[]) w fun x20 w =>
   R x20 w)
  (RD Try.prog (Instr.fieldAt 42 x4 2) w fun x13 =>
  RD Try.prog (Instr.loadAt 37 x13) w fun x14 =>
  RD Try.prog (Builtin.len_ #[37] 3 [x14].toArray) w fun x15 =>
  RD Try.prog (bin .sub 3 (.tmp 0) (.const undef) x15 (Value.int .i64 1)) w fun x16 =>
  CALL Try.prog 56 [a2, (Value.int .i64 0), x16] w fun x17 w =>
  RD Try.prog (Op.unary .not x17) w fun x18 =>
  BR x18
   (OP Try.prog (Instr.buildSlice 23 0 #[]) w fun x20 w =>
   R x20 w)
   (RD Try.prog (Instr.loadAt 31 x3) w fun x21 =>
   RD Try.prog (Instr.loadAt 42 x4) w fun x22 =>
   CALL Try.prog 86 [x21, x22, a2] w fun x24 w =>
   R x24 w))
def cfg46 : Cfg := { ext := extL, joins := [], loops := [], draws := [], pars := [] }
theorem F46_eq (a0 a1 a2 : Value) (w : World) (R : Value → World → Prop) : vcF Try.prog cfg46 Try.f46 [a0, a1, a2] w R = F46 a0 a1 a2 w R := by kernel_rfl
theorem F46_call {a0 a1 a2 : Value} {w : World} {R : Value → World → Prop} (h : F46 a0 a1 a2 w R) : CALL Try.prog 46 [a0, a1, a2] w R :=
  call_of (g := cfg46) ent mixed Try.func46 (Nat.le_of_ble_eq_true (by kernel_rfl)) (by kernel_rfl) (F46_eq a0 a1 a2 w R ▸ h)

/-- impl.KnotOf -/
def F47 (a0 a1 a2 : Value) (w : World) (R : Value → World → Prop) : Prop :=
  OP Try.prog (Instr.box 31 a0) w fun x3 w =>
  OP Try.prog (Instr.box 42 a1) w fun x4 w =>
  RD Try.prog (Instr.loadAt 31 x3) w fun x7 =>
  RD Try.prog (Instr.loadAt 42 x4) w fun x8 =>
  CALL Try.prog 24 [x7, x8] w fun x9 w =>
  RD Try.prog (Op.unary .not x9) w fun x10 =>
  BR x10
   (R (Value.slice none 0 0) w)
   (RD Try.prog (Instr.loadAt 31 x3) w fun x11 =>
   RD Try.prog (Instr.loadAt 42 x4) w fun x12 =>
   CALL Try.prog 88 [x11, x12, a2] w fun x14 w =>
   CALL Try.prog 87 [x14] w fun x15 w =>
   R x15 w)
def cfg47 : Cfg := { ext := extL, joins := [], loops := [], draws := [], pars := [] }
theorem F47_eq (a0 a1 a2 : Value) (w : World) (R : Value → World → Prop) : vcF Try.prog cfg47 Try.f47 [a0, a1, a2] w R = F47 a0 a1 a2 w R := by kernel_rfl
theorem F47_call {a0 a1 a2 : Value} {w : World} {R : Value → World → Prop} (h : F47 a0 a1 a2 w R) : CALL Try.prog 47 [a0, a1, a2] w R :=
  call_of (g := cfg47) ent mixed Try.func47 (Nat.le_of_ble_eq_true (by kernel_rfl)) (by kernel_rfl) (F47_eq a0 a1 a2 w R ▸ h)

/-- spec.KnotIn -/
def F48 (a0 a1 : Value) (w : World) (R : Value → World → Prop) : Prop :=
  OP Try.prog (Instr.box 31 a0) w fun x2 w =>
  OP Try.prog (Instr.box 42 a1) w fun x3 w =>
  RD Try.prog (Instr.loadAt 31 x2) w fun x5 =>
  RD Try.prog (Instr.loadAt 42 x3) w fun x6 =>
  CALL Try.prog 22 [x5, x6] w fun x7 w =>
  RD Try.prog (Op.unary .not x7) w fun x8 =>
  BR x8
   (OP Try.prog (Instr.buildSlice 23 0 #[]) w fun x9 w =>
   R x9 w)
   (RD Try.prog (Instr.loadAt 31 x2) w fun x10 =>
   RD Try.prog (Instr.loadAt 42 x3) w fun x11 =>
   CALL Try.prog 89 [x10, x11] w fun x12 w =>
   R x12 w)
def cfg48 : Cfg := { ext := extL, joins := [], loops := [], draws := [], pars := [] }
theorem F48_eq (a0 a1 : Value) (w : World) (R : Value → World → Prop) : vcF Try.prog cfg48 Try.f48 [a0, a1] w R = F48 a0 a1 w R := by kernel_rfl
theorem F48_call {a0 a1 : Value} {w : World} {R : Value → World → Prop} (h : F48 a0 a1 w R) : CALL Try.prog 48 [a0, a1] w R :=
  call_of (g := cfg48) ent mixed Try.func48 (Nat.le_of_ble_eq_true (by kernel_rfl)) (by kernel_rfl) (F48_eq a0 a1 w R ▸ h)

/-- impl.KnotIn -/
def F49 (a0 a1 : Value) (w : World) (R : Value → World → Prop) : Prop :=
  OP Try.prog (Instr.box 31 a0) w fun x2 w =>
  OP Try.prog (Instr.box 42 a1) w fun x3 w =>
  RD Try.prog (Instr.loadAt 31 x2) w fun x5 =>
  RD Try.prog (Instr.loadAt 42 x3) w fun x6 =>
  CALL Try.prog 24 [x5, x6] w fun x7 w =>
  RD Try.prog (Op.unary .not x7) w fun x8 =>
  BR x8
   (R (Value.slice none 0 0) w)
   (RD Try.prog (Instr.loadAt 31 x2) w fun x9 =>
   RD Try.prog (Instr.loadAt 42 x3) w fun x10 =>
   CALL Try.prog 90 [x9, x10] w fun x11 w =>
   CALL Try.prog 87 [x11] w fun x12 w =>
   R x12 w)
def cfg49 : Cfg := { ext := extL, joins := [], loops := [], draws := [], pars := [] }
theorem F49_eq (a0 a1 : Value) (w : World) (R : Value → World → Prop) : vcF Try.prog cfg49 Try.f49 [a0, a1] w R = F49 a0 a1 w R := by kernel_rfl
theorem F49_call {a0 a1 : Value} {w : World} {R : Value → World → Prop} (h : F49 a0 a1 w R) : CALL Try.prog 49 [a0, a1] w R :=
  call_of (g := cfg49) ent mixed Try.func49 (Nat.le_of_ble_eq_true (by kernel_rfl)) (by kernel_rfl) (F49_eq a0 a1 w R ▸ h)

/-- spec.RunOf -/
def F50 (a0 a1 : Value) (w : World) (R : Value → World → Prop) : Prop :=
  OP Try.prog (Instr.box 31 a0) w fun x2 w =>
  OP Try.prog (Instr.alloc 42 true (.tuple #[])) w fun x4 w =>
  OP Try.prog (Instr.buildSlice 23 0 #[]) w fun x12 w =>
  RD Try.prog (Instr.loadAt 31 x2) w fun x13 =>
  CALL Try.prog 26 [x13] w fun x14 w =>
  OP Try.prog (Instr.alloc 42 true (.tuple #[])) w fun x7 w =>
  OPU Try.prog (Instr.storeAt 42 x7 x14) w fun w =>
  RD Try.prog (Instr.loadAt 31 x2) w fun x15 =>
  CALL Try.prog 55 [x15] w fun x16 w =>
  RD Try.prog (Op.unary .not x16) w fun x17 =>
  BR x17
   (RD Try.prog (Instr.loadAt 42 x7) w fun x18 =>
   OPU Try.prog (Instr.storeAt 42 x4 x18) w fun w =>
   RD Try.prog (loadRes 42 x4) w fun r4 => R (Value.tuple #[r4, x12]) w)
   (LOOPI [6, 8] [x12, (Value.int .i64 0)] w fun u6 w next6 =>
    RD Try.prog (Builtin.len_ #[23] 3 [a1].toArray) w fun x22 =>
    RD Try.prog (bin .lss 3 (.tmp 0) (.tmp 0) (u6 8) x22) w fun x23 =>
    BR x23
    (RD Try.prog (bin .lss 3 (.tmp 0) (.const undef) (u6 8) (Value.int .i64 400)) w fun x26 =>
    BR x26
     (RD Try.prog (Instr.loadAt 31 x2) w fun x30 =>
     RD Try.prog (Instr.loadAt 42 x7) w fun x31 =>
     CALL Try.prog 83 [x30, x31] w fun x32 w =>
     RD Try.prog (Builtin.len_ #[23] 3 [x32].toArray) w fun x34 =>
     RD Try.prog (bin .eql 3 (.tmp 0) (.const undef) x34 (Value.int .i64 0)) w fun x35 =>
     BR x35
      (RD Try.prog (Instr.loadAt 42 x7) w fun x57 =>
      OPU Try.prog (Instr.storeAt 42 x4 x57) w fun w =>
      RD Try.prog (loadRes 42 x4) w fun r4 => R (Value.tuple #[r4, (u6 6)]) w)
      (RD Try.prog (Instr.indexAt 23 a1 (u6 8)) w fun x38 =>
      RD Try.prog (Instr.loadAt 3 x38) w fun x39 =>
      JOIN [10] (fun J13 =>
       RD Try.prog (bin .lss 3 (.tmp 0) (.const undef) x39 (Value.int .i64 0)) w fun x41 =>
       BR x41
        (J13 [(Value.int .i64 0)] w)
        (J13 [x39] w)) (fun u13 w =>
       RD Try.prog (Builtin.len_ #[23] 3 [x32].toArray) w fun x45 =>
       RD Try.prog (bin .rem 3 (.tmp 0) (.tmp 0) (u13 10) x45) w fun x46 =>
       RD Try.prog (Instr.indexAt 23 x32 x46) w fun x47 =>
       RD Try.prog (Instr.loadAt 3 x47) w fun x48 =>
       RD Try.prog (Instr.loadAt 31 x2) w fun x49 =>
       RD Try.prog (Instr.loadAt 42 x7) w fun x50 =>
       CALL Try.prog 91 [x49, x50, x48] w fun x52 w =>
       OPU Try.prog (Instr.storeAt 42 x7 x52) w fun w =>
       OP Try.prog (Instr.buildSlice 23 1 #[(0, x48)]) w fun x55 w =>
       OP Try.prog (Builtin.append_ #[23, 23] 23 [(u6 6), x55].toArray) w fun x56 w =>
       RD Try.prog (bin .add 3 (.tmp 0) (.const undef) (u6 8) (Value.int .i64 1)) w fun x29 =>
       next6 [x56, x29] w)))
     (RD Try.prog (Instr.loadAt 42 x7) w fun x57 =>
     OPU Try.prog (Instr.storeAt 42 x4 x57) w fun w =>
     RD Try.prog (loadRes 42 x4) w fun r4 => R (Value.tuple #[r4, (u6 6)]) w))
    (RD Try.prog (Instr.loadAt 42 x7) w fun x57 =>
     OPU Try.prog (Instr.storeAt 42 x4 x57) w fun w =>
     RD Try.prog (loadRes 42 x4) w fun r4 => R (Value.tuple #[r4, (u6 6)]) w))
def cfg50 : Cfg := { ext := extL, joins := [(13, 3298534884352, [10])], loops := [(6, 144115188074811200, [6, 8])], draws := [], pars := [] }
theorem F50_eq (a0 a1 : Value) (w : World) (R : Value → World → Prop) : vcF Try.prog cfg50 Try.f50 [a0, a1] w R = F50 a0 a1 w R := by kernel_rfl
theorem F50_call {a0 a1 : Value} {w : World} {R : Value → World → Prop} (h : F50 a0 a1 w R) : CALL Try.prog 50 [a0, a1] w R :=
  call_of (g := cfg50) ent mixed Try.func50 (Nat.le_of_ble_eq_true (by kernel_rfl)) (by kernel_rfl) (F50_eq a0 a1 w R ▸ h)

/-- impl.RunOf -/
def F51 (a0 a1 : Value) (w : World) (R : Value → World → Prop) : Prop :=
  OP Try.prog (Instr.box 31 a0) w fun x2 w =>
  OP Try.prog (Instr.alloc 42 true (.tuple #[])) w fun x4 w =>
  RD Try.prog (Instr.loadAt 31 x2) w fun x12 =>
  CALL Try.prog 59 [x12] w fun x13 w =>
  RD Try.prog (Op.unary .not x13) w fun x14 =>
  BR x14
   (RD Try.prog (Instr.build 42 #[]) w fun x15 =>
   OPU Try.prog (Instr.storeAt 42 x4 x15) w fun w =>
   RD Try.prog (loadRes 42 x4) w fun r4 => R (Value.tuple #[r4, (Value.slice none 0 0)]) w)
   (RD Try.prog (Instr.loadAt 31 x2) w fun x16 =>
   CALL Try.prog 68 [x16] w fun x17 w =>
   OP Try.prog (Instr.alloc 42 true (.tuple #[])) w fun x6 w =>
   OPU Try.prog (Instr.storeAt 42 x6 x17) w fun w =>
   RD Try.prog (Builtin.len_ #[23] 3 [a1].toArray) w fun x20 =>
   RD Try.prog (Builtin.min_ #[3, 3] 3 [x20, (Value.int .i64 400)].toArray) w fun x21 =>
   RD Try.prog (Instr.sliceAt 23 a1 none (some x21) none) w fun x22 =>
   RD Try.prog (Builtin.len_ #[23] 3 [x22].toArray) w fun x23 =>
   LOOPI [7, 24] [(Value.slice none 0 0), (Value.int .i64 0)] w fun u6 w next6 =>
    RD Try.prog (bin .lss 3 (.tmp 0) (.tmp 0) (u6 24) x23) w fun x25 =>
    BR x25
     (RD Try.prog (Instr.indexAt 23 x22 (u6 24)) w fun x26 =>
     RD Try.prog (Instr.loadAt 3 x26) w fun x27 =>
     RD Try.prog (Instr.loadAt 31 x2) w fun x28 =>
     RD Try.prog (Instr.loadAt 42 x6) w fun x29 =>
     CALL Try.prog 84 [x28, x29] w fun x30 w =>
     RD Try.prog (Builtin.len_ #[23] 3 [x30].toArray) w fun x32 =>
     RD Try.prog (bin .eql 3 (.tmp 0) (.const undef) x32 (Value.int .i64 0)) w fun x33 =>
     BR x33
      (RD Try.prog (Instr.loadAt 42 x6) w fun x51 =>
      OPU Try.prog (Instr.storeAt 42 x4 x51) w fun w =>
      RD Try.prog (loadRes 42 x4) w fun r4 => R (Value.tuple #[r4, (u6 7)]) w)
      (RD Try.prog (Builtin.max_ #[3, 3] 3 [x27, (Value.int .i64 0)].toArray) w fun x36 =>
      RD Try.prog (Builtin.len_ #[23] 3 [x30].toArray) w fun x38 =>
      RD Try.prog (bin .rem 3 (.tmp 0) (.tmp 0) x36 x38) w fun x39 =>
      RD Try.prog (Instr.indexAt 23 x30 x39) w fun x40 =>
      RD Try.prog (Instr.loadAt 3 x40) w fun x41 =>
      RD Try.prog (Instr.loadAt 31 x2) w fun x42 =>
      RD Try.prog (Instr.loadAt 42 x6) w fun x43 =>
      CALL Try.prog 92 [x42, x43, x41] w fun x45 w =>
      OPU Try.prog (Instr.storeAt 42 x6 x45) w fun w =>
      OP Try.prog (Instr.buildSlice 23 1 #[(0, x41)]) w fun x48 w =>
      OP Try.prog (Builtin.append_ #[23, 23] 23 [(u6 7), x48].toArray) w fun x49 w =>
      RD Try.prog (bin .add 3 (.tmp 0) (.const undef) (u6 24) (Value.int .i64 1)) w fun x50 =>
      next6 [x49, x50] w))
     (RD Try.prog (Instr.loadAt 42 x6) w fun x51 =>
     OPU Try.prog (Instr.storeAt 42 x4 x51) w fun w =>
     RD Try.prog (loadRes 42 x4) w fun r4 => R (Value.tuple #[r4, (u6 7)]) w))
def cfg51 : Cfg := { ext := extL, joins := [], loops := [(6, 2251799796911744, [7, 24])], draws := [], pars := [] }
theorem F51_eq (a0 a1 : Value) (w : World) (R : Value → World → Prop) : vcF Try.prog cfg51 Try.f51 [a0, a1] w R = F51 a0 a1 w R := by kernel_rfl
theorem F51_call {a0 a1 : Value} {w : World} {R : Value → World → Prop} (h : F51 a0 a1 w R) : CALL Try.prog 51 [a0, a1] w R :=
  call_of (g := cfg51) ent mixed Try.func51 (Nat.le_of_ble_eq_true (by kernel_rfl)) (by kernel_rfl) (F51_eq a0 a1 w R ▸ h)

/-- laws.szStringS -/
def F52 (a0 a1 : Value) (w : World) (R : Value → World → Prop) : Prop :=
  RD Try.prog (Builtin.len_ #[22] 3 [a0].toArray) w fun x8 =>
  RD Try.prog (bin .sub 3 (.tmp 0) (.tmp 0) a1 x8) w fun x9 =>
  RD Try.prog (bin .lss 3 (.tmp 0) (.const undef) x9 (Value.int .i64 0)) w fun x11 =>
  BR x11
   (R (Value.int .i64 (-1)) w)
   (LOOPI [1, 5] [x9, (Value.int .i64 0)] w fun u5 w next5 =>
    RD Try.prog (Builtin.len_ #[22] 3 [a0].toArray) w fun x14 =>
    RD Try.prog (bin .lss 3 (.tmp 0) (.tmp 0) (u5 5) x14) w fun x15 =>
    BR x15
     (RD Try.prog (Instr.indexAt 22 a0 (u5 5)) w fun x21 =>
     RD Try.prog (Instr.loadAt 9 x21) w fun x22 =>
     RD Try.prog (Builtin.len_ #[9] 3 [x22].toArray) w fun x23 =>
     RD Try.prog (bin .sub 3 (.tmp 0) (.tmp 0) (u5 1) x23) w fun x24 =>
     RD Try.prog (bin .lss 3 (.tmp 0) (.const undef) x24 (Value.int .i64 0)) w fun x26 =>
     BR x26
      (R (Value.int .i64 (-1)) w)
      (RD Try.prog (bin .add 3 (.tmp 0) (.const undef) (u5 5) (Value.int .i64 1)) w fun x17 =>
      next5 [x24, x17] w))
     (R (u5 1) w))
def cfg52 : Cfg := { ext := extL, joins := [], loops := [(5, 134213682, [1, 5])], draws := [], pars := [] }
theorem F52_eq (a0 a1 : Value) (w : World) (R : Value → World → Prop) : vcF Try.prog cfg52 Try.f52 [a0, a1] w R = F52 a0 a1 w R := by kernel_rfl
theorem F52_call {a0 a1 : Value} {w : World} {R : Value → World → Prop} (h : F52 a0 a1 w R) : CALL Try.prog 52 [a0, a1] w R :=
  call_of (g := cfg52) ent mixed Try.func52 (Nat.le_of_ble_eq_true (by kernel_rfl)) (by kernel_rfl) (F52_eq a0 a1 w R ▸ h)

/-- laws.szIntS -/
def F53 (a0 a1 : Value) (w : World) (R : Value → World → Prop) : Prop :=
  RD Try.prog (Builtin.len_ #[23] 3 [a0].toArray) w fun x7 =>
  RD Try.prog (bin .sub 3 (.tmp 0) (.tmp 0) a1 x7) w fun x8 =>
  RD Try.prog (bin .lss 3 (.tmp 0) (.const undef) x8 (Value.int .i64 0)) w fun x10 =>
  BR x10
   (R (Value.int .i64 (-1)) w)
   (R x8 w)
def cfg53 : Cfg := { ext := extL, joins := [], loops := [], draws := [], pars := [] }
theorem F53_eq (a0 a1 : Value) (w : World) (R : Value → World → Prop) : vcF Try.prog cfg53 Try.f53 [a0, a1] w R = F53 a0 a1 w R := by kernel_rfl
theorem F53_call {a0 a1 : Value} {w : World} {R : Value → World → Prop} (h : F53 a0 a1 w R) : CALL Try.prog 53 [a0, a1] w R :=
  call_of (g := cfg53) ent mixed Try.func53 (Nat.le_of_ble_eq_true (by kernel_rfl)) (by kernel_rfl) (F53_eq a0 a1 w R ▸ h)

/-- laws.szInsS -/
def F54 (a0 a1 : Value) (w : World) (R : Value → World → Prop) : Prop :=
  RD Try.prog (Builtin.len_ #[24] 3 [a0].toArray) w fun x8 =>
  RD Try.prog (bin .sub 3 (.tmp 0) (.tmp 0) a1 x8) w fun x9 =>
  RD Try.prog (bin .lss 3 (.tmp 0) (.const undef) x9 (Value.int .i64 0)) w fun x11 =>
  BR x11
   (R (Value.int .i64 (-1)) w)
   (LOOPI [1, 5] [x9, (Value.int .i64 0)] w fun u5 w next5 =>
    RD Try.prog (Builtin.len_ #[24] 3 [a0].toArray) w fun x14 =>
    RD Try.prog (bin .lss 3 (.tmp 0) (.tmp 0) (u5 5) x14) w fun x15 =>
    BR x15
     (RD Try.prog (Instr.indexAt 24 a0 (u5 5)) w fun x20 =>
     RD Try.prog (Instr.loadAt 90 x20) w fun x21 =>
     CALL Try.prog 93 [x21, (u5 1)] w fun x23 w =>
     RD Try.prog (bin .lss 3 (.tmp 0) (.const undef) x23 (Value.int .i64 0)) w fun x25 =>
     BR x25
      (R (Value.int .i64 (-1)) w)
      (RD Try.prog (bin .add 3 (.tmp 0) (.const undef) (u5 5) (Value.int .i64 1)) w fun x17 =>
      next5 [x23, x17] w))
     (R (u5 1) w))
def cfg54 : Cfg := { ext := extL, joins := [], loops := [(5, 67104818, [1, 5])], draws := [], pars := [] }
theorem F54_eq (a0 a1 : Value) (w : World) (R : Value → World → Prop) : vcF Try.prog cfg54 Try.f54 [a0, a1] w R = F54 a0 a1 w R := by kernel_rfl
theorem F54_call {a0 a1 : Value} {w : World} {R : Value → World → Prop} (h : F54 a0 a1 w R) : CALL Try.prog 54 [a0, a1] w R :=
  call_of (g := cfg54) ent mixed Try.func54 (Nat.le_of_ble_eq_true (by kernel_rfl)) (by kernel_rfl) (F54_eq a0 a1 w R ▸ h)

/-- spec.CodeOk -/
def F55 (a0 : Value) (w : World) (R : Value → World → Prop) : Prop :=
  OP Try.prog (Instr.box 31 a0) w fun x1 w =>
  RD Try.prog (Instr.loadAt 31 x1) w fun x4 =>
  CALL Try.prog 94 [x4] w fun x5 w =>
  RD Try.prog (Op.unary .not x5) w fun x6 =>
  BR x6
   (R (Value.bool false) w)
   (LOOPI [3] [(Value.int .i64 0)] w fun u4 w next4 =>
    RD Try.prog (Instr.fieldAt 31 x1 4) w fun x8 =>
    RD Try.prog (Instr.loadAt 29 x8) w fun x9 =>
    RD Try.prog (Builtin.len_ #[29] 3 [x9].toArray) w fun x10 =>
    RD Try.prog (bin .lss 3 (.tmp 0) (.tmp 0) (u4 3) x10) w fun x11 =>
    BR x11
     (RD Try.prog (Instr.loadAt 31 x1) w fun x14 =>
     CALL Try.prog 95 [x14, (u4 3)] w fun x16 w =>
     RD Try.prog (Op.unary .not x16) w fun x17 =>
     BR x17
      (R (Value.bool false) w)
      (RD Try.prog (bin .add 3 (.tmp 0) (.const undef) (u4 3) (Value.int .i64 1)) w fun x13 =>
      next4 [x13] w))
     (R (Value.bool true) w))
def cfg55 : Cfg := { ext := extL, joins := [], loops := [(4, 262028, [3])], draws := [], pars := [] }
theorem F55_eq (a0 : Value) (w : World) (R : Value → World → Prop) : vcF Try.prog cfg55 Try.f55 [a0] w R = F55 a0 w R := by kernel_rfl
theorem F55_call {a0 : Value} {w : World} {R : Value → World → Prop} (h : F55 a0 w R) : CALL Try.prog 55 [a0] w R :=
  call_of (g := cfg55) ent mixed Try.func55 (Nat.le_of_ble_eq_true (by kernel_rfl)) (by kernel_rfl) (F55_eq a0 w R ▸ h)

/-- spec.l01In -/
def F56 (a0 a1 a2 : Value) (w : World) (R : Value → World → Prop) : Prop :=
  RD Try.prog (bin .geq 3 (.tmp 0) (.tmp 0) a0 a1) w fun x9 =>
  BR x9
  (RD Try.prog (bin .leq 3 (.tmp 0) (.tmp 0) a0 a2) w fun x13 =>
  R x13 w)
  (R (Value.bool false) w)
def cfg56 : Cfg := { ext := extL, joins := [], loops := [], draws := [], pars := [] }
theorem F56_eq (a0 a1 a2 : Value) (w : World) (R : Value → World → Prop) : vcF Try.prog cfg56 Try.f56 [a0, a1, a2] w R = F56 a0 a1 a2 w R := by kernel_rfl
theorem F56_call {a0 a1 a2 : Value} {w : World} {R : Value → World → Prop} (h : F56 a0 a1 a2 w R) : CALL Try.prog 56 [a0, a1, a2] w R :=
  call_of (g := cfg56) ent mixed Try.func56 (Nat.le_of_ble_eq_true (by kernel_rfl)) (by kernel_rfl) (F56_eq a0 a1 a2 w R ▸ h)

/-- laws.toStringS -/
def F57 (a0 : Value) (w : World) (R : Value → World → Prop) : Prop :=
  RD Try.prog (Builtin.len_ #[22] 3 [a0].toArray) w fun x6 =>
  OP Try.prog (Instr.makeSlice 22 x6 x6) w fun x7 w =>
  LOOPI [4] [(Value.int .i64 0)] w fun u3 w next3 =>
   RD Try.prog (Builtin.len_ #[22] 3 [a0].toArray) w fun x10 =>
   RD Try.prog (bin .lss 3 (.tmp 0) (.tmp 0) (u3 4) x10) w fun x11 =>
   BR x11
    (RD Try.prog (Instr.indexAt 22 a0 (u3 4)) w fun x18 =>
    RD Try.prog (Instr.loadAt 9 x18) w fun x19 =>
    RD Try.prog (Instr.indexAt 22 x7 (u3 4)) w fun x20 =>
    OPU Try.prog (Instr.storeAt 9 x20 x19) w fun w =>
    RD Try.prog (bin .add 3 (.tmp 0) (.const undef) (u3 4) (Value.int .i64 1)) w fun x13 =>
    next3 [x13] w)
    (R x7 w)
def cfg57 : Cfg := { ext := extL, joins := [], loops := [(3, 2096912, [4])], draws := [], pars := [] }
theorem F57_eq (a0 : Value) (w : World) (R : Value → World → Prop) : vcF Try.prog cfg57 Try.f57 [a0] w R = F57 a0 w R := by kernel_rfl
theorem F57_call {a0 : Value} {w : World} {R : Value → World → Prop} (h : F57 a0 w R) : CALL Try.prog 57 [a0] w R :=
  call_of (g := cfg57) ent mixed Try.func57 (Nat.le_of_ble_eq_true (by kernel_rfl)) (by kernel_rfl) (F57_eq a0 w R ▸ h)

/-- laws.toInsS -/
def F58 (a0 : Value) (w : World) (R : Value → World → Prop) : Prop :=
  RD Try.prog (Builtin.len_ #[24] 3 [a0].toArray) w fun x6 =>
  OP Try.prog (Instr.makeSlice 29 x6 x6) w fun x7 w =>
  LOOPI [4] [(Value.int .i64 0)] w fun u3 w next3 =>
   RD Try.prog (Builtin.len_ #[24] 3 [a0].toArray) w fun x10 =>
   RD Try.prog (bin .lss 3 (.tmp 0) (.tmp 0) (u3 4) x10) w fun x11 =>
   BR x11
    (RD Try.prog (Instr.indexAt 24 a0 (u3 4)) w fun x18 =>
    RD Try.prog (Instr.loadAt 90 x18) w fun x19 =>
    CALL Try.prog 96 [x19] w fun x20 w =>
    RD Try.prog (Instr.indexAt 29 x7 (u3 4)) w fun x21 =>
    OPU Try.prog (Instr.storeAt 95 x21 x20) w fun w =>
    RD Try.prog (bin .add 3 (.tmp 0) (.const undef) (u3 4) (Value.int .i64 1)) w fun x13 =>
    next3 [x13] w)
    (R x7 w)
def cfg58 : Cfg := { ext := extL, joins := [], loops := [(3, 4194064, [4])], draws := [], pars := [] }
theorem F58_eq (a0 : Value) (w : World) (R : Value → World → Prop) : vcF Try.prog cfg58 Try.f58 [a0] w R = F58 a0 w R := by kernel_rfl
theorem F58_call {a0 : Value} {w : World} {R : Value → World → Prop} (h : F58 a0 w R) : CALL Try.prog 58 [a0] w R :=
  call_of (g := cfg58) ent mixed Try.func58 (Nat.le_of_ble_eq_true (by kernel_rfl)) (by kernel_rfl) (F58_eq a0 w R ▸ h)

/-- impl.CodeOk -/
def F59 (a0 : Value) (w : World) (R : Value → World → Prop) : Prop :=
  OP Try.prog (Instr.box 31 a0) w fun x1 w =>
  RD Try.prog (Instr.loadAt 31 x1) w fun x8 =>
  CALL Try.prog 97 [x8] w fun x9 w =>
  RD Try.prog (Op.unary .not x9) w fun x10 =>
  BR x10
  (R (Value.bool false) w)
  (RD Try.prog (Instr.loadAt 31 x1) w fun x12 =>
  CALL Try.prog 98 [x12] w fun x13 w =>
  RD Try.prog (Op.unary .not x13) w fun x14 =>
  BR x14
   (R (Value.bool false) w)
   (RD Try.prog (Instr.fieldAt 31 x1 3) w fun x16 =>
   RD Try.prog (Instr.loadAt 23 x16) w fun x17 =>
   RD Try.prog (Builtin.len_ #[23] 3 [x17].toArray) w fun x18 =>
   LOOPI [19] [(Value.int .i64 0)] w fun u4 w next4 =>
    RD Try.prog (bin .lss 3 (.tmp 0) (.tmp 0) (u4 19) x18) w fun x20 =>
    BR x20
     (RD Try.prog (Instr.indexAt 23 x17 (u4 19)) w fun x22 =>
     RD Try.prog (Instr.loadAt 3 x22) w fun x23 =>
     RD Try.prog (Instr.loadAt 31 x1) w fun x24 =>
     CALL Try.prog 99 [x24, (u4 19)] w fun x26 w =>
     RD Try.prog (Instr.fieldAt 31 x1 4) w fun x27 =>
     RD Try.prog (Instr.loadAt 29 x27) w fun x28 =>
     RD Try.prog (Instr.sliceAt 29 x28 (some x23) (some x26) none) w fun x31 =>
     RD Try.prog (Builtin.len_ #[29] 3 [x31].toArray) w fun x32 =>
     LOOPI [33] [(Value.int .i64 0)] w fun u8 w next8 =>
      RD Try.prog (bin .lss 3 (.tmp 0) (.tmp 0) (u8 33) x32) w fun x34 =>
      BR x34
       (RD Try.prog (Instr.indexAt 29 x31 (u8 33)) w fun x35 =>
       RD Try.prog (Instr.loadAt 95 x35) w fun x36 =>
       OP Try.prog (Instr.alloc 95 true (.tuple #[])) w fun x7 w =>
       OPU Try.prog (Instr.storeAt 95 x7 x36) w fun w =>
       RD Try.prog (Instr.loadAt 31 x1) w fun x37 =>
       RD Try.prog (Instr.loadAt 95 x7) w fun x38 =>
       CALL Try.prog 100 [x37, x38, x23, x26] w fun x41 w =>
       RD Try.prog (Op.unary .not x41) w fun x42 =>
       BR x42
        (R (Value.bool false) w)
        (RD Try.prog (bin .add 3 (.tmp 0) (.const undef) (u8 33) (Value.int .i64 1)) w fun x43 =>
        next8 [x43] w))
       (RD Try.prog (bin .add 3 (.tmp 0) (.const undef) (u4 19) (Value.int .i64 1)) w fun x44 =>
       next4 [x44] w))
     (R (Value.bool true) w)))
def cfg59 : Cfg := { ext := extL, joins := [], loops := [(4, 35184371564732, [19]), (8, 17583596109956, [33])], draws := [], pars := [] }
theorem F59_eq (a0 : Value) (w : World) (R : Value → World → Prop) : vcF Try.prog cfg59 Try.f59 [a0] w R = F59 a0 w R := by kernel_rfl
theorem F59_call {a0 : Value} {w : World} {R : Value → World → Prop} (h : F59 a0 w R) : CALL Try.prog 59 [a0] w R :=
  call_of (g := cfg59) ent mixed Try.func59 (Nat.le_of_ble_eq_true (by kernel_rfl)) (by kernel_rfl) (F59_eq a0 w R ▸ h)

/-- laws.eqStringS -/
def F60 (a0 a1 : Value) (w : World) (R : Value → World → Prop) : Prop :=
  RD Try.prog (Builtin.len_ #[22] 3 [a0].toArray) w fun x7 =>
  RD Try.prog (Builtin.len_ #[22] 3 [a1].toArray) w fun x9 =>
  RD Try.prog (bin .neq 3 (.tmp 0) (.tmp 0) x7 x9) w fun x10 =>
  BR x10
   (R (Value.bool false) w)
   (LOOPI [5] [(Value.int .i64 0)] w fun u4 w next4 =>
    RD Try.prog (Builtin.len_ #[22] 3 [a0].toArray) w fun x13 =>
    RD Try.prog (bin .lss 3 (.tmp 0) (.tmp 0) (u4 5) x13) w fun x14 =>
    BR x14
     ((fun w => RD Try.prog (Instr.indexAt 22 a0 (u4 5)) w fun x19 =>
     RD Try.prog (Instr.loadAt 9 x19) w fun x20 =>
     RD Try.prog (Instr.indexAt 22 a1 (u4 5)) w fun x23 =>
     RD Try.prog (Instr.loadAt 9 x23) w fun x24 =>
     RD Try.prog (bin .neq 9 (.tmp 0) (.tmp 0) x20 x24) w fun x25 =>
     BR x25
      (R (Value.bool false) w)
      (RD Try.prog (bin .add 3 (.tmp 0) (.const undef) (u4 5) (Value.int .i64 1)) w fun x16 =>
      next4 [x16] w)) (World.drew1 w))
     (R (Value.bool true) w))
def cfg60 : Cfg := { ext := extL, joins := [], loops := [(4, 67106864, [5])], draws := [(6, [0, 1, 2, 3, 4, 5, 6, 7, 8], 0)], pars := [] }
theorem F60_eq (a0 a1 : Value) (w : World) (R : Value → World → Prop) : vcF Try.prog cfg60 Try.f60 [a0, a1] w R = F60 a0 a1 w R := by kernel_rfl
theorem F60_call {a0 a1 : Value} {w : World} {R : Value → World → Prop} (h : F60 a0 a1 w R) : CALL Try.prog 60 [a0, a1] w R :=
  call_of (g := cfg60) ent mixed Try.func60 (Nat.le_of_ble_eq_true (by kernel_rfl)) (by kernel_rfl) (F60_eq a0 a1 w R ▸ h)

/-- laws.eqInsS -/
def F61 (a0 a1 : Value) (w : World) (R : Value → World → Prop) : Prop :=
  RD Try.prog (Builtin.len_ #[29] 3 [a0].toArray) w fun x7 =>
  RD Try.prog (Builtin.len_ #[29] 3 [a1].toArray) w fun x9 =>
  RD Try.prog (bin .neq 3 (.tmp 0) (.tmp 0) x7 x9) w fun x10 =>
  BR x10
   (R (Value.bool false) w)
   (LOOPI [5] [(Value.int .i64 0)] w fun u4 w next4 =>
    RD Try.prog (Builtin.len_ #[29] 3 [a0].toArray) w fun x13 =>
    RD Try.prog (bin .lss 3 (.tmp 0) (.tmp 0) (u4 5) x13) w fun x14 =>
    BR x14
     ((fun w => RD Try.prog (Instr.indexAt 29 a0 (u4 5)) w fun x19 =>
     RD Try.prog (Instr.loadAt 95 x19) w fun x20 =>
     RD Try.prog (Instr.indexAt 29 a1 (u4 5)) w fun x23 =>
     RD Try.prog (Instr.loadAt 95 x23) w fun x24 =>
     CALL Try.prog 101 [x20, x24] w fun x25 w =>
     RD Try.prog (Op.unary .not x25) w fun x26 =>
     BR x26
      (R (Value.bool false) w)
      (RD Try.prog (bin .add 3 (.tmp 0) (.const undef) (u4 5) (Value.int .i64 1)) w fun x16 =>
      next4 [x16] w)) (World.drew1 w))
     (R (Value.bool true) w))
def cfg61 : Cfg := { ext := extL, joins := [], loops := [(4, 134215728, [5])], draws := [(6, [0, 1, 2, 3, 4, 5, 6, 7, 8, 9], 0)], pars := [] }
theorem F61_eq (a0 a1 : Value) (w : World) (R : Value → World → Prop) : vcF Try.prog cfg61 Try.f61 [a0, a1] w R = F61 a0 a1 w R := by kernel_rfl
theorem F61_call {a0 a1 : Value} {w : World} {R : Value → World → Prop} (h : F61 a0 a1 w R) : CALL Try.prog 61 [a0, a1] w R :=
  call_of (g := cfg61) ent mixed Try.func61 (Nat.le_of_ble_eq_true (by kernel_rfl)) (by kernel_rfl) (F61_eq a0 a1 w R ▸ h)

/-- laws.szIntSS -/
def F62 (a0 a1 : Value) (w : World) (R : Value → World → Prop) : Prop :=
  RD Try.prog (Builtin.len_ #[37] 3 [a0].toArray) w fun x8 =>
  RD Try.prog (bin .sub 3 (.tmp 0) (.tmp 0) a1 x8) w fun x9 =>
  RD Try.prog (bin .lss 3 (.tmp 0) (.const undef) x9 (Value.int .i64 0)) w fun x11 =>
  BR x11
   (R (Value.int .i64 (-1)) w)
   (LOOPI [1, 5] [x9, (Value.int .i64 0)] w fun u5 w next5 =>
    RD Try.prog (Builtin.len_ #[37] 3 [a0].toArray) w fun x14 =>
    RD Try.prog (bin .lss 3 (.tmp 0) (.tmp 0) (u5 5) x14) w fun x15 =>
    BR x15
     (RD Try.prog (Instr.indexAt 37 a0 (u5 5)) w fun x20 =>
     RD Try.prog (Instr.loadAt 23 x20) w fun x21 =>
     CALL Try.prog 53 [x21, (u5 1)] w fun x23 w =>
     RD Try.prog (bin .lss 3 (.tmp 0) (.const undef) x23 (Value.int .i64 0)) w fun x25 =>
     BR x25
      (R (Value.int .i64 (-1)) w)
      (RD Try.prog (bin .add 3 (.tmp 0) (.const undef) (u5 5) (Value.int .i64 1)) w fun x17 =>
      next5 [x23, x17] w))
     (R (u5 1) w))
def cfg62 : Cfg := { ext := extL, joins := [], loops := [(5, 67104818, [1, 5])], draws := [], pars := [] }
theorem F62_eq (a0 a1 : Value) (w : World) (R : Value → World → Prop) : vcF Try.prog cfg62 Try.f62 [a0, a1] w R = F62 a0 a1 w R := by kernel_rfl
theorem F62_call {a0 a1 : Value} {w : World} {R : Value → World → Prop} (h : F62 a0 a1 w R) : CALL Try.prog 62 [a0, a1] w R :=
  call_of (g := cfg62) ent mixed Try.func62 (Nat.le_of_ble_eq_true (by kernel_rfl)) (by kernel_rfl) (F62_eq a0 a1 w R ▸ h)

/-- spec.l21Right -/
def F63 (a0 a1 : Value) (w : World) (R : Value → World → Prop) : Prop :=
  OP Try.prog (Instr.box 31 a0) w fun x2 w =>
  OP Try.prog (Instr.box 42 a1) w fun x3 w =>
  RD Try.prog (Instr.fieldAt 42 x3 0) w fun x8 =>
  RD Try.prog (Instr.loadAt 23 x8) w fun x9 =>
  RD Try.prog (Builtin.len_ #[23] 3 [x9].toArray) w fun x10 =>
  RD Try.prog (Instr.fieldAt 31 x2 0) w fun x11 =>
  RD Try.prog (Instr.loadAt 22 x11) w fun x12 =>
  RD Try.prog (Builtin.len_ #[22] 3 [x12].toArray) w fun x13 =>
  RD Try.prog (bin .neq 3 (.tmp 0) (.tmp 0) x10 x13) w fun x14 =>
  BR x14
  (R (Value.bool false) w)
  (RD Try.prog (Instr.fieldAt 42 x3 1) w fun x16 =>
  RD Try.prog (Instr.loadAt 23 x16) w fun x17 =>
  RD Try.prog (Builtin.len_ #[23] 3 [x17].toArray) w fun x18 =>
  RD Try.prog (Instr.fieldAt 31 x2 1) w fun x19 =>
  RD Try.prog (Instr.loadAt 22 x19) w fun x20 =>
  RD Try.prog (Builtin.len_ #[22] 3 [x20].toArray) w fun x21 =>
  RD Try.prog (bin .neq 3 (.tmp 0) (.tmp 0) x18 x21) w fun x22 =>
  BR x22
  (R (Value.bool false) w)
  (RD Try.prog (Instr.fieldAt 42 x3 2) w fun x25 =>
  RD Try.prog (Instr.loadAt 37 x25) w fun x26 =>
  RD Try.prog (Builtin.len_ #[37] 3 [x26].toArray) w fun x27 =>
  CALL Try.prog 56 [x27, (Value.int .i64 1), (Value.int .i64 6)] w fun x28 w =>
  RD Try.prog (Op.unary .not x28) w fun x29 =>
  BR x29
   (R (Value.bool false) w)
   (LOOPI [5] [(Value.int .i64 0)] w fun u4 w next4 =>
    RD Try.prog (Instr.fieldAt 42 x3 0) w fun x32 =>
    RD Try.prog (Instr.loadAt 23 x32) w fun x33 =>
    RD Try.prog (Builtin.len_ #[23] 3 [x33].toArray) w fun x34 =>
    RD Try.prog (bin .lss 3 (.tmp 0) (.tmp 0) (u4 5) x34) w fun x35 =>
    BR x35
     (RD Try.prog (Instr.fieldAt 42 x3 0) w fun x38 =>
     RD Try.prog (Instr.loadAt 23 x38) w fun x39 =>
     RD Try.prog (Instr.indexAt 23 x39 (u4 5)) w fun x41 =>
     RD Try.prog (Instr.loadAt 3 x41) w fun x42 =>
     CALL Try.prog 56 [x42, (Value.int .i64 0), (Value.int .i64 999)] w fun x43 w =>
     RD Try.prog (Op.unary .not x43) w fun x44 =>
     BR x44
      (R (Value.bool false) w)
      (RD Try.prog (bin .add 3 (.tmp 0) (.const undef) (u4 5) (Value.int .i64 1)) w fun x37 =>
      next4 [x37] w))
     (LOOPI [6] [(Value.int .i64 0)] w fun u9 w next9 =>
      RD Try.prog (Instr.fieldAt 42 x3 1) w fun x46 =>
      RD Try.prog (Instr.loadAt 23 x46) w fun x47 =>
      RD Try.prog (Builtin.len_ #[23] 3 [x47].toArray) w fun x48 =>
      RD Try.prog (bin .lss 3 (.tmp 0) (.tmp 0) (u9 6) x48) w fun x49 =>
      BR x49
       ((fun w => RD Try.prog (Instr.fieldAt 42 x3 1) w fun x52 =>
       RD Try.prog (Instr.loadAt 23 x52) w fun x53 =>
       RD Try.prog (Instr.indexAt 23 x53 (u9 6)) w fun x55 =>
       RD Try.prog (Instr.loadAt 3 x55) w fun x56 =>
       RD Try.prog (Instr.fieldAt 42 x3 2) w fun x57 =>
       RD Try.prog (Instr.loadAt 37 x57) w fun x58 =>
       RD Try.prog (Builtin.len_ #[37] 3 [x58].toArray) w fun x59 =>
       RD Try.prog (bin .sub 3 (.tmp 0) (.const undef) x59 (Value.int .i64 1)) w fun x60 =>
       CALL Try.prog 56 [x56, (Value.int .i64 (-1)), x60] w fun x61 w =>
       RD Try.prog (Op.unary .not x61) w fun x62 =>
       BR x62
        (R (Value.bool false) w)
        (RD Try.prog (bin .add 3 (.tmp 0) (.const undef) (u9 6) (Value.int .i64 1)) w fun x51 =>
        next9 [x51] w)) (World.drew1 w))
       (LOOPI [7] [(Value.int .i64 0)] w fun u14 w next14 =>
        RD Try.prog (Instr.fieldAt 42 x3 2) w fun x64 =>
        RD Try.prog (Instr.loadAt 37 x64) w fun x65 =>
        RD Try.prog (Builtin.len_ #[37] 3 [x65].toArray) w fun x66 =>
        RD Try.prog (bin .lss 3 (.tmp 0) (.tmp 0) (u14 7) x66) w fun x67 =>
        BR x67
         ((fun w => RD Try.prog (Instr.loadAt 31 x2) w fun x70 =>
         RD Try.prog (Instr.fieldAt 42 x3 2) w fun x71 =>
         RD Try.prog (Instr.loadAt 37 x71) w fun x72 =>
         RD Try.prog (Instr.indexAt 37 x72 (u14 7)) w fun x74 =>
         RD Try.prog (Instr.loadAt 23 x74) w fun x75 =>
         CALL Try.prog 102 [x70, x75] w fun x76 w =>
         RD Try.prog (Op.unary .not x76) w fun x77 =>
         BR x77
          (R (Value.bool false) w)
          (RD Try.prog (bin .add 3 (.tmp 0) (.const undef) (u14 7) (Value.int .i64 1)) w fun x69 =>
          next14 [x69] w)) (World.drew1 w))
         (R (Value.bool true) w))))))
def cfg63 : Cfg := { ext := extL, joins := [], loops := [(4, 35182224605232, [5]), (9, 9223336852482687056, [6]), (14, 302222231531620438900880, [7])], draws := [(11, [0, 1, 2, 3, 4, 5, 6, 7, 8, 9, 10], 0), (16, [0, 1, 2, 3, 4, 5, 6, 7], 0)], pars := [] }
theorem F63_eq (a0 a1 : Value) (w : World) (R : Value → World → Prop) : vcF Try.prog cfg63 Try.f63 [a0, a1] w R = F63 a0 a1 w R := by kernel_rfl
theorem F63_call {a0 a1 : Value} {w : World} {R : Value → World → Prop} (h : F63 a0 a1 w R) : CALL Try.prog 63 [a0, a1] w R :=
  call_of (g := cfg63) ent mixed Try.func63 (Nat.le_of_ble_eq_true (by kernel_rfl)) (by kernel_rfl) (F63_eq a0 a1 w R ▸ h)

/-- laws.toIntSS -/
def F64 (a0 : Value) (w : World) (R : Value → World → Prop) : Prop :=
  RD Try.prog (Builtin.len_ #[37] 3 [a0].toArray) w fun x6 =>
  OP Try.prog (Instr.makeSlice 37 x6 x6) w fun x7 w =>
  LOOPI [4] [(Value.int .i64 0)] w fun u3 w next3 =>
   RD Try.prog (Builtin.len_ #[37] 3 [a0].toArray) w fun x10 =>
   RD Try.prog (bin .lss 3 (.tmp 0) (.tmp 0) (u3 4) x10) w fun x11 =>
   BR x11
    (RD Try.prog (Instr.indexAt 37 a0 (u3 4)) w fun x18 =>
    RD Try.prog (Instr.loadAt 23 x18) w fun x19 =>
    CALL Try.prog 17 [x19] w fun x20 w =>
    RD Try.prog (Instr.indexAt 37 x7 (u3 4)) w fun x21 =>
    OPU Try.prog (Instr.storeAt 23 x21 x20) w fun w =>
    RD Try.prog (bin .add 3 (.tmp 0) (.const undef) (u3 4) (Value.int .i64 1)) w fun x13 =>
    next3 [x13] w)
    (R x7 w)
def cfg64 : Cfg := { ext := extL, joins := [], loops := [(3, 4194064, [4])], draws := [], pars := [] }
theorem F64_eq (a0 : Value) (w : World) (R : Value → World → Prop) : vcF Try.prog cfg64 Try.f64 [a0] w R = F64 a0 w R := by kernel_rfl
theorem F64_call {a0 : Value} {w : World} {R : Value → World → Prop} (h : F64 a0 w R) : CALL Try.prog 64 [a0] w R :=
  call_of (g := cfg64) ent mixed Try.func64 (Nat.le_of_ble_eq_true (by kernel_rfl)) (by kernel_rfl) (F64_eq a0 w R ▸ h)

/-- impl.stateRight -/
def F65 (a0 a1 : Value) (w : World) (R : Value → World → Prop) : Prop :=
  OP Try.prog (Instr.box 31 a0) w fun x2 w =>
  OP Try.prog (Instr.box 42 a1) w fun x3 w =>
  RD Try.prog (Instr.fieldAt 42 x3 2) w fun x12 =>
  RD Try.prog (Instr.loadAt 37 x12) w fun x13 =>
  RD Try.prog (Builtin.len_ #[37] 3 [x13].toArray) w fun x14 =>
  RD Try.prog (Instr.fieldAt 42 x3 0) w fun x15 =>
  RD Try.prog (Instr.loadAt 23 x15) w fun x16 =>
  RD Try.prog (Builtin.len_ #[23] 3 [x16].toArray) w fun x17 =>
  RD Try.prog (Instr.fieldAt 31 x2 0) w fun x18 =>
  RD Try.prog (Instr.loadAt 22 x18) w fun x19 =>
  RD Try.prog (Builtin.len_ #[22] 3 [x19].toArray) w fun x20 =>
  RD Try.prog (bin .neq 3 (.tmp 0) (.tmp 0) x17 x20) w fun x21 =>
  BR x21
  (R (Value.bool false) w)
  (RD Try.prog (Instr.fieldAt 42 x3 1) w fun x23 =>
  RD Try.prog (Instr.loadAt 23 x23) w fun x24 =>
  RD Try.prog (Builtin.len_ #[23] 3 [x24].toArray) w fun x25 =>
  RD Try.prog (Instr.fieldAt 31 x2 1) w fun x26 =>
  RD Try.prog (Instr.loadAt 22 x26) w fun x27 =>
  RD Try.prog (Builtin.len_ #[22] 3 [x27].toArray) w fun x28 =>
  RD Try.prog (bin .neq 3 (.tmp 0) (.tmp 0) x25 x28) w fun x29 =>
  BR x29
  (R (Value.bool false) w)
  (RD Try.prog (bin .lss 3 (.tmp 0) (.const undef) x14 (Value.int .i64 1)) w fun x33 =>
  BR x33
  (R (Value.bool false) w)
  (RD Try.prog (bin .gtr 3 (.tmp 0) (.const undef) x14 (Value.int .i64 6)) w fun x37 =>
  BR x37
   (R (Value.bool false) w)
   (RD Try.prog (Instr.fieldAt 42 x3 0) w fun x39 =>
   RD Try.prog (Instr.loadAt 23 x39) w fun x40 =>
   RD Try.prog (Builtin.len_ #[23] 3 [x40].toArray) w fun x41 =>
   LOOPI [42] [(Value.int .i64 0)] w fun u5 w next5 =>
    RD Try.prog (bin .lss 3 (.tmp 0) (.tmp 0) (u5 42) x41) w fun x43 =>
    BR x43
     (RD Try.prog (Instr.indexAt 23 x40 (u5 42)) w fun x44 =>
     RD Try.prog (Instr.loadAt 3 x44) w fun x45 =>
     RD Try.prog (bin .lss 3 (.tmp 0) (.const undef) x45 (Value.int .i64 0)) w fun x47 =>
     BR x47
     (R (Value.bool false) w)
     (RD Try.prog (bin .gtr 3 (.tmp 0) (.const undef) x45 (Value.int .i64 999)) w fun x50 =>
     BR x50
      (R (Value.bool false) w)
      (RD Try.prog (bin .add 3 (.tmp 0) (.const undef) (u5 42) (Value.int .i64 1)) w fun x52 =>
      next5 [x52] w)))
     (RD Try.prog (Instr.fieldAt 42 x3 1) w fun x53 =>
     RD Try.prog (Instr.loadAt 23 x53) w fun x54 =>
     RD Try.prog (Builtin.len_ #[23] 3 [x54].toArray) w fun x55 =>
     LOOPI [56] [(Value.int .i64 0)] w fun u11 w next11 =>
      RD Try.prog (bin .lss 3 (.tmp 0) (.tmp 0) (u11 56) x55) w fun x57 =>
      BR x57
       (RD Try.prog (Instr.indexAt 23 x54 (u11 56)) w fun x58 =>
       RD Try.prog (Instr.loadAt 3 x58) w fun x59 =>
       RD Try.prog (bin .lss 3 (.tmp 0) (.const undef) x59 (Value.int .i64 (-1))) w fun x61 =>
       BR x61
       (R (Value.bool false) w)
       (RD Try.prog (bin .geq 3 (.tmp 0) (.tmp 0) x59 x14) w fun x65 =>
       BR x65
        (R (Value.bool false) w)
        (RD Try.prog (bin .add 3 (.tmp 0) (.const undef) (u11 56) (Value.int .i64 1)) w fun x67 =>
        next11 [x67] w)))
       (RD Try.prog (Instr.fieldAt 42 x3 2) w fun x68 =>
       RD Try.prog (Instr.loadAt 37 x68) w fun x69 =>
       RD Try.prog (Builtin.len_ #[37] 3 [x69].toArray) w fun x70 =>
       LOOPI [71] [(Value.int .i64 0)] w fun u17 w next17 =>
        RD Try.prog (bin .lss 3 (.tmp 0) (.tmp 0) (u17 71) x70) w fun x72 =>
        BR x72
         (RD Try.prog (Instr.indexAt 37 x69 (u17 71)) w fun x73 =>
         RD Try.prog (Instr.loadAt 23 x73) w fun x74 =>
         RD Try.prog (Instr.loadAt 31 x2) w fun x75 =>
         CALL Try.prog 103 [x75, x74] w fun x77 w =>
         RD Try.prog (Op.unary .not x77) w fun x78 =>
         BR x78
          (R (Value.bool false) w)
          (RD Try.prog (bin .add 3 (.tmp 0) (.const undef) (u17 71) (Value.int .i64 1)) w fun x79 =>
          next17 [x79] w))
         (R (Value.bool true) w)))))))
def cfg65 : Cfg := { ext := extL, joins := [], loops := [(5, 9002801208230032, [42]), (11, 295075847585314898448, [56]), (17, 1206564636373194352101392, [71])], draws := [], pars := [] }
theorem F65_eq (a0 a1 : Value) (w : World) (R : Value → World → Prop) : vcF Try.prog cfg65 Try.f65 [a0, a1] w R = F65 a0 a1 w R := by kernel_rfl
theorem F65_call {a0 a1 : Value} {w : World} {R : Value → World → Prop} (h : F65 a0 a1 w R) : CALL Try.prog 65 [a0, a1] w R :=
  call_of (g := cfg65) ent mixed Try.func65 (Nat.le_of_ble_eq_true (by kernel_rfl)) (by kernel_rfl) (F65_eq a0 a1 w R ▸ h)

/-- laws.eqIntSS -/
def F66 (a0 a1 : Value) (w : World) (R : Value → World → Prop) : Prop :=
  RD Try.prog (Builtin.len_ #[37] 3 [a0].toArray) w fun x7 =>
  RD Try.prog (Builtin.len_ #[37] 3 [a1].toArray) w fun x9 =>
  RD Try.prog (bin .neq 3 (.tmp 0) (.tmp 0) x7 x9) w fun x10 =>
  BR x10
   (R (Value.bool false) w)
   (LOOPI [5] [(Value.int .i64 0)] w fun u4 w next4 =>
    RD Try.prog (Builtin.len_ #[37] 3 [a0].toArray) w fun x13 =>
    RD Try.prog (bin .lss 3 (.tmp 0) (.tmp 0) (u4 5) x13) w fun x14 =>
    BR x14
     ((fun w => RD Try.prog (Instr.indexAt 37 a0 (u4 5)) w fun x19 =>
     RD Try.prog (Instr.loadAt 23 x19) w fun x20 =>
     RD Try.prog (Instr.indexAt 37 a1 (u4 5)) w fun x23 =>
     RD Try.prog (Instr.loadAt 23 x23) w fun x24 =>
     CALL Try.prog 20 [x20, x24] w fun x25 w =>
     RD Try.prog (Op.unary .not x25) w fun x26 =>
     BR x26
      (R (Value.bool false) w)
      (RD Try.prog (bin .add 3 (.tmp 0) (.const undef) (u4 5) (Value.int .i64 1)) w fun x16 =>
      next4 [x16] w)) (World.drew1 w))
     (R (Value.bool true) w))
def cfg66 : Cfg := { ext := extL, joins := [], loops := [(4, 134215728, [5])], draws := [(6, [0, 1, 2, 3, 4, 5, 6, 7, 8, 9], 0)], pars := [] }
theorem F66_eq (a0 a1 : Value) (w : World) (R : Value → World → Prop) : vcF Try.prog cfg66 Try.f66 [a0, a1] w R = F66 a0 a1 w R := by kernel_rfl
theorem F66_call {a0 a1 : Value} {w : World} {R : Value → World → Prop} (h : F66 a0 a1 w R) : CALL Try.prog 66 [a0, a1] w R :=
  call_of (g := cfg66) ent mixed Try.func66 (Nat.le_of_ble_eq_true (by kernel_rfl)) (by kernel_rfl) (F66_eq a0 a1 w R ▸ h)

/-- spec.l14Main -/
def F67 (a0 : Value) (w : World) (R : Value → World → Prop) : Prop :=
  OP Try.prog (Instr.box 31 a0) w fun x1 w =>
  RD Try.prog (Instr.fieldAt 31 x1 2) w fun x3 =>
  RD Try.prog (Instr.loadAt 22 x3) w fun x4 =>
  CALL Try.prog 104 [x4, (Value.string (ByteArray.mk #[109, 97, 105, 110]))] w fun x5 w =>
  R x5 w
def cfg67 : Cfg := { ext := extL, joins := [], loops := [], draws := [], pars := [] }
theorem F67_eq (a0 : Value) (w : World) (R : Value → World → Prop) : vcF Try.prog cfg67 Try.f67 [a0] w R = F67 a0 w R := by kernel_rfl
theorem F67_call {a0 : Value} {w : World} {R : Value → World → Prop} (h : F67 a0 w R) : CALL Try.prog 67 [a0] w R :=
  call_of (g := cfg67) ent mixed Try.func67 (Nat.le_of_ble_eq_true (by kernel_rfl)) (by kernel_rfl) (F67_eq a0 w R ▸ h)

/-- impl.startIn -/
def F68 (a0 : Value) (w : World) (R : Value → World → Prop) : Prop :=
  OP Try.prog (Instr.box 31 a0) w fun x1 w =>
  OP Try.prog (Instr.alloc 42 true (.tuple #[])) w fun x2 w =>
  (fun w0 => PAR w0 (fun Q =>
   (∀ (u1 : Env) (w : World), Ext w0 w → (True) → (fun w1 => RD Try.prog (Instr.fieldAt 31 x1 0) w fun x5 =>
  Ext w1 w ∧ Q 0 x5 w) w) ∧
   (∀ (u1 : Env) (w : World), Ext w0 w → (Q 0 (u1 5) w ∧ True) → (fun w1 => RD Try.prog (Instr.loadAt 22 (u1 5)) w fun x6 =>
  Ext w1 w ∧ Q 1 x6 w) w) ∧
   (∀ (u1 : Env) (w : World), Ext w0 w → (Q 1 (u1 6) w ∧ True) → (fun w1 => RD Try.prog (Builtin.len_ #[22] 3 [(u1 6)].toArray) w fun x7 =>
  Ext w1 w ∧ Q 2 x7 w) w) ∧
   (∀ (u1 : Env) (w : World), Ext w0 w → (Q 2 (u1 7) w ∧ Q 2 (u1 7) w ∧ True) → (fun w1 => OP Try.prog (Instr.makeSlice 23 (u1 7) (u1 7)) w fun x8 w =>
  Ext w1 w ∧ Q 3 x8 w) w) ∧
   (∀ (u1 : Env) (w : World), Ext w0 w → (True) → (fun w1 => RD Try.prog (Instr.fieldAt 31 x1 1) w fun x9 =>
  Ext w1 w ∧ Q 4 x9 w) w) ∧
   (∀ (u1 : Env) (w : World), Ext w0 w → (Q 4 (u1 9) w ∧ True) → (fun w1 => RD Try.prog (Instr.loadAt 22 (u1 9)) w fun x10 =>
  Ext w1 w ∧ Q 5 x10 w) w) ∧
   (∀ (u1 : Env) (w : World), Ext w0 w → (Q 5 (u1 10) w ∧ True) → (fun w1 => RD Try.prog (Builtin.len_ #[22] 3 [(u1 10)].toArray) w fun x11 =>
  Ext w1 w ∧ Q 6 x11 w) w) ∧
   (∀ (u1 : Env) (w : World), Ext w0 w → (Q 6 (u1 11) w ∧ Q 6 (u1 11) w ∧ True) → (fun w1 => OP Try.prog (Instr.makeSlice 23 (u1 11) (u1 11)) w fun x12 w =>
  Ext w1 w ∧ Q 7 x12 w) w) ∧
   (∀ (u1 : Env) (w : World), Ext w0 w → (Q 3 (u1 8) w ∧ Q 7 (u1 12) w ∧ True) → (fun w1 => RD Try.prog (Instr.build 42 #[(0, (u1 8)), (1, (u1 12))]) w fun x13 =>
  Ext w1 w ∧ Q 8 x13 w) w) ∧
   (∀ (u1 : Env) (w : World), Ext w0 w → (True) → (fun w1 => OP Try.prog (Instr.alloc 42 true (.tuple #[])) w fun x3 w =>
  Ext w1 w ∧ Q 9 x3 w) w) ∧
   True)
   (fun Q => ∀ (u1 : Env) (w : World), Ext w0 w → (Q 0 (u1 5) w ∧ Q 1 (u1 6) w ∧ Q 2 (u1 7) w ∧ Q 3 (u1 8) w ∧ Q 4 (u1 9) w ∧ Q 5 (u1 10) w ∧ Q 6 (u1 11) w ∧ Q 7 (u1 12) w ∧ Q 8 (u1 13) w ∧ Q 9 (u1 3) w ∧ True) →
   OPU Try.prog (Instr.storeAt 42 (u1 3) (u1 13)) w fun w =>
  RD Try.prog (Instr.fieldAt 42 (u1 3) 1) w fun x14 =>
  RD Try.prog (Instr.loadAt 23 x14) w fun x15 =>
  RD Try.prog (Builtin.len_ #[23] 3 [x15].toArray) w fun x16 =>
  LOOPI [17] [(Value.int .i64 0)] w fun u3 w next3 =>
   RD Try.prog (bin .lss 3 (.tmp 0) (.tmp 0) (u3 17) x16) w fun x18 =>
   BR x18
    (RD Try.prog (Instr.fieldAt 42 (u1 3) 1) w fun x20 =>
    RD Try.prog (Instr.loadAt 23 x20) w fun x21 =>
    RD Try.prog (Instr.indexAt 23 x21 (u3 17)) w fun x23 =>
    OPU Try.prog (Instr.storeAt 3 x23 (Value.int .i64 (-1))) w fun w =>
    RD Try.prog (bin .add 3 (.tmp 0) (.const undef) (u3 17) (Value.int .i64 1)) w fun x24 =>
    next3 [x24] w)
    ((fun w => RD Try.prog (Instr.fieldAt 31 x1 3) w fun x25 =>
    RD Try.prog (Instr.loadAt 23 x25) w fun x26 =>
    RD Try.prog (Instr.fieldAt 31 x1 2) w fun x27 =>
    RD Try.prog (Instr.loadAt 22 x27) w fun x28 =>
    (fun w_ => CALL Try.prog 105 [x28, (Value.string (ByteArray.mk #[109, 97, 105, 110]))] w_ fun x29 w =>
    Ext w_ w ∧
    RD Try.prog (Instr.indexAt 23 x26 x29) w fun x30 =>
    RD Try.prog (Instr.loadAt 3 x30) w fun x31 =>
    OP Try.prog (Instr.buildSlice 23 1 #[(0, x31)]) w fun x32 w =>
    OP Try.prog (Instr.buildSlice 37 1 #[(0, x32)]) w fun x33 w =>
    RD Try.prog (Instr.fieldAt 42 (u1 3) 2) w fun x34 =>
    OPU Try.prog (Instr.storeAt 37 x34 x33) w fun w =>
    RD Try.prog (Instr.loadAt 42 (u1 3)) w fun x35 =>
    OPU Try.prog (Instr.storeAt 42 x2 x35) w fun w =>
    RD Try.prog (loadRes 42 x2) w fun r2 => R r2 w) w) (World.drew1 w)))) (World.drew1 w)
def cfg68 : Cfg := { ext := extL, joins := [], loops := [(3, 33423376, [17])], draws := [(7, [0, 1, 2, 3, 4, 5, 6, 7, 8, 9, 10], 16)], pars := [(1, 16360, 10)] }
theorem F68_eq (a0 : Value) (w : World) (R : Value → World → Prop) : vcF Try.prog cfg68 Try.f68 [a0] w R = F68 a0 w R := by kernel_rfl
theorem F68_call {a0 : Value} {w : World} {R : Value → World → Prop} (h : F68 a0 w R) : CALL Try.prog 68 [a0] w R :=
  call_of (g := cfg68) ent mixed Try.func68 (Nat.le_of_ble_eq_true (by kernel_rfl)) (by kernel_rfl) (F68_eq a0 w R ▸ h)

/-- laws.markStringS -/
def F69 (a0 a1 : Value) (w : World) (R : Value → World → Prop) : Prop :=
  LOOPI [1, 5] [a1, (Value.int .i64 0)] w fun u2 w next2 =>
   RD Try.prog (Builtin.len_ #[22] 3 [a0].toArray) w fun x8 =>
   RD Try.prog (bin .lss 3 (.tmp 0) (.tmp 0) (u2 5) x8) w fun x9 =>
   BR x9
    (CALL Try.prog 106 [(u2 1)] w fun x15 w =>
    RD Try.prog (Instr.indexAt 22 a0 (u2 5)) w fun x16 =>
    OPU Try.prog (Instr.storeAt 9 x16 x15) w fun w =>
    RD Try.prog (bin .add 3 (.tmp 0) (.const undef) (u2 1) (Value.int .i64 1)) w fun x18 =>
    RD Try.prog (bin .add 3 (.tmp 0) (.const undef) (u2 5) (Value.int .i64 1)) w fun x11 =>
    next2 [x18, x11] w)
    (R (u2 1) w)
def cfg69 : Cfg := { ext := extL, joins := [], loops := [(2, 524258, [1, 5])], draws := [], pars := [] }
theorem F69_eq (a0 a1 : Value) (w : World) (R : Value → World → Prop) : vcF Try.prog cfg69 Try.f69 [a0, a1] w R = F69 a0 a1 w R := by kernel_rfl
theorem F69_call {a0 a1 : Value} {w : World} {R : Value → World → Prop} (h : F69 a0 a1 w R) : CALL Try.prog 69 [a0, a1] w R :=
  call_of (g := cfg69) ent mixed Try.func69 (Nat.le_of_ble_eq_true (by kernel_rfl)) (by kernel_rfl) (F69_eq a0 a1 w R ▸ h)

/-- laws.markInsS -/
def F70 (a0 a1 : Value) (w : World) (R : Value → World → Prop) : Prop :=
  LOOPI [1, 5] [a1, (Value.int .i64 0)] w fun u2 w next2 =>
   RD Try.prog (Builtin.len_ #[29] 3 [a0].toArray) w fun x8 =>
   RD Try.prog (bin .lss 3 (.tmp 0) (.tmp 0) (u2 5) x8) w fun x9 =>
   BR x9
    (RD Try.prog (Instr.indexAt 29 a0 (u2 5)) w fun x15 =>
    RD Try.prog (Instr.fieldAt 95 x15 0) w fun x16 =>
    OPU Try.prog (Instr.storeAt 3 x16 (u2 1)) w fun w =>
    RD Try.prog (bin .add 3 (.tmp 0) (.const undef) (u2 1) (Value.int .i64 1)) w fun x18 =>
    RD Try.prog (Instr.indexAt 29 a0 (u2 5)) w fun x22 =>
    RD Try.prog (Instr.fieldAt 95 x22 1) w fun x23 =>
    OPU Try.prog (Instr.storeAt 3 x23 x18) w fun w =>
    RD Try.prog (bin .add 3 (.tmp 0) (.const undef) x18 (Value.int .i64 1)) w fun x25 =>
    RD Try.prog (Instr.indexAt 29 a0 (u2 5)) w fun x29 =>
    RD Try.prog (Instr.fieldAt 95 x29 2) w fun x30 =>
    RD Try.prog (Instr.fieldAt 93 x30 0) w fun x31 =>
    OPU Try.prog (Instr.storeAt 3 x31 x25) w fun w =>
    RD Try.prog (bin .add 3 (.tmp 0) (.const undef) x25 (Value.int .i64 1)) w fun x33 =>
    RD Try.prog (Instr.indexAt 29 a0 (u2 5)) w fun x37 =>
    RD Try.prog (Instr.fieldAt 95 x37 2) w fun x38 =>
    RD Try.prog (Instr.fieldAt 93 x38 1) w fun x39 =>
    OPU Try.prog (Instr.storeAt 3 x39 x33) w fun w =>
    RD Try.prog (bin .add 3 (.tmp 0) (.const undef) x33 (Value.int .i64 1)) w fun x41 =>
    CALL Try.prog 106 [x41] w fun x45 w =>
    RD Try.prog (Instr.indexAt 29 a0 (u2 5)) w fun x46 =>
    RD Try.prog (Instr.fieldAt 95 x46 2) w fun x47 =>
    RD Try.prog (Instr.fieldAt 93 x47 2) w fun x48 =>
    OPU Try.prog (Instr.storeAt 9 x48 x45) w fun w =>
    RD Try.prog (bin .add 3 (.tmp 0) (.const undef) x41 (Value.int .i64 1)) w fun x50 =>
    RD Try.prog (Instr.indexAt 29 a0 (u2 5)) w fun x53 =>
    RD Try.prog (Instr.fieldAt 95 x53 2) w fun x54 =>
    RD Try.prog (Instr.fieldAt 93 x54 3) w fun x55 =>
    RD Try.prog (Instr.loadAt 91 x55) w fun x56 =>
    CALL Try.prog 107 [x56, x50] w fun x58 w =>
    RD Try.prog (Instr.indexAt 29 a0 (u2 5)) w fun x62 =>
    RD Try.prog (Instr.fieldAt 95 x62 3) w fun x63 =>
    OPU Try.prog (Instr.storeAt 3 x63 x58) w fun w =>
    RD Try.prog (bin .add 3 (.tmp 0) (.const undef) x58 (Value.int .i64 1)) w fun x65 =>
    RD Try.prog (bin .add 3 (.tmp 0) (.const undef) (u2 5) (Value.int .i64 1)) w fun x11 =>
    next2 [x65, x11] w)
    (R (u2 1) w)
def cfg70 : Cfg := { ext := extL, joins := [], loops := [(2, 73786976294838206434, [1, 5])], draws := [], pars := [] }
theorem F70_eq (a0 a1 : Value) (w : World) (R : Value → World → Prop) : vcF Try.prog cfg70 Try.f70 [a0, a1] w R = F70 a0 a1 w R := by kernel_rfl
theorem F70_call {a0 a1 : Value} {w : World} {R : Value → World → Prop} (h : F70 a0 a1 w R) : CALL Try.prog 70 [a0, a1] w R :=
  call_of (g := cfg70) ent mixed Try.func70 (Nat.le_of_ble_eq_true (by kernel_rfl)) (by kernel_rfl) (F70_eq a0 a1 w R ▸ h)

/-- laws.markIntSS -/
def F71 (a0 a1 : Value) (w : World) (R : Value → World → Prop) : Prop :=
  LOOPI [1, 5] [a1, (Value.int .i64 0)] w fun u2 w next2 =>
   RD Try.prog (Builtin.len_ #[37] 3 [a0].toArray) w fun x8 =>
   RD Try.prog (bin .lss 3 (.tmp 0) (.tmp 0) (u2 5) x8) w fun x9 =>
   BR x9
    (RD Try.prog (Instr.indexAt 37 a0 (u2 5)) w fun x14 =>
    RD Try.prog (Instr.loadAt 23 x14) w fun x15 =>
    CALL Try.prog 44 [x15, (u2 1)] w fun x17 w =>
    RD Try.prog (bin .add 3 (.tmp 0) (.const undef) (u2 5) (Value.int .i64 1)) w fun x11 =>
    next2 [x17, x11] w)
    (R (u2 1) w)
def cfg71 : Cfg := { ext := extL, joins := [], loops := [(2, 262114, [1, 5])], draws := [], pars := [] }
theorem F71_eq (a0 a1 : Value) (w : World) (R : Value → World → Prop) : vcF Try.prog cfg71 Try.f71 [a0, a1] w R = F71 a0 a1 w R := by kernel_rfl
theorem F71_call {a0 a1 : Value} {w : World} {R : Value → World → Prop} (h : F71 a0 a1 w R) : CALL Try.prog 71 [a0, a1] w R :=
  call_of (g := cfg71) ent mixed Try.func71 (Nat.le_of_ble_eq_true (by kernel_rfl)) (by kernel_rfl) (F71_eq a0 a1 w R ▸ h)

/-- laws.heldIntSS -/
def F72 (a0 a1 : Value) (w : World) (R : Value → World → Prop) : Prop :=
  LOOPI [1, 5] [a1, (Value.int .i64 0)] w fun u2 w next2 =>
   RD Try.prog (Builtin.len_ #[37] 3 [a0].toArray) w fun x8 =>
   RD Try.prog (bin .lss 3 (.tmp 0) (.tmp 0) (u2 5) x8) w fun x9 =>
   BR x9
    (RD Try.prog (Instr.indexAt 37 a0 (u2 5)) w fun x14 =>
    RD Try.prog (Instr.loadAt 23 x14) w fun x15 =>
    CALL Try.prog 45 [x15, (u2 1)] w fun x17 w =>
    RD Try.prog (bin .lss 3 (.tmp 0) (.const undef) x17 (Value.int .i64 0)) w fun x19 =>
    BR x19
     (R (Value.int .i64 (-1)) w)
     (RD Try.prog (bin .add 3 (.tmp 0) (.const undef) (u2 5) (Value.int .i64 1)) w fun x11 =>
     next2 [x17, x11] w))
    (R (u2 1) w)
def cfg72 : Cfg := { ext := extL, joins := [], loops := [(2, 1048562, [1, 5])], draws := [], pars := [] }
theorem F72_eq (a0 a1 : Value) (w : World) (R : Value → World → Prop) : vcF Try.prog cfg72 Try.f72 [a0, a1] w R = F72 a0 a1 w R := by kernel_rfl
theorem F72_call {a0 a1 : Value} {w : World} {R : Value → World → Prop} (h : F72 a0 a1 w R) : CALL Try.prog 72 [a0, a1] w R :=
  call_of (g := cfg72) ent mixed Try.func72 (Nat.le_of_ble_eq_true (by kernel_rfl)) (by kernel_rfl) (F72_eq a0 a1 w R ▸ h)

/-- spec.l09At -/
def F73 (a0 a1 : Value) (w : World) (R : Value → World → Prop) : Prop :=
  OP Try.prog (Instr.box 31 a0) w fun x2 w =>
  RD Try.prog (Instr.loadAt 31 x2) w fun x5 =>
  CALL Try.prog 55 [x5] w fun x6 w =>
  BR x6
  (RD Try.prog (Instr.fieldAt 31 x2 4) w fun x9 =>
  RD Try.prog (Instr.loadAt 29 x9) w fun x10 =>
  RD Try.prog (Builtin.len_ #[29] 3 [x10].toArray) w fun x11 =>
  RD Try.prog (bin .sub 3 (.tmp 0) (.const undef) x11 (Value.int .i64 1)) w fun x12 =>
  CALL Try.prog 56 [a1, (Value.int .i64 0), x12] w fun x13 w =>
  R x13 w)
  (R (Value.bool false) w)
def cfg73 : Cfg := { ext := extL, joins := [], loops := [], draws := [], pars := [] }
theorem F73_eq (a0 a1 : Value) (w : World) (R : Value → World → Prop) : vcF Try.prog cfg73 Try.f73 [a0, a1] w R = F73 a0 a1 w R := by kernel_rfl
theorem F73_call {a0 a1 : Value} {w : World} {R : Value → World → Prop} (h : F73 a0 a1 w R) : CALL Try.prog 73 [a0, a1] w R :=
  call_of (g := cfg73) ent mixed Try.func73 (Nat.le_of_ble_eq_true (by kernel_rfl)) (by kernel_rfl) (F73_eq a0 a1 w R ▸ h)

/-- spec.l17At -/
def F74 (a0 a1 a2 : Value) (w : World) (R : Value → World → Prop) : Prop :=
  OP Try.prog (Instr.box 31 a0) w fun x3 w =>
  OP Try.prog (Instr.buildSlice 50 0 #[]) w fun x11 w =>
  RD Try.prog (Instr.fieldAt 31 x3 4) w fun x12 =>
  RD Try.prog (Instr.loadAt 29 x12) w fun x13 =>
  RD Try.prog (Instr.indexAt 29 x13 a1) w fun x15 =>
  RD Try.prog (Instr.loadAt 95 x15) w fun x16 =>
  OP Try.prog (Instr.alloc 95 true (.tuple #[])) w fun x8 w =>
  OPU Try.prog (Instr.storeAt 95 x8 x16) w fun w =>
  JOIN [] (fun J5 =>
   RD Try.prog (Instr.fieldAt 95 x8 0) w fun x17 =>
   RD Try.prog (Instr.loadAt 3 x17) w fun x18 =>
   RD Try.prog (bin .neq 3 (.tmp 0) (.const undef) x18 (Value.int .i64 1)) w fun x19 =>
   BR x19
   (RD Try.prog (Instr.fieldAt 95 x8 0) w fun x21 =>
   RD Try.prog (Instr.loadAt 3 x21) w fun x22 =>
   RD Try.prog (bin .neq 3 (.tmp 0) (.const undef) x22 (Value.int .i64 2)) w fun x23 =>
   BR x23
    (R x11 w)
    (J5 [] w))
   (J5 [] w)) (fun u5 w =>
   RD Try.prog (Instr.fieldAt 95 x8 2) w fun x26 =>
   RD Try.prog (Instr.loadAt 93 x26) w fun x27 =>
   CALL Try.prog 108 [x27] w fun x28 w =>
   LOOPI [7, 10] [x11, (Value.int .i64 0)] w fun u7 w next7 =>
    RD Try.prog (Instr.fieldAt 31 x3 0) w fun x30 =>
    RD Try.prog (Instr.loadAt 22 x30) w fun x31 =>
    RD Try.prog (Builtin.len_ #[22] 3 [x31].toArray) w fun x32 =>
    RD Try.prog (bin .lss 3 (.tmp 0) (.tmp 0) (u7 10) x32) w fun x33 =>
    BR x33
     (JOIN [7] (fun J11 =>
      RD Try.prog (Instr.fieldAt 31 x3 0) w fun x37 =>
      RD Try.prog (Instr.loadAt 22 x37) w fun x38 =>
      RD Try.prog (Instr.indexAt 22 x38 (u7 10)) w fun x40 =>
      RD Try.prog (Instr.loadAt 9 x40) w fun x41 =>
      CALL Try.prog 109 [x28, x41] w fun x42 w =>
      BR x42
       (RD Try.prog (Instr.build 80 #[(0, a1), (1, (u7 10)), (3, a2)]) w fun x47 =>
       OP Try.prog (Instr.buildSlice 50 1 #[(0, x47)]) w fun x48 w =>
       OP Try.prog (Builtin.append_ #[50, 50] 50 [(u7 7), x48].toArray) w fun x49 w =>
       J11 [x49] w)
       (J11 [(u7 7)] w)) (fun u11 w =>
      RD Try.prog (Instr.fieldAt 95 x8 0) w fun x50 =>
      RD Try.prog (Instr.loadAt 3 x50) w fun x51 =>
      RD Try.prog (bin .eql 3 (.tmp 0) (.const undef) x51 (Value.int .i64 1)) w fun x52 =>
      BR x52
      (RD Try.prog (Instr.fieldAt 95 x8 1) w fun x54 =>
      RD Try.prog (Instr.loadAt 3 x54) w fun x55 =>
      RD Try.prog (bin .eql 3 (.tmp 0) (.tmp 0) x55 (u7 10)) w fun x57 =>
      BR x57
       (RD Try.prog (Instr.build 80 #[(0, a1), (1, (u7 10)), (2, (Value.bool true)), (3, a2)]) w fun x63 =>
       OP Try.prog (Instr.buildSlice 50 1 #[(0, x63)]) w fun x64 w =>
       OP Try.prog (Builtin.append_ #[50, 50] 50 [(u11 7), x64].toArray) w fun x65 w =>
       RD Try.prog (bin .add 3 (.tmp 0) (.const undef) (u7 10) (Value.int .i64 1)) w fun x35 =>
       next7 [x65, x35] w)
       (RD Try.prog (bin .add 3 (.tmp 0) (.const undef) (u7 10) (Value.int .i64 1)) w fun x35 =>
       next7 [(u11 7), x35] w))
      (RD Try.prog (bin .add 3 (.tmp 0) (.const undef) (u7 10) (Value.int .i64 1)) w fun x35 =>
       next7 [(u11 7), x35] w)))
     (R (u7 7) w))
def cfg74 : Cfg := { ext := extL, joins := [(5, 66977856, []), (11, 1125831187366016, [7])], loops := [(7, 73786976294301336704, [7, 10])], draws := [], pars := [] }
theorem F74_eq (a0 a1 a2 : Value) (w : World) (R : Value → World → Prop) : vcF Try.prog cfg74 Try.f74 [a0, a1, a2] w R = F74 a0 a1 a2 w R := by kernel_rfl
theorem F74_call {a0 a1 a2 : Value} {w : World} {R : Value → World → Prop} (h : F74 a0 a1 a2 w R) : CALL Try.prog 74 [a0, a1, a2] w R :=
  call_of (g := cfg74) ent mixed Try.func74 (Nat.le_of_ble_eq_true (by kernel_rfl)) (by kernel_rfl) (F74_eq a0 a1 a2 w R ▸ h)

/-- impl.isPlace -/
def F75 (a0 a1 : Value) (w : World) (R : Value → World → Prop) : Prop :=
  OP Try.prog (Instr.box 31 a0) w fun x2 w =>
  RD Try.prog (bin .geq 3 (.tmp 0) (.const undef) a1 (Value.int .i64 0)) w fun x6 =>
  BR x6
  (RD Try.prog (Instr.fieldAt 31 x2 4) w fun x9 =>
  RD Try.prog (Instr.loadAt 29 x9) w fun x10 =>
  RD Try.prog (Builtin.len_ #[29] 3 [x10].toArray) w fun x11 =>
  RD Try.prog (bin .lss 3 (.tmp 0) (.tmp 0) a1 x11) w fun x12 =>
  R x12 w)
  (R (Value.bool false) w)
def cfg75 : Cfg := { ext := extL, joins := [], loops := [], draws := [], pars := [] }
theorem F75_eq (a0 a1 : Value) (w : World) (R : Value → World → Prop) : vcF Try.prog cfg75 Try.f75 [a0, a1] w R = F75 a0 a1 w R := by kernel_rfl
theorem F75_call {a0 a1 : Value} {w : World} {R : Value → World → Prop} (h : F75 a0 a1 w R) : CALL Try.prog 75 [a0, a1] w R :=
  call_of (g := cfg75) ent mixed Try.func75 (Nat.le_of_ble_eq_true (by kernel_rfl)) (by kernel_rfl) (F75_eq a0 a1 w R ▸ h)

end Go.Proofs.Ytokppocbfpjngaa
