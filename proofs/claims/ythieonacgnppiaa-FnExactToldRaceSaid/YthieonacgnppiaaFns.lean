/- The reading of the functions, printed by program (decomp.py); each equation is checked by the kernel. -/
import Derived.Test.YthieonacgnppiaaBody
import Derived.Test.YthieonacgnppiaaProg
import Derived.KernelRfl
set_option linter.unusedVariables false
namespace Go.Proofs.Ythieonacgnppiaa
open Go Go.Sh Go.Proofs
def extL : List Nat := [0, 1, 57, 61, 64, 66, 67, 68, 69, 70, 71, 72, 73, 74, 75, 76, 77, 78, 79, 80, 81]
theorem entAll : ((List.range 82).all fun f => extL.elem f || enters Try.prog f) = true := by kernel_rfl
theorem ent : ∀ f, f < 82 → extL.elem f = false → enters Try.prog f = true := fun f hf hx => by
  have := List.all_eq_true.1 entAll f (List.mem_range.2 hf)
  rw [hx] at this
  exact this
theorem mixed : Try.prog.follows .mixedOrders = true := by kernel_rfl
/-- laws.FnExactTakeFront -/
def F3 (a0 : Value) (w : World) (R : Value → World → Prop) : Prop :=
  RD Try.prog (Builtin.len_ #[22] 3 [a0].toArray) w fun x17 =>
  RD Try.prog (bin .gtr 3 (.tmp 0) (.const undef) x17 (Value.int .i64 1048576)) w fun x18 =>
  BR x18
   (R (Value.bool true) w)
   (CALL Try.prog 12 [a0] w fun x21 w =>
   CALL Try.prog 11 [x21] w fun x22 w =>
   RD Try.prog (Instr.extract x22 0) w fun x23 =>
   RD Try.prog (Instr.extract x22 1) w fun x24 =>
   RD Try.prog (Instr.extract x22 2) w fun x25 =>
   CALL Try.prog 12 [a0] w fun x27 w =>
   CALL Try.prog 13 [x27] w fun x30 w =>
   RD Try.prog (Instr.extract x30 0) w fun x31 =>
   RD Try.prog (Instr.extract x30 1) w fun x32 =>
   RD Try.prog (Instr.extract x30 2) w fun x33 =>
   RD Try.prog (bin .neq 3 (.tmp 0) (.tmp 0) x31 x23) w fun x36 =>
   BR x36
   (R (Value.bool false) w)
   (CALL Try.prog 14 [x32, x24] w fun x40 w =>
   RD Try.prog (Op.unary .not x40) w fun x41 =>
   BR x41
   (R (Value.bool false) w)
   (RD Try.prog (bin .neq 4 (.tmp 0) (.tmp 0) x33 x25) w fun x46 =>
   BR x46
    (R (Value.bool false) w)
    (CALL Try.prog 12 [a0] w fun x50 w =>
    CALL Try.prog 14 [x27, x50] w fun x51 w =>
    RD Try.prog (Op.unary .not x51) w fun x52 =>
    BR x52
     (R (Value.bool false) w)
     (CALL Try.prog 15 [x27, (Value.int .i64 1)] w fun x55 w =>
     RD Try.prog (bin .lss 3 (.tmp 0) (.const undef) x55 (Value.int .i64 0)) w fun x57 =>
     BR x57
     (R (Value.bool false) w)
     (RD Try.prog (bin .neq 3 (.tmp 0) (.tmp 0) x31 x23) w fun x61 =>
     BR x61
     (R (Value.bool false) w)
     (CALL Try.prog 14 [x32, x24] w fun x66 w =>
     RD Try.prog (Op.unary .not x66) w fun x67 =>
     BR x67
     (R (Value.bool false) w)
     (RD Try.prog (bin .neq 4 (.tmp 0) (.tmp 0) x33 x25) w fun x72 =>
     BR x72
      (R (Value.bool false) w)
      (CALL Try.prog 15 [x32, (Value.int .i64 1)] w fun x76 w =>
      CALL Try.prog 16 [x32, (Value.int .i64 1)] w fun x79 w =>
      RD Try.prog (bin .lss 3 (.tmp 0) (.const undef) x79 (Value.int .i64 0)) w fun x81 =>
      BR x81
       (R (Value.bool false) w)
       (RD Try.prog (bin .neq 3 (.tmp 0) (.tmp 0) x79 x76) w fun x84 =>
       BR x84
        (R (Value.bool false) w)
        (CALL Try.prog 12 [a0] w fun x87 w =>
        CALL Try.prog 13 [x87] w fun x88 w =>
        RD Try.prog (Instr.extract x88 0) w fun x89 =>
        RD Try.prog (Instr.extract x88 1) w fun x90 =>
        RD Try.prog (Instr.extract x88 2) w fun x91 =>
        RD Try.prog (bin .neq 3 (.tmp 0) (.tmp 0) x89 x23) w fun x94 =>
        BR x94
        (R (Value.bool false) w)
        (CALL Try.prog 14 [x90, x24] w fun x98 w =>
        RD Try.prog (Op.unary .not x98) w fun x99 =>
        BR x99
        (R (Value.bool false) w)
        (RD Try.prog (bin .neq 4 (.tmp 0) (.tmp 0) x91 x25) w fun x104 =>
        BR x104
         (R (Value.bool false) w)
         (CALL Try.prog 16 [x32, (Value.int .i64 1)] w fun x108 w =>
         RD Try.prog (bin .lss 3 (.tmp 0) (.const undef) x108 (Value.int .i64 0)) w fun x110 =>
         BR x110
          (R (Value.bool false) w)
          (RD Try.prog (bin .neq 3 (.tmp 0) (.tmp 0) x108 x76) w fun x113 =>
          BR x113
           (R (Value.bool false) w)
           (R (Value.bool true) w))))))))))))))))
def cfg3 : Cfg := { ext := extL, joins := [], loops := [], draws := [] }
theorem F3_eq (a0 : Value) (w : World) (R : Value → World → Prop) : vcF Try.prog cfg3 Try.f3 [a0] w R = F3 a0 w R := by kernel_rfl
theorem F3_call {a0 : Value} {w : World} {R : Value → World → Prop} (h : F3 a0 w R) : CALL Try.prog 3 [a0] w R :=
  call_of (g := cfg3) ent mixed Try.func3 (Nat.le_of_ble_eq_true (by kernel_rfl)) (by kernel_rfl) (F3_eq a0 w R ▸ h)

/-- laws.FnExactToldRace -/
def F4 (a0 a1 : Value) (w : World) (R : Value → World → Prop) : Prop :=
  OP Try.prog (Instr.box 31 a1) w fun x3 w =>
  CALL Try.prog 17 [a0, (Value.int .i64 1048576)] w fun x11 w =>
  RD Try.prog (bin .lss 3 (.tmp 0) (.const undef) x11 (Value.int .i64 0)) w fun x13 =>
  BR x13
   (R (Value.bool true) w)
   ((fun w => RD Try.prog (Instr.loadAt 31 x3) w fun x16 =>
   (fun w_ => CALL Try.prog 19 [a0] w_ fun x15 w =>
   Ext w_ w ∧
   CALL Try.prog 20 [x16] w fun x17 w =>
   CALL Try.prog 18 [x15, x17] w fun x18 w =>
   CALL Try.prog 19 [a0] w fun x20 w =>
   RD Try.prog (Instr.loadAt 31 x3) w fun x22 =>
   CALL Try.prog 20 [x22] w fun x23 w =>
   CALL Try.prog 21 [x20, x23] w fun x24 w =>
   RD Try.prog (bin .neq 4 (.tmp 0) (.tmp 0) x24 x18) w fun x27 =>
   BR x27
    (R (Value.bool false) w)
    (CALL Try.prog 19 [a0] w fun x30 w =>
    CALL Try.prog 22 [x20, x30] w fun x31 w =>
    RD Try.prog (Op.unary .not x31) w fun x32 =>
    BR x32
     (R (Value.bool false) w)
     (R (Value.bool true) w))) w) (World.drew1 w))
def cfg4 : Cfg := { ext := extL, joins := [], loops := [], draws := [(5, [0, 2, 1, 3, 4, 5], 2)] }
theorem F4_eq (a0 a1 : Value) (w : World) (R : Value → World → Prop) : vcF Try.prog cfg4 Try.f4 [a0, a1] w R = F4 a0 a1 w R := by kernel_rfl
theorem F4_call {a0 a1 : Value} {w : World} {R : Value → World → Prop} (h : F4 a0 a1 w R) : CALL Try.prog 4 [a0, a1] w R :=
  call_of (g := cfg4) ent mixed Try.func4 (Nat.le_of_ble_eq_true (by kernel_rfl)) (by kernel_rfl) (F4_eq a0 a1 w R ▸ h)

/-- laws.FnExactAtOf -/
def F5 (a0 a1 : Value) (w : World) (R : Value → World → Prop) : Prop :=
  OP Try.prog (Instr.box 42 a0) w fun x2 w =>
  RD Try.prog (Instr.loadAt 42 x2) w fun x9 =>
  CALL Try.prog 23 [x9, (Value.int .i64 1048576)] w fun x11 w =>
  RD Try.prog (bin .lss 3 (.tmp 0) (.const undef) x11 (Value.int .i64 0)) w fun x13 =>
  BR x13
   (R (Value.bool true) w)
   (RD Try.prog (Instr.loadAt 42 x2) w fun x14 =>
   CALL Try.prog 25 [x14] w fun x15 w =>
   CALL Try.prog 24 [x15, a1] w fun x17 w =>
   RD Try.prog (Instr.loadAt 42 x2) w fun x18 =>
   CALL Try.prog 25 [x18] w fun x19 w =>
   OP Try.prog (Instr.alloc 45 true (.tuple #[])) w fun x7 w =>
   OPU Try.prog (Instr.storeAt 45 x7 x19) w fun w =>
   RD Try.prog (Instr.loadAt 45 x7) w fun x20 =>
   CALL Try.prog 26 [x20, a1] w fun x22 w =>
   RD Try.prog (bin .neq 3 (.tmp 0) (.tmp 0) x22 x17) w fun x25 =>
   BR x25
    (R (Value.bool false) w)
    ((fun w => RD Try.prog (Instr.loadAt 45 x7) w fun x26 =>
    RD Try.prog (Instr.loadAt 42 x2) w fun x27 =>
    (fun w_ => CALL Try.prog 25 [x27] w_ fun x28 w =>
    Ext w_ w ∧
    CALL Try.prog 27 [x26, x28] w fun x29 w =>
    RD Try.prog (Op.unary .not x29) w fun x30 =>
    BR x30
     (R (Value.bool false) w)
     (R (Value.bool true) w)) w) (World.drew1 w)))
def cfg5 : Cfg := { ext := extL, joins := [], loops := [], draws := [(10, [0, 1, 2, 3, 4], 4)] }
theorem F5_eq (a0 a1 : Value) (w : World) (R : Value → World → Prop) : vcF Try.prog cfg5 Try.f5 [a0, a1] w R = F5 a0 a1 w R := by kernel_rfl
theorem F5_call {a0 a1 : Value} {w : World} {R : Value → World → Prop} (h : F5 a0 a1 w R) : CALL Try.prog 5 [a0, a1] w R :=
  call_of (g := cfg5) ent mixed Try.func5 (Nat.le_of_ble_eq_true (by kernel_rfl)) (by kernel_rfl) (F5_eq a0 a1 w R ▸ h)

/-- laws.FnExactOverIn -/
def F6 (a0 : Value) (w : World) (R : Value → World → Prop) : Prop :=
  OP Try.prog (Instr.box 42 a0) w fun x1 w =>
  RD Try.prog (Instr.loadAt 42 x1) w fun x7 =>
  CALL Try.prog 23 [x7, (Value.int .i64 1048576)] w fun x9 w =>
  RD Try.prog (bin .lss 3 (.tmp 0) (.const undef) x9 (Value.int .i64 0)) w fun x11 =>
  BR x11
   (R (Value.bool true) w)
   (RD Try.prog (Instr.loadAt 42 x1) w fun x12 =>
   CALL Try.prog 25 [x12] w fun x13 w =>
   CALL Try.prog 28 [x13] w fun x14 w =>
   RD Try.prog (Instr.loadAt 42 x1) w fun x15 =>
   CALL Try.prog 25 [x15] w fun x16 w =>
   OP Try.prog (Instr.alloc 45 true (.tuple #[])) w fun x5 w =>
   OPU Try.prog (Instr.storeAt 45 x5 x16) w fun w =>
   RD Try.prog (Instr.loadAt 45 x5) w fun x17 =>
   CALL Try.prog 29 [x17] w fun x18 w =>
   RD Try.prog (bin .neq 4 (.tmp 0) (.tmp 0) x18 x14) w fun x21 =>
   BR x21
    (R (Value.bool false) w)
    ((fun w => RD Try.prog (Instr.loadAt 45 x5) w fun x22 =>
    RD Try.prog (Instr.loadAt 42 x1) w fun x23 =>
    (fun w_ => CALL Try.prog 25 [x23] w_ fun x24 w =>
    Ext w_ w ∧
    CALL Try.prog 27 [x22, x24] w fun x25 w =>
    RD Try.prog (Op.unary .not x25) w fun x26 =>
    BR x26
     (R (Value.bool false) w)
     (R (Value.bool true) w)) w) (World.drew1 w)))
def cfg6 : Cfg := { ext := extL, joins := [], loops := [], draws := [(10, [0, 1, 2, 3, 4], 4)] }
theorem F6_eq (a0 : Value) (w : World) (R : Value → World → Prop) : vcF Try.prog cfg6 Try.f6 [a0] w R = F6 a0 w R := by kernel_rfl
theorem F6_call {a0 : Value} {w : World} {R : Value → World → Prop} (h : F6 a0 w R) : CALL Try.prog 6 [a0] w R :=
  call_of (g := cfg6) ent mixed Try.func6 (Nat.le_of_ble_eq_true (by kernel_rfl)) (by kernel_rfl) (F6_eq a0 w R ▸ h)

/-- laws.FnExactToldKnot -/
def F7 (a0 a1 : Value) (w : World) (R : Value → World → Prop) : Prop :=
  RD Try.prog (Builtin.len_ #[22] 3 [a1].toArray) w fun x11 =>
  RD Try.prog (bin .gtr 3 (.tmp 0) (.const undef) x11 (Value.int .i64 1048576)) w fun x12 =>
  BR x12
   (R (Value.bool true) w)
   (CALL Try.prog 30 [a0, (Value.int .i64 1048576)] w fun x15 w =>
   RD Try.prog (bin .lss 3 (.tmp 0) (.const undef) x15 (Value.int .i64 0)) w fun x17 =>
   BR x17
    (R (Value.bool true) w)
    (CALL Try.prog 32 [a0] w fun x19 w =>
    CALL Try.prog 12 [a1] w fun x21 w =>
    CALL Try.prog 31 [x19, x21] w fun x22 w =>
    CALL Try.prog 32 [a0] w fun x24 w =>
    CALL Try.prog 12 [a1] w fun x26 w =>
    CALL Try.prog 33 [x24, x26] w fun x29 w =>
    RD Try.prog (bin .neq 4 (.tmp 0) (.tmp 0) x29 x22) w fun x32 =>
    BR x32
     (R (Value.bool false) w)
     (CALL Try.prog 32 [a0] w fun x35 w =>
     CALL Try.prog 34 [x24, x35] w fun x36 w =>
     RD Try.prog (Op.unary .not x36) w fun x37 =>
     BR x37
      (R (Value.bool false) w)
      (CALL Try.prog 12 [a1] w fun x40 w =>
      CALL Try.prog 14 [x26, x40] w fun x41 w =>
      RD Try.prog (Op.unary .not x41) w fun x42 =>
      BR x42
       (R (Value.bool false) w)
       (R (Value.bool true) w)))))
def cfg7 : Cfg := { ext := extL, joins := [], loops := [], draws := [] }
theorem F7_eq (a0 a1 : Value) (w : World) (R : Value → World → Prop) : vcF Try.prog cfg7 Try.f7 [a0, a1] w R = F7 a0 a1 w R := by kernel_rfl
theorem F7_call {a0 a1 : Value} {w : World} {R : Value → World → Prop} (h : F7 a0 a1 w R) : CALL Try.prog 7 [a0, a1] w R :=
  call_of (g := cfg7) ent mixed Try.func7 (Nat.le_of_ble_eq_true (by kernel_rfl)) (by kernel_rfl) (F7_eq a0 a1 w R ▸ h)

/-- laws.FnExactHeldBy -/
def F8 (a0 a1 : Value) (w : World) (R : Value → World → Prop) : Prop :=
  OP Try.prog (Instr.box 42 a0) w fun x2 w =>
  RD Try.prog (Instr.loadAt 42 x2) w fun x9 =>
  CALL Try.prog 23 [x9, (Value.int .i64 1048576)] w fun x11 w =>
  RD Try.prog (bin .lss 3 (.tmp 0) (.const undef) x11 (Value.int .i64 0)) w fun x13 =>
  BR x13
   (R (Value.bool true) w)
   (RD Try.prog (Instr.loadAt 42 x2) w fun x14 =>
   CALL Try.prog 25 [x14] w fun x15 w =>
   CALL Try.prog 35 [x15, a1] w fun x17 w =>
   RD Try.prog (Instr.loadAt 42 x2) w fun x18 =>
   CALL Try.prog 25 [x18] w fun x19 w =>
   OP Try.prog (Instr.alloc 45 true (.tuple #[])) w fun x7 w =>
   OPU Try.prog (Instr.storeAt 45 x7 x19) w fun w =>
   RD Try.prog (Instr.loadAt 45 x7) w fun x20 =>
   CALL Try.prog 36 [x20, a1] w fun x22 w =>
   RD Try.prog (bin .neq 3 (.tmp 0) (.tmp 0) x22 x17) w fun x25 =>
   BR x25
    (R (Value.bool false) w)
    ((fun w => RD Try.prog (Instr.loadAt 45 x7) w fun x26 =>
    RD Try.prog (Instr.loadAt 42 x2) w fun x27 =>
    (fun w_ => CALL Try.prog 25 [x27] w_ fun x28 w =>
    Ext w_ w ∧
    CALL Try.prog 27 [x26, x28] w fun x29 w =>
    RD Try.prog (Op.unary .not x29) w fun x30 =>
    BR x30
     (R (Value.bool false) w)
     (R (Value.bool true) w)) w) (World.drew1 w)))
def cfg8 : Cfg := { ext := extL, joins := [], loops := [], draws := [(10, [0, 1, 2, 3, 4], 4)] }
theorem F8_eq (a0 a1 : Value) (w : World) (R : Value → World → Prop) : vcF Try.prog cfg8 Try.f8 [a0, a1] w R = F8 a0 a1 w R := by kernel_rfl
theorem F8_call {a0 a1 : Value} {w : World} {R : Value → World → Prop} (h : F8 a0 a1 w R) : CALL Try.prog 8 [a0, a1] w R :=
  call_of (g := cfg8) ent mixed Try.func8 (Nat.le_of_ble_eq_true (by kernel_rfl)) (by kernel_rfl) (F8_eq a0 a1 w R ▸ h)

/-- laws.FnExactLinesIn -/
def F9 (a0 : Value) (w : World) (R : Value → World → Prop) : Prop :=
  RD Try.prog (Builtin.len_ #[9] 3 [a0].toArray) w fun x6 =>
  RD Try.prog (bin .gtr 3 (.tmp 0) (.const undef) x6 (Value.int .i64 1048576)) w fun x7 =>
  BR x7
   (R (Value.bool true) w)
   (CALL Try.prog 37 [a0] w fun x9 w =>
   CALL Try.prog 38 [a0] w fun x11 w =>
   RD Try.prog (bin .neq 3 (.tmp 0) (.tmp 0) x11 x9) w fun x14 =>
   BR x14
    (R (Value.bool false) w)
    (R (Value.bool true) w))
def cfg9 : Cfg := { ext := extL, joins := [], loops := [], draws := [] }
theorem F9_eq (a0 : Value) (w : World) (R : Value → World → Prop) : vcF Try.prog cfg9 Try.f9 [a0] w R = F9 a0 w R := by kernel_rfl
theorem F9_call {a0 : Value} {w : World} {R : Value → World → Prop} (h : F9 a0 w R) : CALL Try.prog 9 [a0] w R :=
  call_of (g := cfg9) ent mixed Try.func9 (Nat.le_of_ble_eq_true (by kernel_rfl)) (by kernel_rfl) (F9_eq a0 w R ▸ h)

/-- laws.FnExactSameState -/
def F10 (a0 a1 : Value) (w : World) (R : Value → World → Prop) : Prop :=
  OP Try.prog (Instr.box 42 a0) w fun x2 w =>
  OP Try.prog (Instr.box 42 a1) w fun x3 w =>
  RD Try.prog (Instr.loadAt 42 x2) w fun x10 =>
  CALL Try.prog 23 [x10, (Value.int .i64 1048576)] w fun x12 w =>
  RD Try.prog (bin .lss 3 (.tmp 0) (.const undef) x12 (Value.int .i64 0)) w fun x14 =>
  BR x14
   (R (Value.bool true) w)
   (RD Try.prog (Instr.loadAt 42 x3) w fun x15 =>
   CALL Try.prog 23 [x15, x12] w fun x17 w =>
   RD Try.prog (bin .lss 3 (.tmp 0) (.const undef) x17 (Value.int .i64 0)) w fun x19 =>
   BR x19
    (R (Value.bool true) w)
    ((fun w => RD Try.prog (Instr.loadAt 42 x2) w fun x20 =>
    RD Try.prog (Instr.loadAt 42 x3) w fun x22 =>
    (fun w_ => CALL Try.prog 25 [x20] w_ fun x21 w =>
    Ext w_ w ∧
    CALL Try.prog 25 [x22] w fun x23 w =>
    CALL Try.prog 39 [x21, x23] w fun x24 w =>
    RD Try.prog (Instr.loadAt 42 x2) w fun x25 =>
    CALL Try.prog 25 [x25] w fun x26 w =>
    OP Try.prog (Instr.alloc 45 true (.tuple #[])) w fun x7 w =>
    OPU Try.prog (Instr.storeAt 45 x7 x26) w fun w =>
    RD Try.prog (Instr.loadAt 42 x3) w fun x27 =>
    CALL Try.prog 25 [x27] w fun x28 w =>
    OP Try.prog (Instr.alloc 45 true (.tuple #[])) w fun x8 w =>
    OPU Try.prog (Instr.storeAt 45 x8 x28) w fun w =>
    RD Try.prog (Instr.loadAt 45 x7) w fun x29 =>
    RD Try.prog (Instr.loadAt 45 x8) w fun x30 =>
    CALL Try.prog 40 [x29, x30] w fun x31 w =>
    RD Try.prog (bin .neq 4 (.tmp 0) (.tmp 0) x31 x24) w fun x34 =>
    BR x34
     (R (Value.bool false) w)
     ((fun w => RD Try.prog (Instr.loadAt 45 x7) w fun x35 =>
     RD Try.prog (Instr.loadAt 42 x2) w fun x36 =>
     (fun w_ => CALL Try.prog 25 [x36] w_ fun x37 w =>
     Ext w_ w ∧
     CALL Try.prog 27 [x35, x37] w fun x38 w =>
     RD Try.prog (Op.unary .not x38) w fun x39 =>
     BR x39
      (R (Value.bool false) w)
      ((fun w => RD Try.prog (Instr.loadAt 45 x8) w fun x40 =>
      RD Try.prog (Instr.loadAt 42 x3) w fun x41 =>
      (fun w_ => CALL Try.prog 25 [x41] w_ fun x42 w =>
      Ext w_ w ∧
      CALL Try.prog 27 [x40, x42] w fun x43 w =>
      RD Try.prog (Op.unary .not x43) w fun x44 =>
      BR x44
       (R (Value.bool false) w)
       (R (Value.bool true) w)) w) (World.drew1 w))) w) (World.drew1 w))) w) (World.drew1 w)))
def cfg10 : Cfg := { ext := extL, joins := [], loops := [], draws := [(8, [0, 2, 1, 3, 4, 5], 2), (14, [0, 1, 2, 3, 4], 4), (16, [0, 1, 2, 3, 4], 4)] }
theorem F10_eq (a0 a1 : Value) (w : World) (R : Value → World → Prop) : vcF Try.prog cfg10 Try.f10 [a0, a1] w R = F10 a0 a1 w R := by kernel_rfl
theorem F10_call {a0 a1 : Value} {w : World} {R : Value → World → Prop} (h : F10 a0 a1 w R) : CALL Try.prog 10 [a0, a1] w R :=
  call_of (g := cfg10) ent mixed Try.func10 (Nat.le_of_ble_eq_true (by kernel_rfl)) (by kernel_rfl) (F10_eq a0 a1 w R ▸ h)

/-- spec.TakeFront -/
def F11 (a0 : Value) (w : World) (R : Value → World → Prop) : Prop :=
  RD Try.prog (Builtin.len_ #[22] 3 [a0].toArray) w fun x6 =>
  RD Try.prog (bin .eql 3 (.tmp 0) (.const undef) x6 (Value.int .i64 0)) w fun x7 =>
  BR x7
   (OP Try.prog (Instr.buildSlice 22 0 #[]) w fun x8 w =>
   R (Value.tuple #[(Value.int .i64 0), x8, (Value.bool false)]) w)
   ((fun w => RD Try.prog (Instr.indexAt 22 a0 (Value.int .i64 0)) w fun x10 =>
   RD Try.prog (Instr.loadAt 3 x10) w fun x11 =>
   RD Try.prog (Instr.sliceAt 22 a0 (some (Value.int .i64 1)) none none) w fun x14 =>
   (fun w_ => OP Try.prog (Instr.buildSlice 22 0 #[]) w_ fun x12 w =>
   Ext w_ w ∧
   (fun w_ => OP Try.prog (Builtin.append_ #[22, 22] 22 [x12, x14].toArray) w_ fun x15 w =>
   Ext w_ w ∧
   R (Value.tuple #[x11, x15, (Value.bool true)]) w) w) w) (World.drew1 w))
def cfg11 : Cfg := { ext := extL, joins := [], loops := [], draws := [(3, [0, 1, 2, 4, 5, 3, 6, 7, 8, 9], 72)] }
theorem F11_eq (a0 : Value) (w : World) (R : Value → World → Prop) : vcF Try.prog cfg11 Try.f11 [a0] w R = F11 a0 w R := by kernel_rfl
theorem F11_call {a0 : Value} {w : World} {R : Value → World → Prop} (h : F11 a0 w R) : CALL Try.prog 11 [a0] w R :=
  call_of (g := cfg11) ent mixed Try.func11 (Nat.le_of_ble_eq_true (by kernel_rfl)) (by kernel_rfl) (F11_eq a0 w R ▸ h)

/-- laws.toIntS -/
def F12 (a0 : Value) (w : World) (R : Value → World → Prop) : Prop :=
  RD Try.prog (Builtin.len_ #[22] 3 [a0].toArray) w fun x6 =>
  OP Try.prog (Instr.makeSlice 22 x6 x6) w fun x7 w =>
  LOOPI [4] [(Value.int .i64 0)] w fun u3 w next3 =>
   RD Try.prog (Builtin.len_ #[22] 3 [a0].toArray) w fun x10 =>
   RD Try.prog (bin .lss 3 (.tmp 0) (.tmp 0) (u3 4) x10) w fun x11 =>
   BR x11
    (RD Try.prog (Instr.indexAt 22 a0 (u3 4)) w fun x18 =>
    RD Try.prog (Instr.loadAt 3 x18) w fun x19 =>
    RD Try.prog (Instr.indexAt 22 x7 (u3 4)) w fun x20 =>
    OPU Try.prog (Instr.storeAt 3 x20 x19) w fun w =>
    RD Try.prog (bin .add 3 (.tmp 0) (.const undef) (u3 4) (Value.int .i64 1)) w fun x13 =>
    next3 [x13] w)
    (R x7 w)
def cfg12 : Cfg := { ext := extL, joins := [], loops := [(3, 2096912, [4])], draws := [] }
theorem F12_eq (a0 : Value) (w : World) (R : Value → World → Prop) : vcF Try.prog cfg12 Try.f12 [a0] w R = F12 a0 w R := by kernel_rfl
theorem F12_call {a0 : Value} {w : World} {R : Value → World → Prop} (h : F12 a0 w R) : CALL Try.prog 12 [a0] w R :=
  call_of (g := cfg12) ent mixed Try.func12 (Nat.le_of_ble_eq_true (by kernel_rfl)) (by kernel_rfl) (F12_eq a0 w R ▸ h)

/-- impl.TakeFront -/
def F13 (a0 : Value) (w : World) (R : Value → World → Prop) : Prop :=
  RD Try.prog (Builtin.len_ #[22] 3 [a0].toArray) w fun x6 =>
  RD Try.prog (bin .eql 3 (.tmp 0) (.const undef) x6 (Value.int .i64 0)) w fun x7 =>
  BR x7
   (R (Value.tuple #[(Value.int .i64 0), (Value.slice none 0 0), (Value.bool false)]) w)
   ((fun w => RD Try.prog (Instr.indexAt 22 a0 (Value.int .i64 0)) w fun x9 =>
   RD Try.prog (Instr.loadAt 3 x9) w fun x10 =>
   RD Try.prog (Instr.sliceAt 22 a0 (some (Value.int .i64 1)) none none) w fun x12 =>
   (fun w_ => CALL Try.prog 41 [x12] w_ fun x13 w =>
   Ext w_ w ∧
   R (Value.tuple #[x10, x13, (Value.bool true)]) w) w) (World.drew1 w))
def cfg13 : Cfg := { ext := extL, joins := [], loops := [], draws := [(3, [0, 1, 2, 3, 4, 5, 6, 7, 8], 32)] }
theorem F13_eq (a0 : Value) (w : World) (R : Value → World → Prop) : vcF Try.prog cfg13 Try.f13 [a0] w R = F13 a0 w R := by kernel_rfl
theorem F13_call {a0 : Value} {w : World} {R : Value → World → Prop} (h : F13 a0 w R) : CALL Try.prog 13 [a0] w R :=
  call_of (g := cfg13) ent mixed Try.func13 (Nat.le_of_ble_eq_true (by kernel_rfl)) (by kernel_rfl) (F13_eq a0 w R ▸ h)

/-- laws.eqIntS -/
def F14 (a0 a1 : Value) (w : World) (R : Value → World → Prop) : Prop :=
  RD Try.prog (Builtin.len_ #[22] 3 [a0].toArray) w fun x7 =>
  RD Try.prog (Builtin.len_ #[22] 3 [a1].toArray) w fun x9 =>
  RD Try.prog (bin .neq 3 (.tmp 0) (.tmp 0) x7 x9) w fun x10 =>
  BR x10
   (R (Value.bool false) w)
   (LOOPI [5] [(Value.int .i64 0)] w fun u4 w next4 =>
    RD Try.prog (Builtin.len_ #[22] 3 [a0].toArray) w fun x13 =>
    RD Try.prog (bin .lss 3 (.tmp 0) (.tmp 0) (u4 5) x13) w fun x14 =>
    BR x14
     ((fun w => RD Try.prog (Instr.indexAt 22 a0 (u4 5)) w fun x19 =>
     RD Try.prog (Instr.loadAt 3 x19) w fun x20 =>
     RD Try.prog (Instr.indexAt 22 a1 (u4 5)) w fun x23 =>
     RD Try.prog (Instr.loadAt 3 x23) w fun x24 =>
     RD Try.prog (bin .neq 3 (.tmp 0) (.tmp 0) x20 x24) w fun x25 =>
     BR x25
      (R (Value.bool false) w)
      (RD Try.prog (bin .add 3 (.tmp 0) (.const undef) (u4 5) (Value.int .i64 1)) w fun x16 =>
      next4 [x16] w)) (World.drew1 w))
     (R (Value.bool true) w))
def cfg14 : Cfg := { ext := extL, joins := [], loops := [(4, 67106864, [5])], draws := [(6, [0, 1, 2, 3, 4, 5, 6, 7, 8], 0)] }
theorem F14_eq (a0 a1 : Value) (w : World) (R : Value → World → Prop) : vcF Try.prog cfg14 Try.f14 [a0, a1] w R = F14 a0 a1 w R := by kernel_rfl
theorem F14_call {a0 a1 : Value} {w : World} {R : Value → World → Prop} (h : F14 a0 a1 w R) : CALL Try.prog 14 [a0, a1] w R :=
  call_of (g := cfg14) ent mixed Try.func14 (Nat.le_of_ble_eq_true (by kernel_rfl)) (by kernel_rfl) (F14_eq a0 a1 w R ▸ h)

/-- laws.markIntS -/
def F15 (a0 a1 : Value) (w : World) (R : Value → World → Prop) : Prop :=
  LOOPI [1, 5] [a1, (Value.int .i64 0)] w fun u2 w next2 =>
   RD Try.prog (Builtin.len_ #[22] 3 [a0].toArray) w fun x8 =>
   RD Try.prog (bin .lss 3 (.tmp 0) (.tmp 0) (u2 5) x8) w fun x9 =>
   BR x9
    (RD Try.prog (Instr.indexAt 22 a0 (u2 5)) w fun x15 =>
    OPU Try.prog (Instr.storeAt 3 x15 (u2 1)) w fun w =>
    RD Try.prog (bin .add 3 (.tmp 0) (.const undef) (u2 1) (Value.int .i64 1)) w fun x17 =>
    RD Try.prog (bin .add 3 (.tmp 0) (.const undef) (u2 5) (Value.int .i64 1)) w fun x11 =>
    next2 [x17, x11] w)
    (R (u2 1) w)
def cfg15 : Cfg := { ext := extL, joins := [], loops := [(2, 262114, [1, 5])], draws := [] }
theorem F15_eq (a0 a1 : Value) (w : World) (R : Value → World → Prop) : vcF Try.prog cfg15 Try.f15 [a0, a1] w R = F15 a0 a1 w R := by kernel_rfl
theorem F15_call {a0 a1 : Value} {w : World} {R : Value → World → Prop} (h : F15 a0 a1 w R) : CALL Try.prog 15 [a0, a1] w R :=
  call_of (g := cfg15) ent mixed Try.func15 (Nat.le_of_ble_eq_true (by kernel_rfl)) (by kernel_rfl) (F15_eq a0 a1 w R ▸ h)

/-- laws.heldIntS -/
def F16 (a0 a1 : Value) (w : World) (R : Value → World → Prop) : Prop :=
  LOOPI [1, 5] [a1, (Value.int .i64 0)] w fun u2 w next2 =>
   RD Try.prog (Builtin.len_ #[22] 3 [a0].toArray) w fun x8 =>
   RD Try.prog (bin .lss 3 (.tmp 0) (.tmp 0) (u2 5) x8) w fun x9 =>
   BR x9
    (RD Try.prog (Instr.indexAt 22 a0 (u2 5)) w fun x14 =>
    RD Try.prog (Instr.loadAt 3 x14) w fun x15 =>
    RD Try.prog (bin .neq 3 (.tmp 0) (.tmp 0) x15 (u2 1)) w fun x17 =>
    BR x17
     (R (Value.int .i64 (-1)) w)
     (RD Try.prog (bin .add 3 (.tmp 0) (.const undef) (u2 1) (Value.int .i64 1)) w fun x19 =>
     RD Try.prog (bin .add 3 (.tmp 0) (.const undef) (u2 5) (Value.int .i64 1)) w fun x11 =>
     next2 [x19, x11] w))
    (R (u2 1) w)
def cfg16 : Cfg := { ext := extL, joins := [], loops := [(2, 1048562, [1, 5])], draws := [] }
theorem F16_eq (a0 a1 : Value) (w : World) (R : Value → World → Prop) : vcF Try.prog cfg16 Try.f16 [a0, a1] w R = F16 a0 a1 w R := by kernel_rfl
theorem F16_call {a0 a1 : Value} {w : World} {R : Value → World → Prop} (h : F16 a0 a1 w R) : CALL Try.prog 16 [a0, a1] w R :=
  call_of (g := cfg16) ent mixed Try.func16 (Nat.le_of_ble_eq_true (by kernel_rfl)) (by kernel_rfl) (F16_eq a0 a1 w R ▸ h)

/-- laws.szRaceS -/
def F17 (a0 a1 : Value) (w : World) (R : Value → World → Prop) : Prop :=
  RD Try.prog (Builtin.len_ #[29] 3 [a0].toArray) w fun x7 =>
  RD Try.prog (bin .sub 3 (.tmp 0) (.tmp 0) a1 x7) w fun x8 =>
  RD Try.prog (bin .lss 3 (.tmp 0) (.const undef) x8 (Value.int .i64 0)) w fun x10 =>
  BR x10
   (R (Value.int .i64 (-1)) w)
   (R x8 w)
def cfg17 : Cfg := { ext := extL, joins := [], loops := [], draws := [] }
theorem F17_eq (a0 a1 : Value) (w : World) (R : Value → World → Prop) : vcF Try.prog cfg17 Try.f17 [a0, a1] w R = F17 a0 a1 w R := by kernel_rfl
theorem F17_call {a0 a1 : Value} {w : World} {R : Value → World → Prop} (h : F17 a0 a1 w R) : CALL Try.prog 17 [a0, a1] w R :=
  call_of (g := cfg17) ent mixed Try.func17 (Nat.le_of_ble_eq_true (by kernel_rfl)) (by kernel_rfl) (F17_eq a0 a1 w R ▸ h)

/-- spec.ToldRace -/
def F18 (a0 a1 : Value) (w : World) (R : Value → World → Prop) : Prop :=
  OP Try.prog (Instr.box 36 a1) w fun x3 w =>
  LOOPI [5] [(Value.int .i64 0)] w fun u2 w next2 =>
   RD Try.prog (Builtin.len_ #[34] 3 [a0].toArray) w fun x8 =>
   RD Try.prog (bin .lss 3 (.tmp 0) (.tmp 0) (u2 5) x8) w fun x9 =>
   BR x9
    ((fun w => RD Try.prog (Instr.indexAt 34 a0 (u2 5)) w fun x14 =>
    RD Try.prog (Instr.loadAt 36 x14) w fun x15 =>
    RD Try.prog (Instr.loadAt 36 x3) w fun x16 =>
    RD Try.prog (bin .eql 36 (.tmp 0) (.tmp 0) x15 x16) w fun x17 =>
    BR x17
     (R (Value.bool true) w)
     (RD Try.prog (bin .add 3 (.tmp 0) (.const undef) (u2 5) (Value.int .i64 1)) w fun x11 =>
     next2 [x11] w)) (World.drew1 w))
    (R (Value.bool false) w)
def cfg18 : Cfg := { ext := extL, joins := [], loops := [(2, 262128, [5])], draws := [(4, [0, 1, 2, 3, 4, 5], 0)] }
theorem F18_eq (a0 a1 : Value) (w : World) (R : Value → World → Prop) : vcF Try.prog cfg18 Try.f18 [a0, a1] w R = F18 a0 a1 w R := by kernel_rfl
theorem F18_call {a0 a1 : Value} {w : World} {R : Value → World → Prop} (h : F18 a0 a1 w R) : CALL Try.prog 18 [a0, a1] w R :=
  call_of (g := cfg18) ent mixed Try.func18 (Nat.le_of_ble_eq_true (by kernel_rfl)) (by kernel_rfl) (F18_eq a0 a1 w R ▸ h)

/-- laws.toRaceS -/
def F19 (a0 : Value) (w : World) (R : Value → World → Prop) : Prop :=
  RD Try.prog (Builtin.len_ #[29] 3 [a0].toArray) w fun x6 =>
  OP Try.prog (Instr.makeSlice 34 x6 x6) w fun x7 w =>
  LOOPI [4] [(Value.int .i64 0)] w fun u3 w next3 =>
   RD Try.prog (Builtin.len_ #[29] 3 [a0].toArray) w fun x10 =>
   RD Try.prog (bin .lss 3 (.tmp 0) (.tmp 0) (u3 4) x10) w fun x11 =>
   BR x11
    (RD Try.prog (Instr.indexAt 29 a0 (u3 4)) w fun x18 =>
    RD Try.prog (Instr.loadAt 31 x18) w fun x19 =>
    CALL Try.prog 20 [x19] w fun x20 w =>
    RD Try.prog (Instr.indexAt 34 x7 (u3 4)) w fun x21 =>
    OPU Try.prog (Instr.storeAt 36 x21 x20) w fun w =>
    RD Try.prog (bin .add 3 (.tmp 0) (.const undef) (u3 4) (Value.int .i64 1)) w fun x13 =>
    next3 [x13] w)
    (R x7 w)
def cfg19 : Cfg := { ext := extL, joins := [], loops := [(3, 4194064, [4])], draws := [] }
theorem F19_eq (a0 : Value) (w : World) (R : Value → World → Prop) : vcF Try.prog cfg19 Try.f19 [a0] w R = F19 a0 w R := by kernel_rfl
theorem F19_call {a0 : Value} {w : World} {R : Value → World → Prop} (h : F19 a0 w R) : CALL Try.prog 19 [a0] w R :=
  call_of (g := cfg19) ent mixed Try.func19 (Nat.le_of_ble_eq_true (by kernel_rfl)) (by kernel_rfl) (F19_eq a0 w R ▸ h)

/-- laws.toRace -/
def F20 (a0 : Value) (w : World) (R : Value → World → Prop) : Prop :=
  OP Try.prog (Instr.box 31 a0) w fun x1 w =>
  OP Try.prog (Instr.alloc 36 true (.tuple #[])) w fun x2 w =>
  OP Try.prog (Instr.alloc 36 true (.tuple #[])) w fun x3 w =>
  RD Try.prog (Instr.fieldAt 31 x1 0) w fun x4 =>
  RD Try.prog (Instr.loadAt 3 x4) w fun x5 =>
  RD Try.prog (Instr.fieldAt 36 x3 0) w fun x6 =>
  OPU Try.prog (Instr.storeAt 3 x6 x5) w fun w =>
  RD Try.prog (Instr.fieldAt 31 x1 1) w fun x7 =>
  RD Try.prog (Instr.loadAt 3 x7) w fun x8 =>
  RD Try.prog (Instr.fieldAt 36 x3 1) w fun x9 =>
  OPU Try.prog (Instr.storeAt 3 x9 x8) w fun w =>
  RD Try.prog (Instr.fieldAt 31 x1 2) w fun x10 =>
  RD Try.prog (Instr.loadAt 3 x10) w fun x11 =>
  RD Try.prog (Instr.fieldAt 36 x3 2) w fun x12 =>
  OPU Try.prog (Instr.storeAt 3 x12 x11) w fun w =>
  RD Try.prog (Instr.loadAt 36 x3) w fun x13 =>
  OPU Try.prog (Instr.storeAt 36 x2 x13) w fun w =>
  RD Try.prog (loadRes 36 x2) w fun r2 => R r2 w
def cfg20 : Cfg := { ext := extL, joins := [], loops := [], draws := [] }
theorem F20_eq (a0 : Value) (w : World) (R : Value → World → Prop) : vcF Try.prog cfg20 Try.f20 [a0] w R = F20 a0 w R := by kernel_rfl
theorem F20_call {a0 : Value} {w : World} {R : Value → World → Prop} (h : F20 a0 w R) : CALL Try.prog 20 [a0] w R :=
  call_of (g := cfg20) ent mixed Try.func20 (Nat.le_of_ble_eq_true (by kernel_rfl)) (by kernel_rfl) (F20_eq a0 w R ▸ h)

/-- impl.ToldRace -/
def F21 (a0 a1 : Value) (w : World) (R : Value → World → Prop) : Prop :=
  OP Try.prog (Instr.box 36 a1) w fun x3 w =>
  RD Try.prog (Instr.loadAt 36 x3) w fun x6 =>
  CALL Try.prog 42 [a0, x6] w fun x7 w =>
  R x7 w
def cfg21 : Cfg := { ext := extL, joins := [], loops := [], draws := [] }
theorem F21_eq (a0 a1 : Value) (w : World) (R : Value → World → Prop) : vcF Try.prog cfg21 Try.f21 [a0, a1] w R = F21 a0 a1 w R := by kernel_rfl
theorem F21_call {a0 a1 : Value} {w : World} {R : Value → World → Prop} (h : F21 a0 a1 w R) : CALL Try.prog 21 [a0, a1] w R :=
  call_of (g := cfg21) ent mixed Try.func21 (Nat.le_of_ble_eq_true (by kernel_rfl)) (by kernel_rfl) (F21_eq a0 a1 w R ▸ h)

/-- laws.eqRaceS -/
def F22 (a0 a1 : Value) (w : World) (R : Value → World → Prop) : Prop :=
  RD Try.prog (Builtin.len_ #[34] 3 [a0].toArray) w fun x7 =>
  RD Try.prog (Builtin.len_ #[34] 3 [a1].toArray) w fun x9 =>
  RD Try.prog (bin .neq 3 (.tmp 0) (.tmp 0) x7 x9) w fun x10 =>
  BR x10
   (R (Value.bool false) w)
   (LOOPI [5] [(Value.int .i64 0)] w fun u4 w next4 =>
    RD Try.prog (Builtin.len_ #[34] 3 [a0].toArray) w fun x13 =>
    RD Try.prog (bin .lss 3 (.tmp 0) (.tmp 0) (u4 5) x13) w fun x14 =>
    BR x14
     ((fun w => RD Try.prog (Instr.indexAt 34 a0 (u4 5)) w fun x19 =>
     RD Try.prog (Instr.loadAt 36 x19) w fun x20 =>
     RD Try.prog (Instr.indexAt 34 a1 (u4 5)) w fun x23 =>
     RD Try.prog (Instr.loadAt 36 x23) w fun x24 =>
     CALL Try.prog 43 [x20, x24] w fun x25 w =>
     RD Try.prog (Op.unary .not x25) w fun x26 =>
     BR x26
      (R (Value.bool false) w)
      (RD Try.prog (bin .add 3 (.tmp 0) (.const undef) (u4 5) (Value.int .i64 1)) w fun x16 =>
      next4 [x16] w)) (World.drew1 w))
     (R (Value.bool true) w))
def cfg22 : Cfg := { ext := extL, joins := [], loops := [(4, 134215728, [5])], draws := [(6, [0, 1, 2, 3, 4, 5, 6, 7, 8, 9], 0)] }
theorem F22_eq (a0 a1 : Value) (w : World) (R : Value → World → Prop) : vcF Try.prog cfg22 Try.f22 [a0, a1] w R = F22 a0 a1 w R := by kernel_rfl
theorem F22_call {a0 a1 : Value} {w : World} {R : Value → World → Prop} (h : F22 a0 a1 w R) : CALL Try.prog 22 [a0, a1] w R :=
  call_of (g := cfg22) ent mixed Try.func22 (Nat.le_of_ble_eq_true (by kernel_rfl)) (by kernel_rfl) (F22_eq a0 a1 w R ▸ h)

/-- laws.szState -/
def F23 (a0 a1 : Value) (w : World) (R : Value → World → Prop) : Prop :=
  OP Try.prog (Instr.box 42 a0) w fun x2 w =>
  RD Try.prog (Instr.fieldAt 42 x2 0) w fun x5 =>
  RD Try.prog (Instr.loadAt 22 x5) w fun x6 =>
  CALL Try.prog 44 [x6, a1] w fun x8 w =>
  RD Try.prog (bin .lss 3 (.tmp 0) (.const undef) x8 (Value.int .i64 0)) w fun x10 =>
  BR x10
   (R (Value.int .i64 (-1)) w)
   (RD Try.prog (Instr.fieldAt 42 x2 1) w fun x11 =>
   RD Try.prog (Instr.loadAt 22 x11) w fun x12 =>
   CALL Try.prog 44 [x12, x8] w fun x14 w =>
   RD Try.prog (bin .lss 3 (.tmp 0) (.const undef) x14 (Value.int .i64 0)) w fun x16 =>
   BR x16
    (R (Value.int .i64 (-1)) w)
    (RD Try.prog (Instr.fieldAt 42 x2 2) w fun x17 =>
    RD Try.prog (Instr.loadAt 40 x17) w fun x18 =>
    CALL Try.prog 30 [x18, x14] w fun x20 w =>
    RD Try.prog (bin .lss 3 (.tmp 0) (.const undef) x20 (Value.int .i64 0)) w fun x22 =>
    BR x22
     (R (Value.int .i64 (-1)) w)
     (R x20 w)))
def cfg23 : Cfg := { ext := extL, joins := [], loops := [], draws := [] }
theorem F23_eq (a0 a1 : Value) (w : World) (R : Value → World → Prop) : vcF Try.prog cfg23 Try.f23 [a0, a1] w R = F23 a0 a1 w R := by kernel_rfl
theorem F23_call {a0 a1 : Value} {w : World} {R : Value → World → Prop} (h : F23 a0 a1 w R) : CALL Try.prog 23 [a0, a1] w R :=
  call_of (g := cfg23) ent mixed Try.func23 (Nat.le_of_ble_eq_true (by kernel_rfl)) (by kernel_rfl) (F23_eq a0 a1 w R ▸ h)

/-- spec.AtOf -/
def F24 (a0 a1 : Value) (w : World) (R : Value → World → Prop) : Prop :=
  OP Try.prog (Instr.box 45 a0) w fun x2 w =>
  RD Try.prog (Instr.fieldAt 45 x2 2) w fun x6 =>
  RD Try.prog (Instr.loadAt 40 x6) w fun x7 =>
  RD Try.prog (Builtin.len_ #[40] 3 [x7].toArray) w fun x8 =>
  RD Try.prog (bin .sub 3 (.tmp 0) (.const undef) x8 (Value.int .i64 1)) w fun x9 =>
  CALL Try.prog 45 [a1, (Value.int .i64 0), x9] w fun x10 w =>
  RD Try.prog (Op.unary .not x10) w fun x11 =>
  BR x11
  (R (Value.int .i64 (-1)) w)
  (RD Try.prog (Instr.fieldAt 45 x2 2) w fun x13 =>
  RD Try.prog (Instr.loadAt 40 x13) w fun x14 =>
  RD Try.prog (Instr.indexAt 40 x14 a1) w fun x16 =>
  RD Try.prog (Instr.loadAt 22 x16) w fun x17 =>
  RD Try.prog (Builtin.len_ #[22] 3 [x17].toArray) w fun x18 =>
  RD Try.prog (bin .eql 3 (.tmp 0) (.const undef) x18 (Value.int .i64 0)) w fun x19 =>
  BR x19
   (R (Value.int .i64 (-1)) w)
   ((fun w => RD Try.prog (Instr.fieldAt 45 x2 2) w fun x21 =>
   RD Try.prog (Instr.loadAt 40 x21) w fun x22 =>
   RD Try.prog (Instr.indexAt 40 x22 a1) w fun x24 =>
   RD Try.prog (Instr.loadAt 22 x24) w fun x25 =>
   RD Try.prog (Instr.fieldAt 45 x2 2) w fun x26 =>
   RD Try.prog (Instr.loadAt 40 x26) w fun x27 =>
   RD Try.prog (Instr.indexAt 40 x27 a1) w fun x29 =>
   RD Try.prog (Instr.loadAt 22 x29) w fun x30 =>
   RD Try.prog (Builtin.len_ #[22] 3 [x30].toArray) w fun x31 =>
   RD Try.prog (bin .sub 3 (.tmp 0) (.const undef) x31 (Value.int .i64 1)) w fun x32 =>
   RD Try.prog (Instr.indexAt 22 x25 x32) w fun x33 =>
   RD Try.prog (Instr.loadAt 3 x33) w fun x34 =>
   R x34 w) (World.drew1 w)))
def cfg24 : Cfg := { ext := extL, joins := [], loops := [], draws := [(3, [0, 1, 2, 3, 4, 5, 6, 7, 8, 9, 10, 11, 12, 13, 14], 0)] }
theorem F24_eq (a0 a1 : Value) (w : World) (R : Value → World → Prop) : vcF Try.prog cfg24 Try.f24 [a0, a1] w R = F24 a0 a1 w R := by kernel_rfl
theorem F24_call {a0 a1 : Value} {w : World} {R : Value → World → Prop} (h : F24 a0 a1 w R) : CALL Try.prog 24 [a0, a1] w R :=
  call_of (g := cfg24) ent mixed Try.func24 (Nat.le_of_ble_eq_true (by kernel_rfl)) (by kernel_rfl) (F24_eq a0 a1 w R ▸ h)

/-- laws.toState -/
def F25 (a0 : Value) (w : World) (R : Value → World → Prop) : Prop :=
  OP Try.prog (Instr.box 42 a0) w fun x1 w =>
  OP Try.prog (Instr.alloc 45 true (.tuple #[])) w fun x2 w =>
  OP Try.prog (Instr.alloc 45 true (.tuple #[])) w fun x3 w =>
  RD Try.prog (Instr.fieldAt 42 x1 0) w fun x4 =>
  RD Try.prog (Instr.loadAt 22 x4) w fun x5 =>
  CALL Try.prog 12 [x5] w fun x6 w =>
  RD Try.prog (Instr.fieldAt 45 x3 0) w fun x7 =>
  OPU Try.prog (Instr.storeAt 22 x7 x6) w fun w =>
  RD Try.prog (Instr.fieldAt 42 x1 1) w fun x8 =>
  RD Try.prog (Instr.loadAt 22 x8) w fun x9 =>
  CALL Try.prog 12 [x9] w fun x10 w =>
  RD Try.prog (Instr.fieldAt 45 x3 1) w fun x11 =>
  OPU Try.prog (Instr.storeAt 22 x11 x10) w fun w =>
  RD Try.prog (Instr.fieldAt 42 x1 2) w fun x12 =>
  RD Try.prog (Instr.loadAt 40 x12) w fun x13 =>
  CALL Try.prog 32 [x13] w fun x14 w =>
  RD Try.prog (Instr.fieldAt 45 x3 2) w fun x15 =>
  OPU Try.prog (Instr.storeAt 40 x15 x14) w fun w =>
  RD Try.prog (Instr.loadAt 45 x3) w fun x16 =>
  OPU Try.prog (Instr.storeAt 45 x2 x16) w fun w =>
  RD Try.prog (loadRes 45 x2) w fun r2 => R r2 w
def cfg25 : Cfg := { ext := extL, joins := [], loops := [], draws := [] }
theorem F25_eq (a0 : Value) (w : World) (R : Value → World → Prop) : vcF Try.prog cfg25 Try.f25 [a0] w R = F25 a0 w R := by kernel_rfl
theorem F25_call {a0 : Value} {w : World} {R : Value → World → Prop} (h : F25 a0 w R) : CALL Try.prog 25 [a0] w R :=
  call_of (g := cfg25) ent mixed Try.func25 (Nat.le_of_ble_eq_true (by kernel_rfl)) (by kernel_rfl) (F25_eq a0 w R ▸ h)

/-- impl.AtOf -/
def F26 (a0 a1 : Value) (w : World) (R : Value → World → Prop) : Prop :=
  OP Try.prog (Instr.box 45 a0) w fun x2 w =>
  RD Try.prog (bin .lss 3 (.tmp 0) (.const undef) a1 (Value.int .i64 0)) w fun x6 =>
  BR x6
  (R (Value.int .i64 (-1)) w)
  (RD Try.prog (Instr.fieldAt 45 x2 2) w fun x9 =>
  RD Try.prog (Instr.loadAt 40 x9) w fun x10 =>
  RD Try.prog (Builtin.len_ #[40] 3 [x10].toArray) w fun x11 =>
  RD Try.prog (bin .geq 3 (.tmp 0) (.tmp 0) a1 x11) w fun x12 =>
  BR x12
  (R (Value.int .i64 (-1)) w)
  (RD Try.prog (Instr.fieldAt 45 x2 2) w fun x15 =>
  RD Try.prog (Instr.loadAt 40 x15) w fun x16 =>
  RD Try.prog (Instr.indexAt 40 x16 a1) w fun x18 =>
  RD Try.prog (Instr.loadAt 22 x18) w fun x19 =>
  RD Try.prog (Builtin.len_ #[22] 3 [x19].toArray) w fun x20 =>
  RD Try.prog (bin .eql 3 (.tmp 0) (.const undef) x20 (Value.int .i64 0)) w fun x21 =>
  BR x21
   (R (Value.int .i64 (-1)) w)
   ((fun w => RD Try.prog (Instr.fieldAt 45 x2 2) w fun x23 =>
   RD Try.prog (Instr.loadAt 40 x23) w fun x24 =>
   RD Try.prog (Instr.indexAt 40 x24 a1) w fun x26 =>
   RD Try.prog (Instr.loadAt 22 x26) w fun x27 =>
   RD Try.prog (Instr.fieldAt 45 x2 2) w fun x28 =>
   RD Try.prog (Instr.loadAt 40 x28) w fun x29 =>
   RD Try.prog (Instr.indexAt 40 x29 a1) w fun x31 =>
   RD Try.prog (Instr.loadAt 22 x31) w fun x32 =>
   RD Try.prog (Builtin.len_ #[22] 3 [x32].toArray) w fun x33 =>
   RD Try.prog (bin .sub 3 (.tmp 0) (.const undef) x33 (Value.int .i64 1)) w fun x34 =>
   RD Try.prog (Instr.indexAt 22 x27 x34) w fun x35 =>
   RD Try.prog (Instr.loadAt 3 x35) w fun x36 =>
   R x36 w) (World.drew1 w))))
def cfg26 : Cfg := { ext := extL, joins := [], loops := [], draws := [(3, [0, 1, 2, 3, 4, 5, 6, 7, 8, 9, 10, 11, 12, 13, 14], 0)] }
theorem F26_eq (a0 a1 : Value) (w : World) (R : Value → World → Prop) : vcF Try.prog cfg26 Try.f26 [a0, a1] w R = F26 a0 a1 w R := by kernel_rfl
theorem F26_call {a0 a1 : Value} {w : World} {R : Value → World → Prop} (h : F26 a0 a1 w R) : CALL Try.prog 26 [a0, a1] w R :=
  call_of (g := cfg26) ent mixed Try.func26 (Nat.le_of_ble_eq_true (by kernel_rfl)) (by kernel_rfl) (F26_eq a0 a1 w R ▸ h)

/-- laws.eqState -/
def F27 (a0 a1 : Value) (w : World) (R : Value → World → Prop) : Prop :=
  OP Try.prog (Instr.box 45 a0) w fun x2 w =>
  OP Try.prog (Instr.box 45 a1) w fun x3 w =>
  RD Try.prog (Instr.fieldAt 45 x2 0) w fun x5 =>
  RD Try.prog (Instr.loadAt 22 x5) w fun x6 =>
  RD Try.prog (Instr.fieldAt 45 x3 0) w fun x7 =>
  RD Try.prog (Instr.loadAt 22 x7) w fun x8 =>
  CALL Try.prog 14 [x6, x8] w fun x9 w =>
  RD Try.prog (Op.unary .not x9) w fun x10 =>
  BR x10
   (R (Value.bool false) w)
   (RD Try.prog (Instr.fieldAt 45 x2 1) w fun x11 =>
   RD Try.prog (Instr.loadAt 22 x11) w fun x12 =>
   RD Try.prog (Instr.fieldAt 45 x3 1) w fun x13 =>
   RD Try.prog (Instr.loadAt 22 x13) w fun x14 =>
   CALL Try.prog 14 [x12, x14] w fun x15 w =>
   RD Try.prog (Op.unary .not x15) w fun x16 =>
   BR x16
    (R (Value.bool false) w)
    (RD Try.prog (Instr.fieldAt 45 x2 2) w fun x17 =>
    RD Try.prog (Instr.loadAt 40 x17) w fun x18 =>
    RD Try.prog (Instr.fieldAt 45 x3 2) w fun x19 =>
    RD Try.prog (Instr.loadAt 40 x19) w fun x20 =>
    CALL Try.prog 34 [x18, x20] w fun x21 w =>
    RD Try.prog (Op.unary .not x21) w fun x22 =>
    BR x22
     (R (Value.bool false) w)
     (R (Value.bool true) w)))
def cfg27 : Cfg := { ext := extL, joins := [], loops := [], draws := [] }
theorem F27_eq (a0 a1 : Value) (w : World) (R : Value → World → Prop) : vcF Try.prog cfg27 Try.f27 [a0, a1] w R = F27 a0 a1 w R := by kernel_rfl
theorem F27_call {a0 a1 : Value} {w : World} {R : Value → World → Prop} (h : F27 a0 a1 w R) : CALL Try.prog 27 [a0, a1] w R :=
  call_of (g := cfg27) ent mixed Try.func27 (Nat.le_of_ble_eq_true (by kernel_rfl)) (by kernel_rfl) (F27_eq a0 a1 w R ▸ h)

/-- spec.OverIn -/
def F28 (a0 : Value) (w : World) (R : Value → World → Prop) : Prop :=
  OP Try.prog (Instr.box 45 a0) w fun x1 w =>
  LOOPI [3] [(Value.int .i64 0)] w fun u2 w next2 =>
   RD Try.prog (Instr.fieldAt 45 x1 2) w fun x5 =>
   RD Try.prog (Instr.loadAt 40 x5) w fun x6 =>
   RD Try.prog (Builtin.len_ #[40] 3 [x6].toArray) w fun x7 =>
   RD Try.prog (bin .lss 3 (.tmp 0) (.tmp 0) (u2 3) x7) w fun x8 =>
   BR x8
    (RD Try.prog (Instr.fieldAt 45 x1 2) w fun x11 =>
    RD Try.prog (Instr.loadAt 40 x11) w fun x12 =>
    RD Try.prog (Instr.indexAt 40 x12 (u2 3)) w fun x14 =>
    RD Try.prog (Instr.loadAt 22 x14) w fun x15 =>
    RD Try.prog (Builtin.len_ #[22] 3 [x15].toArray) w fun x16 =>
    RD Try.prog (bin .gtr 3 (.tmp 0) (.const undef) x16 (Value.int .i64 0)) w fun x17 =>
    BR x17
     (R (Value.bool false) w)
     (RD Try.prog (bin .add 3 (.tmp 0) (.const undef) (u2 3) (Value.int .i64 1)) w fun x10 =>
     next2 [x10] w))
    (R (Value.bool true) w)
def cfg28 : Cfg := { ext := extL, joins := [], loops := [(2, 262140, [3])], draws := [] }
theorem F28_eq (a0 : Value) (w : World) (R : Value → World → Prop) : vcF Try.prog cfg28 Try.f28 [a0] w R = F28 a0 w R := by kernel_rfl
theorem F28_call {a0 : Value} {w : World} {R : Value → World → Prop} (h : F28 a0 w R) : CALL Try.prog 28 [a0] w R :=
  call_of (g := cfg28) ent mixed Try.func28 (Nat.le_of_ble_eq_true (by kernel_rfl)) (by kernel_rfl) (F28_eq a0 w R ▸ h)

/-- impl.OverIn -/
def F29 (a0 : Value) (w : World) (R : Value → World → Prop) : Prop :=
  OP Try.prog (Instr.box 45 a0) w fun x1 w =>
  RD Try.prog (Instr.fieldAt 45 x1 2) w fun x5 =>
  RD Try.prog (Instr.loadAt 40 x5) w fun x6 =>
  RD Try.prog (Builtin.len_ #[40] 3 [x6].toArray) w fun x7 =>
  LOOPI [8] [(Value.int .i64 0)] w fun u2 w next2 =>
   RD Try.prog (bin .lss 3 (.tmp 0) (.tmp 0) (u2 8) x7) w fun x9 =>
   BR x9
    (RD Try.prog (Instr.indexAt 40 x6 (u2 8)) w fun x10 =>
    RD Try.prog (Instr.loadAt 22 x10) w fun x11 =>
    RD Try.prog (Builtin.len_ #[22] 3 [x11].toArray) w fun x13 =>
    RD Try.prog (bin .gtr 3 (.tmp 0) (.const undef) x13 (Value.int .i64 0)) w fun x14 =>
    BR x14
     (R (Value.bool false) w)
     (RD Try.prog (bin .add 3 (.tmp 0) (.const undef) (u2 8) (Value.int .i64 1)) w fun x15 =>
     next2 [x15] w))
    (R (Value.bool true) w)
def cfg29 : Cfg := { ext := extL, joins := [], loops := [(2, 65300, [8])], draws := [] }
theorem F29_eq (a0 : Value) (w : World) (R : Value → World → Prop) : vcF Try.prog cfg29 Try.f29 [a0] w R = F29 a0 w R := by kernel_rfl
theorem F29_call {a0 : Value} {w : World} {R : Value → World → Prop} (h : F29 a0 w R) : CALL Try.prog 29 [a0] w R :=
  call_of (g := cfg29) ent mixed Try.func29 (Nat.le_of_ble_eq_true (by kernel_rfl)) (by kernel_rfl) (F29_eq a0 w R ▸ h)

/-- laws.szIntSS -/
def F30 (a0 a1 : Value) (w : World) (R : Value → World → Prop) : Prop :=
  RD Try.prog (Builtin.len_ #[40] 3 [a0].toArray) w fun x8 =>
  RD Try.prog (bin .sub 3 (.tmp 0) (.tmp 0) a1 x8) w fun x9 =>
  RD Try.prog (bin .lss 3 (.tmp 0) (.const undef) x9 (Value.int .i64 0)) w fun x11 =>
  BR x11
   (R (Value.int .i64 (-1)) w)
   (LOOPI [1, 5] [x9, (Value.int .i64 0)] w fun u5 w next5 =>
    RD Try.prog (Builtin.len_ #[40] 3 [a0].toArray) w fun x14 =>
    RD Try.prog (bin .lss 3 (.tmp 0) (.tmp 0) (u5 5) x14) w fun x15 =>
    BR x15
     (RD Try.prog (Instr.indexAt 40 a0 (u5 5)) w fun x20 =>
     RD Try.prog (Instr.loadAt 22 x20) w fun x21 =>
     CALL Try.prog 44 [x21, (u5 1)] w fun x23 w =>
     RD Try.prog (bin .lss 3 (.tmp 0) (.const undef) x23 (Value.int .i64 0)) w fun x25 =>
     BR x25
      (R (Value.int .i64 (-1)) w)
      (RD Try.prog (bin .add 3 (.tmp 0) (.const undef) (u5 5) (Value.int .i64 1)) w fun x17 =>
      next5 [x23, x17] w))
     (R (u5 1) w))
def cfg30 : Cfg := { ext := extL, joins := [], loops := [(5, 67104818, [1, 5])], draws := [] }
theorem F30_eq (a0 a1 : Value) (w : World) (R : Value → World → Prop) : vcF Try.prog cfg30 Try.f30 [a0, a1] w R = F30 a0 a1 w R := by kernel_rfl
theorem F30_call {a0 a1 : Value} {w : World} {R : Value → World → Prop} (h : F30 a0 a1 w R) : CALL Try.prog 30 [a0, a1] w R :=
  call_of (g := cfg30) ent mixed Try.func30 (Nat.le_of_ble_eq_true (by kernel_rfl)) (by kernel_rfl) (F30_eq a0 a1 w R ▸ h)

/-- spec.ToldKnot -/
def F31 (a0 a1 : Value) (w : World) (R : Value → World → Prop) : Prop :=
  RD Try.prog (Builtin.len_ #[22] 3 [a1].toArray) w fun x9 =>
  RD Try.prog (bin .eql 3 (.tmp 0) (.const undef) x9 (Value.int .i64 0)) w fun x10 =>
  BR x10
   (R (Value.bool true) w)
   (LOOPI [5] [(Value.int .i64 0)] w fun u4 w next4 =>
    RD Try.prog (Builtin.len_ #[40] 3 [a0].toArray) w fun x13 =>
    RD Try.prog (bin .lss 3 (.tmp 0) (.tmp 0) (u4 5) x13) w fun x14 =>
    BR x14
     (LOOPI [6, 7] [(Value.bool true), (Value.int .i64 0)] w fun u8 w next8 =>
      RD Try.prog (Builtin.len_ #[22] 3 [a1].toArray) w fun x19 =>
      RD Try.prog (bin .lss 3 (.tmp 0) (.tmp 0) (u8 7) x19) w fun x20 =>
      BR x20
       ((fun w => BR (u8 6)
       (RD Try.prog (Instr.indexAt 40 a0 (u4 5)) w fun x27 =>
       RD Try.prog (Instr.loadAt 22 x27) w fun x28 =>
       RD Try.prog (Instr.indexAt 22 a1 (u8 7)) w fun x31 =>
       RD Try.prog (Instr.loadAt 3 x31) w fun x32 =>
       CALL Try.prog 46 [x28, x32] w fun x33 w =>
       RD Try.prog (bin .add 3 (.tmp 0) (.const undef) (u8 7) (Value.int .i64 1)) w fun x22 =>
       next8 [x33, x22] w)
       (RD Try.prog (bin .add 3 (.tmp 0) (.const undef) (u8 7) (Value.int .i64 1)) w fun x22 =>
       next8 [(Value.bool false), x22] w)) (World.drew1 w))
       (BR (u8 6)
        (R (Value.bool true) w)
        (RD Try.prog (bin .add 3 (.tmp 0) (.const undef) (u4 5) (Value.int .i64 1)) w fun x16 =>
        next4 [x16] w)))
     (R (Value.bool false) w))
def cfg31 : Cfg := { ext := extL, joins := [], loops := [(4, 68719474928, [5]), (8, 34359607488, [6, 7])], draws := [(10, [0, 1, 2, 3, 4, 5, 6, 7, 8, 9, 10, 11, 12], 0)] }
theorem F31_eq (a0 a1 : Value) (w : World) (R : Value → World → Prop) : vcF Try.prog cfg31 Try.f31 [a0, a1] w R = F31 a0 a1 w R := by kernel_rfl
theorem F31_call {a0 a1 : Value} {w : World} {R : Value → World → Prop} (h : F31 a0 a1 w R) : CALL Try.prog 31 [a0, a1] w R :=
  call_of (g := cfg31) ent mixed Try.func31 (Nat.le_of_ble_eq_true (by kernel_rfl)) (by kernel_rfl) (F31_eq a0 a1 w R ▸ h)

/-- laws.toIntSS -/
def F32 (a0 : Value) (w : World) (R : Value → World → Prop) : Prop :=
  RD Try.prog (Builtin.len_ #[40] 3 [a0].toArray) w fun x6 =>
  OP Try.prog (Instr.makeSlice 40 x6 x6) w fun x7 w =>
  LOOPI [4] [(Value.int .i64 0)] w fun u3 w next3 =>
   RD Try.prog (Builtin.len_ #[40] 3 [a0].toArray) w fun x10 =>
   RD Try.prog (bin .lss 3 (.tmp 0) (.tmp 0) (u3 4) x10) w fun x11 =>
   BR x11
    (RD Try.prog (Instr.indexAt 40 a0 (u3 4)) w fun x18 =>
    RD Try.prog (Instr.loadAt 22 x18) w fun x19 =>
    CALL Try.prog 12 [x19] w fun x20 w =>
    RD Try.prog (Instr.indexAt 40 x7 (u3 4)) w fun x21 =>
    OPU Try.prog (Instr.storeAt 22 x21 x20) w fun w =>
    RD Try.prog (bin .add 3 (.tmp 0) (.const undef) (u3 4) (Value.int .i64 1)) w fun x13 =>
    next3 [x13] w)
    (R x7 w)
def cfg32 : Cfg := { ext := extL, joins := [], loops := [(3, 4194064, [4])], draws := [] }
theorem F32_eq (a0 : Value) (w : World) (R : Value → World → Prop) : vcF Try.prog cfg32 Try.f32 [a0] w R = F32 a0 w R := by kernel_rfl
theorem F32_call {a0 : Value} {w : World} {R : Value → World → Prop} (h : F32 a0 w R) : CALL Try.prog 32 [a0] w R :=
  call_of (g := cfg32) ent mixed Try.func32 (Nat.le_of_ble_eq_true (by kernel_rfl)) (by kernel_rfl) (F32_eq a0 w R ▸ h)

/-- impl.ToldKnot -/
def F33 (a0 a1 : Value) (w : World) (R : Value → World → Prop) : Prop :=
  RD Try.prog (Builtin.len_ #[22] 3 [a1].toArray) w fun x11 =>
  RD Try.prog (bin .eql 3 (.tmp 0) (.const undef) x11 (Value.int .i64 0)) w fun x12 =>
  BR x12
   (R (Value.bool true) w)
   (RD Try.prog (Builtin.len_ #[40] 3 [a0].toArray) w fun x14 =>
   LOOPI [15] [(Value.int .i64 0)] w fun u4 w next4 =>
    RD Try.prog (bin .lss 3 (.tmp 0) (.tmp 0) (u4 15) x14) w fun x16 =>
    BR x16
     (RD Try.prog (Instr.indexAt 40 a0 (u4 15)) w fun x17 =>
     RD Try.prog (Instr.loadAt 22 x17) w fun x18 =>
     RD Try.prog (Builtin.len_ #[22] 3 [a1].toArray) w fun x20 =>
     LOOPI [7, 21] [(Value.bool true), (Value.int .i64 0)] w fun u8 w next8 =>
      RD Try.prog (bin .lss 3 (.tmp 0) (.tmp 0) (u8 21) x20) w fun x22 =>
      BR x22
       (RD Try.prog (Instr.indexAt 22 a1 (u8 21)) w fun x23 =>
       RD Try.prog (Instr.loadAt 3 x23) w fun x24 =>
       CALL Try.prog 47 [x18, x24] w fun x27 w =>
       RD Try.prog (Op.unary .not x27) w fun x28 =>
       BR x28
        (RD Try.prog (bin .add 3 (.tmp 0) (.const undef) (u8 21) (Value.int .i64 1)) w fun x29 =>
        next8 [(Value.bool false), x29] w)
        (RD Try.prog (bin .add 3 (.tmp 0) (.const undef) (u8 21) (Value.int .i64 1)) w fun x29 =>
        next8 [(u8 7), x29] w))
       (BR (u8 7)
        (R (Value.bool true) w)
        (RD Try.prog (bin .add 3 (.tmp 0) (.const undef) (u4 15) (Value.int .i64 1)) w fun x31 =>
        next4 [x31] w)))
     (R (Value.bool false) w))
def cfg33 : Cfg := { ext := extL, joins := [], loops := [(4, 4294935248, [15]), (8, 1071645312, [7, 21])], draws := [] }
theorem F33_eq (a0 a1 : Value) (w : World) (R : Value → World → Prop) : vcF Try.prog cfg33 Try.f33 [a0, a1] w R = F33 a0 a1 w R := by kernel_rfl
theorem F33_call {a0 a1 : Value} {w : World} {R : Value → World → Prop} (h : F33 a0 a1 w R) : CALL Try.prog 33 [a0, a1] w R :=
  call_of (g := cfg33) ent mixed Try.func33 (Nat.le_of_ble_eq_true (by kernel_rfl)) (by kernel_rfl) (F33_eq a0 a1 w R ▸ h)

/-- laws.eqIntSS -/
def F34 (a0 a1 : Value) (w : World) (R : Value → World → Prop) : Prop :=
  RD Try.prog (Builtin.len_ #[40] 3 [a0].toArray) w fun x7 =>
  RD Try.prog (Builtin.len_ #[40] 3 [a1].toArray) w fun x9 =>
  RD Try.prog (bin .neq 3 (.tmp 0) (.tmp 0) x7 x9) w fun x10 =>
  BR x10
   (R (Value.bool false) w)
   (LOOPI [5] [(Value.int .i64 0)] w fun u4 w next4 =>
    RD Try.prog (Builtin.len_ #[40] 3 [a0].toArray) w fun x13 =>
    RD Try.prog (bin .lss 3 (.tmp 0) (.tmp 0) (u4 5) x13) w fun x14 =>
    BR x14
     ((fun w => RD Try.prog (Instr.indexAt 40 a0 (u4 5)) w fun x19 =>
     RD Try.prog (Instr.loadAt 22 x19) w fun x20 =>
     RD Try.prog (Instr.indexAt 40 a1 (u4 5)) w fun x23 =>
     RD Try.prog (Instr.loadAt 22 x23) w fun x24 =>
     CALL Try.prog 14 [x20, x24] w fun x25 w =>
     RD Try.prog (Op.unary .not x25) w fun x26 =>
     BR x26
      (R (Value.bool false) w)
      (RD Try.prog (bin .add 3 (.tmp 0) (.const undef) (u4 5) (Value.int .i64 1)) w fun x16 =>
      next4 [x16] w)) (World.drew1 w))
     (R (Value.bool true) w))
def cfg34 : Cfg := { ext := extL, joins := [], loops := [(4, 134215728, [5])], draws := [(6, [0, 1, 2, 3, 4, 5, 6, 7, 8, 9], 0)] }
theorem F34_eq (a0 a1 : Value) (w : World) (R : Value → World → Prop) : vcF Try.prog cfg34 Try.f34 [a0, a1] w R = F34 a0 a1 w R := by kernel_rfl
theorem F34_call {a0 a1 : Value} {w : World} {R : Value → World → Prop} (h : F34 a0 a1 w R) : CALL Try.prog 34 [a0, a1] w R :=
  call_of (g := cfg34) ent mixed Try.func34 (Nat.le_of_ble_eq_true (by kernel_rfl)) (by kernel_rfl) (F34_eq a0 a1 w R ▸ h)

/-- spec.HeldBy -/
def F35 (a0 a1 : Value) (w : World) (R : Value → World → Prop) : Prop :=
  OP Try.prog (Instr.box 45 a0) w fun x2 w =>
  LOOPI [5, 6] [(Value.int .i64 0), (Value.int .i64 0)] w fun u3 w next3 =>
   RD Try.prog (bin .geq 3 (.tmp 0) (.const undef) a1 (Value.int .i64 0)) w fun x8 =>
   BR x8
   (RD Try.prog (Instr.fieldAt 45 x2 1) w fun x11 =>
   RD Try.prog (Instr.loadAt 22 x11) w fun x12 =>
   RD Try.prog (Builtin.len_ #[22] 3 [x12].toArray) w fun x13 =>
   RD Try.prog (bin .lss 3 (.tmp 0) (.tmp 0) (u3 6) x13) w fun x14 =>
   BR x14
   (RD Try.prog (bin .lss 3 (.tmp 0) (.const undef) (u3 6) (Value.int .i64 6)) w fun x18 =>
   BR x18
    (RD Try.prog (Instr.fieldAt 45 x2 1) w fun x22 =>
    RD Try.prog (Instr.loadAt 22 x22) w fun x23 =>
    RD Try.prog (Instr.indexAt 22 x23 (u3 6)) w fun x25 =>
    RD Try.prog (Instr.loadAt 3 x25) w fun x26 =>
    RD Try.prog (bin .eql 3 (.tmp 0) (.tmp 0) x26 a1) w fun x28 =>
    BR x28
     (CALL Try.prog 48 [(u3 6)] w fun x31 w =>
     RD Try.prog (bin .or 3 (.tmp 0) (.tmp 0) (u3 5) x31) w fun x32 =>
     RD Try.prog (bin .add 3 (.tmp 0) (.const undef) (u3 6) (Value.int .i64 1)) w fun x21 =>
     next3 [x32, x21] w)
     (RD Try.prog (bin .add 3 (.tmp 0) (.const undef) (u3 6) (Value.int .i64 1)) w fun x21 =>
     next3 [(u3 5), x21] w))
    (R (u3 5) w))
   (R (u3 5) w))
   (R (u3 5) w)
def cfg35 : Cfg := { ext := extL, joins := [], loops := [(3, 8589934560, [5, 6])], draws := [] }
theorem F35_eq (a0 a1 : Value) (w : World) (R : Value → World → Prop) : vcF Try.prog cfg35 Try.f35 [a0, a1] w R = F35 a0 a1 w R := by kernel_rfl
theorem F35_call {a0 a1 : Value} {w : World} {R : Value → World → Prop} (h : F35 a0 a1 w R) : CALL Try.prog 35 [a0, a1] w R :=
  call_of (g := cfg35) ent mixed Try.func35 (Nat.le_of_ble_eq_true (by kernel_rfl)) (by kernel_rfl) (F35_eq a0 a1 w R ▸ h)

/-- impl.HeldBy -/
def F36 (a0 a1 : Value) (w : World) (R : Value → World → Prop) : Prop :=
  OP Try.prog (Instr.box 45 a0) w fun x2 w =>
  RD Try.prog (bin .lss 3 (.tmp 0) (.const undef) a1 (Value.int .i64 0)) w fun x9 =>
  BR x9
   (R (Value.int .i64 0) w)
   (RD Try.prog (Instr.fieldAt 45 x2 1) w fun x10 =>
   RD Try.prog (Instr.loadAt 22 x10) w fun x11 =>
   RD Try.prog (Builtin.len_ #[22] 3 [x11].toArray) w fun x12 =>
   LOOPI [5, 13] [(Value.int .i64 0), (Value.int .i64 0)] w fun u5 w next5 =>
    RD Try.prog (bin .lss 3 (.tmp 0) (.tmp 0) (u5 13) x12) w fun x14 =>
    BR x14
     (RD Try.prog (Instr.indexAt 22 x11 (u5 13)) w fun x16 =>
     RD Try.prog (Instr.loadAt 3 x16) w fun x17 =>
     RD Try.prog (bin .lss 3 (.tmp 0) (.const undef) (u5 13) (Value.int .i64 6)) w fun x19 =>
     BR x19
     (RD Try.prog (bin .eql 3 (.tmp 0) (.tmp 0) x17 a1) w fun x23 =>
     BR x23
      (RD Try.prog (convert 3 62 (u5 13)) w fun x27 =>
      RD Try.prog (bin .shl 3 (.const undef) (.tmp 0) (Value.int .i64 1) x27) w fun x28 =>
      RD Try.prog (bin .or 3 (.tmp 0) (.tmp 0) (u5 5) x28) w fun x29 =>
      RD Try.prog (bin .add 3 (.tmp 0) (.const undef) (u5 13) (Value.int .i64 1)) w fun x30 =>
      next5 [x29, x30] w)
      (RD Try.prog (bin .add 3 (.tmp 0) (.const undef) (u5 13) (Value.int .i64 1)) w fun x30 =>
      next5 [(u5 5), x30] w))
     (RD Try.prog (bin .add 3 (.tmp 0) (.const undef) (u5 13) (Value.int .i64 1)) w fun x30 =>
      next5 [(u5 5), x30] w))
     (R (u5 5) w))
def cfg36 : Cfg := { ext := extL, joins := [], loops := [(5, 2147475680, [5, 13])], draws := [] }
theorem F36_eq (a0 a1 : Value) (w : World) (R : Value → World → Prop) : vcF Try.prog cfg36 Try.f36 [a0, a1] w R = F36 a0 a1 w R := by kernel_rfl
theorem F36_call {a0 a1 : Value} {w : World} {R : Value → World → Prop} (h : F36 a0 a1 w R) : CALL Try.prog 36 [a0, a1] w R :=
  call_of (g := cfg36) ent mixed Try.func36 (Nat.le_of_ble_eq_true (by kernel_rfl)) (by kernel_rfl) (F36_eq a0 a1 w R ▸ h)

/-- spec.LinesIn -/
def F37 (a0 : Value) (w : World) (R : Value → World → Prop) : Prop :=
  LOOPI [3, 4] [(Value.int .i64 0), (Value.int .i64 0)] w fun u3 w next3 =>
   RD Try.prog (Builtin.len_ #[9] 3 [a0].toArray) w fun x7 =>
   RD Try.prog (bin .lss 3 (.tmp 0) (.tmp 0) (u3 4) x7) w fun x8 =>
   BR x8
    (RD Try.prog (Instr.index 9 a0 (u3 4)) w fun x13 =>
    RD Try.prog (bin .eql 5 (.tmp 0) (.const undef) x13 (Value.int .u8 10)) w fun x14 =>
    BR x14
     (RD Try.prog (bin .add 3 (.tmp 0) (.const undef) (u3 3) (Value.int .i64 1)) w fun x16 =>
     RD Try.prog (bin .add 3 (.tmp 0) (.const undef) (u3 4) (Value.int .i64 1)) w fun x10 =>
     next3 [x16, x10] w)
     (RD Try.prog (bin .add 3 (.tmp 0) (.const undef) (u3 4) (Value.int .i64 1)) w fun x10 =>
     next3 [(u3 3), x10] w))
    (R (u3 3) w)
def cfg37 : Cfg := { ext := extL, joins := [], loops := [(3, 131064, [3, 4])], draws := [] }
theorem F37_eq (a0 : Value) (w : World) (R : Value → World → Prop) : vcF Try.prog cfg37 Try.f37 [a0] w R = F37 a0 w R := by kernel_rfl
theorem F37_call {a0 : Value} {w : World} {R : Value → World → Prop} (h : F37 a0 w R) : CALL Try.prog 37 [a0] w R :=
  call_of (g := cfg37) ent mixed Try.func37 (Nat.le_of_ble_eq_true (by kernel_rfl)) (by kernel_rfl) (F37_eq a0 w R ▸ h)

/-- impl.LinesIn -/
def F38 (a0 : Value) (w : World) (R : Value → World → Prop) : Prop :=
  CALL Try.prog 49 [a0, (Value.string (ByteArray.mk #[10]))] w fun x4 w =>
  R x4 w
def cfg38 : Cfg := { ext := extL, joins := [], loops := [], draws := [] }
theorem F38_eq (a0 : Value) (w : World) (R : Value → World → Prop) : vcF Try.prog cfg38 Try.f38 [a0] w R = F38 a0 w R := by kernel_rfl
theorem F38_call {a0 : Value} {w : World} {R : Value → World → Prop} (h : F38 a0 w R) : CALL Try.prog 38 [a0] w R :=
  call_of (g := cfg38) ent mixed Try.func38 (Nat.le_of_ble_eq_true (by kernel_rfl)) (by kernel_rfl) (F38_eq a0 w R ▸ h)

/-- spec.SameState -/
def F39 (a0 a1 : Value) (w : World) (R : Value → World → Prop) : Prop :=
  OP Try.prog (Instr.box 45 a0) w fun x2 w =>
  OP Try.prog (Instr.box 45 a1) w fun x3 w =>
  RD Try.prog (Instr.fieldAt 45 x2 0) w fun x6 =>
  RD Try.prog (Instr.loadAt 22 x6) w fun x7 =>
  RD Try.prog (Instr.fieldAt 45 x3 0) w fun x8 =>
  RD Try.prog (Instr.loadAt 22 x8) w fun x9 =>
  CALL Try.prog 50 [x7, x9] w fun x10 w =>
  RD Try.prog (Op.unary .not x10) w fun x11 =>
  BR x11
  (R (Value.bool false) w)
  (RD Try.prog (Instr.fieldAt 45 x2 1) w fun x13 =>
  RD Try.prog (Instr.loadAt 22 x13) w fun x14 =>
  RD Try.prog (Instr.fieldAt 45 x3 1) w fun x15 =>
  RD Try.prog (Instr.loadAt 22 x15) w fun x16 =>
  CALL Try.prog 50 [x14, x16] w fun x17 w =>
  RD Try.prog (Op.unary .not x17) w fun x18 =>
  BR x18
  (R (Value.bool false) w)
  (RD Try.prog (Instr.fieldAt 45 x2 2) w fun x21 =>
  RD Try.prog (Instr.loadAt 40 x21) w fun x22 =>
  RD Try.prog (Builtin.len_ #[40] 3 [x22].toArray) w fun x23 =>
  RD Try.prog (Instr.fieldAt 45 x3 2) w fun x24 =>
  RD Try.prog (Instr.loadAt 40 x24) w fun x25 =>
  RD Try.prog (Builtin.len_ #[40] 3 [x25].toArray) w fun x26 =>
  RD Try.prog (bin .neq 3 (.tmp 0) (.tmp 0) x23 x26) w fun x27 =>
  BR x27
   (R (Value.bool false) w)
   (LOOPI [5] [(Value.int .i64 0)] w fun u4 w next4 =>
    RD Try.prog (Instr.fieldAt 45 x2 2) w fun x30 =>
    RD Try.prog (Instr.loadAt 40 x30) w fun x31 =>
    RD Try.prog (Builtin.len_ #[40] 3 [x31].toArray) w fun x32 =>
    RD Try.prog (bin .lss 3 (.tmp 0) (.tmp 0) (u4 5) x32) w fun x33 =>
    BR x33
     ((fun w => RD Try.prog (Instr.fieldAt 45 x2 2) w fun x36 =>
     RD Try.prog (Instr.loadAt 40 x36) w fun x37 =>
     RD Try.prog (Instr.indexAt 40 x37 (u4 5)) w fun x39 =>
     RD Try.prog (Instr.loadAt 22 x39) w fun x40 =>
     RD Try.prog (Instr.fieldAt 45 x3 2) w fun x41 =>
     RD Try.prog (Instr.loadAt 40 x41) w fun x42 =>
     RD Try.prog (Instr.indexAt 40 x42 (u4 5)) w fun x44 =>
     RD Try.prog (Instr.loadAt 22 x44) w fun x45 =>
     CALL Try.prog 50 [x40, x45] w fun x46 w =>
     RD Try.prog (Op.unary .not x46) w fun x47 =>
     BR x47
      (R (Value.bool false) w)
      (RD Try.prog (bin .add 3 (.tmp 0) (.const undef) (u4 5) (Value.int .i64 1)) w fun x35 =>
      next4 [x35] w)) (World.drew1 w))
     (R (Value.bool true) w))))
def cfg39 : Cfg := { ext := extL, joins := [], loops := [(4, 281474439839792, [5])], draws := [(6, [0, 1, 2, 3, 4, 5, 6, 7, 8, 9, 10, 11], 0)] }
theorem F39_eq (a0 a1 : Value) (w : World) (R : Value → World → Prop) : vcF Try.prog cfg39 Try.f39 [a0, a1] w R = F39 a0 a1 w R := by kernel_rfl
theorem F39_call {a0 a1 : Value} {w : World} {R : Value → World → Prop} (h : F39 a0 a1 w R) : CALL Try.prog 39 [a0, a1] w R :=
  call_of (g := cfg39) ent mixed Try.func39 (Nat.le_of_ble_eq_true (by kernel_rfl)) (by kernel_rfl) (F39_eq a0 a1 w R ▸ h)

/-- impl.SameState -/
def F40 (a0 a1 : Value) (w : World) (R : Value → World → Prop) : Prop :=
  OP Try.prog (Instr.box 45 a0) w fun x2 w =>
  OP Try.prog (Instr.box 45 a1) w fun x3 w =>
  RD Try.prog (Instr.fieldAt 45 x2 0) w fun x5 =>
  RD Try.prog (Instr.loadAt 22 x5) w fun x6 =>
  RD Try.prog (Instr.fieldAt 45 x3 0) w fun x7 =>
  RD Try.prog (Instr.loadAt 22 x7) w fun x8 =>
  CALL Try.prog 51 [x6, x8] w fun x9 w =>
  RD Try.prog (Op.unary .not x9) w fun x10 =>
  BR x10
  (R (Value.bool false) w)
  (RD Try.prog (Instr.fieldAt 45 x2 1) w fun x12 =>
  RD Try.prog (Instr.loadAt 22 x12) w fun x13 =>
  RD Try.prog (Instr.fieldAt 45 x3 1) w fun x14 =>
  RD Try.prog (Instr.loadAt 22 x14) w fun x15 =>
  CALL Try.prog 51 [x13, x15] w fun x16 w =>
  RD Try.prog (Op.unary .not x16) w fun x17 =>
  BR x17
   (R (Value.bool false) w)
   (RD Try.prog (Instr.fieldAt 45 x2 2) w fun x19 =>
   RD Try.prog (Instr.loadAt 40 x19) w fun x20 =>
   RD Try.prog (Instr.fieldAt 45 x3 2) w fun x21 =>
   RD Try.prog (Instr.loadAt 40 x21) w fun x22 =>
   CALL Try.prog 52 [x20, x22, (Value.func (.func 53) #[] #[])] w fun x23 w =>
   R x23 w))
def cfg40 : Cfg := { ext := extL, joins := [], loops := [], draws := [] }
theorem F40_eq (a0 a1 : Value) (w : World) (R : Value → World → Prop) : vcF Try.prog cfg40 Try.f40 [a0, a1] w R = F40 a0 a1 w R := by kernel_rfl
theorem F40_call {a0 a1 : Value} {w : World} {R : Value → World → Prop} (h : F40 a0 a1 w R) : CALL Try.prog 40 [a0, a1] w R :=
  call_of (g := cfg40) ent mixed Try.func40 (Nat.le_of_ble_eq_true (by kernel_rfl)) (by kernel_rfl) (F40_eq a0 a1 w R ▸ h)

/-- slices.Clone[[]int,int] -/
def F41 (a0 : Value) (w : World) (R : Value → World → Prop) : Prop :=
  RD Try.prog (bin .eql 22 (.tmp 0) (.const undef) a0 (Value.slice none 0 0)) w fun x4 =>
  BR x4
   (R (Value.slice none 0 0) w)
   (OP Try.prog (Instr.buildSlice 22 0 #[]) w fun x5 w =>
   OP Try.prog (Builtin.append_ #[22, 22] 22 [x5, a0].toArray) w fun x7 w =>
   R x7 w)
def cfg41 : Cfg := { ext := extL, joins := [], loops := [], draws := [] }
theorem F41_eq (a0 : Value) (w : World) (R : Value → World → Prop) : vcF Try.prog cfg41 Try.f41 [a0] w R = F41 a0 w R := by kernel_rfl
theorem F41_call {a0 : Value} {w : World} {R : Value → World → Prop} (h : F41 a0 w R) : CALL Try.prog 41 [a0] w R :=
  call_of (g := cfg41) ent mixed Try.func41 (Nat.le_of_ble_eq_true (by kernel_rfl)) (by kernel_rfl) (F41_eq a0 w R ▸ h)

/-- slices.Contains[[]impl.Race,impl.Race] -/
def F42 (a0 a1 : Value) (w : World) (R : Value → World → Prop) : Prop :=
  OP Try.prog (Instr.box 36 a1) w fun x3 w =>
  RD Try.prog (Instr.loadAt 36 x3) w fun x6 =>
  CALL Try.prog 54 [a0, x6] w fun x7 w =>
  RD Try.prog (bin .geq 3 (.tmp 0) (.const undef) x7 (Value.int .i64 0)) w fun x8 =>
  R x8 w
def cfg42 : Cfg := { ext := extL, joins := [], loops := [], draws := [] }
theorem F42_eq (a0 a1 : Value) (w : World) (R : Value → World → Prop) : vcF Try.prog cfg42 Try.f42 [a0, a1] w R = F42 a0 a1 w R := by kernel_rfl
theorem F42_call {a0 a1 : Value} {w : World} {R : Value → World → Prop} (h : F42 a0 a1 w R) : CALL Try.prog 42 [a0, a1] w R :=
  call_of (g := cfg42) ent mixed Try.func42 (Nat.le_of_ble_eq_true (by kernel_rfl)) (by kernel_rfl) (F42_eq a0 a1 w R ▸ h)

/-- laws.eqRace -/
def F43 (a0 a1 : Value) (w : World) (R : Value → World → Prop) : Prop :=
  OP Try.prog (Instr.box 36 a0) w fun x2 w =>
  OP Try.prog (Instr.box 36 a1) w fun x3 w =>
  RD Try.prog (Instr.fieldAt 36 x2 0) w fun x5 =>
  RD Try.prog (Instr.loadAt 3 x5) w fun x6 =>
  RD Try.prog (Instr.fieldAt 36 x3 0) w fun x7 =>
  RD Try.prog (Instr.loadAt 3 x7) w fun x8 =>
  RD Try.prog (bin .neq 3 (.tmp 0) (.tmp 0) x6 x8) w fun x9 =>
  BR x9
   (R (Value.bool false) w)
   (RD Try.prog (Instr.fieldAt 36 x2 1) w fun x10 =>
   RD Try.prog (Instr.loadAt 3 x10) w fun x11 =>
   RD Try.prog (Instr.fieldAt 36 x3 1) w fun x12 =>
   RD Try.prog (Instr.loadAt 3 x12) w fun x13 =>
   RD Try.prog (bin .neq 3 (.tmp 0) (.tmp 0) x11 x13) w fun x14 =>
   BR x14
    (R (Value.bool false) w)
    (RD Try.prog (Instr.fieldAt 36 x2 2) w fun x15 =>
    RD Try.prog (Instr.loadAt 3 x15) w fun x16 =>
    RD Try.prog (Instr.fieldAt 36 x3 2) w fun x17 =>
    RD Try.prog (Instr.loadAt 3 x17) w fun x18 =>
    RD Try.prog (bin .neq 3 (.tmp 0) (.tmp 0) x16 x18) w fun x19 =>
    BR x19
     (R (Value.bool false) w)
     (R (Value.bool true) w)))
def cfg43 : Cfg := { ext := extL, joins := [], loops := [], draws := [] }
theorem F43_eq (a0 a1 : Value) (w : World) (R : Value → World → Prop) : vcF Try.prog cfg43 Try.f43 [a0, a1] w R = F43 a0 a1 w R := by kernel_rfl
theorem F43_call {a0 a1 : Value} {w : World} {R : Value → World → Prop} (h : F43 a0 a1 w R) : CALL Try.prog 43 [a0, a1] w R :=
  call_of (g := cfg43) ent mixed Try.func43 (Nat.le_of_ble_eq_true (by kernel_rfl)) (by kernel_rfl) (F43_eq a0 a1 w R ▸ h)

/-- laws.szIntS -/
def F44 (a0 a1 : Value) (w : World) (R : Value → World → Prop) : Prop :=
  RD Try.prog (Builtin.len_ #[22] 3 [a0].toArray) w fun x7 =>
  RD Try.prog (bin .sub 3 (.tmp 0) (.tmp 0) a1 x7) w fun x8 =>
  RD Try.prog (bin .lss 3 (.tmp 0) (.const undef) x8 (Value.int .i64 0)) w fun x10 =>
  BR x10
   (R (Value.int .i64 (-1)) w)
   (R x8 w)
def cfg44 : Cfg := { ext := extL, joins := [], loops := [], draws := [] }
theorem F44_eq (a0 a1 : Value) (w : World) (R : Value → World → Prop) : vcF Try.prog cfg44 Try.f44 [a0, a1] w R = F44 a0 a1 w R := by kernel_rfl
theorem F44_call {a0 a1 : Value} {w : World} {R : Value → World → Prop} (h : F44 a0 a1 w R) : CALL Try.prog 44 [a0, a1] w R :=
  call_of (g := cfg44) ent mixed Try.func44 (Nat.le_of_ble_eq_true (by kernel_rfl)) (by kernel_rfl) (F44_eq a0 a1 w R ▸ h)

/-- spec.l01In -/
def F45 (a0 a1 a2 : Value) (w : World) (R : Value → World → Prop) : Prop :=
  RD Try.prog (bin .geq 3 (.tmp 0) (.tmp 0) a0 a1) w fun x9 =>
  BR x9
  (RD Try.prog (bin .leq 3 (.tmp 0) (.tmp 0) a0 a2) w fun x13 =>
  R x13 w)
  (R (Value.bool false) w)
def cfg45 : Cfg := { ext := extL, joins := [], loops := [], draws := [] }
theorem F45_eq (a0 a1 a2 : Value) (w : World) (R : Value → World → Prop) : vcF Try.prog cfg45 Try.f45 [a0, a1, a2] w R = F45 a0 a1 a2 w R := by kernel_rfl
theorem F45_call {a0 a1 a2 : Value} {w : World} {R : Value → World → Prop} (h : F45 a0 a1 a2 w R) : CALL Try.prog 45 [a0, a1, a2] w R :=
  call_of (g := cfg45) ent mixed Try.func45 (Nat.le_of_ble_eq_true (by kernel_rfl)) (by kernel_rfl) (F45_eq a0 a1 a2 w R ▸ h)

/-- spec.l09Has -/
def F46 (a0 a1 : Value) (w : World) (R : Value → World → Prop) : Prop :=
  LOOPI [5] [(Value.int .i64 0)] w fun u2 w next2 =>
   RD Try.prog (Builtin.len_ #[22] 3 [a0].toArray) w fun x8 =>
   RD Try.prog (bin .lss 3 (.tmp 0) (.tmp 0) (u2 5) x8) w fun x9 =>
   BR x9
    (RD Try.prog (Instr.indexAt 22 a0 (u2 5)) w fun x14 =>
    RD Try.prog (Instr.loadAt 3 x14) w fun x15 =>
    RD Try.prog (bin .eql 3 (.tmp 0) (.tmp 0) x15 a1) w fun x17 =>
    BR x17
     (R (Value.bool true) w)
     (RD Try.prog (bin .add 3 (.tmp 0) (.const undef) (u2 5) (Value.int .i64 1)) w fun x11 =>
     next2 [x11] w))
    (R (Value.bool false) w)
def cfg46 : Cfg := { ext := extL, joins := [], loops := [(2, 262128, [5])], draws := [] }
theorem F46_eq (a0 a1 : Value) (w : World) (R : Value → World → Prop) : vcF Try.prog cfg46 Try.f46 [a0, a1] w R = F46 a0 a1 w R := by kernel_rfl
theorem F46_call {a0 a1 : Value} {w : World} {R : Value → World → Prop} (h : F46 a0 a1 w R) : CALL Try.prog 46 [a0, a1] w R :=
  call_of (g := cfg46) ent mixed Try.func46 (Nat.le_of_ble_eq_true (by kernel_rfl)) (by kernel_rfl) (F46_eq a0 a1 w R ▸ h)

/-- slices.Contains[[]int,int] -/
def F47 (a0 a1 : Value) (w : World) (R : Value → World → Prop) : Prop :=
  CALL Try.prog 55 [a0, a1] w fun x7 w =>
  RD Try.prog (bin .geq 3 (.tmp 0) (.const undef) x7 (Value.int .i64 0)) w fun x8 =>
  R x8 w
def cfg47 : Cfg := { ext := extL, joins := [], loops := [], draws := [] }
theorem F47_eq (a0 a1 : Value) (w : World) (R : Value → World → Prop) : vcF Try.prog cfg47 Try.f47 [a0, a1] w R = F47 a0 a1 w R := by kernel_rfl
theorem F47_call {a0 a1 : Value} {w : World} {R : Value → World → Prop} (h : F47 a0 a1 w R) : CALL Try.prog 47 [a0, a1] w R :=
  call_of (g := cfg47) ent mixed Try.func47 (Nat.le_of_ble_eq_true (by kernel_rfl)) (by kernel_rfl) (F47_eq a0 a1 w R ▸ h)

/-- spec.l12Bit -/
def F48 (a0 : Value) (w : World) (R : Value → World → Prop) : Prop :=
  RD Try.prog (convert 3 62 a0) w fun x4 =>
  RD Try.prog (bin .shl 3 (.const undef) (.tmp 0) (Value.int .i64 1) x4) w fun x5 =>
  R x5 w
def cfg48 : Cfg := { ext := extL, joins := [], loops := [], draws := [] }
theorem F48_eq (a0 : Value) (w : World) (R : Value → World → Prop) : vcF Try.prog cfg48 Try.f48 [a0] w R = F48 a0 w R := by kernel_rfl
theorem F48_call {a0 : Value} {w : World} {R : Value → World → Prop} (h : F48 a0 w R) : CALL Try.prog 48 [a0] w R :=
  call_of (g := cfg48) ent mixed Try.func48 (Nat.le_of_ble_eq_true (by kernel_rfl)) (by kernel_rfl) (F48_eq a0 w R ▸ h)

/-- strings.Count -/
def F49 (a0 a1 : Value) (w : World) (R : Value → World → Prop) : Prop :=
  RD Try.prog (Builtin.len_ #[9] 3 [a1].toArray) w fun x8 =>
  RD Try.prog (bin .eql 3 (.tmp 0) (.const undef) x8 (Value.int .i64 0)) w fun x9 =>
  BR x9
   (CALL Try.prog 56 [a0] w fun x11 w =>
   RD Try.prog (bin .add 3 (.tmp 0) (.const undef) x11 (Value.int .i64 1)) w fun x12 =>
   R x12 w)
   (RD Try.prog (Builtin.len_ #[9] 3 [a1].toArray) w fun x14 =>
   RD Try.prog (bin .eql 3 (.tmp 0) (.const undef) x14 (Value.int .i64 1)) w fun x15 =>
   BR x15
    (RD Try.prog (Instr.index 9 a1 (Value.int .i64 0)) w fun x18 =>
    OPN Try.prog (callFunc 57 [a0, x18].toArray) w fun x19 w =>
    R x19 w)
    (LOOPI [0, 5] [a0, (Value.int .i64 0)] w fun u6 w next6 =>
     CALL Try.prog 58 [(u6 0), a1] w fun x22 w =>
     RD Try.prog (bin .eql 3 (.tmp 0) (.const undef) x22 (Value.int .i64 (-1))) w fun x24 =>
     BR x24
      (R (u6 5) w)
      (RD Try.prog (bin .add 3 (.tmp 0) (.const undef) (u6 5) (Value.int .i64 1)) w fun x27 =>
      RD Try.prog (Builtin.len_ #[9] 3 [a1].toArray) w fun x31 =>
      RD Try.prog (bin .add 3 (.tmp 0) (.tmp 0) x22 x31) w fun x32 =>
      RD Try.prog (Instr.sliceAt 9 (u6 0) (some x32) none none) w fun x33 =>
      next6 [x33, x27] w)))
def cfg49 : Cfg := { ext := extL, joins := [], loops := [(6, 17178820721, [0, 5])], draws := [] }
theorem F49_eq (a0 a1 : Value) (w : World) (R : Value → World → Prop) : vcF Try.prog cfg49 Try.f49 [a0, a1] w R = F49 a0 a1 w R := by kernel_rfl
theorem F49_call {a0 a1 : Value} {w : World} {R : Value → World → Prop} (h : F49 a0 a1 w R) : CALL Try.prog 49 [a0, a1] w R :=
  call_of (g := cfg49) ent mixed Try.func49 (Nat.le_of_ble_eq_true (by kernel_rfl)) (by kernel_rfl) (F49_eq a0 a1 w R ▸ h)

/-- spec.l22Same -/
def F50 (a0 a1 : Value) (w : World) (R : Value → World → Prop) : Prop :=
  RD Try.prog (Builtin.len_ #[22] 3 [a0].toArray) w fun x7 =>
  RD Try.prog (Builtin.len_ #[22] 3 [a1].toArray) w fun x9 =>
  RD Try.prog (bin .neq 3 (.tmp 0) (.tmp 0) x7 x9) w fun x10 =>
  BR x10
   (R (Value.bool false) w)
   (LOOPI [5] [(Value.int .i64 0)] w fun u4 w next4 =>
    RD Try.prog (Builtin.len_ #[22] 3 [a0].toArray) w fun x13 =>
    RD Try.prog (bin .lss 3 (.tmp 0) (.tmp 0) (u4 5) x13) w fun x14 =>
    BR x14
     ((fun w => RD Try.prog (Instr.indexAt 22 a0 (u4 5)) w fun x19 =>
     RD Try.prog (Instr.loadAt 3 x19) w fun x20 =>
     RD Try.prog (Instr.indexAt 22 a1 (u4 5)) w fun x23 =>
     RD Try.prog (Instr.loadAt 3 x23) w fun x24 =>
     RD Try.prog (bin .neq 3 (.tmp 0) (.tmp 0) x20 x24) w fun x25 =>
     BR x25
      (R (Value.bool false) w)
      (RD Try.prog (bin .add 3 (.tmp 0) (.const undef) (u4 5) (Value.int .i64 1)) w fun x16 =>
      next4 [x16] w)) (World.drew1 w))
     (R (Value.bool true) w))
def cfg50 : Cfg := { ext := extL, joins := [], loops := [(4, 67106864, [5])], draws := [(6, [0, 1, 2, 3, 4, 5, 6, 7, 8], 0)] }
theorem F50_eq (a0 a1 : Value) (w : World) (R : Value → World → Prop) : vcF Try.prog cfg50 Try.f50 [a0, a1] w R = F50 a0 a1 w R := by kernel_rfl
theorem F50_call {a0 a1 : Value} {w : World} {R : Value → World → Prop} (h : F50 a0 a1 w R) : CALL Try.prog 50 [a0, a1] w R :=
  call_of (g := cfg50) ent mixed Try.func50 (Nat.le_of_ble_eq_true (by kernel_rfl)) (by kernel_rfl) (F50_eq a0 a1 w R ▸ h)

/-- slices.Equal[[]int,int] -/
def F51 (a0 a1 : Value) (w : World) (R : Value → World → Prop) : Prop :=
  RD Try.prog (Builtin.len_ #[22] 3 [a0].toArray) w fun x7 =>
  RD Try.prog (Builtin.len_ #[22] 3 [a1].toArray) w fun x9 =>
  RD Try.prog (bin .neq 3 (.tmp 0) (.tmp 0) x7 x9) w fun x10 =>
  BR x10
   (R (Value.bool false) w)
   (RD Try.prog (Builtin.len_ #[22] 3 [a0].toArray) w fun x12 =>
   LOOPI [13] [(Value.int .i64 0)] w fun u4 w next4 =>
    RD Try.prog (bin .lss 3 (.tmp 0) (.tmp 0) (u4 13) x12) w fun x14 =>
    BR x14
     ((fun w => RD Try.prog (Instr.indexAt 22 a0 (u4 13)) w fun x18 =>
     RD Try.prog (Instr.loadAt 3 x18) w fun x19 =>
     RD Try.prog (Instr.indexAt 22 a1 (u4 13)) w fun x22 =>
     RD Try.prog (Instr.loadAt 3 x22) w fun x23 =>
     RD Try.prog (bin .neq 3 (.tmp 0) (.tmp 0) x19 x23) w fun x24 =>
     BR x24
      (R (Value.bool false) w)
      (RD Try.prog (bin .add 3 (.tmp 0) (.const undef) (u4 13) (Value.int .i64 1)) w fun x25 =>
      next4 [x25] w)) (World.drew1 w))
     (R (Value.bool true) w))
def cfg51 : Cfg := { ext := extL, joins := [], loops := [(4, 67100720, [13])], draws := [(6, [0, 1, 2, 3, 4, 5, 6, 7, 8], 0)] }
theorem F51_eq (a0 a1 : Value) (w : World) (R : Value → World → Prop) : vcF Try.prog cfg51 Try.f51 [a0, a1] w R = F51 a0 a1 w R := by kernel_rfl
theorem F51_call {a0 a1 : Value} {w : World} {R : Value → World → Prop} (h : F51 a0 a1 w R) : CALL Try.prog 51 [a0, a1] w R :=
  call_of (g := cfg51) ent mixed Try.func51 (Nat.le_of_ble_eq_true (by kernel_rfl)) (by kernel_rfl) (F51_eq a0 a1 w R ▸ h)

/-- slices.EqualFunc[[][]int,[][]int,[]int,[]int] -/
def F52 (a0 a1 a2 : Value) (w : World) (R : Value → World → Prop) : Prop :=
  RD Try.prog (Builtin.len_ #[40] 3 [a0].toArray) w fun x11 =>
  RD Try.prog (Builtin.len_ #[40] 3 [a1].toArray) w fun x13 =>
  RD Try.prog (bin .neq 3 (.tmp 0) (.tmp 0) x11 x13) w fun x14 =>
  BR x14
   (R (Value.bool false) w)
   (RD Try.prog (Builtin.len_ #[40] 3 [a0].toArray) w fun x16 =>
   LOOPI [17] [(Value.int .i64 0)] w fun u4 w next4 =>
    RD Try.prog (bin .lss 3 (.tmp 0) (.tmp 0) (u4 17) x16) w fun x18 =>
    BR x18
     (RD Try.prog (Instr.indexAt 40 a0 (u4 17)) w fun x20 =>
     RD Try.prog (Instr.loadAt 22 x20) w fun x21 =>
     RD Try.prog (Instr.indexAt 40 a1 (u4 17)) w fun x24 =>
     RD Try.prog (Instr.loadAt 22 x24) w fun x25 =>
     OPN Try.prog (callV a2 [x21, x25]) w fun x29 w =>
     RD Try.prog (Op.unary .not x29) w fun x30 =>
     BR x30
      (R (Value.bool false) w)
      (RD Try.prog (bin .add 3 (.tmp 0) (.const undef) (u4 17) (Value.int .i64 1)) w fun x31 =>
      next4 [x31] w))
     (R (Value.bool true) w))
def cfg52 : Cfg := { ext := extL, joins := [], loops := [(4, 4294837184, [17])], draws := [] }
theorem F52_eq (a0 a1 a2 : Value) (w : World) (R : Value → World → Prop) : vcF Try.prog cfg52 Try.f52 [a0, a1, a2] w R = F52 a0 a1 a2 w R := by kernel_rfl
theorem F52_call {a0 a1 a2 : Value} {w : World} {R : Value → World → Prop} (h : F52 a0 a1 a2 w R) : CALL Try.prog 52 [a0, a1, a2] w R :=
  call_of (g := cfg52) ent mixed Try.func52 (Nat.le_of_ble_eq_true (by kernel_rfl)) (by kernel_rfl) (F52_eq a0 a1 a2 w R ▸ h)

/-- impl.SameState$1 -/
def F53 (a0 a1 : Value) (w : World) (R : Value → World → Prop) : Prop :=
  CALL Try.prog 51 [a0, a1] w fun x7 w =>
  R x7 w
def cfg53 : Cfg := { ext := extL, joins := [], loops := [], draws := [] }
theorem F53_eq (a0 a1 : Value) (w : World) (R : Value → World → Prop) : vcF Try.prog cfg53 Try.f53 [a0, a1] w R = F53 a0 a1 w R := by kernel_rfl
theorem F53_call {a0 a1 : Value} {w : World} {R : Value → World → Prop} (h : F53 a0 a1 w R) : CALL Try.prog 53 [a0, a1] w R :=
  call_of (g := cfg53) ent mixed Try.func53 (Nat.le_of_ble_eq_true (by kernel_rfl)) (by kernel_rfl) (F53_eq a0 a1 w R ▸ h)

/-- slices.Index[[]impl.Race,impl.Race] -/
def F54 (a0 a1 : Value) (w : World) (R : Value → World → Prop) : Prop :=
  OP Try.prog (Instr.box 36 a1) w fun x3 w =>
  RD Try.prog (Builtin.len_ #[34] 3 [a0].toArray) w fun x7 =>
  LOOPI [8] [(Value.int .i64 0)] w fun u2 w next2 =>
   RD Try.prog (bin .lss 3 (.tmp 0) (.tmp 0) (u2 8) x7) w fun x9 =>
   BR x9
    ((fun w => RD Try.prog (Instr.loadAt 36 x3) w fun x11 =>
    RD Try.prog (Instr.indexAt 34 a0 (u2 8)) w fun x14 =>
    RD Try.prog (Instr.loadAt 36 x14) w fun x15 =>
    RD Try.prog (bin .eql 36 (.tmp 0) (.tmp 0) x11 x15) w fun x16 =>
    BR x16
     (R (u2 8) w)
     (RD Try.prog (bin .add 3 (.tmp 0) (.const undef) (u2 8) (Value.int .i64 1)) w fun x18 =>
     next2 [x18] w)) (World.drew1 w))
    (R (Value.int .i64 (-1)) w)
def cfg54 : Cfg := { ext := extL, joins := [], loops := [(2, 524080, [8])], draws := [(4, [0, 1, 2, 3, 4, 5], 0)] }
theorem F54_eq (a0 a1 : Value) (w : World) (R : Value → World → Prop) : vcF Try.prog cfg54 Try.f54 [a0, a1] w R = F54 a0 a1 w R := by kernel_rfl
theorem F54_call {a0 a1 : Value} {w : World} {R : Value → World → Prop} (h : F54 a0 a1 w R) : CALL Try.prog 54 [a0, a1] w R :=
  call_of (g := cfg54) ent mixed Try.func54 (Nat.le_of_ble_eq_true (by kernel_rfl)) (by kernel_rfl) (F54_eq a0 a1 w R ▸ h)

/-- slices.Index[[]int,int] -/
def F55 (a0 a1 : Value) (w : World) (R : Value → World → Prop) : Prop :=
  RD Try.prog (Builtin.len_ #[22] 3 [a0].toArray) w fun x7 =>
  LOOPI [8] [(Value.int .i64 0)] w fun u2 w next2 =>
   RD Try.prog (bin .lss 3 (.tmp 0) (.tmp 0) (u2 8) x7) w fun x9 =>
   BR x9
    (RD Try.prog (Instr.indexAt 22 a0 (u2 8)) w fun x14 =>
    RD Try.prog (Instr.loadAt 3 x14) w fun x15 =>
    RD Try.prog (bin .eql 3 (.tmp 0) (.tmp 0) a1 x15) w fun x16 =>
    BR x16
     (R (u2 8) w)
     (RD Try.prog (bin .add 3 (.tmp 0) (.const undef) (u2 8) (Value.int .i64 1)) w fun x18 =>
     next2 [x18] w))
    (R (Value.int .i64 (-1)) w)
def cfg55 : Cfg := { ext := extL, joins := [], loops := [(2, 524080, [8])], draws := [] }
theorem F55_eq (a0 a1 : Value) (w : World) (R : Value → World → Prop) : vcF Try.prog cfg55 Try.f55 [a0, a1] w R = F55 a0 a1 w R := by kernel_rfl
theorem F55_call {a0 a1 : Value} {w : World} {R : Value → World → Prop} (h : F55 a0 a1 w R) : CALL Try.prog 55 [a0, a1] w R :=
  call_of (g := cfg55) ent mixed Try.func55 (Nat.le_of_ble_eq_true (by kernel_rfl)) (by kernel_rfl) (F55_eq a0 a1 w R ▸ h)

/-- unicode/utf8.RuneCountInString -/
def F56 (a0 : Value) (w : World) (R : Value → World → Prop) : Prop :=
  OP Try.prog (Instr.range 9 a0) w fun x4 w =>
  LOOPI [2] [(Value.int .i64 0)] w fun u2 w next2 =>
   OP Try.prog (Instr.next x4 true 0) w fun x5 w =>
   RD Try.prog (Instr.extract x5 0) w fun x6 =>
   BR x6
    (RD Try.prog (bin .add 3 (.tmp 0) (.const undef) (u2 2) (Value.int .i64 1)) w fun x8 =>
    next2 [x8] w)
    (R (u2 2) w)
def cfg56 : Cfg := { ext := extL, joins := [], loops := [(2, 484, [2])], draws := [] }
theorem F56_eq (a0 : Value) (w : World) (R : Value → World → Prop) : vcF Try.prog cfg56 Try.f56 [a0] w R = F56 a0 w R := by kernel_rfl
theorem F56_call {a0 : Value} {w : World} {R : Value → World → Prop} (h : F56 a0 w R) : CALL Try.prog 56 [a0] w R :=
  call_of (g := cfg56) ent mixed Try.func56 (Nat.le_of_ble_eq_true (by kernel_rfl)) (by kernel_rfl) (F56_eq a0 w R ▸ h)

/-- strings.Index -/
def F58 (a0 a1 : Value) (w : World) (R : Value → World → Prop) : Prop :=
  CALL Try.prog 59 [a0, a1] w fun x7 w =>
  R x7 w
def cfg58 : Cfg := { ext := extL, joins := [], loops := [], draws := [] }
theorem F58_eq (a0 a1 : Value) (w : World) (R : Value → World → Prop) : vcF Try.prog cfg58 Try.f58 [a0, a1] w R = F58 a0 a1 w R := by kernel_rfl
theorem F58_call {a0 a1 : Value} {w : World} {R : Value → World → Prop} (h : F58 a0 a1 w R) : CALL Try.prog 58 [a0, a1] w R :=
  call_of (g := cfg58) ent mixed Try.func58 (Nat.le_of_ble_eq_true (by kernel_rfl)) (by kernel_rfl) (F58_eq a0 a1 w R ▸ h)

/-- internal/stringslite.Index -/
def F59 (a0 a1 : Value) (w : World) (R : Value → World → Prop) : Prop :=
  RD Try.prog (Builtin.len_ #[9] 3 [a1].toArray) w fun x15 =>
  JOIN [] (fun J10 =>
   RD Try.prog (bin .eql 3 (.tmp 0) (.const undef) x15 (Value.int .i64 0)) w fun x18 =>
   BR x18
   (R (Value.int .i64 0) w)
   (RD Try.prog (bin .eql 9 (.tmp 0) (.tmp 0) a1 a0) w fun x22 =>
   BR x22
    (R (Value.int .i64 0) w)
    (RD Try.prog (bin .eql 3 (.tmp 0) (.const undef) x15 (Value.int .i64 1)) w fun x26 =>
    BR x26
     (RD Try.prog (Instr.index 9 a1 (Value.int .i64 0)) w fun x29 =>
     CALL Try.prog 60 [a0, x29] w fun x30 w =>
     R x30 w)
     (RD Try.prog (Builtin.len_ #[9] 3 [a0].toArray) w fun x34 =>
     RD Try.prog (bin .geq 3 (.tmp 0) (.tmp 0) x15 x34) w fun x35 =>
     BR x35
      (R (Value.int .i64 (-1)) w)
      (RD Try.prog (Instr.loadAt 3 (Value.pointer (some ⟨0, 0, none⟩))) w fun x38 =>
      RD Try.prog (bin .leq 3 (.tmp 0) (.tmp 0) x15 x38) w fun x39 =>
      BR x39
      (RD Try.prog (Builtin.len_ #[9] 3 [a0].toArray) w fun x42 =>
      RD Try.prog (bin .leq 3 (.tmp 0) (.const undef) x42 (Value.int .i64 64)) w fun x43 =>
      BR x43
       (OPN Try.prog (callFunc 61 [a0, a1].toArray) w fun x47 w =>
       R x47 w)
       (J10 [] w))
      (J10 [] w)))))) (fun u10 w =>
   RD Try.prog (Instr.index 9 a1 (Value.int .i64 0)) w fun x49 =>
   RD Try.prog (Instr.index 9 a1 (Value.int .i64 1)) w fun x51 =>
   RD Try.prog (Builtin.len_ #[9] 3 [a0].toArray) w fun x53 =>
   RD Try.prog (bin .sub 3 (.tmp 0) (.tmp 0) x53 x15) w fun x55 =>
   RD Try.prog (bin .add 3 (.tmp 0) (.const undef) x55 (Value.int .i64 1)) w fun x56 =>
   LOOPI [8, 10] [(Value.int .i64 0), (Value.int .i64 0)] w fun u15 w next15 =>
    RD Try.prog (bin .lss 3 (.tmp 0) (.tmp 0) (u15 8) x56) w fun x59 =>
    BR x59
     (JOIN [8] (fun J21 =>
      RD Try.prog (Instr.index 9 a0 (u15 8)) w fun x62 =>
      RD Try.prog (bin .neq 5 (.tmp 0) (.tmp 0) x62 x49) w fun x64 =>
      BR x64
       (RD Try.prog (bin .add 3 (.tmp 0) (.const undef) (u15 8) (Value.int .i64 1)) w fun x67 =>
       RD Try.prog (Instr.sliceAt 9 a0 (some x67) (some x56) none) w fun x69 =>
       CALL Try.prog 60 [x69, x49] w fun x71 w =>
       RD Try.prog (bin .lss 3 (.tmp 0) (.const undef) x71 (Value.int .i64 0)) w fun x73 =>
       BR x73
        (R (Value.int .i64 (-1)) w)
        (RD Try.prog (bin .add 3 (.tmp 0) (.const undef) x71 (Value.int .i64 1)) w fun x76 =>
        RD Try.prog (bin .add 3 (.tmp 0) (.tmp 0) (u15 8) x76) w fun x77 =>
        J21 [x77] w))
       (J21 [(u15 8)] w)) (fun u21 w =>
      JOIN [] (fun J23 =>
       RD Try.prog (bin .add 3 (.tmp 0) (.const undef) (u21 8) (Value.int .i64 1)) w fun x80 =>
       RD Try.prog (Instr.index 9 a0 x80) w fun x81 =>
       RD Try.prog (bin .eql 5 (.tmp 0) (.tmp 0) x81 x51) w fun x83 =>
       BR x83
       (RD Try.prog (bin .add 3 (.tmp 0) (.tmp 0) (u21 8) x15) w fun x89 =>
       RD Try.prog (Instr.sliceAt 9 a0 (some (u21 8)) (some x89) none) w fun x90 =>
       RD Try.prog (bin .eql 9 (.tmp 0) (.tmp 0) x90 a1) w fun x92 =>
       BR x92
        (R (u21 8) w)
        (J23 [] w))
       (J23 [] w)) (fun u23 w =>
       RD Try.prog (bin .add 3 (.tmp 0) (.const undef) (u21 8) (Value.int .i64 1)) w fun x96 =>
       RD Try.prog (bin .add 3 (.tmp 0) (.const undef) (u15 10) (Value.int .i64 1)) w fun x98 =>
       RD Try.prog (Instr.loadAt 3 (Value.pointer (some ⟨0, 0, none⟩))) w fun x100 =>
       RD Try.prog (bin .leq 3 (.tmp 0) (.tmp 0) x15 x100) w fun x101 =>
       BR x101
       (CALL Try.prog 62 [x96] w fun x105 w =>
       RD Try.prog (bin .gtr 3 (.tmp 0) (.tmp 0) x98 x105) w fun x106 =>
       BR x106
        (RD Try.prog (Instr.sliceAt 9 a0 (some x96) none none) w fun x110 =>
        OPN Try.prog (callFunc 61 [x110, a1].toArray) w fun x112 w =>
        RD Try.prog (bin .geq 3 (.tmp 0) (.const undef) x112 (Value.int .i64 0)) w fun x114 =>
        BR x114
         (RD Try.prog (bin .add 3 (.tmp 0) (.tmp 0) x112 x96) w fun x117 =>
         R x117 w)
         (R (Value.int .i64 (-1)) w))
        (RD Try.prog (Instr.loadAt 3 (Value.pointer (some ⟨0, 0, none⟩))) w fun x119 =>
        RD Try.prog (bin .gtr 3 (.tmp 0) (.tmp 0) x15 x119) w fun x120 =>
        BR x120
        (RD Try.prog (bin .shr 3 (.tmp 0) (.const undef) x96 (Value.int .u64 4)) w fun x124 =>
        RD Try.prog (bin .add 3 (.const undef) (.tmp 0) (Value.int .i64 4) x124) w fun x125 =>
        RD Try.prog (bin .geq 3 (.tmp 0) (.tmp 0) x98 x125) w fun x126 =>
        BR x126
        (RD Try.prog (bin .lss 3 (.tmp 0) (.tmp 0) x96 x56) w fun x131 =>
        BR x131
         (RD Try.prog (Instr.sliceAt 9 a0 (some x96) none none) w fun x135 =>
         CALL Try.prog 63 [x135, a1] w fun x137 w =>
         RD Try.prog (bin .lss 3 (.tmp 0) (.const undef) x137 (Value.int .i64 0)) w fun x139 =>
         BR x139
          (R (Value.int .i64 (-1)) w)
          (RD Try.prog (bin .add 3 (.tmp 0) (.tmp 0) x96 x137) w fun x142 =>
          R x142 w))
         (next15 [x96, x98] w))
        (next15 [x96, x98] w))
        (next15 [x96, x98] w)))
       (RD Try.prog (Instr.loadAt 3 (Value.pointer (some ⟨0, 0, none⟩))) w fun x119 =>
        RD Try.prog (bin .gtr 3 (.tmp 0) (.tmp 0) x15 x119) w fun x120 =>
        BR x120
        (RD Try.prog (bin .shr 3 (.tmp 0) (.const undef) x96 (Value.int .u64 4)) w fun x124 =>
        RD Try.prog (bin .add 3 (.const undef) (.tmp 0) (Value.int .i64 4) x124) w fun x125 =>
        RD Try.prog (bin .geq 3 (.tmp 0) (.tmp 0) x98 x125) w fun x126 =>
        BR x126
        (RD Try.prog (bin .lss 3 (.tmp 0) (.tmp 0) x96 x56) w fun x131 =>
        BR x131
         (RD Try.prog (Instr.sliceAt 9 a0 (some x96) none none) w fun x135 =>
         CALL Try.prog 63 [x135, a1] w fun x137 w =>
         RD Try.prog (bin .lss 3 (.tmp 0) (.const undef) x137 (Value.int .i64 0)) w fun x139 =>
         BR x139
          (R (Value.int .i64 (-1)) w)
          (RD Try.prog (bin .add 3 (.tmp 0) (.tmp 0) x96 x137) w fun x142 =>
          R x142 w))
         (next15 [x96, x98] w))
        (next15 [x96, x98] w))
        (next15 [x96, x98] w)))))
     (R (Value.int .i64 (-1)) w))
def cfg59 : Cfg := { ext := extL, joins := [(10, 281474976645136, []), (21, 302230301982152686831888, [8]), (23, 39613779025677265139478298640, [])], loops := [(15, 11150372599265311570767858992208992677149968, [8, 10])], draws := [] }
theorem F59_eq (a0 a1 : Value) (w : World) (R : Value → World → Prop) : vcF Try.prog cfg59 Try.f59 [a0, a1] w R = F59 a0 a1 w R := by kernel_rfl
theorem F59_call {a0 a1 : Value} {w : World} {R : Value → World → Prop} (h : F59 a0 a1 w R) : CALL Try.prog 59 [a0, a1] w R :=
  call_of (g := cfg59) ent mixed Try.func59 (Nat.le_of_ble_eq_true (by kernel_rfl)) (by kernel_rfl) (F59_eq a0 a1 w R ▸ h)

/-- internal/stringslite.IndexByte -/
def F60 (a0 a1 : Value) (w : World) (R : Value → World → Prop) : Prop :=
  OPN Try.prog (callFunc 64 [a0, a1].toArray) w fun x7 w =>
  R x7 w
def cfg60 : Cfg := { ext := extL, joins := [], loops := [], draws := [] }
theorem F60_eq (a0 a1 : Value) (w : World) (R : Value → World → Prop) : vcF Try.prog cfg60 Try.f60 [a0, a1] w R = F60 a0 a1 w R := by kernel_rfl
theorem F60_call {a0 a1 : Value} {w : World} {R : Value → World → Prop} (h : F60 a0 a1 w R) : CALL Try.prog 60 [a0, a1] w R :=
  call_of (g := cfg60) ent mixed Try.func60 (Nat.le_of_ble_eq_true (by kernel_rfl)) (by kernel_rfl) (F60_eq a0 a1 w R ▸ h)

/-- internal/bytealg.Cutover -/
def F62 (a0 : Value) (w : World) (R : Value → World → Prop) : Prop :=
  RD Try.prog (bin .add 3 (.tmp 0) (.const undef) a0 (Value.int .i64 16)) w fun x4 =>
  RD Try.prog (bin .quo 3 (.tmp 0) (.const undef) x4 (Value.int .i64 8)) w fun x5 =>
  R x5 w
def cfg62 : Cfg := { ext := extL, joins := [], loops := [], draws := [] }
theorem F62_eq (a0 : Value) (w : World) (R : Value → World → Prop) : vcF Try.prog cfg62 Try.f62 [a0] w R = F62 a0 w R := by kernel_rfl
theorem F62_call {a0 : Value} {w : World} {R : Value → World → Prop} (h : F62 a0 w R) : CALL Try.prog 62 [a0] w R :=
  call_of (g := cfg62) ent mixed Try.func62 (Nat.le_of_ble_eq_true (by kernel_rfl)) (by kernel_rfl) (F62_eq a0 w R ▸ h)

/-- internal/bytealg.IndexRabinKarp[string] -/
def F63 (a0 a1 : Value) (w : World) (R : Value → World → Prop) : Prop :=
  CALL Try.prog 65 [a1] w fun x13 w =>
  RD Try.prog (Instr.extract x13 0) w fun x14 =>
  RD Try.prog (Instr.extract x13 1) w fun x15 =>
  RD Try.prog (Builtin.len_ #[9] 3 [a1].toArray) w fun x17 =>
  LOOPI [8, 9] [(Value.int .u32 0), (Value.int .i64 0)] w fun u5 w next5 =>
   RD Try.prog (bin .lss 3 (.tmp 0) (.tmp 0) (u5 9) x17) w fun x20 =>
   BR x20
    (RD Try.prog (bin .mul 67 (.tmp 0) (.const undef) (u5 8) (Value.int .u32 16777619)) w fun x24 =>
    RD Try.prog (Instr.index 9 a0 (u5 9)) w fun x27 =>
    RD Try.prog (convert 5 67 x27) w fun x28 =>
    RD Try.prog (bin .add 67 (.tmp 0) (.tmp 0) x24 x28) w fun x29 =>
    RD Try.prog (bin .add 3 (.tmp 0) (.const undef) (u5 9) (Value.int .i64 1)) w fun x22 =>
    next5 [x29, x22] w)
    (JOIN [] (fun J10 =>
     RD Try.prog (bin .eql 67 (.tmp 0) (.tmp 0) (u5 8) x14) w fun x32 =>
     BR x32
     (RD Try.prog (Instr.sliceAt 9 a0 none (some x17) none) w fun x36 =>
     RD Try.prog (bin .eql 9 (.tmp 0) (.tmp 0) x36 a1) w fun x38 =>
     BR x38
      (R (Value.int .i64 0) w)
      (J10 [] w))
     (J10 [] w)) (fun u10 w =>
     LOOPI [8, 10] [(u5 8), x17] w fun u11 w next11 =>
      RD Try.prog (Builtin.len_ #[9] 3 [a0].toArray) w fun x43 =>
      RD Try.prog (bin .lss 3 (.tmp 0) (.tmp 0) (u11 10) x43) w fun x44 =>
      BR x44
       (RD Try.prog (bin .mul 67 (.tmp 0) (.const undef) (u11 8) (Value.int .u32 16777619)) w fun x46 =>
       RD Try.prog (Instr.index 9 a0 (u11 10)) w fun x50 =>
       RD Try.prog (convert 5 67 x50) w fun x51 =>
       RD Try.prog (bin .add 67 (.tmp 0) (.tmp 0) x46 x51) w fun x52 =>
       RD Try.prog (bin .sub 3 (.tmp 0) (.tmp 0) (u11 10) x17) w fun x58 =>
       RD Try.prog (Instr.index 9 a0 x58) w fun x59 =>
       RD Try.prog (convert 5 67 x59) w fun x60 =>
       RD Try.prog (bin .mul 67 (.tmp 0) (.tmp 0) x15 x60) w fun x61 =>
       RD Try.prog (bin .sub 67 (.tmp 0) (.tmp 0) x52 x61) w fun x62 =>
       RD Try.prog (bin .add 3 (.tmp 0) (.const undef) (u11 10) (Value.int .i64 1)) w fun x64 =>
       RD Try.prog (bin .eql 67 (.tmp 0) (.tmp 0) x62 x14) w fun x67 =>
       BR x67
       (RD Try.prog (bin .sub 3 (.tmp 0) (.tmp 0) x64 x17) w fun x72 =>
       RD Try.prog (Instr.sliceAt 9 a0 (some x72) (some x64) none) w fun x74 =>
       RD Try.prog (bin .eql 9 (.tmp 0) (.tmp 0) x74 a1) w fun x76 =>
       BR x76
        (RD Try.prog (bin .sub 3 (.tmp 0) (.tmp 0) x64 x17) w fun x80 =>
        R x80 w)
        (next11 [x62, x64] w))
       (next11 [x62, x64] w))
       (R (Value.int .i64 (-1)) w)))
def cfg63 : Cfg := { ext := extL, joins := [(10, 1098437885968, [])], loops := [(5, 1073480448, [8, 9]), (11, 2417851639227059326158096, [8, 10])], draws := [] }
theorem F63_eq (a0 a1 : Value) (w : World) (R : Value → World → Prop) : vcF Try.prog cfg63 Try.f63 [a0, a1] w R = F63 a0 a1 w R := by kernel_rfl
theorem F63_call {a0 a1 : Value} {w : World} {R : Value → World → Prop} (h : F63 a0 a1 w R) : CALL Try.prog 63 [a0, a1] w R :=
  call_of (g := cfg63) ent mixed Try.func63 (Nat.le_of_ble_eq_true (by kernel_rfl)) (by kernel_rfl) (F63_eq a0 a1 w R ▸ h)

/-- internal/bytealg.hashStr[string] -/
def F65 (a0 : Value) (w : World) (R : Value → World → Prop) : Prop :=
  LOOPI [4, 5] [(Value.int .u32 0), (Value.int .i64 0)] w fun u3 w next3 =>
   RD Try.prog (Builtin.len_ #[9] 3 [a0].toArray) w fun x11 =>
   RD Try.prog (bin .lss 3 (.tmp 0) (.tmp 0) (u3 5) x11) w fun x12 =>
   BR x12
    (RD Try.prog (bin .mul 67 (.tmp 0) (.const undef) (u3 4) (Value.int .u32 16777619)) w fun x16 =>
    RD Try.prog (Instr.index 9 a0 (u3 5)) w fun x19 =>
    RD Try.prog (convert 5 67 x19) w fun x20 =>
    RD Try.prog (bin .add 67 (.tmp 0) (.tmp 0) x16 x20) w fun x21 =>
    RD Try.prog (bin .add 3 (.tmp 0) (.const undef) (u3 5) (Value.int .i64 1)) w fun x14 =>
    next3 [x21, x14] w)
    (RD Try.prog (Builtin.len_ #[9] 3 [a0].toArray) w fun x23 =>
    LOOPI [6, 7, 8] [(Value.int .u32 1), (Value.int .u32 16777619), x23] w fun u8 w next8 =>
     RD Try.prog (bin .gtr 3 (.tmp 0) (.const undef) (u8 8) (Value.int .i64 0)) w fun x25 =>
     BR x25
      (RD Try.prog (bin .and 3 (.tmp 0) (.const undef) (u8 8) (Value.int .i64 1)) w fun x29 =>
      RD Try.prog (bin .neq 3 (.tmp 0) (.const undef) x29 (Value.int .i64 0)) w fun x30 =>
      BR x30
       (RD Try.prog (bin .mul 67 (.tmp 0) (.tmp 0) (u8 6) (u8 7)) w fun x33 =>
       RD Try.prog (bin .mul 67 (.tmp 0) (.tmp 0) (u8 7) (u8 7)) w fun x36 =>
       RD Try.prog (bin .shr 3 (.tmp 0) (.const undef) (u8 8) (Value.int .u64 1)) w fun x27 =>
       next8 [x33, x36, x27] w)
       (RD Try.prog (bin .mul 67 (.tmp 0) (.tmp 0) (u8 7) (u8 7)) w fun x36 =>
       RD Try.prog (bin .shr 3 (.tmp 0) (.const undef) (u8 8) (Value.int .u64 1)) w fun x27 =>
       next8 [(u8 6), x36, x27] w))
      (R (Value.tuple #[(u3 4), (u8 6)]) w))
def cfg65 : Cfg := { ext := extL, joins := [], loops := [(3, 4193840, [4, 5]), (8, 137422176704, [6, 7, 8])], draws := [] }
theorem F65_eq (a0 : Value) (w : World) (R : Value → World → Prop) : vcF Try.prog cfg65 Try.f65 [a0] w R = F65 a0 w R := by kernel_rfl
theorem F65_call {a0 : Value} {w : World} {R : Value → World → Prop} (h : F65 a0 w R) : CALL Try.prog 65 [a0] w R :=
  call_of (g := cfg65) ent mixed Try.func65 (Nat.le_of_ble_eq_true (by kernel_rfl)) (by kernel_rfl) (F65_eq a0 w R ▸ h)

end Go.Proofs.Ythieonacgnppiaa
