/- The reading of the functions, printed by program (decomp.py); each equation is checked by the kernel. -/
import Derived.Test.YthieonacgnppiaaBody
import Derived.Test.YthieonacgnppiaaProg
import Derived.KernelRfl
set_option linter.unusedVariables false
namespace Go.Proofs.Ythieonacgnppiaa
open Go Go.Sh Go.Proofs
def extL : List Nat := [0, 1, 57, 61, 64, 66, 67, 68, 69, 70, 71, 72, 73, 74, 75, 76, 77, 78, 79, 80, 81]
theorem entAll : ((List.range 82).all fun f => extL.elem f || enters Try.prog f) = true := by kernel_rfl
theorem ent : ∀ f, f < 82 → extL.elem f = false → enters Try.prog f = true := fun f hf hx => by
  have := List.all_eq_true.1 entAll f (List.mem_range.2 hf)
  rw [hx] at this
  exact this
theorem mixed : Try.prog.follows .mixedOrders = true := by kernel_rfl
/-- laws.FnExactTakeFront -/
def F3 (a0 : Value) (w : World) (R : Value → World → Prop) : Prop :=
  RD Try.prog (Builtin.len_ #[22] 3 [a0].toArray) w fun x17 =>
  RD Try.prog (bin .gtr 3 (.tmp 0) (.const undef) x17 (Value.int .i64 1048576)) w fun x18 =>
  BR x18
   (R (Value.bool true) w)
   (CALL Try.prog 12 [a0] w fun x21 w =>
   CALL Try.prog 11 [x21] w fun x22 w =>
   RD Try.prog (Instr.extract x22 0) w fun x23 =>
   RD Try.prog (Instr.extract x22 1) w fun x24 =>
   RD Try.prog (Instr.extract x22 2) w fun x25 =>
   CALL Try.prog 12 [a0] w fun x27 w =>
   CALL Try.prog 13 [x27] w fun x30 w =>
   RD Try.prog (Instr.extract x30 0) w fun x31 =>
   RD Try.prog (Instr.extract x30 1) w fun x32 =>
   RD Try.prog (Instr.extract x30 2) w fun x33 =>
   RD Try.prog (bin .neq 3 (.tmp 0) (.tmp 0) x31 x23) w fun x36 =>
   BR x36
   (R (Value.bool false) w)
   (CALL Try.prog 14 [x32, x24] w fun x40 w =>
   RD Try.prog (Op.unary .not x40) w fun x41 =>
   BR x41
   (R (Value.bool false) w)
   (RD Try.prog (bin .neq 4 (.tmp 0) (.tmp 0) x33 x25) w fun x46 =>
   BR x46
    (R (Value.bool false) w)
    (CALL Try.prog 12 [a0] w fun x50 w =>
    CALL Try.prog 14 [x27, x50] w fun x51 w =>
    RD Try.prog (Op.unary .not x51) w fun x52 =>
    BR x52
     (R (Value.bool false) w)
     (CALL Try.prog 15 [x27, (Value.int .i64 1)] w fun x55 w =>
     RD Try.prog (bin .lss 3 (.tmp 0) (.const undef) x55 (Value.int .i64 0)) w fun x57 =>
     BR x57
     (R (Value.bool false) w)
     (RD Try.prog (bin .neq 3 (.tmp 0) (.tmp 0) x31 x23) w fun x61 =>
     BR x61
     (R (Value.bool false) w)
     (CALL Try.prog 14 [x32, x24] w fun x66 w =>
     RD Try.prog (Op.unary .not x66) w fun x67 =>
     BR x67
     (R (Value.bool false) w)
     (RD Try.prog (bin .neq 4 (.tmp 0) (.tmp 0) x33 x25) w fun x72 =>
     BR x72
      (R (Value.bool false) w)
      (CALL Try.prog 15 [x32, (Value.int .i64 1)] w fun x76 w =>
      CALL Try.prog 16 [x32, (Value.int .i64 1)] w fun x79 w =>
      RD Try.prog (bin .lss 3 (.tmp 0) (.const undef) x79 (Value.int .i64 0)) w fun x81 =>
      BR x81
       (R (Value.bool false) w)
       (RD Try.prog (bin .neq 3 (.tmp 0) (.tmp 0) x79 x76) w fun x84 =>
       BR x84
        (R (Value.bool false) w)
        (CALL Try.prog 12 [a0] w fun x87 w =>
        CALL Try.prog 13 [x87] w fun x88 w =>
        RD Try.prog (Instr.extract x88 0) w fun x89 =>
        RD Try.prog (Instr.extract x88 1) w fun x90 =>
        RD Try.prog (Instr.extract x88 2) w fun x91 =>
        RD Try.prog (bin .neq 3 (.tmp 0) (.tmp 0) x89 x23) w fun x94 =>
        BR x94
        (R (Value.bool false) w)
        (CALL Try.prog 14 [x90, x24] w fun x98 w =>
        RD Try.prog (Op.unary .not x98) w fun x99 =>
        BR x99
        (R (Value.bool false) w)
        (RD Try.prog (bin .neq 4 (.tmp 0) (.tmp 0) x91 x25) w fun x104 =>
        BR x104
         (R (Value.bool false) w)
         (CALL Try.prog 16 [x32, (Value.int .i64 1)] w fun x108 w =>
         RD Try.prog (bin .lss 3 (.tmp 0) (.const undef) x108 (Value.int .i64 0)) w fun x110 =>
         BR x110
          (R (Value.bool false) w)
          (RD Try.prog (bin .neq 3 (.tmp 0) (.tmp 0) x108 x76) w fun x113 =>
          BR x113
           (R (Value.bool false) w)
           (R (Value.bool true) w))))))))))))))))
def cfg3 : Cfg := { ext := extL, joins := [], loops := [], draws := [] }
theorem F3_eq (a0 : Value) (w : World) (R : Value → World → Prop) : vcF Try.prog cfg3 Try.f3 [a0] w R = F3 a0 w R := by kernel_rfl
theorem F3_call {a0 : Value} {w : World} {R : Value → World → Prop} (h : F3 a0 w R) : CALL Try.prog 3 [a0] w R :=
  call_of (g := cfg3) ent mixed Try.func3 (Nat.le_of_ble_eq_true (by kernel_rfl)) (by kernel_rfl) (F3_eq a0 w R ▸ h)

/-- spec.TakeFront -/
def F11 (a0 : Value) (w : World) (R : Value → World → Prop) : Prop :=
  RD Try.prog (Builtin.len_ #[22] 3 [a0].toArray) w fun x6 =>
  RD Try.prog (bin .eql 3 (.tmp 0) (.const undef) x6 (Value.int .i64 0)) w fun x7 =>
  BR x7
   (OP Try.prog (Instr.buildSlice 22 0 #[]) w fun x8 w =>
   R (Value.tuple #[(Value.int .i64 0), x8, (Value.bool false)]) w)
   ((fun w => RD Try.prog (Instr.indexAt 22 a0 (Value.int .i64 0)) w fun x10 =>
   RD Try.prog (Instr.loadAt 3 x10) w fun x11 =>
   RD Try.prog (Instr.sliceAt 22 a0 (some (Value.int .i64 1)) none none) w fun x14 =>
   (fun w_ => OP Try.prog (Instr.buildSlice 22 0 #[]) w_ fun x12 w =>
   Ext w_ w ∧
   (fun w_ => OP Try.prog (Builtin.append_ #[22, 22] 22 [x12, x14].toArray) w_ fun x15 w =>
   Ext w_ w ∧
   R (Value.tuple #[x11, x15, (Value.bool true)]) w) w) w) (World.drew1 w))
def cfg11 : Cfg := { ext := extL, joins := [], loops := [], draws := [(3, [0, 1, 2, 4, 5, 3, 6, 7, 8, 9], 72)] }
theorem F11_eq (a0 : Value) (w : World) (R : Value → World → Prop) : vcF Try.prog cfg11 Try.f11 [a0] w R = F11 a0 w R := by kernel_rfl
theorem F11_call {a0 : Value} {w : World} {R : Value → World → Prop} (h : F11 a0 w R) : CALL Try.prog 11 [a0] w R :=
  call_of (g := cfg11) ent mixed Try.func11 (Nat.le_of_ble_eq_true (by kernel_rfl)) (by kernel_rfl) (F11_eq a0 w R ▸ h)

/-- laws.toIntS -/
def F12 (a0 : Value) (w : World) (R : Value → World → Prop) : Prop :=
  RD Try.prog (Builtin.len_ #[22] 3 [a0].toArray) w fun x6 =>
  OP Try.prog (Instr.makeSlice 22 x6 x6) w fun x7 w =>
  LOOPI [4] [(Value.int .i64 0)] w fun u3 w next3 =>
   RD Try.prog (Builtin.len_ #[22] 3 [a0].toArray) w fun x10 =>
   RD Try.prog (bin .lss 3 (.tmp 0) (.tmp 0) (u3 4) x10) w fun x11 =>
   BR x11
    (RD Try.prog (Instr.indexAt 22 a0 (u3 4)) w fun x18 =>
    RD Try.prog (Instr.loadAt 3 x18) w fun x19 =>
    RD Try.prog (Instr.indexAt 22 x7 (u3 4)) w fun x20 =>
    OPU Try.prog (Instr.storeAt 3 x20 x19) w fun w =>
    RD Try.prog (bin .add 3 (.tmp 0) (.const undef) (u3 4) (Value.int .i64 1)) w fun x13 =>
    next3 [x13] w)
    (R x7 w)
def cfg12 : Cfg := { ext := extL, joins := [], loops := [(3, 2096912, [4])], draws := [] }
theorem F12_eq (a0 : Value) (w : World) (R : Value → World → Prop) : vcF Try.prog cfg12 Try.f12 [a0] w R = F12 a0 w R := by kernel_rfl
theorem F12_call {a0 : Value} {w : World} {R : Value → World → Prop} (h : F12 a0 w R) : CALL Try.prog 12 [a0] w R :=
  call_of (g := cfg12) ent mixed Try.func12 (Nat.le_of_ble_eq_true (by kernel_rfl)) (by kernel_rfl) (F12_eq a0 w R ▸ h)

/-- impl.TakeFront -/
def F13 (a0 : Value) (w : World) (R : Value → World → Prop) : Prop :=
  RD Try.prog (Builtin.len_ #[22] 3 [a0].toArray) w fun x6 =>
  RD Try.prog (bin .eql 3 (.tmp 0) (.const undef) x6 (Value.int .i64 0)) w fun x7 =>
  BR x7
   (R (Value.tuple #[(Value.int .i64 0), (Value.slice none 0 0), (Value.bool false)]) w)
   ((fun w => RD Try.prog (Instr.indexAt 22 a0 (Value.int .i64 0)) w fun x9 =>
   RD Try.prog (Instr.loadAt 3 x9) w fun x10 =>
   RD Try.prog (Instr.sliceAt 22 a0 (some (Value.int .i64 1)) none none) w fun x12 =>
   (fun w_ => CALL Try.prog 41 [x12] w_ fun x13 w =>
   Ext w_ w ∧
   R (Value.tuple #[x10, x13, (Value.bool true)]) w) w) (World.drew1 w))
def cfg13 : Cfg := { ext := extL, joins := [], loops := [], draws := [(3, [0, 1, 2, 3, 4, 5, 6, 7, 8], 32)] }
theorem F13_eq (a0 : Value) (w : World) (R : Value → World → Prop) : vcF Try.prog cfg13 Try.f13 [a0] w R = F13 a0 w R := by kernel_rfl
theorem F13_call {a0 : Value} {w : World} {R : Value → World → Prop} (h : F13 a0 w R) : CALL Try.prog 13 [a0] w R :=
  call_of (g := cfg13) ent mixed Try.func13 (Nat.le_of_ble_eq_true (by kernel_rfl)) (by kernel_rfl) (F13_eq a0 w R ▸ h)

/-- laws.eqIntS -/
def F14 (a0 a1 : Value) (w : World) (R : Value → World → Prop) : Prop :=
  RD Try.prog (Builtin.len_ #[22] 3 [a0].toArray) w fun x7 =>
  RD Try.prog (Builtin.len_ #[22] 3 [a1].toArray) w fun x9 =>
  RD Try.prog (bin .neq 3 (.tmp 0) (.tmp 0) x7 x9) w fun x10 =>
  BR x10
   (R (Value.bool false) w)
   (LOOPI [5] [(Value.int .i64 0)] w fun u4 w next4 =>
    RD Try.prog (Builtin.len_ #[22] 3 [a0].toArray) w fun x13 =>
    RD Try.prog (bin .lss 3 (.tmp 0) (.tmp 0) (u4 5) x13) w fun x14 =>
    BR x14
     ((fun w => RD Try.prog (Instr.indexAt 22 a0 (u4 5)) w fun x19 =>
     RD Try.prog (Instr.loadAt 3 x19) w fun x20 =>
     RD Try.prog (Instr.indexAt 22 a1 (u4 5)) w fun x23 =>
     RD Try.prog (Instr.loadAt 3 x23) w fun x24 =>
     RD Try.prog (bin .neq 3 (.tmp 0) (.tmp 0) x20 x24) w fun x25 =>
     BR x25
      (R (Value.bool false) w)
      (RD Try.prog (bin .add 3 (.tmp 0) (.const undef) (u4 5) (Value.int .i64 1)) w fun x16 =>
      next4 [x16] w)) (World.drew1 w))
     (R (Value.bool true) w))
def cfg14 : Cfg := { ext := extL, joins := [], loops := [(4, 67106864, [5])], draws := [(6, [0, 1, 2, 3, 4, 5, 6, 7, 8], 0)] }
theorem F14_eq (a0 a1 : Value) (w : World) (R : Value → World → Prop) : vcF Try.prog cfg14 Try.f14 [a0, a1] w R = F14 a0 a1 w R := by kernel_rfl
theorem F14_call {a0 a1 : Value} {w : World} {R : Value → World → Prop} (h : F14 a0 a1 w R) : CALL Try.prog 14 [a0, a1] w R :=
  call_of (g := cfg14) ent mixed Try.func14 (Nat.le_of_ble_eq_true (by kernel_rfl)) (by kernel_rfl) (F14_eq a0 a1 w R ▸ h)

/-- laws.markIntS -/
def F15 (a0 a1 : Value) (w : World) (R : Value → World → Prop) : Prop :=
  LOOPI [1, 5] [a1, (Value.int .i64 0)] w fun u2 w next2 =>
   RD Try.prog (Builtin.len_ #[22] 3 [a0].toArray) w fun x8 =>
   RD Try.prog (bin .lss 3 (.tmp 0) (.tmp 0) (u2 5) x8) w fun x9 =>
   BR x9
    (RD Try.prog (Instr.indexAt 22 a0 (u2 5)) w fun x15 =>
    OPU Try.prog (Instr.storeAt 3 x15 (u2 1)) w fun w =>
    RD Try.prog (bin .add 3 (.tmp 0) (.const undef) (u2 1) (Value.int .i64 1)) w fun x17 =>
    RD Try.prog (bin .add 3 (.tmp 0) (.const undef) (u2 5) (Value.int .i64 1)) w fun x11 =>
    next2 [x17, x11] w)
    (R (u2 1) w)
def cfg15 : Cfg := { ext := extL, joins := [], loops := [(2, 262114, [1, 5])], draws := [] }
theorem F15_eq (a0 a1 : Value) (w : World) (R : Value → World → Prop) : vcF Try.prog cfg15 Try.f15 [a0, a1] w R = F15 a0 a1 w R := by kernel_rfl
theorem F15_call {a0 a1 : Value} {w : World} {R : Value → World → Prop} (h : F15 a0 a1 w R) : CALL Try.prog 15 [a0, a1] w R :=
  call_of (g := cfg15) ent mixed Try.func15 (Nat.le_of_ble_eq_true (by kernel_rfl)) (by kernel_rfl) (F15_eq a0 a1 w R ▸ h)

/-- laws.heldIntS -/
def F16 (a0 a1 : Value) (w : World) (R : Value → World → Prop) : Prop :=
  LOOPI [1, 5] [a1, (Value.int .i64 0)] w fun u2 w next2 =>
   RD Try.prog (Builtin.len_ #[22] 3 [a0].toArray) w fun x8 =>
   RD Try.prog (bin .lss 3 (.tmp 0) (.tmp 0) (u2 5) x8) w fun x9 =>
   BR x9
    (RD Try.prog (Instr.indexAt 22 a0 (u2 5)) w fun x14 =>
    RD Try.prog (Instr.loadAt 3 x14) w fun x15 =>
    RD Try.prog (bin .neq 3 (.tmp 0) (.tmp 0) x15 (u2 1)) w fun x17 =>
    BR x17
     (R (Value.int .i64 (-1)) w)
     (RD Try.prog (bin .add 3 (.tmp 0) (.const undef) (u2 1) (Value.int .i64 1)) w fun x19 =>
     RD Try.prog (bin .add 3 (.tmp 0) (.const undef) (u2 5) (Value.int .i64 1)) w fun x11 =>
     next2 [x19, x11] w))
    (R (u2 1) w)
def cfg16 : Cfg := { ext := extL, joins := [], loops := [(2, 1048562, [1, 5])], draws := [] }
theorem F16_eq (a0 a1 : Value) (w : World) (R : Value → World → Prop) : vcF Try.prog cfg16 Try.f16 [a0, a1] w R = F16 a0 a1 w R := by kernel_rfl
theorem F16_call {a0 a1 : Value} {w : World} {R : Value → World → Prop} (h : F16 a0 a1 w R) : CALL Try.prog 16 [a0, a1] w R :=
  call_of (g := cfg16) ent mixed Try.func16 (Nat.le_of_ble_eq_true (by kernel_rfl)) (by kernel_rfl) (F16_eq a0 a1 w R ▸ h)

/-- slices.Clone[[]int,int] -/
def F41 (a0 : Value) (w : World) (R : Value → World → Prop) : Prop :=
  RD Try.prog (bin .eql 22 (.tmp 0) (.const undef) a0 (Value.slice none 0 0)) w fun x4 =>
  BR x4
   (R (Value.slice none 0 0) w)
   (OP Try.prog (Instr.buildSlice 22 0 #[]) w fun x5 w =>
   OP Try.prog (Builtin.append_ #[22, 22] 22 [x5, a0].toArray) w fun x7 w =>
   R x7 w)
def cfg41 : Cfg := { ext := extL, joins := [], loops := [], draws := [] }
theorem F41_eq (a0 : Value) (w : World) (R : Value → World → Prop) : vcF Try.prog cfg41 Try.f41 [a0] w R = F41 a0 w R := by kernel_rfl
theorem F41_call {a0 : Value} {w : World} {R : Value → World → Prop} (h : F41 a0 w R) : CALL Try.prog 41 [a0] w R :=
  call_of (g := cfg41) ent mixed Try.func41 (Nat.le_of_ble_eq_true (by kernel_rfl)) (by kernel_rfl) (F41_eq a0 w R ▸ h)

end Go.Proofs.Ythieonacgnppiaa
