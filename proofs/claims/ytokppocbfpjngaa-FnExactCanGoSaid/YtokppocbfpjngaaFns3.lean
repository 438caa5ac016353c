/- The reading of the functions, printed by program (decomp.py); each equation is checked by the kernel. -/
import Derived.Test.YtokppocbfpjngaaFns0
import Derived.KernelRfl
set_option linter.unusedVariables false
namespace Go.Proofs.Ytokppocbfpjngaa
open Go Go.Sh Go.Proofs
/-- impl.isZeroTerm -/
def F134 (a0 : Value) (w : World) (R : Value → World → Prop) : Prop :=
  OP Try.prog (Instr.box 93 a0) w fun x1 w =>
  RD Try.prog (Instr.fieldAt 93 x1 0) w fun x3 =>
  RD Try.prog (Instr.loadAt 3 x3) w fun x4 =>
  RD Try.prog (bin .eql 3 (.tmp 0) (.const undef) x4 (Value.int .i64 0)) w fun x5 =>
  BR x5
  (RD Try.prog (Instr.fieldAt 93 x1 1) w fun x7 =>
  RD Try.prog (Instr.loadAt 3 x7) w fun x8 =>
  RD Try.prog (bin .eql 3 (.tmp 0) (.const undef) x8 (Value.int .i64 0)) w fun x9 =>
  BR x9
  (RD Try.prog (Instr.fieldAt 93 x1 2) w fun x12 =>
  RD Try.prog (Instr.loadAt 9 x12) w fun x13 =>
  RD Try.prog (bin .eql 9 (.tmp 0) (.const undef) x13 (Value.string (ByteArray.mk #[]))) w fun x14 =>
  BR x14
  (RD Try.prog (Instr.fieldAt 93 x1 3) w fun x17 =>
  RD Try.prog (Instr.loadAt 91 x17) w fun x18 =>
  RD Try.prog (Builtin.len_ #[91] 3 [x18].toArray) w fun x19 =>
  RD Try.prog (bin .eql 3 (.tmp 0) (.const undef) x19 (Value.int .i64 0)) w fun x20 =>
  R x20 w)
  (R (Value.bool false) w))
  (R (Value.bool false) w))
  (R (Value.bool false) w)
def cfg134 : Cfg := { ext := extL, joins := [], loops := [], draws := [], pars := [] }
theorem F134_eq (a0 : Value) (w : World) (R : Value → World → Prop) : vcF Try.prog cfg134 Try.f134 [a0] w R = F134 a0 w R := by kernel_rfl
theorem F134_call {a0 : Value} {w : World} {R : Value → World → Prop} (h : F134 a0 w R) : CALL Try.prog 134 [a0] w R :=
  call_of (g := cfg134) ent mixed Try.func134 (Nat.le_of_ble_eq_true (by kernel_rfl)) (by kernel_rfl) (F134_eq a0 w R ▸ h)

/-- laws.eqTerm -/
def F135 (a0 a1 : Value) (w : World) (R : Value → World → Prop) : Prop :=
  OP Try.prog (Instr.box 93 a0) w fun x2 w =>
  OP Try.prog (Instr.box 93 a1) w fun x3 w =>
  RD Try.prog (Instr.fieldAt 93 x2 0) w fun x5 =>
  RD Try.prog (Instr.loadAt 3 x5) w fun x6 =>
  RD Try.prog (Instr.fieldAt 93 x3 0) w fun x7 =>
  RD Try.prog (Instr.loadAt 3 x7) w fun x8 =>
  RD Try.prog (bin .neq 3 (.tmp 0) (.tmp 0) x6 x8) w fun x9 =>
  BR x9
   (R (Value.bool false) w)
   (RD Try.prog (Instr.fieldAt 93 x2 1) w fun x10 =>
   RD Try.prog (Instr.loadAt 3 x10) w fun x11 =>
   RD Try.prog (Instr.fieldAt 93 x3 1) w fun x12 =>
   RD Try.prog (Instr.loadAt 3 x12) w fun x13 =>
   RD Try.prog (bin .neq 3 (.tmp 0) (.tmp 0) x11 x13) w fun x14 =>
   BR x14
    (R (Value.bool false) w)
    (RD Try.prog (Instr.fieldAt 93 x2 2) w fun x15 =>
    RD Try.prog (Instr.loadAt 9 x15) w fun x16 =>
    RD Try.prog (Instr.fieldAt 93 x3 2) w fun x17 =>
    RD Try.prog (Instr.loadAt 9 x17) w fun x18 =>
    RD Try.prog (bin .neq 9 (.tmp 0) (.tmp 0) x16 x18) w fun x19 =>
    BR x19
     (R (Value.bool false) w)
     (RD Try.prog (Instr.fieldAt 93 x2 3) w fun x20 =>
     RD Try.prog (Instr.loadAt 91 x20) w fun x21 =>
     RD Try.prog (Instr.fieldAt 93 x3 3) w fun x22 =>
     RD Try.prog (Instr.loadAt 91 x22) w fun x23 =>
     CALL Try.prog 151 [x21, x23] w fun x24 w =>
     RD Try.prog (Op.unary .not x24) w fun x25 =>
     BR x25
      (R (Value.bool false) w)
      (R (Value.bool true) w))))
def cfg135 : Cfg := { ext := extL, joins := [], loops := [], draws := [], pars := [] }
theorem F135_eq (a0 a1 : Value) (w : World) (R : Value → World → Prop) : vcF Try.prog cfg135 Try.f135 [a0, a1] w R = F135 a0 a1 w R := by kernel_rfl
theorem F135_call {a0 a1 : Value} {w : World} {R : Value → World → Prop} (h : F135 a0 a1 w R) : CALL Try.prog 135 [a0, a1] w R :=
  call_of (g := cfg135) ent mixed Try.func135 (Nat.le_of_ble_eq_true (by kernel_rfl)) (by kernel_rfl) (F135_eq a0 a1 w R ▸ h)

/-- impl.procIn -/
def F136 (a0 a1 : Value) (w : World) (R : Value → World → Prop) : Prop :=
  OP Try.prog (Instr.box 31 a0) w fun x2 w =>
  LOOPI [5] [(Value.int .i64 0)] w fun u2 w next2 =>
   RD Try.prog (bin .add 3 (.tmp 0) (.const undef) (u2 5) (Value.int .i64 1)) w fun x7 =>
   RD Try.prog (Instr.fieldAt 31 x2 3) w fun x8 =>
   RD Try.prog (Instr.loadAt 23 x8) w fun x9 =>
   RD Try.prog (Builtin.len_ #[23] 3 [x9].toArray) w fun x10 =>
   RD Try.prog (bin .lss 3 (.tmp 0) (.tmp 0) x7 x10) w fun x11 =>
   BR x11
   (RD Try.prog (Instr.fieldAt 31 x2 3) w fun x13 =>
   RD Try.prog (Instr.loadAt 23 x13) w fun x14 =>
   RD Try.prog (bin .add 3 (.tmp 0) (.const undef) (u2 5) (Value.int .i64 1)) w fun x16 =>
   RD Try.prog (Instr.indexAt 23 x14 x16) w fun x17 =>
   RD Try.prog (Instr.loadAt 3 x17) w fun x18 =>
   RD Try.prog (bin .leq 3 (.tmp 0) (.tmp 0) x18 a1) w fun x20 =>
   BR x20
    (RD Try.prog (bin .add 3 (.tmp 0) (.const undef) (u2 5) (Value.int .i64 1)) w fun x23 =>
    next2 [x23] w)
    (R (u2 5) w))
   (R (u2 5) w)
def cfg136 : Cfg := { ext := extL, joins := [], loops := [(2, 16777184, [5])], draws := [], pars := [] }
theorem F136_eq (a0 a1 : Value) (w : World) (R : Value → World → Prop) : vcF Try.prog cfg136 Try.f136 [a0, a1] w R = F136 a0 a1 w R := by kernel_rfl
theorem F136_call {a0 a1 : Value} {w : World} {R : Value → World → Prop} (h : F136 a0 a1 w R) : CALL Try.prog 136 [a0, a1] w R :=
  call_of (g := cfg136) ent mixed Try.func136 (Nat.le_of_ble_eq_true (by kernel_rfl)) (by kernel_rfl) (F136_eq a0 a1 w R ▸ h)

/-- spec.l03Reads -/
def F137 (a0 a1 : Value) (w : World) (R : Value → World → Prop) : Prop :=
  OP Try.prog (Instr.box 93 a0) w fun x2 w =>
  RD Try.prog (Instr.fieldAt 93 x2 0) w fun x7 =>
  RD Try.prog (Instr.loadAt 3 x7) w fun x8 =>
  RD Try.prog (bin .eql 3 (.tmp 0) (.const undef) x8 (Value.int .i64 2)) w fun x9 =>
  BR x9
   (LOOPI [5] [(Value.int .i64 0)] w fun u3 w next3 =>
    RD Try.prog (Builtin.len_ #[22] 3 [a1].toArray) w fun x12 =>
    RD Try.prog (bin .lss 3 (.tmp 0) (.tmp 0) (u3 5) x12) w fun x13 =>
    BR x13
     ((fun w => RD Try.prog (Instr.indexAt 22 a1 (u3 5)) w fun x18 =>
     RD Try.prog (Instr.loadAt 9 x18) w fun x19 =>
     RD Try.prog (Instr.fieldAt 93 x2 2) w fun x20 =>
     RD Try.prog (Instr.loadAt 9 x20) w fun x21 =>
     RD Try.prog (bin .eql 9 (.tmp 0) (.tmp 0) x19 x21) w fun x22 =>
     BR x22
      (R a1 w)
      (RD Try.prog (bin .add 3 (.tmp 0) (.const undef) (u3 5) (Value.int .i64 1)) w fun x15 =>
      next3 [x15] w)) (World.drew1 w))
     (RD Try.prog (Instr.fieldAt 93 x2 2) w fun x25 =>
     RD Try.prog (Instr.loadAt 9 x25) w fun x26 =>
     OP Try.prog (Instr.buildSlice 22 1 #[(0, x26)]) w fun x27 w =>
     OP Try.prog (Builtin.append_ #[22, 22] 22 [a1, x27].toArray) w fun x28 w =>
     R x28 w))
   (LOOPI [1, 6] [a1, (Value.int .i64 0)] w fun u9 w next9 =>
    RD Try.prog (Instr.fieldAt 93 x2 3) w fun x30 =>
    RD Try.prog (Instr.loadAt 91 x30) w fun x31 =>
    RD Try.prog (Builtin.len_ #[91] 3 [x31].toArray) w fun x32 =>
    RD Try.prog (bin .lss 3 (.tmp 0) (.tmp 0) (u9 6) x32) w fun x33 =>
    BR x33
     (RD Try.prog (Instr.fieldAt 93 x2 3) w fun x36 =>
     RD Try.prog (Instr.loadAt 91 x36) w fun x37 =>
     RD Try.prog (Instr.indexAt 91 x37 (u9 6)) w fun x39 =>
     RD Try.prog (Instr.loadAt 93 x39) w fun x40 =>
     CALL Try.prog 137 [x40, (u9 1)] w fun x42 w =>
     RD Try.prog (bin .add 3 (.tmp 0) (.const undef) (u9 6) (Value.int .i64 1)) w fun x35 =>
     next9 [x42, x35] w)
     (R (u9 1) w))
def cfg137 : Cfg := { ext := extL, joins := [], loops := [(3, 16776240, [5]), (9, 8795556151362, [1, 6])], draws := [(5, [0, 1, 2, 3, 4, 5, 6], 0)], pars := [] }
theorem F137_eq (a0 a1 : Value) (w : World) (R : Value → World → Prop) : vcF Try.prog cfg137 Try.f137 [a0, a1] w R = F137 a0 a1 w R := by kernel_rfl
theorem F137_call {a0 a1 : Value} {w : World} {R : Value → World → Prop} (h : F137 a0 a1 w R) : CALL Try.prog 137 [a0, a1] w R :=
  call_of (g := cfg137) ent mixed Try.func137 (Nat.le_of_ble_eq_true (by kernel_rfl)) (by kernel_rfl) (F137_eq a0 a1 w R ▸ h)

/-- impl.addReads -/
def F138 (a0 a1 : Value) (w : World) (R : Value → World → Prop) : Prop :=
  OP Try.prog (Instr.box 93 a1) w fun x3 w =>
  RD Try.prog (Instr.fieldAt 93 x3 0) w fun x7 =>
  RD Try.prog (Instr.loadAt 3 x7) w fun x8 =>
  RD Try.prog (bin .eql 3 (.tmp 0) (.const undef) x8 (Value.int .i64 2)) w fun x9 =>
  BR x9
   (RD Try.prog (Instr.fieldAt 93 x3 2) w fun x11 =>
   RD Try.prog (Instr.loadAt 9 x11) w fun x12 =>
   CALL Try.prog 152 [a0, x12] w fun x13 w =>
   R x13 w)
   (RD Try.prog (Instr.fieldAt 93 x3 3) w fun x14 =>
   RD Try.prog (Instr.loadAt 91 x14) w fun x15 =>
   RD Try.prog (Builtin.len_ #[91] 3 [x15].toArray) w fun x16 =>
   LOOPI [0, 17] [a0, (Value.int .i64 0)] w fun u4 w next4 =>
    RD Try.prog (bin .lss 3 (.tmp 0) (.tmp 0) (u4 17) x16) w fun x18 =>
    BR x18
     (RD Try.prog (Instr.indexAt 91 x15 (u4 17)) w fun x19 =>
     RD Try.prog (Instr.loadAt 93 x19) w fun x20 =>
     OP Try.prog (Instr.alloc 93 true (.tuple #[])) w fun x6 w =>
     OPU Try.prog (Instr.storeAt 93 x6 x20) w fun w =>
     RD Try.prog (Instr.loadAt 93 x6) w fun x22 =>
     CALL Try.prog 138 [(u4 0), x22] w fun x23 w =>
     RD Try.prog (bin .add 3 (.tmp 0) (.const undef) (u4 17) (Value.int .i64 1)) w fun x24 =>
     next4 [x23, x24] w)
     (R (u4 0) w))
def cfg138 : Cfg := { ext := extL, joins := [], loops := [(4, 33423425, [0, 17])], draws := [], pars := [] }
theorem F138_eq (a0 a1 : Value) (w : World) (R : Value → World → Prop) : vcF Try.prog cfg138 Try.f138 [a0, a1] w R = F138 a0 a1 w R := by kernel_rfl
theorem F138_call {a0 a1 : Value} {w : World} {R : Value → World → Prop} (h : F138 a0 a1 w R) : CALL Try.prog 138 [a0, a1] w R :=
  call_of (g := cfg138) ent mixed Try.func138 (Nat.le_of_ble_eq_true (by kernel_rfl)) (by kernel_rfl) (F138_eq a0 a1 w R ▸ h)

/-- spec.l12Ok -/
def F139 (a0 : Value) (w : World) (R : Value → World → Prop) : Prop :=
  CALL Try.prog 56 [a0, (Value.int .i64 0), (Value.int .i64 63)] w fun x4 w =>
  R x4 w
def cfg139 : Cfg := { ext := extL, joins := [], loops := [], draws := [], pars := [] }
theorem F139_eq (a0 : Value) (w : World) (R : Value → World → Prop) : vcF Try.prog cfg139 Try.f139 [a0] w R = F139 a0 w R := by kernel_rfl
theorem F139_call {a0 : Value} {w : World} {R : Value → World → Prop} (h : F139 a0 w R) : CALL Try.prog 139 [a0] w R :=
  call_of (g := cfg139) ent mixed Try.func139 (Nat.le_of_ble_eq_true (by kernel_rfl)) (by kernel_rfl) (F139_eq a0 w R ▸ h)

/-- spec.l12In -/
def F140 (a0 a1 : Value) (w : World) (R : Value → World → Prop) : Prop :=
  CALL Try.prog 115 [a1] w fun x7 w =>
  RD Try.prog (bin .and 3 (.tmp 0) (.tmp 0) a0 x7) w fun x8 =>
  RD Try.prog (bin .neq 3 (.tmp 0) (.const undef) x8 (Value.int .i64 0)) w fun x9 =>
  R x9 w
def cfg140 : Cfg := { ext := extL, joins := [], loops := [], draws := [], pars := [] }
theorem F140_eq (a0 a1 : Value) (w : World) (R : Value → World → Prop) : vcF Try.prog cfg140 Try.f140 [a0, a1] w R = F140 a0 a1 w R := by kernel_rfl
theorem F140_call {a0 a1 : Value} {w : World} {R : Value → World → Prop} (h : F140 a0 a1 w R) : CALL Try.prog 140 [a0, a1] w R :=
  call_of (g := cfg140) ent mixed Try.func140 (Nat.le_of_ble_eq_true (by kernel_rfl)) (by kernel_rfl) (F140_eq a0 a1 w R ▸ h)

/-- spec.l03Work -/
def F141 (a0 a1 a2 : Value) (w : World) (R : Value → World → Prop) : Prop :=
  OP Try.prog (Instr.box 93 a0) w fun x3 w =>
  RD Try.prog (Instr.fieldAt 93 x3 0) w fun x10 =>
  RD Try.prog (Instr.loadAt 3 x10) w fun x11 =>
  RD Try.prog (bin .eql 3 (.tmp 0) (.const undef) x11 (Value.int .i64 1)) w fun x13 =>
  BR x13
   (RD Try.prog (Instr.fieldAt 93 x3 1) w fun x14 =>
   RD Try.prog (Instr.loadAt 3 x14) w fun x15 =>
   CALL Try.prog 153 [x15] w fun x16 w =>
   R x16 w)
   (RD Try.prog (bin .eql 3 (.tmp 0) (.const undef) x11 (Value.int .i64 2)) w fun x18 =>
   BR x18
    (LOOPI [7] [(Value.int .i64 0)] w fun u6 w next6 =>
     RD Try.prog (Builtin.len_ #[22] 3 [a1].toArray) w fun x21 =>
     RD Try.prog (bin .lss 3 (.tmp 0) (.tmp 0) (u6 7) x21) w fun x22 =>
     BR x22
      ((fun w => RD Try.prog (Instr.indexAt 22 a1 (u6 7)) w fun x27 =>
      RD Try.prog (Instr.loadAt 9 x27) w fun x28 =>
      RD Try.prog (Instr.fieldAt 93 x3 2) w fun x29 =>
      RD Try.prog (Instr.loadAt 9 x29) w fun x30 =>
      RD Try.prog (bin .eql 9 (.tmp 0) (.tmp 0) x28 x30) w fun x31 =>
      BR x31
       (RD Try.prog (Builtin.len_ #[23] 3 [a2].toArray) w fun x34 =>
       RD Try.prog (bin .lss 3 (.tmp 0) (.tmp 0) (u6 7) x34) w fun x35 =>
       BR x35
        (RD Try.prog (Instr.indexAt 23 a2 (u6 7)) w fun x38 =>
        RD Try.prog (Instr.loadAt 3 x38) w fun x39 =>
        CALL Try.prog 153 [x39] w fun x40 w =>
        R x40 w)
        (R (Value.int .i64 0) w))
       (RD Try.prog (bin .add 3 (.tmp 0) (.const undef) (u6 7) (Value.int .i64 1)) w fun x24 =>
       next6 [x24] w)) (World.drew1 w))
      (R (Value.int .i64 0) w))
    (RD Try.prog (Instr.fieldAt 93 x3 3) w fun x41 =>
    RD Try.prog (Instr.loadAt 91 x41) w fun x42 =>
    RD Try.prog (Instr.indexAt 91 x42 (Value.int .i64 0)) w fun x43 =>
    RD Try.prog (Instr.loadAt 93 x43) w fun x44 =>
    CALL Try.prog 141 [x44, a1, a2] w fun x47 w =>
    RD Try.prog (Instr.fieldAt 93 x3 0) w fun x48 =>
    RD Try.prog (Instr.loadAt 3 x48) w fun x49 =>
    RD Try.prog (bin .eql 3 (.tmp 0) (.const undef) x49 (Value.int .i64 8)) w fun x50 =>
    BR x50
     (RD Try.prog (bin .eql 3 (.tmp 0) (.const undef) x47 (Value.int .i64 0)) w fun x52 =>
     CALL Try.prog 154 [x52] w fun x53 w =>
     R x53 w)
     (RD Try.prog (Instr.fieldAt 93 x3 3) w fun x54 =>
     RD Try.prog (Instr.loadAt 91 x54) w fun x55 =>
     RD Try.prog (Instr.indexAt 91 x55 (Value.int .i64 1)) w fun x56 =>
     RD Try.prog (Instr.loadAt 93 x56) w fun x57 =>
     CALL Try.prog 141 [x57, a1, a2] w fun x60 w =>
     RD Try.prog (Instr.fieldAt 93 x3 0) w fun x61 =>
     RD Try.prog (Instr.loadAt 3 x61) w fun x62 =>
     RD Try.prog (bin .eql 3 (.tmp 0) (.const undef) x62 (Value.int .i64 3)) w fun x64 =>
     BR x64
      (RD Try.prog (bin .add 3 (.tmp 0) (.tmp 0) x47 x60) w fun x67 =>
      CALL Try.prog 153 [x67] w fun x68 w =>
      R x68 w)
      (RD Try.prog (bin .eql 3 (.tmp 0) (.const undef) x62 (Value.int .i64 4)) w fun x70 =>
      BR x70
       (RD Try.prog (bin .sub 3 (.tmp 0) (.tmp 0) x47 x60) w fun x73 =>
       CALL Try.prog 153 [x73] w fun x74 w =>
       R x74 w)
       (RD Try.prog (bin .eql 3 (.tmp 0) (.const undef) x62 (Value.int .i64 5)) w fun x76 =>
       BR x76
        (RD Try.prog (bin .mul 3 (.tmp 0) (.tmp 0) x47 x60) w fun x79 =>
        CALL Try.prog 153 [x79] w fun x80 w =>
        R x80 w)
        (RD Try.prog (bin .eql 3 (.tmp 0) (.const undef) x62 (Value.int .i64 6)) w fun x82 =>
        BR x82
         (RD Try.prog (bin .lss 3 (.tmp 0) (.tmp 0) x47 x60) w fun x85 =>
         CALL Try.prog 154 [x85] w fun x86 w =>
         R x86 w)
         (RD Try.prog (bin .eql 3 (.tmp 0) (.const undef) x62 (Value.int .i64 7)) w fun x88 =>
         BR x88
          (RD Try.prog (bin .eql 3 (.tmp 0) (.tmp 0) x47 x60) w fun x91 =>
          CALL Try.prog 154 [x91] w fun x92 w =>
          R x92 w)
          (RD Try.prog (bin .neq 3 (.tmp 0) (.const undef) x47 (Value.int .i64 0)) w fun x94 =>
          BR x94
          (RD Try.prog (bin .neq 3 (.tmp 0) (.const undef) x60 (Value.int .i64 0)) w fun x97 =>
          CALL Try.prog 154 [x97] w fun x99 w =>
          R x99 w)
          (CALL Try.prog 154 [(Value.bool false)] w fun x99 w =>
          R x99 w)))))))))
def cfg141 : Cfg := { ext := extL, joins := [], loops := [(6, 2199022731456, [7])], draws := [(8, [0, 1, 2, 3, 4, 5, 6], 0)], pars := [] }
theorem F141_eq (a0 a1 a2 : Value) (w : World) (R : Value → World → Prop) : vcF Try.prog cfg141 Try.f141 [a0, a1, a2] w R = F141 a0 a1 a2 w R := by kernel_rfl
theorem F141_call {a0 a1 a2 : Value} {w : World} {R : Value → World → Prop} (h : F141 a0 a1 a2 w R) : CALL Try.prog 141 [a0, a1, a2] w R :=
  call_of (g := cfg141) ent mixed Try.func141 (Nat.le_of_ble_eq_true (by kernel_rfl)) (by kernel_rfl) (F141_eq a0 a1 a2 w R ▸ h)

/-- slices.Clone[[]int,int] -/
def F142 (a0 : Value) (w : World) (R : Value → World → Prop) : Prop :=
  RD Try.prog (bin .eql 23 (.tmp 0) (.const undef) a0 (Value.slice none 0 0)) w fun x4 =>
  BR x4
   (R (Value.slice none 0 0) w)
   (OP Try.prog (Instr.buildSlice 23 0 #[]) w fun x5 w =>
   OP Try.prog (Builtin.append_ #[23, 23] 23 [x5, a0].toArray) w fun x7 w =>
   R x7 w)
def cfg142 : Cfg := { ext := extL, joins := [], loops := [], draws := [], pars := [] }
theorem F142_eq (a0 : Value) (w : World) (R : Value → World → Prop) : vcF Try.prog cfg142 Try.f142 [a0] w R = F142 a0 w R := by kernel_rfl
theorem F142_call {a0 : Value} {w : World} {R : Value → World → Prop} (h : F142 a0 w R) : CALL Try.prog 142 [a0] w R :=
  call_of (g := cfg142) ent mixed Try.func142 (Nat.le_of_ble_eq_true (by kernel_rfl)) (by kernel_rfl) (F142_eq a0 w R ▸ h)

/-- impl.rest -/
def F143 (a0 : Value) (w : World) (R : Value → World → Prop) : Prop :=
  RD Try.prog (bin .rem 3 (.tmp 0) (.const undef) a0 (Value.int .i64 1000)) w fun x4 =>
  RD Try.prog (bin .add 3 (.tmp 0) (.const undef) x4 (Value.int .i64 1000)) w fun x5 =>
  RD Try.prog (bin .rem 3 (.tmp 0) (.const undef) x5 (Value.int .i64 1000)) w fun x6 =>
  R x6 w
def cfg143 : Cfg := { ext := extL, joins := [], loops := [], draws := [], pars := [] }
theorem F143_eq (a0 : Value) (w : World) (R : Value → World → Prop) : vcF Try.prog cfg143 Try.f143 [a0] w R = F143 a0 w R := by kernel_rfl
theorem F143_call {a0 : Value} {w : World} {R : Value → World → Prop} (h : F143 a0 w R) : CALL Try.prog 143 [a0] w R :=
  call_of (g := cfg143) ent mixed Try.func143 (Nat.le_of_ble_eq_true (by kernel_rfl)) (by kernel_rfl) (F143_eq a0 w R ▸ h)

/-- impl.truth -/
def F144 (a0 : Value) (w : World) (R : Value → World → Prop) : Prop :=
  BR a0
   (R (Value.int .i64 1) w)
   (R (Value.int .i64 0) w)
def cfg144 : Cfg := { ext := extL, joins := [], loops := [], draws := [], pars := [] }
theorem F144_eq (a0 : Value) (w : World) (R : Value → World → Prop) : vcF Try.prog cfg144 Try.f144 [a0] w R = F144 a0 w R := by kernel_rfl
theorem F144_call {a0 : Value} {w : World} {R : Value → World → Prop} (h : F144 a0 w R) : CALL Try.prog 144 [a0] w R :=
  call_of (g := cfg144) ent mixed Try.func144 (Nat.le_of_ble_eq_true (by kernel_rfl)) (by kernel_rfl) (F144_eq a0 w R ▸ h)

/-- laws.szTermS -/
def F145 (a0 a1 : Value) (w : World) (R : Value → World → Prop) : Prop :=
  RD Try.prog (Builtin.len_ #[86] 3 [a0].toArray) w fun x8 =>
  RD Try.prog (bin .sub 3 (.tmp 0) (.tmp 0) a1 x8) w fun x9 =>
  RD Try.prog (bin .lss 3 (.tmp 0) (.const undef) x9 (Value.int .i64 0)) w fun x11 =>
  BR x11
   (R (Value.int .i64 (-1)) w)
   (LOOPI [1, 5] [x9, (Value.int .i64 0)] w fun u5 w next5 =>
    RD Try.prog (Builtin.len_ #[86] 3 [a0].toArray) w fun x14 =>
    RD Try.prog (bin .lss 3 (.tmp 0) (.tmp 0) (u5 5) x14) w fun x15 =>
    BR x15
     (RD Try.prog (Instr.indexAt 86 a0 (u5 5)) w fun x20 =>
     RD Try.prog (Instr.loadAt 88 x20) w fun x21 =>
     CALL Try.prog 122 [x21, (u5 1)] w fun x23 w =>
     RD Try.prog (bin .lss 3 (.tmp 0) (.const undef) x23 (Value.int .i64 0)) w fun x25 =>
     BR x25
      (R (Value.int .i64 (-1)) w)
      (RD Try.prog (bin .add 3 (.tmp 0) (.const undef) (u5 5) (Value.int .i64 1)) w fun x17 =>
      next5 [x23, x17] w))
     (R (u5 1) w))
def cfg145 : Cfg := { ext := extL, joins := [], loops := [(5, 67104818, [1, 5])], draws := [], pars := [] }
theorem F145_eq (a0 a1 : Value) (w : World) (R : Value → World → Prop) : vcF Try.prog cfg145 Try.f145 [a0, a1] w R = F145 a0 a1 w R := by kernel_rfl
theorem F145_call {a0 a1 : Value} {w : World} {R : Value → World → Prop} (h : F145 a0 a1 w R) : CALL Try.prog 145 [a0, a1] w R :=
  call_of (g := cfg145) ent mixed Try.func145 (Nat.le_of_ble_eq_true (by kernel_rfl)) (by kernel_rfl) (F145_eq a0 a1 w R ▸ h)

/-- spec.IsName -/
def F146 (a0 : Value) (w : World) (R : Value → World → Prop) : Prop :=
  RD Try.prog (bin .eql 9 (.tmp 0) (.const undef) a0 (Value.string (ByteArray.mk #[97, 110, 100]))) w fun x5 =>
  BR x5
   (R (Value.bool false) w)
   (RD Try.prog (bin .eql 9 (.tmp 0) (.const undef) a0 (Value.string (ByteArray.mk #[99, 97, 108, 108]))) w fun x6 =>
   BR x6
    (R (Value.bool false) w)
    (RD Try.prog (bin .eql 9 (.tmp 0) (.const undef) a0 (Value.string (ByteArray.mk #[101, 108, 115, 101]))) w fun x7 =>
    BR x7
     (R (Value.bool false) w)
     (RD Try.prog (bin .eql 9 (.tmp 0) (.const undef) a0 (Value.string (ByteArray.mk #[103, 108, 111, 98, 97, 108, 115]))) w fun x8 =>
     BR x8
      (R (Value.bool false) w)
      (RD Try.prog (bin .eql 9 (.tmp 0) (.const undef) a0 (Value.string (ByteArray.mk #[105, 102]))) w fun x9 =>
      BR x9
       (R (Value.bool false) w)
       (RD Try.prog (bin .eql 9 (.tmp 0) (.const undef) a0 (Value.string (ByteArray.mk #[108, 111, 99, 107]))) w fun x10 =>
       BR x10
        (R (Value.bool false) w)
        (RD Try.prog (bin .eql 9 (.tmp 0) (.const undef) a0 (Value.string (ByteArray.mk #[108, 111, 99, 107, 115]))) w fun x11 =>
        BR x11
         (R (Value.bool false) w)
         (RD Try.prog (bin .eql 9 (.tmp 0) (.const undef) a0 (Value.string (ByteArray.mk #[110, 111, 116]))) w fun x12 =>
         BR x12
          (R (Value.bool false) w)
          (RD Try.prog (bin .eql 9 (.tmp 0) (.const undef) a0 (Value.string (ByteArray.mk #[112, 114, 111, 99]))) w fun x13 =>
          BR x13
           (R (Value.bool false) w)
           (RD Try.prog (bin .eql 9 (.tmp 0) (.const undef) a0 (Value.string (ByteArray.mk #[115, 107, 105, 112]))) w fun x14 =>
           BR x14
            (R (Value.bool false) w)
            (RD Try.prog (bin .eql 9 (.tmp 0) (.const undef) a0 (Value.string (ByteArray.mk #[115, 112, 97, 119, 110]))) w fun x15 =>
            BR x15
             (R (Value.bool false) w)
             (RD Try.prog (bin .eql 9 (.tmp 0) (.const undef) a0 (Value.string (ByteArray.mk #[117, 110, 108, 111, 99, 107]))) w fun x16 =>
             BR x16
              (R (Value.bool false) w)
              (RD Try.prog (bin .eql 9 (.tmp 0) (.const undef) a0 (Value.string (ByteArray.mk #[119, 104, 105, 108, 101]))) w fun x17 =>
              BR x17
               (R (Value.bool false) w)
               (CALL Try.prog 155 [a0] w fun x19 w =>
               R x19 w)))))))))))))
def cfg146 : Cfg := { ext := extL, joins := [], loops := [], draws := [], pars := [] }
theorem F146_eq (a0 : Value) (w : World) (R : Value → World → Prop) : vcF Try.prog cfg146 Try.f146 [a0] w R = F146 a0 w R := by kernel_rfl
theorem F146_call {a0 : Value} {w : World} {R : Value → World → Prop} (h : F146 a0 w R) : CALL Try.prog 146 [a0] w R :=
  call_of (g := cfg146) ent mixed Try.func146 (Nat.le_of_ble_eq_true (by kernel_rfl)) (by kernel_rfl) (F146_eq a0 w R ▸ h)

/-- spec.l03Right -/
def F147 (a0 a1 : Value) (w : World) (R : Value → World → Prop) : Prop :=
  OP Try.prog (Instr.box 93 a0) w fun x2 w =>
  RD Try.prog (Instr.fieldAt 93 x2 0) w fun x7 =>
  RD Try.prog (Instr.loadAt 3 x7) w fun x8 =>
  RD Try.prog (bin .eql 3 (.tmp 0) (.const undef) x8 (Value.int .i64 1)) w fun x10 =>
  BR x10
   (RD Try.prog (Instr.fieldAt 93 x2 1) w fun x11 =>
   RD Try.prog (Instr.loadAt 3 x11) w fun x12 =>
   CALL Try.prog 56 [x12, (Value.int .i64 0), (Value.int .i64 1000000000)] w fun x13 w =>
   BR x13
   (RD Try.prog (Instr.fieldAt 93 x2 2) w fun x15 =>
   RD Try.prog (Instr.loadAt 9 x15) w fun x16 =>
   RD Try.prog (bin .eql 9 (.tmp 0) (.const undef) x16 (Value.string (ByteArray.mk #[]))) w fun x17 =>
   BR x17
   (RD Try.prog (Instr.fieldAt 93 x2 3) w fun x20 =>
   RD Try.prog (Instr.loadAt 91 x20) w fun x21 =>
   RD Try.prog (Builtin.len_ #[91] 3 [x21].toArray) w fun x22 =>
   RD Try.prog (bin .eql 3 (.tmp 0) (.const undef) x22 (Value.int .i64 0)) w fun x23 =>
   R x23 w)
   (R (Value.bool false) w))
   (R (Value.bool false) w))
   (RD Try.prog (bin .eql 3 (.tmp 0) (.const undef) x8 (Value.int .i64 2)) w fun x26 =>
   BR x26
    (RD Try.prog (Instr.fieldAt 93 x2 1) w fun x27 =>
    RD Try.prog (Instr.loadAt 3 x27) w fun x28 =>
    RD Try.prog (bin .eql 3 (.tmp 0) (.const undef) x28 (Value.int .i64 0)) w fun x29 =>
    BR x29
    (RD Try.prog (Instr.fieldAt 93 x2 2) w fun x31 =>
    RD Try.prog (Instr.loadAt 9 x31) w fun x32 =>
    CALL Try.prog 146 [x32] w fun x33 w =>
    BR x33
    (RD Try.prog (Instr.fieldAt 93 x2 3) w fun x36 =>
    RD Try.prog (Instr.loadAt 91 x36) w fun x37 =>
    RD Try.prog (Builtin.len_ #[91] 3 [x37].toArray) w fun x38 =>
    RD Try.prog (bin .eql 3 (.tmp 0) (.const undef) x38 (Value.int .i64 0)) w fun x39 =>
    R x39 w)
    (R (Value.bool false) w))
    (R (Value.bool false) w))
    (JOIN [5] (fun J9 =>
     RD Try.prog (Instr.fieldAt 93 x2 0) w fun x41 =>
     RD Try.prog (Instr.loadAt 3 x41) w fun x42 =>
     RD Try.prog (bin .eql 3 (.tmp 0) (.const undef) x42 (Value.int .i64 8)) w fun x43 =>
     BR x43
      (J9 [(Value.int .i64 1)] w)
      (J9 [(Value.int .i64 2)] w)) (fun u9 w =>
     RD Try.prog (Instr.fieldAt 93 x2 0) w fun x44 =>
     RD Try.prog (Instr.loadAt 3 x44) w fun x45 =>
     CALL Try.prog 56 [x45, (Value.int .i64 3), (Value.int .i64 9)] w fun x46 w =>
     RD Try.prog (Op.unary .not x46) w fun x47 =>
     BR x47
     (R (Value.bool false) w)
     (RD Try.prog (Instr.fieldAt 93 x2 1) w fun x49 =>
     RD Try.prog (Instr.loadAt 3 x49) w fun x50 =>
     RD Try.prog (bin .neq 3 (.tmp 0) (.const undef) x50 (Value.int .i64 0)) w fun x51 =>
     BR x51
     (R (Value.bool false) w)
     (RD Try.prog (Instr.fieldAt 93 x2 2) w fun x54 =>
     RD Try.prog (Instr.loadAt 9 x54) w fun x55 =>
     RD Try.prog (bin .neq 9 (.tmp 0) (.const undef) x55 (Value.string (ByteArray.mk #[]))) w fun x56 =>
     BR x56
     (R (Value.bool false) w)
     (RD Try.prog (Instr.fieldAt 93 x2 3) w fun x59 =>
     RD Try.prog (Instr.loadAt 91 x59) w fun x60 =>
     RD Try.prog (Builtin.len_ #[91] 3 [x60].toArray) w fun x61 =>
     RD Try.prog (bin .neq 3 (.tmp 0) (.tmp 0) x61 (u9 5)) w fun x63 =>
     BR x63
     (R (Value.bool false) w)
     (RD Try.prog (bin .eql 3 (.tmp 0) (.const undef) a1 (Value.int .i64 0)) w fun x67 =>
     BR x67
      (R (Value.bool false) w)
      (LOOPI [6] [(Value.int .i64 0)] w fun u12 w next12 =>
       RD Try.prog (Instr.fieldAt 93 x2 3) w fun x70 =>
       RD Try.prog (Instr.loadAt 91 x70) w fun x71 =>
       RD Try.prog (Builtin.len_ #[91] 3 [x71].toArray) w fun x72 =>
       RD Try.prog (bin .lss 3 (.tmp 0) (.tmp 0) (u12 6) x72) w fun x73 =>
       BR x73
        (RD Try.prog (Instr.fieldAt 93 x2 3) w fun x76 =>
        RD Try.prog (Instr.loadAt 91 x76) w fun x77 =>
        RD Try.prog (Instr.indexAt 91 x77 (u12 6)) w fun x79 =>
        RD Try.prog (Instr.loadAt 93 x79) w fun x80 =>
        RD Try.prog (bin .sub 3 (.tmp 0) (.const undef) a1 (Value.int .i64 1)) w fun x82 =>
        CALL Try.prog 147 [x80, x82] w fun x83 w =>
        RD Try.prog (Op.unary .not x83) w fun x84 =>
        BR x84
         (R (Value.bool false) w)
         (RD Try.prog (bin .add 3 (.tmp 0) (.const undef) (u12 6) (Value.int .i64 1)) w fun x75 =>
         next12 [x75] w))
        (R (Value.bool true) w)))))))))
def cfg147 : Cfg := { ext := extL, joins := [(9, 15393162788896, [5])], loops := [(12, 38685035931857774884946000, [6])], draws := [], pars := [] }
theorem F147_eq (a0 a1 : Value) (w : World) (R : Value → World → Prop) : vcF Try.prog cfg147 Try.f147 [a0, a1] w R = F147 a0 a1 w R := by kernel_rfl
theorem F147_call {a0 a1 : Value} {w : World} {R : Value → World → Prop} (h : F147 a0 a1 w R) : CALL Try.prog 147 [a0, a1] w R :=
  call_of (g := cfg147) ent mixed Try.func147 (Nat.le_of_ble_eq_true (by kernel_rfl)) (by kernel_rfl) (F147_eq a0 a1 w R ▸ h)

/-- laws.toTermS -/
def F148 (a0 : Value) (w : World) (R : Value → World → Prop) : Prop :=
  RD Try.prog (Builtin.len_ #[86] 3 [a0].toArray) w fun x6 =>
  OP Try.prog (Instr.makeSlice 91 x6 x6) w fun x7 w =>
  LOOPI [4] [(Value.int .i64 0)] w fun u3 w next3 =>
   RD Try.prog (Builtin.len_ #[86] 3 [a0].toArray) w fun x10 =>
   RD Try.prog (bin .lss 3 (.tmp 0) (.tmp 0) (u3 4) x10) w fun x11 =>
   BR x11
    (RD Try.prog (Instr.indexAt 86 a0 (u3 4)) w fun x18 =>
    RD Try.prog (Instr.loadAt 88 x18) w fun x19 =>
    CALL Try.prog 129 [x19] w fun x20 w =>
    RD Try.prog (Instr.indexAt 91 x7 (u3 4)) w fun x21 =>
    OPU Try.prog (Instr.storeAt 93 x21 x20) w fun w =>
    RD Try.prog (bin .add 3 (.tmp 0) (.const undef) (u3 4) (Value.int .i64 1)) w fun x13 =>
    next3 [x13] w)
    (R x7 w)
def cfg148 : Cfg := { ext := extL, joins := [], loops := [(3, 4194064, [4])], draws := [], pars := [] }
theorem F148_eq (a0 : Value) (w : World) (R : Value → World → Prop) : vcF Try.prog cfg148 Try.f148 [a0] w R = F148 a0 w R := by kernel_rfl
theorem F148_call {a0 : Value} {w : World} {R : Value → World → Prop} (h : F148 a0 w R) : CALL Try.prog 148 [a0] w R :=
  call_of (g := cfg148) ent mixed Try.func148 (Nat.le_of_ble_eq_true (by kernel_rfl)) (by kernel_rfl) (F148_eq a0 w R ▸ h)

/-- impl.IsName -/
def F149 (a0 : Value) (w : World) (R : Value → World → Prop) : Prop :=
  RD Try.prog (Builtin.len_ #[9] 3 [a0].toArray) w fun x5 =>
  RD Try.prog (bin .lss 3 (.tmp 0) (.const undef) x5 (Value.int .i64 1)) w fun x6 =>
  BR x6
  (R (Value.bool false) w)
  (RD Try.prog (Builtin.len_ #[9] 3 [a0].toArray) w fun x9 =>
  RD Try.prog (bin .gtr 3 (.tmp 0) (.const undef) x9 (Value.int .i64 12)) w fun x10 =>
  BR x10
  (R (Value.bool false) w)
  (RD Try.prog (Instr.index 9 a0 (Value.int .i64 0)) w fun x14 =>
  CALL Try.prog 156 [x14] w fun x15 w =>
  RD Try.prog (Op.unary .not x15) w fun x16 =>
  BR x16
   (R (Value.bool false) w)
   (LOOPI [3] [(Value.int .i64 0)] w fun u4 w next4 =>
    RD Try.prog (Builtin.len_ #[9] 3 [a0].toArray) w fun x20 =>
    RD Try.prog (bin .lss 3 (.tmp 0) (.tmp 0) (u4 3) x20) w fun x21 =>
    BR x21
     (RD Try.prog (Instr.index 9 a0 (u4 3)) w fun x26 =>
     CALL Try.prog 156 [x26] w fun x27 w =>
     RD Try.prog (Op.unary .not x27) w fun x28 =>
     BR x28
     (RD Try.prog (Instr.index 9 a0 (u4 3)) w fun x32 =>
     CALL Try.prog 157 [x32] w fun x33 w =>
     RD Try.prog (Op.unary .not x33) w fun x34 =>
     BR x34
      (R (Value.bool false) w)
      (RD Try.prog (bin .add 3 (.tmp 0) (.const undef) (u4 3) (Value.int .i64 1)) w fun x23 =>
      next4 [x23] w))
     (RD Try.prog (bin .add 3 (.tmp 0) (.const undef) (u4 3) (Value.int .i64 1)) w fun x23 =>
      next4 [x23] w))
     (RD Try.prog (bin .eql 9 (.tmp 0) (.const undef) a0 (Value.string (ByteArray.mk #[97, 110, 100]))) w fun x38 =>
     BR x38
      (R (Value.bool false) w)
      (RD Try.prog (bin .eql 9 (.tmp 0) (.const undef) a0 (Value.string (ByteArray.mk #[99, 97, 108, 108]))) w fun x39 =>
      BR x39
       (R (Value.bool false) w)
       (RD Try.prog (bin .eql 9 (.tmp 0) (.const undef) a0 (Value.string (ByteArray.mk #[101, 108, 115, 101]))) w fun x40 =>
       BR x40
        (R (Value.bool false) w)
        (RD Try.prog (bin .eql 9 (.tmp 0) (.const undef) a0 (Value.string (ByteArray.mk #[103, 108, 111, 98, 97, 108, 115]))) w fun x41 =>
        BR x41
         (R (Value.bool false) w)
         (RD Try.prog (bin .eql 9 (.tmp 0) (.const undef) a0 (Value.string (ByteArray.mk #[105, 102]))) w fun x42 =>
         BR x42
          (R (Value.bool false) w)
          (RD Try.prog (bin .eql 9 (.tmp 0) (.const undef) a0 (Value.string (ByteArray.mk #[108, 111, 99, 107]))) w fun x43 =>
          BR x43
           (R (Value.bool false) w)
           (RD Try.prog (bin .eql 9 (.tmp 0) (.const undef) a0 (Value.string (ByteArray.mk #[108, 111, 99, 107, 115]))) w fun x44 =>
           BR x44
            (R (Value.bool false) w)
            (RD Try.prog (bin .eql 9 (.tmp 0) (.const undef) a0 (Value.string (ByteArray.mk #[110, 111, 116]))) w fun x45 =>
            BR x45
             (R (Value.bool false) w)
             (RD Try.prog (bin .eql 9 (.tmp 0) (.const undef) a0 (Value.string (ByteArray.mk #[112, 114, 111, 99]))) w fun x46 =>
             BR x46
              (R (Value.bool false) w)
              (RD Try.prog (bin .eql 9 (.tmp 0) (.const undef) a0 (Value.string (ByteArray.mk #[115, 107, 105, 112]))) w fun x47 =>
              BR x47
               (R (Value.bool false) w)
               (RD Try.prog (bin .eql 9 (.tmp 0) (.const undef) a0 (Value.string (ByteArray.mk #[115, 112, 97, 119, 110]))) w fun x48 =>
               BR x48
                (R (Value.bool false) w)
                (RD Try.prog (bin .eql 9 (.tmp 0) (.const undef) a0 (Value.string (ByteArray.mk #[117, 110, 108, 111, 99, 107]))) w fun x49 =>
                BR x49
                 (R (Value.bool false) w)
                 (RD Try.prog (bin .eql 9 (.tmp 0) (.const undef) a0 (Value.string (ByteArray.mk #[119, 104, 105, 108, 101]))) w fun x50 =>
                 BR x50
                  (R (Value.bool false) w)
                  (R (Value.bool true) w)))))))))))))))))
def cfg149 : Cfg := { ext := extL, joins := [], loops := [(4, 68719214604, [3])], draws := [], pars := [] }
theorem F149_eq (a0 : Value) (w : World) (R : Value → World → Prop) : vcF Try.prog cfg149 Try.f149 [a0] w R = F149 a0 w R := by kernel_rfl
theorem F149_call {a0 : Value} {w : World} {R : Value → World → Prop} (h : F149 a0 w R) : CALL Try.prog 149 [a0] w R :=
  call_of (g := cfg149) ent mixed Try.func149 (Nat.le_of_ble_eq_true (by kernel_rfl)) (by kernel_rfl) (F149_eq a0 w R ▸ h)

/-- impl.termFits -/
def F150 (a0 a1 : Value) (w : World) (R : Value → World → Prop) : Prop :=
  OP Try.prog (Instr.box 93 a0) w fun x2 w =>
  JOIN [] (fun J18 =>
   RD Try.prog (Instr.fieldAt 93 x2 0) w fun x7 =>
   RD Try.prog (Instr.loadAt 3 x7) w fun x8 =>
   RD Try.prog (bin .eql 3 (.tmp 0) (.const undef) x8 (Value.int .i64 1)) w fun x10 =>
   BR x10
    (RD Try.prog (Instr.fieldAt 93 x2 1) w fun x11 =>
    RD Try.prog (Instr.loadAt 3 x11) w fun x12 =>
    RD Try.prog (bin .geq 3 (.tmp 0) (.const undef) x12 (Value.int .i64 0)) w fun x13 =>
    BR x13
    (RD Try.prog (Instr.fieldAt 93 x2 1) w fun x15 =>
    RD Try.prog (Instr.loadAt 3 x15) w fun x16 =>
    RD Try.prog (bin .leq 3 (.tmp 0) (.const undef) x16 (Value.int .i64 1000000000)) w fun x17 =>
    BR x17
    (RD Try.prog (Instr.fieldAt 93 x2 2) w fun x20 =>
    RD Try.prog (Instr.loadAt 9 x20) w fun x21 =>
    RD Try.prog (bin .eql 9 (.tmp 0) (.const undef) x21 (Value.string (ByteArray.mk #[]))) w fun x22 =>
    BR x22
    (RD Try.prog (Instr.fieldAt 93 x2 3) w fun x25 =>
    RD Try.prog (Instr.loadAt 91 x25) w fun x26 =>
    RD Try.prog (Builtin.len_ #[91] 3 [x26].toArray) w fun x27 =>
    RD Try.prog (bin .eql 3 (.tmp 0) (.const undef) x27 (Value.int .i64 0)) w fun x28 =>
    R x28 w)
    (R (Value.bool false) w))
    (R (Value.bool false) w))
    (R (Value.bool false) w))
    (RD Try.prog (bin .eql 3 (.tmp 0) (.const undef) x8 (Value.int .i64 2)) w fun x31 =>
    BR x31
     (RD Try.prog (Instr.fieldAt 93 x2 1) w fun x32 =>
     RD Try.prog (Instr.loadAt 3 x32) w fun x33 =>
     RD Try.prog (bin .eql 3 (.tmp 0) (.const undef) x33 (Value.int .i64 0)) w fun x34 =>
     BR x34
     (RD Try.prog (Instr.fieldAt 93 x2 2) w fun x36 =>
     RD Try.prog (Instr.loadAt 9 x36) w fun x37 =>
     CALL Try.prog 149 [x37] w fun x38 w =>
     BR x38
     (RD Try.prog (Instr.fieldAt 93 x2 3) w fun x41 =>
     RD Try.prog (Instr.loadAt 91 x41) w fun x42 =>
     RD Try.prog (Builtin.len_ #[91] 3 [x42].toArray) w fun x43 =>
     RD Try.prog (bin .eql 3 (.tmp 0) (.const undef) x43 (Value.int .i64 0)) w fun x44 =>
     R x44 w)
     (R (Value.bool false) w))
     (R (Value.bool false) w))
     (RD Try.prog (bin .eql 3 (.tmp 0) (.const undef) x8 (Value.int .i64 3)) w fun x47 =>
     BR x47
      (RD Try.prog (Instr.fieldAt 93 x2 3) w fun x53 =>
       RD Try.prog (Instr.loadAt 91 x53) w fun x54 =>
       RD Try.prog (Builtin.len_ #[91] 3 [x54].toArray) w fun x55 =>
       RD Try.prog (bin .neq 3 (.tmp 0) (.const undef) x55 (Value.int .i64 2)) w fun x56 =>
       BR x56
        (R (Value.bool false) w)
        (J18 [] w))
      (RD Try.prog (bin .eql 3 (.tmp 0) (.const undef) x8 (Value.int .i64 4)) w fun x48 =>
      BR x48
       (RD Try.prog (Instr.fieldAt 93 x2 3) w fun x53 =>
        RD Try.prog (Instr.loadAt 91 x53) w fun x54 =>
        RD Try.prog (Builtin.len_ #[91] 3 [x54].toArray) w fun x55 =>
        RD Try.prog (bin .neq 3 (.tmp 0) (.const undef) x55 (Value.int .i64 2)) w fun x56 =>
        BR x56
         (R (Value.bool false) w)
         (J18 [] w))
       (RD Try.prog (bin .eql 3 (.tmp 0) (.const undef) x8 (Value.int .i64 5)) w fun x49 =>
       BR x49
        (RD Try.prog (Instr.fieldAt 93 x2 3) w fun x53 =>
         RD Try.prog (Instr.loadAt 91 x53) w fun x54 =>
         RD Try.prog (Builtin.len_ #[91] 3 [x54].toArray) w fun x55 =>
         RD Try.prog (bin .neq 3 (.tmp 0) (.const undef) x55 (Value.int .i64 2)) w fun x56 =>
         BR x56
          (R (Value.bool false) w)
          (J18 [] w))
        (RD Try.prog (bin .eql 3 (.tmp 0) (.const undef) x8 (Value.int .i64 6)) w fun x50 =>
        BR x50
         (RD Try.prog (Instr.fieldAt 93 x2 3) w fun x53 =>
          RD Try.prog (Instr.loadAt 91 x53) w fun x54 =>
          RD Try.prog (Builtin.len_ #[91] 3 [x54].toArray) w fun x55 =>
          RD Try.prog (bin .neq 3 (.tmp 0) (.const undef) x55 (Value.int .i64 2)) w fun x56 =>
          BR x56
           (R (Value.bool false) w)
           (J18 [] w))
         (RD Try.prog (bin .eql 3 (.tmp 0) (.const undef) x8 (Value.int .i64 7)) w fun x51 =>
         BR x51
          (RD Try.prog (Instr.fieldAt 93 x2 3) w fun x53 =>
           RD Try.prog (Instr.loadAt 91 x53) w fun x54 =>
           RD Try.prog (Builtin.len_ #[91] 3 [x54].toArray) w fun x55 =>
           RD Try.prog (bin .neq 3 (.tmp 0) (.const undef) x55 (Value.int .i64 2)) w fun x56 =>
           BR x56
            (R (Value.bool false) w)
            (J18 [] w))
          (RD Try.prog (bin .eql 3 (.tmp 0) (.const undef) x8 (Value.int .i64 9)) w fun x52 =>
          BR x52
           (RD Try.prog (Instr.fieldAt 93 x2 3) w fun x53 =>
           RD Try.prog (Instr.loadAt 91 x53) w fun x54 =>
           RD Try.prog (Builtin.len_ #[91] 3 [x54].toArray) w fun x55 =>
           RD Try.prog (bin .neq 3 (.tmp 0) (.const undef) x55 (Value.int .i64 2)) w fun x56 =>
           BR x56
            (R (Value.bool false) w)
            (J18 [] w))
           (RD Try.prog (bin .eql 3 (.tmp 0) (.const undef) x8 (Value.int .i64 8)) w fun x58 =>
           BR x58
            (RD Try.prog (Instr.fieldAt 93 x2 3) w fun x59 =>
            RD Try.prog (Instr.loadAt 91 x59) w fun x60 =>
            RD Try.prog (Builtin.len_ #[91] 3 [x60].toArray) w fun x61 =>
            RD Try.prog (bin .neq 3 (.tmp 0) (.const undef) x61 (Value.int .i64 1)) w fun x62 =>
            BR x62
             (R (Value.bool false) w)
             (J18 [] w))
            (R (Value.bool false) w)))))))))) (fun u18 w =>
   RD Try.prog (Instr.fieldAt 93 x2 1) w fun x63 =>
   RD Try.prog (Instr.loadAt 3 x63) w fun x64 =>
   RD Try.prog (bin .neq 3 (.tmp 0) (.const undef) x64 (Value.int .i64 0)) w fun x65 =>
   BR x65
   (R (Value.bool false) w)
   (RD Try.prog (Instr.fieldAt 93 x2 2) w fun x67 =>
   RD Try.prog (Instr.loadAt 9 x67) w fun x68 =>
   RD Try.prog (bin .neq 9 (.tmp 0) (.const undef) x68 (Value.string (ByteArray.mk #[]))) w fun x69 =>
   BR x69
   (R (Value.bool false) w)
   (RD Try.prog (bin .eql 3 (.tmp 0) (.const undef) a1 (Value.int .i64 0)) w fun x73 =>
   BR x73
    (R (Value.bool false) w)
    (RD Try.prog (Instr.fieldAt 93 x2 3) w fun x75 =>
    RD Try.prog (Instr.loadAt 91 x75) w fun x76 =>
    RD Try.prog (Builtin.len_ #[91] 3 [x76].toArray) w fun x77 =>
    LOOPI [78] [(Value.int .i64 0)] w fun u21 w next21 =>
     RD Try.prog (bin .lss 3 (.tmp 0) (.tmp 0) (u21 78) x77) w fun x79 =>
     BR x79
      (RD Try.prog (Instr.indexAt 91 x76 (u21 78)) w fun x80 =>
      RD Try.prog (Instr.loadAt 93 x80) w fun x81 =>
      OP Try.prog (Instr.alloc 93 true (.tuple #[])) w fun x6 w =>
      OPU Try.prog (Instr.storeAt 93 x6 x81) w fun w =>
      RD Try.prog (Instr.loadAt 93 x6) w fun x82 =>
      RD Try.prog (bin .sub 3 (.tmp 0) (.const undef) a1 (Value.int .i64 1)) w fun x84 =>
      CALL Try.prog 150 [x82, x84] w fun x85 w =>
      RD Try.prog (Op.unary .not x85) w fun x86 =>
      BR x86
       (R (Value.bool false) w)
       (RD Try.prog (bin .add 3 (.tmp 0) (.const undef) (u21 78) (Value.int .i64 1)) w fun x87 =>
       next21 [x87] w))
      (R (Value.bool true) w)))))
def cfg150 : Cfg := { ext := extL, joins := [(18, 9223372036854775696, [])], loops := [(21, 309182778366441411431104592, [78])], draws := [], pars := [] }
theorem F150_eq (a0 a1 : Value) (w : World) (R : Value → World → Prop) : vcF Try.prog cfg150 Try.f150 [a0, a1] w R = F150 a0 a1 w R := by kernel_rfl
theorem F150_call {a0 a1 : Value} {w : World} {R : Value → World → Prop} (h : F150 a0 a1 w R) : CALL Try.prog 150 [a0, a1] w R :=
  call_of (g := cfg150) ent mixed Try.func150 (Nat.le_of_ble_eq_true (by kernel_rfl)) (by kernel_rfl) (F150_eq a0 a1 w R ▸ h)

/-- laws.eqTermS -/
def F151 (a0 a1 : Value) (w : World) (R : Value → World → Prop) : Prop :=
  RD Try.prog (Builtin.len_ #[91] 3 [a0].toArray) w fun x7 =>
  RD Try.prog (Builtin.len_ #[91] 3 [a1].toArray) w fun x9 =>
  RD Try.prog (bin .neq 3 (.tmp 0) (.tmp 0) x7 x9) w fun x10 =>
  BR x10
   (R (Value.bool false) w)
   (LOOPI [5] [(Value.int .i64 0)] w fun u4 w next4 =>
    RD Try.prog (Builtin.len_ #[91] 3 [a0].toArray) w fun x13 =>
    RD Try.prog (bin .lss 3 (.tmp 0) (.tmp 0) (u4 5) x13) w fun x14 =>
    BR x14
     ((fun w => RD Try.prog (Instr.indexAt 91 a0 (u4 5)) w fun x19 =>
     RD Try.prog (Instr.loadAt 93 x19) w fun x20 =>
     RD Try.prog (Instr.indexAt 91 a1 (u4 5)) w fun x23 =>
     RD Try.prog (Instr.loadAt 93 x23) w fun x24 =>
     CALL Try.prog 135 [x20, x24] w fun x25 w =>
     RD Try.prog (Op.unary .not x25) w fun x26 =>
     BR x26
      (R (Value.bool false) w)
      (RD Try.prog (bin .add 3 (.tmp 0) (.const undef) (u4 5) (Value.int .i64 1)) w fun x16 =>
      next4 [x16] w)) (World.drew1 w))
     (R (Value.bool true) w))
def cfg151 : Cfg := { ext := extL, joins := [], loops := [(4, 134215728, [5])], draws := [(6, [0, 1, 2, 3, 4, 5, 6, 7, 8, 9], 0)], pars := [] }
theorem F151_eq (a0 a1 : Value) (w : World) (R : Value → World → Prop) : vcF Try.prog cfg151 Try.f151 [a0, a1] w R = F151 a0 a1 w R := by kernel_rfl
theorem F151_call {a0 a1 : Value} {w : World} {R : Value → World → Prop} (h : F151 a0 a1 w R) : CALL Try.prog 151 [a0, a1] w R :=
  call_of (g := cfg151) ent mixed Try.func151 (Nat.le_of_ble_eq_true (by kernel_rfl)) (by kernel_rfl) (F151_eq a0 a1 w R ▸ h)

/-- impl.addOnce -/
def F152 (a0 a1 : Value) (w : World) (R : Value → World → Prop) : Prop :=
  CALL Try.prog 111 [a0, a1] w fun x7 w =>
  BR x7
   (R a0 w)
   (OP Try.prog (Instr.buildSlice 22 1 #[(0, a1)]) w fun x11 w =>
   OP Try.prog (Builtin.append_ #[22, 22] 22 [a0, x11].toArray) w fun x12 w =>
   R x12 w)
def cfg152 : Cfg := { ext := extL, joins := [], loops := [], draws := [], pars := [] }
theorem F152_eq (a0 a1 : Value) (w : World) (R : Value → World → Prop) : vcF Try.prog cfg152 Try.f152 [a0, a1] w R = F152 a0 a1 w R := by kernel_rfl
theorem F152_call {a0 a1 : Value} {w : World} {R : Value → World → Prop} (h : F152 a0 a1 w R) : CALL Try.prog 152 [a0, a1] w R :=
  call_of (g := cfg152) ent mixed Try.func152 (Nat.le_of_ble_eq_true (by kernel_rfl)) (by kernel_rfl) (F152_eq a0 a1 w R ▸ h)

/-- spec.l03Mod -/
def F153 (a0 : Value) (w : World) (R : Value → World → Prop) : Prop :=
  RD Try.prog (bin .rem 3 (.tmp 0) (.const undef) a0 (Value.int .i64 1000)) w fun x4 =>
  RD Try.prog (bin .lss 3 (.tmp 0) (.const undef) x4 (Value.int .i64 0)) w fun x6 =>
  BR x6
   (RD Try.prog (bin .add 3 (.tmp 0) (.const undef) x4 (Value.int .i64 1000)) w fun x8 =>
   R x8 w)
   (R x4 w)
def cfg153 : Cfg := { ext := extL, joins := [], loops := [], draws := [], pars := [] }
theorem F153_eq (a0 : Value) (w : World) (R : Value → World → Prop) : vcF Try.prog cfg153 Try.f153 [a0] w R = F153 a0 w R := by kernel_rfl
theorem F153_call {a0 : Value} {w : World} {R : Value → World → Prop} (h : F153 a0 w R) : CALL Try.prog 153 [a0] w R :=
  call_of (g := cfg153) ent mixed Try.func153 (Nat.le_of_ble_eq_true (by kernel_rfl)) (by kernel_rfl) (F153_eq a0 w R ▸ h)

/-- spec.l03Yes -/
def F154 (a0 : Value) (w : World) (R : Value → World → Prop) : Prop :=
  BR a0
   (R (Value.int .i64 1) w)
   (R (Value.int .i64 0) w)
def cfg154 : Cfg := { ext := extL, joins := [], loops := [], draws := [], pars := [] }
theorem F154_eq (a0 : Value) (w : World) (R : Value → World → Prop) : vcF Try.prog cfg154 Try.f154 [a0] w R = F154 a0 w R := by kernel_rfl
theorem F154_call {a0 : Value} {w : World} {R : Value → World → Prop} (h : F154 a0 w R) : CALL Try.prog 154 [a0] w R :=
  call_of (g := cfg154) ent mixed Try.func154 (Nat.le_of_ble_eq_true (by kernel_rfl)) (by kernel_rfl) (F154_eq a0 w R ▸ h)

/-- spec.l02Word -/
def F155 (a0 : Value) (w : World) (R : Value → World → Prop) : Prop :=
  RD Try.prog (Builtin.len_ #[9] 3 [a0].toArray) w fun x5 =>
  RD Try.prog (bin .eql 3 (.tmp 0) (.const undef) x5 (Value.int .i64 0)) w fun x6 =>
  BR x6
  (R (Value.bool false) w)
  (RD Try.prog (Builtin.len_ #[9] 3 [a0].toArray) w fun x9 =>
  RD Try.prog (bin .gtr 3 (.tmp 0) (.const undef) x9 (Value.int .i64 12)) w fun x10 =>
  BR x10
  (R (Value.bool false) w)
  (RD Try.prog (Instr.index 9 a0 (Value.int .i64 0)) w fun x14 =>
  CALL Try.prog 158 [x14] w fun x15 w =>
  RD Try.prog (Op.unary .not x15) w fun x16 =>
  BR x16
   (R (Value.bool false) w)
   (LOOPI [3] [(Value.int .i64 0)] w fun u4 w next4 =>
    RD Try.prog (Builtin.len_ #[9] 3 [a0].toArray) w fun x20 =>
    RD Try.prog (bin .lss 3 (.tmp 0) (.tmp 0) (u4 3) x20) w fun x21 =>
    BR x21
     (RD Try.prog (Instr.index 9 a0 (u4 3)) w fun x26 =>
     CALL Try.prog 158 [x26] w fun x27 w =>
     RD Try.prog (Op.unary .not x27) w fun x28 =>
     BR x28
     (RD Try.prog (Instr.index 9 a0 (u4 3)) w fun x32 =>
     CALL Try.prog 159 [x32] w fun x33 w =>
     RD Try.prog (Op.unary .not x33) w fun x34 =>
     BR x34
      (R (Value.bool false) w)
      (RD Try.prog (bin .add 3 (.tmp 0) (.const undef) (u4 3) (Value.int .i64 1)) w fun x23 =>
      next4 [x23] w))
     (RD Try.prog (bin .add 3 (.tmp 0) (.const undef) (u4 3) (Value.int .i64 1)) w fun x23 =>
      next4 [x23] w))
     (R (Value.bool true) w))))
def cfg155 : Cfg := { ext := extL, joins := [], loops := [(4, 68719214604, [3])], draws := [], pars := [] }
theorem F155_eq (a0 : Value) (w : World) (R : Value → World → Prop) : vcF Try.prog cfg155 Try.f155 [a0] w R = F155 a0 w R := by kernel_rfl
theorem F155_call {a0 : Value} {w : World} {R : Value → World → Prop} (h : F155 a0 w R) : CALL Try.prog 155 [a0] w R :=
  call_of (g := cfg155) ent mixed Try.func155 (Nat.le_of_ble_eq_true (by kernel_rfl)) (by kernel_rfl) (F155_eq a0 w R ▸ h)

/-- impl.isSmall -/
def F156 (a0 : Value) (w : World) (R : Value → World → Prop) : Prop :=
  RD Try.prog (bin .geq 5 (.tmp 0) (.const undef) a0 (Value.int .u8 97)) w fun x4 =>
  BR x4
  (RD Try.prog (bin .leq 5 (.tmp 0) (.const undef) a0 (Value.int .u8 122)) w fun x7 =>
  R x7 w)
  (R (Value.bool false) w)
def cfg156 : Cfg := { ext := extL, joins := [], loops := [], draws := [], pars := [] }
theorem F156_eq (a0 : Value) (w : World) (R : Value → World → Prop) : vcF Try.prog cfg156 Try.f156 [a0] w R = F156 a0 w R := by kernel_rfl
theorem F156_call {a0 : Value} {w : World} {R : Value → World → Prop} (h : F156 a0 w R) : CALL Try.prog 156 [a0] w R :=
  call_of (g := cfg156) ent mixed Try.func156 (Nat.le_of_ble_eq_true (by kernel_rfl)) (by kernel_rfl) (F156_eq a0 w R ▸ h)

/-- impl.isFigure -/
def F157 (a0 : Value) (w : World) (R : Value → World → Prop) : Prop :=
  RD Try.prog (bin .geq 5 (.tmp 0) (.const undef) a0 (Value.int .u8 48)) w fun x4 =>
  BR x4
  (RD Try.prog (bin .leq 5 (.tmp 0) (.const undef) a0 (Value.int .u8 57)) w fun x7 =>
  R x7 w)
  (R (Value.bool false) w)
def cfg157 : Cfg := { ext := extL, joins := [], loops := [], draws := [], pars := [] }
theorem F157_eq (a0 : Value) (w : World) (R : Value → World → Prop) : vcF Try.prog cfg157 Try.f157 [a0] w R = F157 a0 w R := by kernel_rfl
theorem F157_call {a0 : Value} {w : World} {R : Value → World → Prop} (h : F157 a0 w R) : CALL Try.prog 157 [a0] w R :=
  call_of (g := cfg157) ent mixed Try.func157 (Nat.le_of_ble_eq_true (by kernel_rfl)) (by kernel_rfl) (F157_eq a0 w R ▸ h)

/-- spec.l02Letter -/
def F158 (a0 : Value) (w : World) (R : Value → World → Prop) : Prop :=
  RD Try.prog (bin .geq 5 (.tmp 0) (.const undef) a0 (Value.int .u8 97)) w fun x4 =>
  BR x4
  (RD Try.prog (bin .leq 5 (.tmp 0) (.const undef) a0 (Value.int .u8 122)) w fun x7 =>
  R x7 w)
  (R (Value.bool false) w)
def cfg158 : Cfg := { ext := extL, joins := [], loops := [], draws := [], pars := [] }
theorem F158_eq (a0 : Value) (w : World) (R : Value → World → Prop) : vcF Try.prog cfg158 Try.f158 [a0] w R = F158 a0 w R := by kernel_rfl
theorem F158_call {a0 : Value} {w : World} {R : Value → World → Prop} (h : F158 a0 w R) : CALL Try.prog 158 [a0] w R :=
  call_of (g := cfg158) ent mixed Try.func158 (Nat.le_of_ble_eq_true (by kernel_rfl)) (by kernel_rfl) (F158_eq a0 w R ▸ h)

/-- spec.l02Figure -/
def F159 (a0 : Value) (w : World) (R : Value → World → Prop) : Prop :=
  RD Try.prog (bin .geq 5 (.tmp 0) (.const undef) a0 (Value.int .u8 48)) w fun x4 =>
  BR x4
  (RD Try.prog (bin .leq 5 (.tmp 0) (.const undef) a0 (Value.int .u8 57)) w fun x7 =>
  R x7 w)
  (R (Value.bool false) w)
def cfg159 : Cfg := { ext := extL, joins := [], loops := [], draws := [], pars := [] }
theorem F159_eq (a0 : Value) (w : World) (R : Value → World → Prop) : vcF Try.prog cfg159 Try.f159 [a0] w R = F159 a0 w R := by kernel_rfl
theorem F159_call {a0 : Value} {w : World} {R : Value → World → Prop} (h : F159 a0 w R) : CALL Try.prog 159 [a0] w R :=
  call_of (g := cfg159) ent mixed Try.func159 (Nat.le_of_ble_eq_true (by kernel_rfl)) (by kernel_rfl) (F159_eq a0 w R ▸ h)

end Go.Proofs.Ytokppocbfpjngaa
