/-
  Marks that the laws lay into their arguments and answers.
-/
import Derived.Test.YteephmhilnlkpaaGreatCodeL
import Derived.Test.YteephmhilnlkpaaGreatBytes
namespace Go.Proofs.YteephmhilnlkpaaGreat
open Go Go.Sh Go.Proofs
set_option linter.unusedVariables false
/-- laws.markText -/
def F129 (a0 : Value) (w : World) (R : Value → World → Prop) : Prop :=
  RD Tryz.prog (bin .leq 3 (.tmp 0) (.const undef) a0 (Value.int .i64 0)) w fun x5 =>
  BR x5
   (R (Value.string (ByteArray.mk #[109, 48])) w)
   (LOOPI [0, 3] [a0, (Value.string (ByteArray.mk #[]))] w fun u4 w next4 =>
    RD Tryz.prog (bin .gtr 3 (.tmp 0) (.const undef) (u4 0) (Value.int .i64 0)) w fun x7 =>
    BR x7
     (RD Tryz.prog (bin .rem 3 (.tmp 0) (.const undef) (u4 0) (Value.int .i64 10)) w fun x9 =>
     RD Tryz.prog (bin .add 3 (.const undef) (.tmp 0) (Value.int .i64 48) x9) w fun x10 =>
     RD Tryz.prog (convert 3 5 x10) w fun x11 =>
     OP Tryz.prog (Instr.buildSlice 198 1 #[(0, x11)]) w fun x12 w =>
     RD Tryz.prog (convert 198 9 x12) w fun x13 =>
     RD Tryz.prog (bin .add 9 (.tmp 0) (.tmp 0) x13 (u4 3)) w fun x15 =>
     RD Tryz.prog (bin .quo 3 (.tmp 0) (.const undef) (u4 0) (Value.int .i64 10)) w fun x17 =>
     next4 [x17, x15] w)
     (RD Tryz.prog (bin .add 9 (.const undef) (.tmp 0) (Value.string (ByteArray.mk #[109])) (u4 3)) w fun x19 =>
     R x19 w))
def cfg129 : Cfg := { ext := extL, joins := [], loops := [(4, 262089, [0, 3])], draws := [], pars := [] }
theorem F129_eq (a0 : Value) (w : World) (R : Value → World → Prop) : vcF Tryz.prog cfg129 Tryz.f129 [a0] w R = F129 a0 w R := by kernel_rfl
theorem F129_call {a0 : Value} {w : World} {R : Value → World → Prop} (h : F129 a0 w R) : CALL Tryz.prog 129 [a0] w R :=
  call_of (g := cfg129) ent mixed Tryz.func129 (Nat.le_of_ble_eq_true (by kernel_rfl)) (by kernel_rfl) (F129_eq a0 w R ▸ h)

/-- laws.markStringS -/
def F77 (a0 a1 : Value) (w : World) (R : Value → World → Prop) : Prop :=
  LOOPI [1, 5] [a1, (Value.int .i64 0)] w fun u2 w next2 =>
   RD Tryz.prog (Builtin.len_ #[22] 3 [a0].toArray) w fun x8 =>
   RD Tryz.prog (bin .lss 3 (.tmp 0) (.tmp 0) (u2 5) x8) w fun x9 =>
   BR x9
    (CALL Tryz.prog 129 [(u2 1)] w fun x15 w =>
    RD Tryz.prog (Instr.indexAt 22 a0 (u2 5)) w fun x16 =>
    OPU Tryz.prog (Instr.storeAt 9 x16 x15) w fun w =>
    RD Tryz.prog (bin .add 3 (.tmp 0) (.const undef) (u2 1) (Value.int .i64 1)) w fun x18 =>
    RD Tryz.prog (bin .add 3 (.tmp 0) (.const undef) (u2 5) (Value.int .i64 1)) w fun x11 =>
    next2 [x18, x11] w)
    (R (u2 1) w)
def cfg77 : Cfg := { ext := extL, joins := [], loops := [(2, 524258, [1, 5])], draws := [], pars := [] }
theorem F77_eq (a0 a1 : Value) (w : World) (R : Value → World → Prop) : vcF Tryz.prog cfg77 Tryz.f77 [a0, a1] w R = F77 a0 a1 w R := by kernel_rfl
theorem F77_call {a0 a1 : Value} {w : World} {R : Value → World → Prop} (h : F77 a0 a1 w R) : CALL Tryz.prog 77 [a0, a1] w R :=
  call_of (g := cfg77) ent mixed Tryz.func77 (Nat.le_of_ble_eq_true (by kernel_rfl)) (by kernel_rfl) (F77_eq a0 a1 w R ▸ h)

/-- laws.markTermS -/
def F130 (a0 a1 : Value) (w : World) (R : Value → World → Prop) : Prop :=
  LOOPI [1, 5] [a1, (Value.int .i64 0)] w fun u2 w next2 =>
   RD Tryz.prog (Builtin.len_ #[131] 3 [a0].toArray) w fun x8 =>
   RD Tryz.prog (bin .lss 3 (.tmp 0) (.tmp 0) (u2 5) x8) w fun x9 =>
   BR x9
    (RD Tryz.prog (Instr.indexAt 131 a0 (u2 5)) w fun x15 =>
    RD Tryz.prog (Instr.fieldAt 133 x15 0) w fun x16 =>
    OPU Tryz.prog (Instr.storeAt 3 x16 (u2 1)) w fun w =>
    RD Tryz.prog (bin .add 3 (.tmp 0) (.const undef) (u2 1) (Value.int .i64 1)) w fun x18 =>
    RD Tryz.prog (Instr.indexAt 131 a0 (u2 5)) w fun x22 =>
    RD Tryz.prog (Instr.fieldAt 133 x22 1) w fun x23 =>
    OPU Tryz.prog (Instr.storeAt 3 x23 x18) w fun w =>
    RD Tryz.prog (bin .add 3 (.tmp 0) (.const undef) x18 (Value.int .i64 1)) w fun x25 =>
    CALL Tryz.prog 129 [x25] w fun x29 w =>
    RD Tryz.prog (Instr.indexAt 131 a0 (u2 5)) w fun x30 =>
    RD Tryz.prog (Instr.fieldAt 133 x30 2) w fun x31 =>
    OPU Tryz.prog (Instr.storeAt 9 x31 x29) w fun w =>
    RD Tryz.prog (bin .add 3 (.tmp 0) (.const undef) x25 (Value.int .i64 1)) w fun x33 =>
    RD Tryz.prog (Instr.indexAt 131 a0 (u2 5)) w fun x36 =>
    RD Tryz.prog (Instr.fieldAt 133 x36 3) w fun x37 =>
    RD Tryz.prog (Instr.loadAt 131 x37) w fun x38 =>
    CALL Tryz.prog 130 [x38, x33] w fun x40 w =>
    RD Tryz.prog (bin .add 3 (.tmp 0) (.const undef) (u2 5) (Value.int .i64 1)) w fun x11 =>
    next2 [x40, x11] w)
    (R (u2 1) w)
def cfg130 : Cfg := { ext := extL, joins := [], loops := [(2, 2199023255522, [1, 5])], draws := [], pars := [] }
theorem F130_eq (a0 a1 : Value) (w : World) (R : Value → World → Prop) : vcF Tryz.prog cfg130 Tryz.f130 [a0, a1] w R = F130 a0 a1 w R := by kernel_rfl
theorem F130_call {a0 a1 : Value} {w : World} {R : Value → World → Prop} (h : F130 a0 a1 w R) : CALL Tryz.prog 130 [a0, a1] w R :=
  call_of (g := cfg130) ent mixed Tryz.func130 (Nat.le_of_ble_eq_true (by kernel_rfl)) (by kernel_rfl) (F130_eq a0 a1 w R ▸ h)

/-- laws.markInsS -/
def F78 (a0 a1 : Value) (w : World) (R : Value → World → Prop) : Prop :=
  LOOPI [1, 5] [a1, (Value.int .i64 0)] w fun u2 w next2 =>
   RD Tryz.prog (Builtin.len_ #[35] 3 [a0].toArray) w fun x8 =>
   RD Tryz.prog (bin .lss 3 (.tmp 0) (.tmp 0) (u2 5) x8) w fun x9 =>
   BR x9
    (RD Tryz.prog (Instr.indexAt 35 a0 (u2 5)) w fun x15 =>
    RD Tryz.prog (Instr.fieldAt 135 x15 0) w fun x16 =>
    OPU Tryz.prog (Instr.storeAt 3 x16 (u2 1)) w fun w =>
    RD Tryz.prog (bin .add 3 (.tmp 0) (.const undef) (u2 1) (Value.int .i64 1)) w fun x18 =>
    RD Tryz.prog (Instr.indexAt 35 a0 (u2 5)) w fun x22 =>
    RD Tryz.prog (Instr.fieldAt 135 x22 1) w fun x23 =>
    OPU Tryz.prog (Instr.storeAt 3 x23 x18) w fun w =>
    RD Tryz.prog (bin .add 3 (.tmp 0) (.const undef) x18 (Value.int .i64 1)) w fun x25 =>
    RD Tryz.prog (Instr.indexAt 35 a0 (u2 5)) w fun x29 =>
    RD Tryz.prog (Instr.fieldAt 135 x29 2) w fun x30 =>
    RD Tryz.prog (Instr.fieldAt 133 x30 0) w fun x31 =>
    OPU Tryz.prog (Instr.storeAt 3 x31 x25) w fun w =>
    RD Tryz.prog (bin .add 3 (.tmp 0) (.const undef) x25 (Value.int .i64 1)) w fun x33 =>
    RD Tryz.prog (Instr.indexAt 35 a0 (u2 5)) w fun x37 =>
    RD Tryz.prog (Instr.fieldAt 135 x37 2) w fun x38 =>
    RD Tryz.prog (Instr.fieldAt 133 x38 1) w fun x39 =>
    OPU Tryz.prog (Instr.storeAt 3 x39 x33) w fun w =>
    RD Tryz.prog (bin .add 3 (.tmp 0) (.const undef) x33 (Value.int .i64 1)) w fun x41 =>
    CALL Tryz.prog 129 [x41] w fun x45 w =>
    RD Tryz.prog (Instr.indexAt 35 a0 (u2 5)) w fun x46 =>
    RD Tryz.prog (Instr.fieldAt 135 x46 2) w fun x47 =>
    RD Tryz.prog (Instr.fieldAt 133 x47 2) w fun x48 =>
    OPU Tryz.prog (Instr.storeAt 9 x48 x45) w fun w =>
    RD Tryz.prog (bin .add 3 (.tmp 0) (.const undef) x41 (Value.int .i64 1)) w fun x50 =>
    RD Tryz.prog (Instr.indexAt 35 a0 (u2 5)) w fun x53 =>
    RD Tryz.prog (Instr.fieldAt 135 x53 2) w fun x54 =>
    RD Tryz.prog (Instr.fieldAt 133 x54 3) w fun x55 =>
    RD Tryz.prog (Instr.loadAt 131 x55) w fun x56 =>
    CALL Tryz.prog 130 [x56, x50] w fun x58 w =>
    RD Tryz.prog (Instr.indexAt 35 a0 (u2 5)) w fun x62 =>
    RD Tryz.prog (Instr.fieldAt 135 x62 3) w fun x63 =>
    OPU Tryz.prog (Instr.storeAt 3 x63 x58) w fun w =>
    RD Tryz.prog (bin .add 3 (.tmp 0) (.const undef) x58 (Value.int .i64 1)) w fun x65 =>
    RD Tryz.prog (bin .add 3 (.tmp 0) (.const undef) (u2 5) (Value.int .i64 1)) w fun x11 =>
    next2 [x65, x11] w)
    (R (u2 1) w)
def cfg78 : Cfg := { ext := extL, joins := [], loops := [(2, 73786976294838206434, [1, 5])], draws := [], pars := [] }
theorem F78_eq (a0 a1 : Value) (w : World) (R : Value → World → Prop) : vcF Tryz.prog cfg78 Tryz.f78 [a0, a1] w R = F78 a0 a1 w R := by kernel_rfl
theorem F78_call {a0 a1 : Value} {w : World} {R : Value → World → Prop} (h : F78 a0 a1 w R) : CALL Tryz.prog 78 [a0, a1] w R :=
  call_of (g := cfg78) ent mixed Tryz.func78 (Nat.le_of_ble_eq_true (by kernel_rfl)) (by kernel_rfl) (F78_eq a0 a1 w R ▸ h)

/-- laws.markCode -/
def F22 (a0 a1 : Value) (w : World) (R : Value → World → Prop) : Prop :=
  OP Tryz.prog (Instr.box 37 a0) w fun x2 w =>
  RD Tryz.prog (Instr.fieldAt 37 x2 0) w fun x5 =>
  RD Tryz.prog (Instr.loadAt 22 x5) w fun x6 =>
  CALL Tryz.prog 77 [x6, a1] w fun x8 w =>
  RD Tryz.prog (Instr.fieldAt 37 x2 1) w fun x9 =>
  RD Tryz.prog (Instr.loadAt 22 x9) w fun x10 =>
  CALL Tryz.prog 77 [x10, x8] w fun x12 w =>
  RD Tryz.prog (Instr.fieldAt 37 x2 2) w fun x13 =>
  RD Tryz.prog (Instr.loadAt 22 x13) w fun x14 =>
  CALL Tryz.prog 77 [x14, x12] w fun x16 w =>
  RD Tryz.prog (Instr.fieldAt 37 x2 3) w fun x17 =>
  RD Tryz.prog (Instr.loadAt 23 x17) w fun x18 =>
  CALL Tryz.prog 33 [x18, x16] w fun x20 w =>
  RD Tryz.prog (Instr.fieldAt 37 x2 4) w fun x21 =>
  RD Tryz.prog (Instr.loadAt 35 x21) w fun x22 =>
  CALL Tryz.prog 78 [x22, x20] w fun x24 w =>
  R x24 w
def cfg22 : Cfg := { ext := extL, joins := [], loops := [], draws := [], pars := [] }
theorem F22_eq (a0 a1 : Value) (w : World) (R : Value → World → Prop) : vcF Tryz.prog cfg22 Tryz.f22 [a0, a1] w R = F22 a0 a1 w R := by kernel_rfl
theorem F22_call {a0 a1 : Value} {w : World} {R : Value → World → Prop} (h : F22 a0 a1 w R) : CALL Tryz.prog 22 [a0, a1] w R :=
  call_of (g := cfg22) ent mixed Tryz.func22 (Nat.le_of_ble_eq_true (by kernel_rfl)) (by kernel_rfl) (F22_eq a0 a1 w R ▸ h)

/-- laws.markIntSS -/
def F59 (a0 a1 : Value) (w : World) (R : Value → World → Prop) : Prop :=
  LOOPI [1, 5] [a1, (Value.int .i64 0)] w fun u2 w next2 =>
   RD Tryz.prog (Builtin.len_ #[27] 3 [a0].toArray) w fun x8 =>
   RD Tryz.prog (bin .lss 3 (.tmp 0) (.tmp 0) (u2 5) x8) w fun x9 =>
   BR x9
    (RD Tryz.prog (Instr.indexAt 27 a0 (u2 5)) w fun x14 =>
    RD Tryz.prog (Instr.loadAt 23 x14) w fun x15 =>
    CALL Tryz.prog 33 [x15, (u2 1)] w fun x17 w =>
    RD Tryz.prog (bin .add 3 (.tmp 0) (.const undef) (u2 5) (Value.int .i64 1)) w fun x11 =>
    next2 [x17, x11] w)
    (R (u2 1) w)
def cfg59 : Cfg := { ext := extL, joins := [], loops := [(2, 262114, [1, 5])], draws := [], pars := [] }
theorem F59_eq (a0 a1 : Value) (w : World) (R : Value → World → Prop) : vcF Tryz.prog cfg59 Tryz.f59 [a0, a1] w R = F59 a0 a1 w R := by kernel_rfl
theorem F59_call {a0 a1 : Value} {w : World} {R : Value → World → Prop} (h : F59 a0 a1 w R) : CALL Tryz.prog 59 [a0, a1] w R :=
  call_of (g := cfg59) ent mixed Tryz.func59 (Nat.le_of_ble_eq_true (by kernel_rfl)) (by kernel_rfl) (F59_eq a0 a1 w R ▸ h)

/-- laws.heldIntSS -/
def F60 (a0 a1 : Value) (w : World) (R : Value → World → Prop) : Prop :=
  LOOPI [1, 5] [a1, (Value.int .i64 0)] w fun u2 w next2 =>
   RD Tryz.prog (Builtin.len_ #[27] 3 [a0].toArray) w fun x8 =>
   RD Tryz.prog (bin .lss 3 (.tmp 0) (.tmp 0) (u2 5) x8) w fun x9 =>
   BR x9
    (RD Tryz.prog (Instr.indexAt 27 a0 (u2 5)) w fun x14 =>
    RD Tryz.prog (Instr.loadAt 23 x14) w fun x15 =>
    CALL Tryz.prog 34 [x15, (u2 1)] w fun x17 w =>
    RD Tryz.prog (bin .lss 3 (.tmp 0) (.const undef) x17 (Value.int .i64 0)) w fun x19 =>
    BR x19
     (R (Value.int .i64 (-1)) w)
     (RD Tryz.prog (bin .add 3 (.tmp 0) (.const undef) (u2 5) (Value.int .i64 1)) w fun x11 =>
     next2 [x17, x11] w))
    (R (u2 1) w)
def cfg60 : Cfg := { ext := extL, joins := [], loops := [(2, 1048562, [1, 5])], draws := [], pars := [] }
theorem F60_eq (a0 a1 : Value) (w : World) (R : Value → World → Prop) : vcF Tryz.prog cfg60 Tryz.f60 [a0, a1] w R = F60 a0 a1 w R := by kernel_rfl
theorem F60_call {a0 a1 : Value} {w : World} {R : Value → World → Prop} (h : F60 a0 a1 w R) : CALL Tryz.prog 60 [a0, a1] w R :=
  call_of (g := cfg60) ent mixed Tryz.func60 (Nat.le_of_ble_eq_true (by kernel_rfl)) (by kernel_rfl) (F60_eq a0 a1 w R ▸ h)

/-- laws.markState -/
def F23 (a0 a1 : Value) (w : World) (R : Value → World → Prop) : Prop :=
  OP Tryz.prog (Instr.box 32 a0) w fun x2 w =>
  RD Tryz.prog (Instr.fieldAt 32 x2 0) w fun x5 =>
  RD Tryz.prog (Instr.loadAt 23 x5) w fun x6 =>
  CALL Tryz.prog 33 [x6, a1] w fun x8 w =>
  RD Tryz.prog (Instr.fieldAt 32 x2 1) w fun x9 =>
  RD Tryz.prog (Instr.loadAt 23 x9) w fun x10 =>
  CALL Tryz.prog 33 [x10, x8] w fun x12 w =>
  RD Tryz.prog (Instr.fieldAt 32 x2 2) w fun x13 =>
  RD Tryz.prog (Instr.loadAt 27 x13) w fun x14 =>
  CALL Tryz.prog 59 [x14, x12] w fun x16 w =>
  R x16 w
def cfg23 : Cfg := { ext := extL, joins := [], loops := [], draws := [], pars := [] }
theorem F23_eq (a0 a1 : Value) (w : World) (R : Value → World → Prop) : vcF Tryz.prog cfg23 Tryz.f23 [a0, a1] w R = F23 a0 a1 w R := by kernel_rfl
theorem F23_call {a0 a1 : Value} {w : World} {R : Value → World → Prop} (h : F23 a0 a1 w R) : CALL Tryz.prog 23 [a0, a1] w R :=
  call_of (g := cfg23) ent mixed Tryz.func23 (Nat.le_of_ble_eq_true (by kernel_rfl)) (by kernel_rfl) (F23_eq a0 a1 w R ▸ h)

/-- laws.heldState -/
def F24 (a0 a1 : Value) (w : World) (R : Value → World → Prop) : Prop :=
  OP Tryz.prog (Instr.box 32 a0) w fun x2 w =>
  RD Tryz.prog (Instr.fieldAt 32 x2 0) w fun x5 =>
  RD Tryz.prog (Instr.loadAt 23 x5) w fun x6 =>
  CALL Tryz.prog 34 [x6, a1] w fun x8 w =>
  RD Tryz.prog (bin .lss 3 (.tmp 0) (.const undef) x8 (Value.int .i64 0)) w fun x10 =>
  BR x10
   (R (Value.int .i64 (-1)) w)
   (RD Tryz.prog (Instr.fieldAt 32 x2 1) w fun x11 =>
   RD Tryz.prog (Instr.loadAt 23 x11) w fun x12 =>
   CALL Tryz.prog 34 [x12, x8] w fun x14 w =>
   RD Tryz.prog (bin .lss 3 (.tmp 0) (.const undef) x14 (Value.int .i64 0)) w fun x16 =>
   BR x16
    (R (Value.int .i64 (-1)) w)
    (RD Tryz.prog (Instr.fieldAt 32 x2 2) w fun x17 =>
    RD Tryz.prog (Instr.loadAt 27 x17) w fun x18 =>
    CALL Tryz.prog 60 [x18, x14] w fun x20 w =>
    RD Tryz.prog (bin .lss 3 (.tmp 0) (.const undef) x20 (Value.int .i64 0)) w fun x22 =>
    BR x22
     (R (Value.int .i64 (-1)) w)
     (R x20 w)))
def cfg24 : Cfg := { ext := extL, joins := [], loops := [], draws := [], pars := [] }
theorem F24_eq (a0 a1 : Value) (w : World) (R : Value → World → Prop) : vcF Tryz.prog cfg24 Tryz.f24 [a0, a1] w R = F24 a0 a1 w R := by kernel_rfl
theorem F24_call {a0 a1 : Value} {w : World} {R : Value → World → Prop} (h : F24 a0 a1 w R) : CALL Tryz.prog 24 [a0, a1] w R :=
  call_of (g := cfg24) ent mixed Tryz.func24 (Nat.le_of_ble_eq_true (by kernel_rfl)) (by kernel_rfl) (F24_eq a0 a1 w R ▸ h)

set_option linter.unusedVariables false
set_option linter.unusedSimpArgs false

theorem markText_ok {w : World} {k : Int} (hk : k ≤ 4611686018427387904) :
    CALL Tryz.prog 129 [.int .i64 k] w fun r w' => Ext w w' ∧ ∃ s, r = .string s ∧ s.size ≤ maxLen := by
  refine F129_call ?_
  unfold F129
  refine rd_leq ?_
  refine br (fun h => ?_) (fun h => ?_)
  · exact ⟨Ext.refl w, _, rfl, by rw [maxLen_eq]; decide⟩
  · have hk19 : k < 10 ^ (19 - 0) := by
      have : (10 : Int) ^ (19 - 0) = 10000000000000000000 := by decide
      omega
    refine loopC 19 (fun j us w' => ∃ (q : Int) (s : ByteArray), us = [.int .i64 q, .string s] ∧ Ext w w' ∧ 0 ≤ q ∧ q < 10 ^ (19 - j) ∧ s.size = j) 0 (by omega) ⟨k, _, rfl, Ext.refl w, by omega, hk19, rfl⟩ ?_
    rintro j m u w2 hkm ⟨q, s, hu, hx2, hq0, hq1, hs⟩
    simp only [List.map_cons, List.map_nil, List.cons.injEq, and_true] at hu
    obtain ⟨hu1, hu2⟩ := hu
    rw [hu1, hu2]
    have hj : 0 < q → j < 19 := fun h => by
      rcases Nat.lt_or_ge j 19 with h' | h'
      · exact h'
      · rw [show 19 - j = 0 by omega] at hq1; simp at hq1; omega
    have hb : q < 10000000000000000000 := by
      have h2 : (10 : Int) ^ (19 - j) ≤ 10 ^ 19 := by
        have h3 : (10 : Nat) ^ (19 - j) ≤ 10 ^ 19 := Nat.pow_le_pow_right (by omega) (by omega)
        have h4 := Int.ofNat_le.2 h3
        simpa using h4
      have h3 : (10 : Int) ^ 19 = 10000000000000000000 := by decide
      omega
    refine rd_gtr ?_
    refine br (fun h1 => ?_) (fun h1 => ?_)
    · have hj := hj h1
      refine rd_rem (by omega) ?_
      have hm : q.tmod 10 = q % 10 := Int.tmod_eq_emod_of_nonneg hq0
      rw [hm]
      refine rd_add (by unfold I64; omega) ?_
      obtain ⟨n, hn⟩ : ∃ n : Nat, 48 + q % 10 = (n : Int) := ⟨(48 + q % 10).toNat, by omega⟩
      rw [hn]
      refine rd_byte (by kernel_rfl) u5 (by omega) ?_
      refine op_build1I (α := UInt8) u198 ty5 z5 (by decide) (ownI_u8 (lo := w2.heap.size) (hi := w2.heap.size)) (by omega) fun v3 w3 hx3 o3 => ?_
      refine rd_bytesStr u198 u5 u9 o3.is (Ext.refl w3) ?_
      have hone : ByteArray.size ⟨[UInt8.ofNat n].toArray⟩ = 1 := rfl
      refine rd_addS (by omega) ?_
      have hd : q.tdiv 10 = q / 10 := Int.tdiv_eq_ediv_of_nonneg hq0
      refine rd_quo (by omega) (by rw [hd]; unfold I64; omega) ?_
      rw [hd]
      refine ⟨m - 1, by omega, j + 1, by omega, q / 10, _, rfl, hx2.trans hx3, by omega, ?_, by rw [ByteArray.size_append]; omega⟩
      rw [show 19 - j = (19 - (j + 1)) + 1 by omega, Int.pow_succ] at hq1
      omega
    · refine rd_addS (by have : (ByteArray.mk #[109]).size = 1 := rfl
                         omega) ?_
      have hj19 : j ≤ 19 := by omega
      exact ⟨hx2, _, rfl, by rw [maxLen_eq, ByteArray.size_append]; have : (ByteArray.mk #[109]).size = 1 := rfl
                             omega⟩
theorem markStringS_ok {w : World} {F : List Nat} {v : Value} {l : List ByteArray} {k : Int} (h : Mine F w v l) (hn : l.length ≤ 1048576) (hk0 : 0 ≤ k) (hk1 : k ≤ 1152921504606846976) :
    CALL Tryz.prog 77 [v, .int .i64 k] w fun r w' => r = .int .i64 (k + l.length) ∧ Chg F w w' ∧ ∃ F', ∃ l' : List ByteArray, Mine F' w' v l' ∧ (∀ b ∈ F', b ∈ F) ∧ l'.length = l.length := by
  refine F77_call ?_
  unfold F77
  refine loopC l.length (fun i us w' => us = [.int .i64 (k + i), .int .i64 (i : Int)] ∧ Chg F w w' ∧ ∃ F', ∃ cur : List ByteArray, Mine F' w' v cur ∧ (∀ b ∈ F', b ∈ F) ∧ cur.length = l.length) 0 (Nat.zero_le _) ⟨by simp, Chg.refl _ _, F, l, h, fun _ h => h, rfl⟩ ?_
  rintro i m u w2 hkm ⟨hu, hc2, F', cur, hm2, hF', hlen⟩
  simp only [List.map_cons, List.map_nil, List.cons.injEq, and_true] at hu
  obtain ⟨hu1, hu2⟩ := hu
  rw [hu1, hu2]
  refine rd_len u22 hm2.is ?_
  rw [hlen]
  refine rd_lss ?_
  refine br (fun hlt => ?_) (fun hge => ?_)
  · have hi : i < l.length := by omega
    refine (markText_ok (by omega)).mono ?_
    rintro _ w3 ⟨hx3, s, rfl, hs⟩
    refine rd_focus u22 ty9 (hm2.ext hx3) (by omega) fun b o G hL => ?_
    refine opu_lensF ty9 hL (mine_str hs) fun w4 F4 hc4 hm4 hF4 => ?_
    refine rd_add (by unfold I64; omega) ?_
    refine rd_inc (by omega) ?_
    exact ⟨m - 1, by omega, i + 1, by omega, by simp [Int.add_assoc], (hc2.trans (hx3.chg F)).sub hc4 hF', F4, _, hm4, fun b hb => hF' b (hF4 b hb), by simp [hlen]⟩
  · have : i = l.length := by omega
    subst this
    exact ⟨rfl, hc2, F', cur, hm2, hF', hlen⟩
def MarkTS (l : List DTerm) : Prop := ∀ {w : World} {F : List Nat} {v : Value} {k : Int}, Mine F w v l → wTs l ≤ 1048576 → 0 ≤ k → k + 3 * wTs l ≤ 1152921504606846976 →
  CALL Tryz.prog 130 [v, .int .i64 k] w fun r w' => ∃ n : Int, r = .int .i64 n ∧ k ≤ n ∧ n ≤ k + 3 * wTs l ∧ Chg F w w' ∧ ∃ F', ∃ l' : List DTerm, Mine F' w' v l' ∧ (∀ b ∈ F', b ∈ F) ∧ l'.length = l.length
theorem markTS_step {l : List DTerm} (ih : ∀ t ∈ l, MarkTS t.kids) : MarkTS l := by
  intro w F v k h hn hk0 hk1
  rw [wTs_eq] at hn hk1 ⊢
  refine F130_call ?_
  unfold F130
  refine loopC l.length (fun i us w' => ∃ q : Int, us = [.int .i64 q, .int .i64 (i : Int)] ∧ Chg F w w' ∧ k ≤ q ∧ q ≤ k + 3 * (i + sm wT (l.take i) : Nat) ∧ ∃ F', ∃ cur : List DTerm, Mine F' w' v cur ∧ (∀ b ∈ F', b ∈ F) ∧ RestL i cur l) 0 (Nat.zero_le _) ⟨k, rfl, Chg.refl _ _, by omega, by simp [sm], F, l, h, fun _ h => h, rfl, fun _ _ => rfl⟩ ?_
  rintro i m u w2 hkm ⟨q, hu, hc2, hq0, hq1, F', cur, hm2, hF', hr⟩
  simp only [List.map_cons, List.map_nil, List.cons.injEq, and_true] at hu
  obtain ⟨hu1, hu2⟩ := hu
  rw [hu1, hu2]
  have hlen := hr.1
  refine rd_len u131 hm2.is ?_
  rw [hlen]
  refine rd_lss ?_
  refine br (fun hlt => ?_) (fun hge => ?_)
  · have hi : i < l.length := by omega
    have hsum := sm_take wT hi
    have hle : sm wT (l.take (i + 1)) ≤ sm wT l := by
      conv => rhs; rw [← List.take_append_drop (i + 1) l]
      unfold sm
      rw [List.map_append, List.sum_append]
      omega
    have hwi := wT_eq l[i]
    have hK := hr.keepF (f := DTerm.kids) hi
    refine st_fld (α := DTerm) (β := Int) (sel := DTerm.kind) (g := fun a y => .mk y a.num a.name a.kids) u131 ty133 fd133_0 ty3 (fun h => lens_DTerm_0 h) hm2 (by omega) (mine_int (by unfold I64; omega)) fun w3 F3 hc3 hm3 hF3 => ?_
    replace hK := hK.set (x := .mk q cur[i].num cur[i].name cur[i].kids) fun _ => rfl
    generalize hcur3 : cur.set i (.mk q cur[i].num cur[i].name cur[i].kids) = cur3 at hm3 hK
    clear hcur3
    refine rd_add (by unfold I64; omega) ?_
    refine st_fld (α := DTerm) (β := Int) (sel := DTerm.num) (g := fun a y => .mk a.kind y a.name a.kids) u131 ty133 fd133_1 ty3 (fun h => lens_DTerm_1 h) hm3 hK.2.1 (mine_int (by unfold I64; omega)) fun w4 F4 hc4 hm4 hF4 => ?_
    replace hK := hK.set (x := .mk (cur3[i]'hK.2.1).kind (q + 1) (cur3[i]'hK.2.1).name (cur3[i]'hK.2.1).kids) fun _ => rfl
    generalize hcur4 : cur3.set i _ = cur4 at hm4 hK
    clear hcur4
    refine rd_add (by unfold I64; omega) ?_
    refine (markText_ok (by omega)).mono ?_
    rintro _ w5 ⟨hx5, s, rfl, hs⟩
    refine st_fld (α := DTerm) (β := ByteArray) (sel := DTerm.name) (g := fun a y => .mk a.kind a.num y a.kids) u131 ty133 fd133_2 ty9 (fun h => lens_DTerm_2 h) (hm4.ext hx5) hK.2.1 (mine_str hs) fun w6 F6 hc6 hm6 hF6 => ?_
    replace hK := hK.set (x := .mk (cur4[i]'hK.2.1).kind (cur4[i]'hK.2.1).num s (cur4[i]'hK.2.1).kids) fun _ => rfl
    generalize hcur6 : cur4.set i _ = cur6 at hm6 hK
    clear hcur6
    refine rd_add (by unfold I64; omega) ?_
    refine rd_focus u131 ty133 hm6 hK.2.1 fun b o G hL => ?_
    refine rd_fld fd133_3 ?_
    obtain ⟨G1, hL1⟩ := lens_DTerm_3 hL
    refine rd_lens_row ty131 hL1 fun u7 hM7 hG7 hb7 => ?_
    obtain ⟨hR, hi6, _, hkids⟩ := hK
    rw [hkids] at hM7
    have hF26 : ∀ c ∈ F6, c ∈ F' := fun c hc => hF3 c (hF4 c (hF6 c hc))
    refine (ih l[i] (List.getElem_mem hi) hM7 (by omega) (by omega) (by omega)).mono ?_
    rintro _ w8 ⟨n, rfl, hn0, hn1, hc8, F8, l8, hm8, hF8, hl8⟩
    obtain ⟨F9, hm9, hF9⟩ := hb7 w8 F8 l8 hc8 hm8 fun c hc => .inl (hF8 c hc)
    refine rd_inc (by omega) ?_
    have hc26 : Chg F' w2 w6 := ((hc3.sub hc4 hF3).trans (hx5.chg F')).sub hc6 fun c hc => hF3 c (hF4 c hc)
    have hc28 : Chg F' w2 w8 := hc26.sub hc8 fun c hc => hF26 c (hG7 c hc)
    refine ⟨m - 1, by omega, i + 1, by omega, n, rfl, hc2.sub hc28 hF', by omega, by omega, F9, _, hm9, fun c hc => ?_, hR.set1 _⟩
    rcases hF9 c hc with h | h
    · exact hF' c (hF26 c h)
    · exact hF' c (hF26 c (hG7 c (hF8 c h)))
  · have : i = l.length := by omega
    subst this
    rw [List.take_length] at hq1
    exact ⟨q, rfl, hq0, by omega, hc2, F', cur, hm2, hF', hlen⟩
theorem markTS_ok (t : DTerm) : MarkTS t.kids := DTerm.ind (p := fun t => MarkTS t.kids) (fun t ih => markTS_step ih) t
theorem markTermS_ok (l : List DTerm) : MarkTS l := markTS_ok (.mk 0 0 ByteArray.empty l)
theorem markInsS_ok {w : World} {F : List Nat} {v : Value} {l : List DIns} {k : Int} (h : Mine F w v l) (hn : wIns l ≤ 1048576) (hk0 : 0 ≤ k) (hk1 : k ≤ 1000000000000000000) :
    CALL Tryz.prog 78 [v, .int .i64 k] w fun r w' => ∃ n : Int, r = .int .i64 n ∧ k ≤ n ∧ n ≤ k + 6 * wIns l ∧ Chg F w w' ∧ ∃ F', ∃ l' : List DIns, Mine F' w' v l' ∧ (∀ b ∈ F', b ∈ F) ∧ l'.length = l.length := by
  unfold wIns at hn ⊢
  refine F78_call ?_
  unfold F78
  refine loopC l.length (fun i us w' => ∃ q : Int, us = [.int .i64 q, .int .i64 (i : Int)] ∧ Chg F w w' ∧ k ≤ q ∧ q ≤ k + 6 * (i + sm (fun i => wT i.term) (l.take i) : Nat) ∧ ∃ F', ∃ cur : List DIns, Mine F' w' v cur ∧ (∀ b ∈ F', b ∈ F) ∧ RestL i cur l) 0 (Nat.zero_le _) ⟨k, rfl, Chg.refl _ _, by omega, by simp [sm], F, l, h, fun _ h => h, rfl, fun _ _ => rfl⟩ ?_
  rintro i m u w2 hkm ⟨q, hu, hc2, hq0, hq1, F', cur, hm2, hF', hr⟩
  simp only [List.map_cons, List.map_nil, List.cons.injEq, and_true] at hu
  obtain ⟨hu1, hu2⟩ := hu
  rw [hu1, hu2]
  have hlen := hr.1
  refine rd_len u35 hm2.is ?_
  rw [hlen]
  refine rd_lss ?_
  refine br (fun hlt => ?_) (fun hge => ?_)
  · have hi : i < l.length := by omega
    have hsum := sm_take (fun i : DIns => wT i.term) hi
    have hle : sm (fun i : DIns => wT i.term) (l.take (i + 1)) ≤ sm (fun i : DIns => wT i.term) l := by
      conv => rhs; rw [← List.take_append_drop (i + 1) l]
      unfold sm
      rw [List.map_append, List.sum_append]
      omega
    have hwi := wT_eq l[i].term
    have hK := hr.keepF (f := fun a : DIns => a.term.kids) hi
    refine st_fld (α := DIns) (β := Int) (sel := DIns.op) (g := fun a y => ⟨y, a.arg, a.term, a.to⟩) u35 ty135 fd135_0 ty3 (fun h => lens_DIns_0 h) hm2 hK.2.1 (mine_int (by unfold I64; omega)) fun w3 F3 hc3 hm3 hF3 => ?_
    replace hK := hK.set (x := ⟨q, (cur[i]'hK.2.1).arg, (cur[i]'hK.2.1).term, (cur[i]'hK.2.1).to⟩) fun _ => rfl
    generalize hcur3 : cur.set i _ = cur3 at hm3 hK
    clear hcur3
    refine rd_add (by unfold I64; omega) ?_
    refine st_fld (α := DIns) (β := Int) (sel := DIns.arg) (g := fun a y => ⟨a.op, y, a.term, a.to⟩) u35 ty135 fd135_1 ty3 (fun h => lens_DIns_1 h) hm3 hK.2.1 (mine_int (by unfold I64; omega)) fun w4 F4 hc4 hm4 hF4 => ?_
    replace hK := hK.set (x := ⟨(cur3[i]'hK.2.1).op, q + 1, (cur3[i]'hK.2.1).term, (cur3[i]'hK.2.1).to⟩) fun _ => rfl
    generalize hcur4 : cur3.set i _ = cur4 at hm4 hK
    clear hcur4
    refine rd_add (by unfold I64; omega) ?_
    refine st_fld2 (α := DIns) (β := Int) (sel := fun a => a.term.kind) (g := fun a y => ⟨a.op, a.arg, .mk y a.term.num a.term.name a.term.kids, a.to⟩) u35 ty135 fd135_2 fd133_0 ty3 (fun h => by obtain ⟨G1, h1⟩ := lens_DIns_2 h; exact lens_DTerm_0 h1) hm4 hK.2.1 (mine_int (by unfold I64; omega)) fun w5 F5 hc5 hm5 hF5 => ?_
    replace hK := hK.set (x := ⟨(cur4[i]'hK.2.1).op, (cur4[i]'hK.2.1).arg, .mk (q + 1 + 1) (cur4[i]'hK.2.1).term.num (cur4[i]'hK.2.1).term.name (cur4[i]'hK.2.1).term.kids, (cur4[i]'hK.2.1).to⟩) fun _ => rfl
    generalize hcur5 : cur4.set i _ = cur5 at hm5 hK
    clear hcur5
    refine rd_add (by unfold I64; omega) ?_
    refine st_fld2 (α := DIns) (β := Int) (sel := fun a => a.term.num) (g := fun a y => ⟨a.op, a.arg, .mk a.term.kind y a.term.name a.term.kids, a.to⟩) u35 ty135 fd135_2 fd133_1 ty3 (fun h => by obtain ⟨G1, h1⟩ := lens_DIns_2 h; exact lens_DTerm_1 h1) hm5 hK.2.1 (mine_int (by unfold I64; omega)) fun w6 F6 hc6 hm6 hF6 => ?_
    replace hK := hK.set (x := ⟨(cur5[i]'hK.2.1).op, (cur5[i]'hK.2.1).arg, .mk (cur5[i]'hK.2.1).term.kind (q + 1 + 1 + 1) (cur5[i]'hK.2.1).term.name (cur5[i]'hK.2.1).term.kids, (cur5[i]'hK.2.1).to⟩) fun _ => rfl
    generalize hcur6 : cur5.set i _ = cur6 at hm6 hK
    clear hcur6
    refine rd_add (by unfold I64; omega) ?_
    refine (markText_ok (by omega)).mono ?_
    rintro _ w7 ⟨hx7, s, rfl, hs⟩
    refine st_fld2 (α := DIns) (β := ByteArray) (sel := fun a => a.term.name) (g := fun a y => ⟨a.op, a.arg, .mk a.term.kind a.term.num y a.term.kids, a.to⟩) u35 ty135 fd135_2 fd133_2 ty9 (fun h => by obtain ⟨G1, h1⟩ := lens_DIns_2 h; exact lens_DTerm_2 h1) (hm6.ext hx7) hK.2.1 (mine_str hs) fun w8 F8 hc8 hm8 hF8 => ?_
    replace hK := hK.set (x := ⟨(cur6[i]'hK.2.1).op, (cur6[i]'hK.2.1).arg, .mk (cur6[i]'hK.2.1).term.kind (cur6[i]'hK.2.1).term.num s (cur6[i]'hK.2.1).term.kids, (cur6[i]'hK.2.1).to⟩) fun _ => rfl
    generalize hcur8 : cur6.set i _ = cur8 at hm8 hK
    clear hcur8
    refine rd_add (by unfold I64; omega) ?_
    refine rd_focus u35 ty135 hm8 hK.2.1 fun b o G hL => ?_
    refine rd_fld fd135_2 ?_
    refine rd_fld fd133_3 ?_
    obtain ⟨G0, hL0⟩ := lens_DIns_2 hL
    obtain ⟨G1, hL1⟩ := lens_DTerm_3 hL0
    refine rd_lens_row ty131 hL1 fun u9 hM9 hG9 hb9 => ?_
    obtain ⟨hR, hi8, _, hkids⟩ := hK
    have hkids' : (cur8[i]'hi8).term.kids = l[i].term.kids := hkids
    rw [hkids'] at hM9
    have hF28 : ∀ c ∈ F8, c ∈ F' := fun c hc => hF3 c (hF4 c (hF5 c (hF6 c (hF8 c hc))))
    refine (markTermS_ok _ hM9 (by omega) (by omega) (by omega)).mono ?_
    rintro _ w10 ⟨n, rfl, hn0, hn1, hc10, F10, l10, hm10, hF10, hl10⟩
    obtain ⟨F11, hm11, hF11⟩ := hb9 w10 F10 l10 hc10 hm10 fun c hc => .inl (hF10 c hc)
    have hF211 : ∀ c ∈ F11, c ∈ F' := fun c hc => by
      rcases hF11 c hc with h | h
      · exact hF28 c h
      · exact hF28 c (hG9 c (hF10 c h))
    replace hR := hR.set1 (⟨(cur8[i]'hi8).op, (cur8[i]'hi8).arg, .mk (cur8[i]'hi8).term.kind (cur8[i]'hi8).term.num (cur8[i]'hi8).term.name l10, (cur8[i]'hi8).to⟩ : DIns)
    have hi11 : i < (cur8.set i (⟨(cur8[i]'hi8).op, (cur8[i]'hi8).arg, .mk (cur8[i]'hi8).term.kind (cur8[i]'hi8).term.num (cur8[i]'hi8).term.name l10, (cur8[i]'hi8).to⟩ : DIns)).length := by simpa using hi8
    generalize hcur11 : cur8.set i _ = cur11 at hm11 hR hi11
    clear hcur11
    have hc28 : Chg F' w2 w8 := (((((hc3.sub hc4 hF3).sub hc5 fun c hc => hF3 c (hF4 c hc)).sub hc6 fun c hc => hF3 c (hF4 c (hF5 c hc)))).trans (hx7.chg F')).sub hc8 fun c hc => hF3 c (hF4 c (hF5 c (hF6 c hc)))
    have hc210 : Chg F' w2 w10 := hc28.sub hc10 fun c hc => hF28 c (hG9 c hc)
    refine st_fld (α := DIns) (β := Int) (sel := DIns.to) (g := fun a y => ⟨a.op, a.arg, a.term, y⟩) u35 ty135 fd135_3 ty3 (fun h => lens_DIns_3 h) hm11 hi11 (mine_int (by unfold I64; omega)) fun w12 F12 hc12 hm12 hF12 => ?_
    refine rd_add (by unfold I64; omega) ?_
    refine rd_inc (by omega) ?_
    exact ⟨m - 1, by omega, i + 1, by omega, n + 1, rfl, hc2.sub (hc210.sub hc12 hF211) hF', by omega, by omega, F12, _, hm12, fun c hc => hF' c (hF211 c (hF12 c hc)), hR.set1 _⟩
  · have : i = l.length := by omega
    subst this
    rw [List.take_length] at hq1
    exact ⟨q, rfl, hq0, by omega, hc2, F', cur, hm2, hF', hlen⟩
/-- the slices of code of one's own -/
theorem mine_code {w : World} {F : List Nat} {v : Value} {c : DCode} (h : Mine F w v c) : ∃ (a0 a1 a2 a3 a4 : Value) (F0 F1 F2 F3 F4 : List Nat), v = .agg #[a0, a1, a2, a3, a4] ∧ F = F0 ++ (F1 ++ (F2 ++ (F3 ++ F4))) ∧ F.Nodup ∧
    Mine F0 w a0 c.globals ∧ Mine F1 w a1 c.locks ∧ Mine F2 w a2 c.procs ∧ Mine F3 w a3 c.entry ∧ Mine F4 w a4 c.ins := by
  obtain ⟨⟨cs, hr, rfl⟩, hn, hw⟩ := h
  obtain ⟨F0, c0, F1, c1, F2, c2, F3, c3, F4, c4, rfl, rfl, h0, h1, h2, h3, h4⟩ := inv_DCode hr
  have n0 := nodup_app hn
  have n1 := nodup_app n0.2.1
  have n2 := nodup_app n1.2.1
  have n3 := nodup_app n2.2.1
  obtain ⟨a0, rfl, m0⟩ := mine_of_rep h0 n0.1 (hw.sub (by simp +contextual))
  obtain ⟨a1, rfl, m1⟩ := mine_of_rep h1 n1.1 (hw.sub (by simp +contextual))
  obtain ⟨a2, rfl, m2⟩ := mine_of_rep h2 n2.1 (hw.sub (by simp +contextual))
  obtain ⟨a3, rfl, m3⟩ := mine_of_rep h3 n3.1 (hw.sub (by simp +contextual))
  obtain ⟨a4, rfl, m4⟩ := mine_of_rep h4 n3.2.1 (hw.sub (by simp +contextual))
  exact ⟨a0, a1, a2, a3, a4, F0, F1, F2, F3, F4, rfl, rfl, hn, m0, m1, m2, m3, m4⟩
theorem markCode_ok {w : World} {lo hi : Nat} {v : Value} {c : DCode} {k : Int} (h : OwnI lo hi w v c) (hn : wCode c ≤ 1048576) (hk0 : 0 ≤ k) (hk1 : k ≤ 100000000000000000) :
    CALL Tryz.prog 22 [v, .int .i64 k] w fun r w' => ∃ n : Int, r = .int .i64 n ∧ (k ≤ n ∧ n ≤ k + 8388608) ∧ ChgI lo hi w w' := by
  obtain ⟨F, hM, hF⟩ := h
  obtain ⟨a0, a1, a2, a3, a4, F0, F1, F2, F3, F4, rfl, rfl, hnd, m0, m1, m2, m3, m4⟩ := mine_code hM
  unfold wCode wStr at hn
  have d0 := nodup_app hnd
  have d1 := nodup_app d0.2.1
  have d2 := nodup_app d1.2.1
  have d3 := nodup_app d2.2.1
  refine F22_call ?_
  unfold F22
  refine op_boxB fun w1 hx1 hB1 => ?_
  have hg : ∀ b ∈ F0 ++ (F1 ++ (F2 ++ (F3 ++ F4))), b ≠ w.heap.size := fun b hb e => by have := hM.lt b hb; omega
  refine rd_fld fd37_0 ?_
  refine rd_blkV ty22 hB1 rfl ?_
  refine (markStringS_ok (m0.ext hx1) (by omega) (by omega) (by omega)).mono ?_
  rintro _ w2 ⟨rfl, hc2, _⟩
  have hB2 := hB1.chg hc2 fun hm => hg _ (by simp [hm]) rfl
  have m12 := (m1.ext hx1).chgD hc2 fun b hb h0 => d0.2.2 b h0 (by simp [hb])
  have m22 := (m2.ext hx1).chgD hc2 fun b hb h0 => d0.2.2 b h0 (by simp [hb])
  have m32 := (m3.ext hx1).chgD hc2 fun b hb h0 => d0.2.2 b h0 (by simp [hb])
  have m42 := (m4.ext hx1).chgD hc2 fun b hb h0 => d0.2.2 b h0 (by simp [hb])
  refine rd_fld fd37_1 ?_
  refine rd_blkV ty22 hB2 rfl ?_
  refine (markStringS_ok m12 (by omega) (by omega) (by omega)).mono ?_
  rintro _ w3 ⟨rfl, hc3, _⟩
  have hB3 := hB2.chg hc3 fun hm => hg _ (by simp [hm]) rfl
  have m23 := m22.chgD hc3 fun b hb h0 => d1.2.2 b h0 (by simp [hb])
  have m33 := m32.chgD hc3 fun b hb h0 => d1.2.2 b h0 (by simp [hb])
  have m43 := m42.chgD hc3 fun b hb h0 => d1.2.2 b h0 (by simp [hb])
  refine rd_fld fd37_2 ?_
  refine rd_blkV ty22 hB3 rfl ?_
  refine (markStringS_ok m23 (by omega) (by omega) (by omega)).mono ?_
  rintro _ w4 ⟨rfl, hc4, _⟩
  have hB4 := hB3.chg hc4 fun hm => hg _ (by simp [hm]) rfl
  have m34 := m33.chgD hc4 fun b hb h0 => d2.2.2 b h0 (by simp [hb])
  have m44 := m43.chgD hc4 fun b hb h0 => d2.2.2 b h0 (by simp [hb])
  refine rd_fld fd37_3 ?_
  refine rd_blkV ty23 hB4 rfl ?_
  refine (markIntS_ok m34 (by omega) (by omega) (by omega)).mono ?_
  rintro _ w5 ⟨rfl, hc5, _⟩
  have hB5 := hB4.chg hc5 fun hm => hg _ (by simp [hm]) rfl
  have m45 := m44.chgD hc5 fun b hb h0 => d3.2.2 b h0 hb
  refine rd_fld fd37_4 ?_
  refine rd_blkV ty35 hB5 rfl ?_
  refine (markInsS_ok m45 (by omega) (by omega) (by omega)).mono ?_
  rintro _ w6 ⟨n, rfl, hn0, hn1, hc6, _⟩
  refine ⟨n, rfl, by omega, ?_⟩
  have hc : Chg (F0 ++ (F1 ++ (F2 ++ (F3 ++ F4)))) w w6 := (((((hx1.chg _).sub hc2 (by simp +contextual)).sub hc3 (by simp +contextual)).sub hc4 (by simp +contextual)).sub hc5 (by simp +contextual)).sub hc6 (by simp +contextual)
  exact hc.toI hF
/-- marks in lists of lists, from k on -/
def mkLL (k : Int) : List (List Int) → List (List Int)
  | [] => []
  | x :: r => cnt k x.length :: mkLL (k + x.length) r
theorem mkLL_len (k : Int) (l : List (List Int)) : (mkLL k l).length = l.length := by
  induction l generalizing k with
  | nil => rfl
  | cons x r ih => simp [mkLL, ih]
theorem mkLL_append (k : Int) (l m : List (List Int)) : mkLL k (l ++ m) = mkLL k l ++ mkLL (k + nLL l) m := by
  induction l generalizing k with
  | nil => simp [mkLL, nLL, sm]
  | cons x r ih => simp [mkLL, ih, nLL, sm, Int.add_assoc]
theorem mkLL_get (k : Int) (l : List (List Int)) {i : Nat} (hi : i < l.length) : (mkLL k l)[i]'(by rw [mkLL_len]; exact hi) = cnt (k + nLL (l.take i)) l[i].length := by
  have e : l = l.take i ++ (l[i] :: l.drop (i + 1)) := by simp
  have h1 : (mkLL k l)[i]? = some (cnt (k + nLL (l.take i)) l[i].length) := by
    conv => lhs; rw [e, mkLL_append]
    rw [List.getElem?_append_right (by rw [mkLL_len, List.length_take]; omega)]
    simp [mkLL, mkLL_len, Nat.min_eq_left (Nat.le_of_lt hi)]
  rw [List.getElem?_eq_getElem (by rw [mkLL_len]; exact hi)] at h1
  exact Option.some.inj h1
theorem markIntSS_ok {w : World} {F : List Nat} {v : Value} {l : List (List Int)} {k : Int} (h : Mine F w v l) (hn : l.length + nLL l ≤ 1073741824) (hk0 : 0 ≤ k) (hk1 : k ≤ 1000000000000000000) :
    CALL Tryz.prog 59 [v, .int .i64 k] w fun r w' => r = .int .i64 (k + nLL l) ∧ Chg F w w' ∧ OwnS F w' v (mkLL k l) := by
  refine F59_call ?_
  unfold F59
  refine loopC l.length (fun i us w' => us = [.int .i64 (k + nLL (l.take i)), .int .i64 (i : Int)] ∧ Chg F w w' ∧ OwnS F w' v (mkLL k (l.take i) ++ l.drop i)) 0 (Nat.zero_le _) ⟨by simp [nLL, sm], Chg.refl _ _, by simpa [mkLL] using h.toS⟩ ?_
  rintro i m u w2 hkm ⟨hu, hc2, F', hm2, hF'⟩
  simp only [List.map_cons, List.map_nil, List.cons.injEq, and_true] at hu
  obtain ⟨hu1, hu2⟩ := hu
  rw [hu1, hu2]
  have hlen : (mkLL k (l.take i) ++ l.drop i).length = l.length := by simp [mkLL_len]; omega
  refine rd_len u27 hm2.is ?_
  rw [hlen]
  refine rd_lss ?_
  refine br (fun hlt => ?_) (fun hge => ?_)
  · have hi : i < l.length := by omega
    have h1 := nLL_take hi
    have h2 := nLL_le (l := l) (i + 1)
    refine rd_focus u27 ty23 hm2 (by omega) fun b o G hL => ?_
    refine rd_lens_row ty23 hL fun u3 hM3 hG3 hb3 => ?_
    have hget : (mkLL k (l.take i) ++ l.drop i)[i]'(by omega) = l[i] := by
      rw [List.getElem_append_right (by rw [mkLL_len, List.length_take]; omega)]
      simp [mkLL_len, Nat.min_eq_left (Nat.le_of_lt hi)]
    rw [hget] at hM3
    refine (markIntS_ok hM3 (by omega) (by omega) (by omega)).mono ?_
    rintro _ w3 ⟨rfl, hc3, hm3⟩
    obtain ⟨F4, hm4, hF4⟩ := hb3 w3 G _ hc3 hm3 fun c hc => .inl hc
    refine rd_inc (by omega) ?_
    refine ⟨m - 1, by omega, i + 1, by omega, by rw [h1]; simp [Int.add_assoc], hc2.sub hc3 fun c hc => hF' c (hG3 c hc), F4, ?_, fun c hc => ?_⟩
    · have : (mkLL k (l.take i) ++ l.drop i).set i (cnt (k + nLL (l.take i)) l[i].length) = mkLL k (l.take (i + 1)) ++ l.drop (i + 1) := by
        rw [List.drop_eq_getElem_cons hi, List.set_append_right _ _ (by rw [mkLL_len, List.length_take]; omega), List.take_succ_eq_append_getElem hi, mkLL_append, mkLL_len, List.length_take, Nat.min_eq_left (Nat.le_of_lt hi), Nat.sub_self, List.set_cons_zero]
        simp only [mkLL, List.append_assoc, List.cons_append, List.nil_append]
      rw [← this]; exact hm4
    · rcases hF4 c hc with h | h
      · exact hF' c h
      · exact hF' c (hG3 c h)
  · have : i = l.length := by omega
    subst this
    rw [List.take_length, List.drop_length, List.append_nil] at hm2
    exact ⟨by rw [List.take_length], hc2, F', hm2, hF'⟩
theorem heldIntSS_ok {w w0 : World} {v : Value} {l : List (List Int)} {k : Int} (h : Is w0 v (mkLL k l)) (hx : Ext w0 w) (hn : l.length + nLL l ≤ 1073741824) (hk0 : 0 ≤ k) (hk1 : k ≤ 1000000000000000000) :
    CALL Tryz.prog 60 [v, .int .i64 k] w fun r w' => r = .int .i64 (k + nLL l) ∧ Ext w w' := by
  refine F60_call ?_
  unfold F60
  refine loopC l.length (fun i us w' => us = [.int .i64 (k + nLL (l.take i)), .int .i64 (i : Int)] ∧ Ext w w') 0 (Nat.zero_le _) ⟨by simp [nLL, sm], Ext.refl w⟩ ?_
  rintro i m u w2 hkm ⟨hu, hx2⟩
  simp only [List.map_cons, List.map_nil, List.cons.injEq, and_true] at hu
  obtain ⟨hu1, hu2⟩ := hu
  rw [hu1, hu2]
  refine rd_len u27 h ?_
  rw [mkLL_len]
  refine rd_lss ?_
  refine br (fun hlt => ?_) (fun hge => ?_)
  · have hi : i < l.length := by omega
    have h1 := nLL_take hi
    have h2 := nLL_le (l := l) (i + 1)
    refine rd_indexN u27 ty23 h (by rw [mkLL_len]; exact hi) fun b o hA => ?_
    rw [mkLL_get k l hi] at hA
    refine rd_load ty23 hA (hx.trans hx2) fun v3 h3 => ?_
    refine (heldIntS_ok h3 (hx.trans hx2) (by omega) (by omega) (by omega)).mono ?_
    rintro _ w3 ⟨rfl, hx3⟩
    refine rd_lss ?_
    refine br (fun h => by omega) (fun _ => ?_)
    refine rd_inc (by omega) ?_
    exact ⟨m - 1, by omega, i + 1, by omega, by rw [h1]; simp [Int.add_assoc], hx2.trans hx3⟩
  · have : i = l.length := by omega
    subst this
    exact ⟨by rw [List.take_length], hx2⟩
def nSt (s : DState) : Nat := s.vars.length + s.owner.length + nLL s.stacks
def mkSt (k : Int) (s : DState) : DState := ⟨cnt k s.vars.length, cnt (k + s.vars.length) s.owner.length, mkLL (k + s.vars.length + s.owner.length) s.stacks⟩
theorem mine_state_inv {w : World} {F : List Nat} {v : Value} {s : DState} (h : Mine F w v s) : ∃ (a0 a1 a2 : Value) (F0 F1 F2 : List Nat), v = .agg #[a0, a1, a2] ∧ F = F0 ++ (F1 ++ F2) ∧ F.Nodup ∧
    Mine F0 w a0 s.vars ∧ Mine F1 w a1 s.owner ∧ Mine F2 w a2 s.stacks := by
  obtain ⟨⟨cs, hr, rfl⟩, hn, hw⟩ := h
  obtain ⟨F0, c0, F1, c1, F2, c2, rfl, rfl, h0, h1, h2⟩ := inv_DState hr
  have n0 := nodup_app hn
  have n1 := nodup_app n0.2.1
  obtain ⟨a0, rfl, m0⟩ := mine_of_rep h0 n0.1 (hw.sub (by simp +contextual))
  obtain ⟨a1, rfl, m1⟩ := mine_of_rep h1 n1.1 (hw.sub (by simp +contextual))
  obtain ⟨a2, rfl, m2⟩ := mine_of_rep h2 n1.2.1 (hw.sub (by simp +contextual))
  exact ⟨a0, a1, a2, F0, F1, F2, rfl, rfl, hn, m0, m1, m2⟩
theorem markState_mine {w : World} {F : List Nat} {v : Value} {s : DState} {k : Int} (hM : Mine F w v s) (hn : s.stacks.length + nSt s ≤ 1073741824) (hk0 : 0 ≤ k) (hk1 : k ≤ 100000000000000000) :
    CALL Tryz.prog 23 [v, .int .i64 k] w fun r w' => r = .int .i64 (k + nSt s) ∧ Chg F w w' ∧ OwnS F w' v (mkSt k s) := by
  obtain ⟨a0, a1, a2, F0, F1, F2, rfl, rfl, hnd, m0, m1, m2⟩ := mine_state_inv hM
  unfold nSt at hn
  have d0 := nodup_app hnd
  have d1 := nodup_app d0.2.1
  refine F23_call ?_
  unfold F23
  refine op_boxB fun w1 hx1 hB1 => ?_
  have hg : ∀ b ∈ F0 ++ (F1 ++ F2), b ≠ w.heap.size := fun b hb e => by have := hM.lt b hb; omega
  refine rd_fld fd32_0 ?_
  refine rd_blkV ty23 hB1 rfl ?_
  refine (markIntS_ok (m0.ext hx1) (by omega) (by omega) (by omega)).mono ?_
  rintro _ w2 ⟨rfl, hc2, r0⟩
  have hB2 := hB1.chg hc2 fun hm => hg _ (by simp [hm]) rfl
  have m12 := (m1.ext hx1).chgD hc2 fun b hb h0 => d0.2.2 b h0 (by simp [hb])
  have m22 := (m2.ext hx1).chgD hc2 fun b hb h0 => d0.2.2 b h0 (by simp [hb])
  refine rd_fld fd32_1 ?_
  refine rd_blkV ty23 hB2 rfl ?_
  refine (markIntS_ok m12 (by omega) (by omega) (by omega)).mono ?_
  rintro _ w3 ⟨rfl, hc3, r1⟩
  have hB3 := hB2.chg hc3 fun hm => hg _ (by simp [hm]) rfl
  have m23 := m22.chgD hc3 fun b hb h0 => d1.2.2 b h0 hb
  refine rd_fld fd32_2 ?_
  refine rd_blkV ty27 hB3 rfl ?_
  refine (markIntSS_ok m23 (by omega) (by omega) (by omega)).mono ?_
  rintro _ w4 ⟨rfl, hc4, F4, r2, hF4⟩
  have r03 := (r0.chgD hc3 fun b hb h0 => d0.2.2 b hb (by simp [h0])).chgD hc4 fun b hb h0 => d0.2.2 b hb (by simp [h0])
  have r13 := r1.chgD hc4 fun b hb h0 => d1.2.2 b hb h0
  have hc : Chg (F0 ++ (F1 ++ F2)) w w4 := (((hx1.chg _).sub hc2 (by simp +contextual)).sub hc3 (by simp +contextual)).sub hc4 (by simp +contextual)
  refine ⟨by unfold nSt; simp [Int.add_assoc], hc, F0 ++ (F1 ++ F4), mine_state (s := mkSt k s) r03 r13 r2 ?_, fun b hb => ?_⟩
  · rw [List.nodup_append, List.nodup_append]
    refine ⟨d0.1, ⟨d1.1, r2.nodup, fun a ha b hb e => d1.2.2 a ha (hF4 _ (e ▸ hb))⟩, fun a ha b hb e => ?_⟩
    subst e
    rcases List.mem_append.1 hb with hb | hb
    · exact d0.2.2 a ha (by simp [hb])
    · exact d0.2.2 a ha (by simp [hF4 a hb])
  · rcases List.mem_append.1 hb with hb | hb
    · simp [hb]
    · rcases List.mem_append.1 hb with hb | hb
      · simp [hb]
      · simp [hF4 b hb]
theorem markState_ok {w : World} {lo hi : Nat} {v : Value} {s : DState} {k : Int} (h : OwnI lo hi w v s) (hn : s.stacks.length + nSt s ≤ 1073741824) (hk0 : 0 ≤ k) (hk1 : k ≤ 100000000000000000) :
    CALL Tryz.prog 23 [v, .int .i64 k] w fun r w' => r = .int .i64 (k + nSt s) ∧ ChgI lo hi w w' ∧ OwnI lo hi w' v (mkSt k s) := by
  obtain ⟨F, hM, hF⟩ := h
  exact (markState_mine hM hn hk0 hk1).mono fun r w' ⟨h1, h2, h3⟩ => ⟨h1, h2.toI hF, h3.toI hF⟩
theorem heldState_ok {w w0 : World} {v : Value} {s : DState} {k : Int} (h : Is w0 v (mkSt k s)) (hx : Ext w0 w) (hn : s.stacks.length + nSt s ≤ 1073741824) (hk0 : 0 ≤ k) (hk1 : k ≤ 100000000000000000) :
    CALL Tryz.prog 24 [v, .int .i64 k] w fun r w' => Ext w w' ∧ r = .int .i64 (k + nSt s) := by
  unfold nSt at hn
  refine F24_call ?_
  unfold F24
  refine op_box h hx fun w1 hx1 hA => ?_
  refine rd_fld fd32_0 ?_
  refine rd_load ty23 (at_DState_0 hA) (Ext.refl w1) fun v2 h2 => ?_
  refine (heldIntS_ok h2 (Ext.refl w1) (by omega) (by omega) (by omega)).mono ?_
  rintro _ w2 ⟨rfl, hx2⟩
  refine rd_lss ?_
  refine br (fun h => by omega) (fun _ => ?_)
  refine rd_fld fd32_1 ?_
  refine rd_load ty23 (at_DState_1 hA) hx2 fun v3 h3 => ?_
  refine (heldIntS_ok h3 hx2 (by omega) (by omega) (by omega)).mono ?_
  rintro _ w3 ⟨rfl, hx3⟩
  refine rd_lss ?_
  refine br (fun h => by omega) (fun _ => ?_)
  refine rd_fld fd32_2 ?_
  refine rd_load ty27 (at_DState_2 hA) (hx2.trans hx3) fun v4 h4 => ?_
  refine (heldIntSS_ok h4 (hx2.trans hx3) (by omega) (by omega) (by omega)).mono ?_
  rintro _ w4 ⟨rfl, hx4⟩
  refine rd_lss ?_
  refine br (fun h => by omega) (fun _ => ?_)
  exact ⟨hx1.trans (hx2.trans (hx3.trans hx4)), by unfold nSt; simp [Int.add_assoc]⟩
theorem markIntS_I {w : World} {lo hi : Nat} {v : Value} {l : List Int} {k : Int} (h : OwnI lo hi w v l) (hn : l.length ≤ 1073741824) (hk0 : 0 ≤ k) (hk1 : k ≤ 100000000000000000) :
    CALL Tryz.prog 33 [v, .int .i64 k] w fun r w' => r = .int .i64 (k + l.length) ∧ ChgI lo hi w w' ∧ OwnI lo hi w' v (cnt k l.length) := by
  obtain ⟨F, hM, hF⟩ := h
  exact (markIntS_ok hM hn hk0 (by omega)).mono fun r w' ⟨h1, h2, h3⟩ => ⟨h1, h2.toI hF, h3.toS.toI hF⟩
theorem heldIntS_is {w w0 : World} {v : Value} {n : Nat} {k : Int} (h : Is w0 v (cnt k n)) (hx : Ext w0 w) (hn : n ≤ 1073741824) (hk0 : 0 ≤ k) (hk1 : k ≤ 100000000000000000) :
    CALL Tryz.prog 34 [v, .int .i64 k] w fun r w' => Ext w w' ∧ r = .int .i64 (k + n) := (heldIntS_ok h hx hn hk0 (by omega)).mono fun r w' ⟨h1, h2⟩ => ⟨h2, h1⟩
end Go.Proofs.YteephmhilnlkpaaGreat
