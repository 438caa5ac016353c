/-
  Where a program begins.
-/
import Derived.Test.YteephmhilnlkpaaGreatState
import Derived.Test.YteephmhilnlkpaaGreatCopy
namespace Go.Proofs.YteephmhilnlkpaaGreat
open Go Go.Sh Go.Proofs
set_option linter.unusedVariables false
/-- spec.StartOf -/
def F134 (a0 : Value) (w : World) (R : Value → World → Prop) : Prop :=
  OP Tryz.prog (Instr.box 37 a0) w fun x1 w =>
  OP Tryz.prog (Instr.alloc 32 true (.tuple #[])) w fun x2 w =>
  RD Tryz.prog (Instr.loadAt 37 x1) w fun x5 =>
  CALL Tryz.prog 79 [x5] w fun x6 w =>
  RD Tryz.prog (Op.unary .not x6) w fun x7 =>
  BR x7
   (RD Tryz.prog (Instr.build 32 #[]) w fun x8 =>
   OPU Tryz.prog (Instr.storeAt 32 x2 x8) w fun w =>
   RD Tryz.prog (loadRes 32 x2) w fun r2 => R r2 w)
   (RD Tryz.prog (Instr.fieldAt 37 x1 0) w fun x9 =>
   RD Tryz.prog (Instr.loadAt 22 x9) w fun x10 =>
   RD Tryz.prog (Builtin.len_ #[22] 3 [x10].toArray) w fun x11 =>
   OP Tryz.prog (Instr.makeSlice 23 x11 x11) w fun x12 w =>
   RD Tryz.prog (Instr.build 32 #[(0, x12)]) w fun x13 =>
   OP Tryz.prog (Instr.alloc 32 true (.tuple #[])) w fun x3 w =>
   OPU Tryz.prog (Instr.storeAt 32 x3 x13) w fun w =>
   LOOPI [4] [(Value.int .i64 0)] w fun u5 w next5 =>
    RD Tryz.prog (Instr.fieldAt 37 x1 1) w fun x15 =>
    RD Tryz.prog (Instr.loadAt 22 x15) w fun x16 =>
    RD Tryz.prog (Builtin.len_ #[22] 3 [x16].toArray) w fun x17 =>
    RD Tryz.prog (bin .lss 3 (.tmp 0) (.tmp 0) (u5 4) x17) w fun x18 =>
    BR x18
     (RD Tryz.prog (Instr.fieldAt 32 x3 1) w fun x21 =>
     RD Tryz.prog (Instr.loadAt 23 x21) w fun x22 =>
     OP Tryz.prog (Instr.buildSlice 23 1 #[(0, (Value.int .i64 (-1)))]) w fun x23 w =>
     OP Tryz.prog (Builtin.append_ #[23, 23] 23 [x22, x23].toArray) w fun x24 w =>
     RD Tryz.prog (Instr.fieldAt 32 x3 1) w fun x25 =>
     OPU Tryz.prog (Instr.storeAt 23 x25 x24) w fun w =>
     RD Tryz.prog (bin .add 3 (.tmp 0) (.const undef) (u5 4) (Value.int .i64 1)) w fun x20 =>
     next5 [x20] w)
     ((fun w => RD Tryz.prog (Instr.fieldAt 32 x3 2) w fun x26 =>
     RD Tryz.prog (Instr.loadAt 27 x26) w fun x27 =>
     RD Tryz.prog (Instr.fieldAt 37 x1 3) w fun x28 =>
     RD Tryz.prog (Instr.loadAt 23 x28) w fun x29 =>
     RD Tryz.prog (Instr.loadAt 37 x1) w fun x30 =>
     (fun w_ => CALL Tryz.prog 205 [x30] w_ fun x31 w =>
     Ext w_ w ∧
     RD Tryz.prog (Instr.indexAt 23 x29 x31) w fun x32 =>
     RD Tryz.prog (Instr.loadAt 3 x32) w fun x33 =>
     (fun w_ => OP Tryz.prog (Instr.buildSlice 23 1 #[(0, x33)]) w_ fun x34 w =>
     Ext w_ w ∧
     (fun w_ => OP Tryz.prog (Instr.buildSlice 27 1 #[(0, x34)]) w_ fun x35 w =>
     Ext w_ w ∧
     OP Tryz.prog (Builtin.append_ #[27, 27] 27 [x27, x35].toArray) w fun x36 w =>
     RD Tryz.prog (Instr.fieldAt 32 x3 2) w fun x37 =>
     OPU Tryz.prog (Instr.storeAt 27 x37 x36) w fun w =>
     RD Tryz.prog (Instr.loadAt 32 x3) w fun x38 =>
     OPU Tryz.prog (Instr.storeAt 32 x2 x38) w fun w =>
     RD Tryz.prog (loadRes 32 x2) w fun r2 => R r2 w) w) w) w) (World.drew1 w)))
def cfg134 : Cfg := { ext := extL, joins := [], loops := [(5, 67092496, [4])], draws := [(8, [0, 1, 2, 3, 4, 5, 6, 7, 8, 9, 10, 11, 12], 800)], pars := [] }
theorem F134_eq (a0 : Value) (w : World) (R : Value → World → Prop) : vcF Tryz.prog cfg134 Tryz.f134 [a0] w R = F134 a0 w R := by kernel_rfl
theorem F134_call {a0 : Value} {w : World} {R : Value → World → Prop} (h : F134 a0 w R) : CALL Tryz.prog 134 [a0] w R :=
  call_of (g := cfg134) ent mixed Tryz.func134 (Nat.le_of_ble_eq_true (by kernel_rfl)) (by kernel_rfl) (F134_eq a0 w R ▸ h)

/-- impl.startIn -/
def F140 (a0 : Value) (w : World) (R : Value → World → Prop) : Prop :=
  OP Tryz.prog (Instr.box 37 a0) w fun x1 w =>
  OP Tryz.prog (Instr.alloc 32 true (.tuple #[])) w fun x2 w =>
  (fun w0 => PAR w0 [[(0, 5)], [(1, 6), (0, 5)], [(2, 7), (1, 6)], [(3, 8), (2, 7), (2, 7)], [(4, 9)], [(5, 10), (4, 9)], [(6, 11), (5, 10)], [(7, 12), (6, 11), (6, 11)], [(8, 13), (3, 8), (7, 12)], [(9, 3)]] (fun Q =>
   (∀ (u1 : Env) (T : Nat → Nat × Nat) (w : World), Ext w0 w → Apart [] w0.heap.size w.heap.size T → (True) → (fun w1 => RD Tryz.prog (Instr.fieldAt 37 x1 0) w fun x5 =>
  Ext w1 w ∧ Q 0 (upd u1 5 x5) (updT T 0 (w1.heap.size, w.heap.size)) w) w) ∧
   (∀ (u1 : Env) (T : Nat → Nat × Nat) (w : World), Ext w0 w → Apart [0] w0.heap.size w.heap.size T → (Q 0 u1 T w ∧ True) → (fun w1 => RD Tryz.prog (Instr.loadAt 22 (u1 5)) w fun x6 =>
  Ext w1 w ∧ Q 1 (upd u1 6 x6) (updT T 1 (w1.heap.size, w.heap.size)) w) w) ∧
   (∀ (u1 : Env) (T : Nat → Nat × Nat) (w : World), Ext w0 w → Apart [1] w0.heap.size w.heap.size T → (Q 1 u1 T w ∧ True) → (fun w1 => RD Tryz.prog (Builtin.len_ #[22] 3 [(u1 6)].toArray) w fun x7 =>
  Ext w1 w ∧ Q 2 (upd u1 7 x7) (updT T 2 (w1.heap.size, w.heap.size)) w) w) ∧
   (∀ (u1 : Env) (T : Nat → Nat × Nat) (w : World), Ext w0 w → Apart [2, 2] w0.heap.size w.heap.size T → (Q 2 u1 T w ∧ Q 2 u1 T w ∧ True) → (fun w1 => OP Tryz.prog (Instr.makeSlice 23 (u1 7) (u1 7)) w fun x8 w =>
  Ext w1 w ∧ Q 3 (upd u1 8 x8) (updT T 3 (w1.heap.size, w.heap.size)) w) w) ∧
   (∀ (u1 : Env) (T : Nat → Nat × Nat) (w : World), Ext w0 w → Apart [] w0.heap.size w.heap.size T → (True) → (fun w1 => RD Tryz.prog (Instr.fieldAt 37 x1 1) w fun x9 =>
  Ext w1 w ∧ Q 4 (upd u1 9 x9) (updT T 4 (w1.heap.size, w.heap.size)) w) w) ∧
   (∀ (u1 : Env) (T : Nat → Nat × Nat) (w : World), Ext w0 w → Apart [4] w0.heap.size w.heap.size T → (Q 4 u1 T w ∧ True) → (fun w1 => RD Tryz.prog (Instr.loadAt 22 (u1 9)) w fun x10 =>
  Ext w1 w ∧ Q 5 (upd u1 10 x10) (updT T 5 (w1.heap.size, w.heap.size)) w) w) ∧
   (∀ (u1 : Env) (T : Nat → Nat × Nat) (w : World), Ext w0 w → Apart [5] w0.heap.size w.heap.size T → (Q 5 u1 T w ∧ True) → (fun w1 => RD Tryz.prog (Builtin.len_ #[22] 3 [(u1 10)].toArray) w fun x11 =>
  Ext w1 w ∧ Q 6 (upd u1 11 x11) (updT T 6 (w1.heap.size, w.heap.size)) w) w) ∧
   (∀ (u1 : Env) (T : Nat → Nat × Nat) (w : World), Ext w0 w → Apart [6, 6] w0.heap.size w.heap.size T → (Q 6 u1 T w ∧ Q 6 u1 T w ∧ True) → (fun w1 => OP Tryz.prog (Instr.makeSlice 23 (u1 11) (u1 11)) w fun x12 w =>
  Ext w1 w ∧ Q 7 (upd u1 12 x12) (updT T 7 (w1.heap.size, w.heap.size)) w) w) ∧
   (∀ (u1 : Env) (T : Nat → Nat × Nat) (w : World), Ext w0 w → Apart [3, 7] w0.heap.size w.heap.size T → (Q 3 u1 T w ∧ Q 7 u1 T w ∧ True) → (fun w1 => RD Tryz.prog (Instr.build 32 #[(0, (u1 8)), (1, (u1 12))]) w fun x13 =>
  Ext w1 w ∧ Q 8 (upd u1 13 x13) (updT T 8 (w1.heap.size, w.heap.size)) w) w) ∧
   (∀ (u1 : Env) (T : Nat → Nat × Nat) (w : World), Ext w0 w → Apart [] w0.heap.size w.heap.size T → (True) → (fun w1 => OP Tryz.prog (Instr.alloc 32 true (.tuple #[])) w fun x3 w =>
  Ext w1 w ∧ Q 9 (upd u1 3 x3) (updT T 9 (w1.heap.size, w.heap.size)) w) w) ∧
   True)
   (fun Q => ∀ (u1 : Env) (T : Nat → Nat × Nat) (w : World), Ext w0 w → Apart [0, 1, 2, 3, 4, 5, 6, 7, 8, 9] w0.heap.size w.heap.size T → (Q 0 u1 T w ∧ Q 1 u1 T w ∧ Q 2 u1 T w ∧ Q 3 u1 T w ∧ Q 4 u1 T w ∧ Q 5 u1 T w ∧ Q 6 u1 T w ∧ Q 7 u1 T w ∧ Q 8 u1 T w ∧ Q 9 u1 T w ∧ True) →
   OPU Tryz.prog (Instr.storeAt 32 (u1 3) (u1 13)) w fun w =>
  RD Tryz.prog (Instr.fieldAt 32 (u1 3) 1) w fun x14 =>
  RD Tryz.prog (Instr.loadAt 23 x14) w fun x15 =>
  RD Tryz.prog (Builtin.len_ #[23] 3 [x15].toArray) w fun x16 =>
  LOOPI [17] [(Value.int .i64 0)] w fun u3 w next3 =>
   RD Tryz.prog (bin .lss 3 (.tmp 0) (.tmp 0) (u3 17) x16) w fun x18 =>
   BR x18
    (RD Tryz.prog (Instr.fieldAt 32 (u1 3) 1) w fun x20 =>
    RD Tryz.prog (Instr.loadAt 23 x20) w fun x21 =>
    RD Tryz.prog (Instr.indexAt 23 x21 (u3 17)) w fun x23 =>
    OPU Tryz.prog (Instr.storeAt 3 x23 (Value.int .i64 (-1))) w fun w =>
    RD Tryz.prog (bin .add 3 (.tmp 0) (.const undef) (u3 17) (Value.int .i64 1)) w fun x24 =>
    next3 [x24] w)
    ((fun w => RD Tryz.prog (Instr.fieldAt 37 x1 3) w fun x25 =>
    RD Tryz.prog (Instr.loadAt 23 x25) w fun x26 =>
    RD Tryz.prog (Instr.fieldAt 37 x1 2) w fun x27 =>
    RD Tryz.prog (Instr.loadAt 22 x27) w fun x28 =>
    (fun w_ => CALL Tryz.prog 196 [x28, (Value.string (ByteArray.mk #[109, 97, 105, 110]))] w_ fun x29 w =>
    Ext w_ w ∧
    RD Tryz.prog (Instr.indexAt 23 x26 x29) w fun x30 =>
    RD Tryz.prog (Instr.loadAt 3 x30) w fun x31 =>
    OP Tryz.prog (Instr.buildSlice 23 1 #[(0, x31)]) w fun x32 w =>
    OP Tryz.prog (Instr.buildSlice 27 1 #[(0, x32)]) w fun x33 w =>
    RD Tryz.prog (Instr.fieldAt 32 (u1 3) 2) w fun x34 =>
    OPU Tryz.prog (Instr.storeAt 27 x34 x33) w fun w =>
    RD Tryz.prog (Instr.loadAt 32 (u1 3)) w fun x35 =>
    OPU Tryz.prog (Instr.storeAt 32 x2 x35) w fun w =>
    RD Tryz.prog (loadRes 32 x2) w fun r2 => R r2 w) w) (World.drew1 w)))) (World.drew1 w)
def cfg140 : Cfg := { ext := extL, joins := [], loops := [(3, 33423376, [17])], draws := [(7, [0, 1, 2, 3, 4, 5, 6, 7, 8, 9, 10], 16)], pars := [(1, 16360, 10)] }
theorem F140_eq (a0 : Value) (w : World) (R : Value → World → Prop) : vcF Tryz.prog cfg140 Tryz.f140 [a0] w R = F140 a0 w R := by kernel_rfl
theorem F140_call {a0 : Value} {w : World} {R : Value → World → Prop} (h : F140 a0 w R) : CALL Tryz.prog 140 [a0] w R :=
  call_of (g := cfg140) ent mixed Tryz.func140 (Nat.le_of_ble_eq_true (by kernel_rfl)) (by kernel_rfl) (F140_eq a0 w R ▸ h)

set_option linter.unusedVariables false
set_option linter.unusedSimpArgs false

/-- the state in which a right program begins -/
def startD (c : DCode) : DState := ⟨List.replicate c.globals.length 0, List.replicate c.locks.length (-1), [[en c (plc mainS c.procs).toNat]]⟩
def startOf (c : DCode) : DState := if CodeR c then startD c else ⟨[], [], []⟩
theorem zlI : zeroL Tryz.prog 3 = some [.int .i64 0] := by kernel_rfl
theorem main_lt {c : DCode} (hc : CodeR c) : 0 ≤ plc mainS c.procs ∧ (plc mainS c.procs).toNat < c.entry.length := by
  have h1 := plc_iff.2 hc.1.2.2.2.2.2.2
  have h2 := plc_lt (s := mainS) (l := c.procs)
  have h3 := hc.2.1.1
  omega
theorem ownI_zst {lo hi : Nat} {w : World} : OwnI lo hi w (.agg #[.slice none 0 0, .slice none 0 0, .slice none 0 0]) (⟨[], [], []⟩ : DState) :=
  (ownI_state (s := ⟨[], [], []⟩) (lo := lo) (hi := lo) (l0 := lo) (h0 := lo) (l1 := lo) (h1 := lo) (l2 := lo) (h2 := lo) (ownI_zcap none) (ownI_zcap none) (ownI_zcap none) (by omega) (by omega) (by omega) (by omega) (by omega) (by omega)).elim fun F h => ⟨F, h.1, fun b hb => by have := h.2 b hb; omega⟩
/-- spec.l14Main -/
def F205 (a0 : Value) (w : World) (R : Value → World → Prop) : Prop :=
  OP Tryz.prog (Instr.box 37 a0) w fun x1 w =>
  RD Tryz.prog (Instr.fieldAt 37 x1 2) w fun x3 =>
  RD Tryz.prog (Instr.loadAt 22 x3) w fun x4 =>
  CALL Tryz.prog 201 [x4, (Value.string (ByteArray.mk #[109, 97, 105, 110]))] w fun x5 w =>
  R x5 w
def cfg205 : Cfg := { ext := extL, joins := [], loops := [], draws := [], pars := [] }
theorem F205_eq (a0 : Value) (w : World) (R : Value → World → Prop) : vcF Tryz.prog cfg205 Tryz.f205 [a0] w R = F205 a0 w R := by kernel_rfl
theorem F205_call {a0 : Value} {w : World} {R : Value → World → Prop} (h : F205 a0 w R) : CALL Tryz.prog 205 [a0] w R :=
  call_of (g := cfg205) ent mixed Tryz.func205 (Nat.le_of_ble_eq_true (by kernel_rfl)) (by kernel_rfl) (F205_eq a0 w R ▸ h)


theorem l14Main_ok {w : World} {v0 : Value} {W0 : World} {c : DCode}  (h0 : Is W0 v0 c) (e0 : Ext W0 w)  :
    CALL Tryz.prog 205 [v0] w fun r w' => Ext w w' ∧ (r = .int .i64 (plc mainS c.procs)) := by
  refine F205_call ?_
  unfold F205
  refine op_boxS ty37 rfl h0 e0 fun w1_ hx1_ hA1 hV1 => ?_
  refine rd_fld fd37_2 ?_
  refine rd_load ty22 (at_DCode_2 hA1) (Ext.refl w1_) fun v4 h4 => ?_
  refine (specPlaceOf_ok h4 (Ext.refl w1_)).mono ?_
  rintro _ w2_ ⟨hx2_, rfl⟩
  refine ⟨(hx1_.trans hx2_), ?_⟩
  rfl

theorem specStartOf_ok {w W : World} {v : Value} {c : DCode} (h : Is W v c) (e : Ext W w) (hw : wCode c ≤ 1048576) :
    CALL Tryz.prog 134 [v] w fun r w' => Ext w w' ∧ Own w.heap.size w' r (startOf c) := by
  refine F134_call ?_
  unfold F134
  refine op_box h e fun w1 hx1 hA => ?_
  refine op_alloc zlSt fun w2 hx2 hB2 => ?_
  have hg2 := hB2.lt
  have hs1 := hx1.size
  refine rd_load ty37 hA hx2 fun v5 h5 => ?_
  refine (specCodeOk_ok h5 hx2).mono ?_
  rintro _ w3 ⟨hx3, rfl⟩
  have hs3 := hx3.size
  refine rd_nodec ?_
  refine br (fun hn => ?_) (fun hc => ?_)
  · refine rd_build (cells := #[.slice none 0 0, .slice none 0 0, .slice none 0 0]) (by kernel_rfl) ?_
    refine opu_blkS (lo := w3.heap.size) (hi := w3.heap.size) ty32 rfl (hB2.ext hx3) rfl ownI_zst fun w4 hc4 hB4 => ?_
    refine rd_blkR hB4 ty32 ?_
    refine ⟨Ext.chgI (hx1.trans (hx2.trans hx3)) hc4 (by omega), ?_⟩
    unfold startOf
    rw [if_neg hn]
    exact (ownI_zst (lo := w4.heap.size) (hi := w4.heap.size)).own.mono (by have := hc4.size; omega)
  · have hc := Decidable.not_not.1 hc
    have hsz : c.globals.length ≤ 1048576 ∧ c.locks.length ≤ 1048576 := by unfold wCode wStr at hw; omega
    refine rd_fld fd37_0 ?_
    refine rd_load ty22 (at_DCode_0 hA) (hx2.trans hx3) fun v10 h10 => ?_
    refine rd_len u22 h10 ?_
    refine op_makeZ (α := Int) u23 ty3 rfl rfl zlI (by omega) (by omega) fun w4 hx4 r12 => ?_
    have hs4 := hx4.size
    refine rd_build (cells := #[.slice (some ⟨w3.heap.size, 0, none⟩) c.globals.length c.globals.length, .slice none 0 0, .slice none 0 0]) (by kernel_rfl) ?_
    refine op_alloc zlSt fun w5 hx5 hB5 => ?_
    have hg5 := hB5.lt
    have hs5 := hx5.size
    have o12 := (r12.own.ext hx5)
    refine opu_blkS (x := (⟨List.replicate c.globals.length 0, [], []⟩ : DState)) (lo := w3.heap.size) (hi := w4.heap.size) ty32 rfl hB5 rfl
      (ownI_state (l0 := w3.heap.size) (h0 := w4.heap.size) (l1 := w4.heap.size) (h1 := w4.heap.size) (l2 := w4.heap.size) (h2 := w4.heap.size) o12 (ownI_zcap none) (ownI_zcap none) (by omega) (by omega) (by omega) (by omega) (by omega) (by omega)) fun w6 hc6 hB6 => ?_
    have hs6 := hc6.size
    have r12' := (r12.ext hx5).chg hc6 (by omega)
    have hx16 : Ext w1 w6 := Ext.chgI (hx2.trans (hx3.trans (hx4.trans hx5))) hc6 (by omega)
    refine loopC c.locks.length (fun k us w' => us = [.int .i64 (k : Int)] ∧ ∃ v1 hi, hi ≤ w'.heap.size ∧ w6.heap.size ≤ w'.heap.size ∧ Ext w1 w' ∧ Blk w4.heap.size 32 w' [.slice (some ⟨w3.heap.size, 0, none⟩) c.globals.length c.globals.length, v1, .slice none 0 0] ∧
      RowI w3.heap.size w4.heap.size 3 w' (.slice (some ⟨w3.heap.size, 0, none⟩) c.globals.length c.globals.length) (List.replicate c.globals.length 0) ∧ RowI w6.heap.size hi 3 w' v1 (List.replicate k (-1)) ∧ Blk w1.heap.size 32 w' [.slice none 0 0, .slice none 0 0, .slice none 0 0]) 0 (Nat.zero_le _)
      ⟨rfl, .slice none 0 0, w6.heap.size, Nat.le_refl _, Nat.le_refl _, hx16, hB6, r12', rowI_nil _ _ _ _, ((hB2.ext hx3).ext (hx4.trans hx5)).chgI hc6 (by omega)⟩ ?_
    rintro k m u w7 hkm ⟨hu, v1, hi, hhi, hs7, hx7, hB7, o7, r7, hB27⟩
    simp only [List.map_cons, List.map_nil, List.cons.injEq, and_true] at hu
    rw [hu]
    refine rd_fld fd37_1 ?_
    refine rd_load ty22 (at_DCode_1 hA) hx7 fun v16 h16 => ?_
    refine rd_len u22 h16 ?_
    refine rd_lss ?_
    refine br (fun hlt => ?_) (fun hge => ?_)
    · refine rd_fld fd32_1 ?_
      refine rd_blkV ty23 hB7 rfl ?_
      refine op_push (α := Int) (lo2 := w7.heap.size) (hi2 := w7.heap.size) u23 ty3 z3 zc3 (by decide) r7 (by omega) (ownI_int (by unfold I64; omega)) (by omega) (by omega) (by rw [maxLen_eq, List.length_replicate]; omega) (by rw [List.length_replicate]; omega) fun v24 w8 hc8 r8 => ?_
      have hs8 := hc8.size
      refine rd_fld fd32_1 ?_
      refine opu_blkC (α := List Int) ty23 rfl rfl (hB7.chgI hc8 (by omega)) (by simp) r8.own fun w9 hc9 hB9 => ?_
      have hs9 := hc9.size
      refine rd_inc (by omega) ?_
      refine ⟨m - 1, by omega, k + 1, by omega, rfl, v24, w8.heap.size, by omega, by omega, Ext.chgI (Ext.chgI hx7 hc8 (by omega)) hc9 (by omega), hB9, (o7.chg hc8 (by omega)).chg hc9 (by omega), ?_, (hB27.chgI hc8 (by omega)).chgI hc9 (by omega)⟩
      have := r8.chg hc9 (by omega)
      rwa [← List.replicate_succ'] at this
    · have hk : k = c.locks.length := by omega
      subst hk
      have hx8 := ext_drew w7
      have hs8 := hx8.size
      refine rd_fld fd32_2 ?_
      refine rd_blkV ty27 (hB7.ext hx8) rfl ?_
      refine rd_fld fd37_3 ?_
      refine rd_load ty23 (at_DCode_3 hA) (hx7.trans hx8) fun v29 h29 => ?_
      refine rd_load ty37 hA (hx7.trans hx8) fun v30 h30 => ?_
      refine (l14Main_ok h30 (hx7.trans hx8)).mono ?_
      rintro _ w9 ⟨hx9, rfl⟩
      have hs9 := hx9.size
      refine ⟨hx9, ?_⟩
      obtain ⟨hp0, hp1⟩ := main_lt hc
      refine rd_index u23 ty3 h29 hp0 hp1 fun b o hA2 => ?_
      refine rd_loadI ty3 hA2 (hx7.trans (hx8.trans hx9)) fun hI => ?_
      refine op_build1I (α := Int) (lo := w9.heap.size) (hi := w9.heap.size) u23 ty3 z3 (by decide) (ownI_int hI) (by omega) fun v34 w10 hx10 o34 => ?_
      have hs10 := hx10.size
      refine ⟨hx10, ?_⟩
      refine op_pushX (α := List Int) (lo := w9.heap.size) (hi := w9.heap.size) u27 ty23 z23 zc23 (by decide) (rowI_nil _ _ _ _) (by omega) o34 (by omega) (by omega) (by rw [maxLen_eq]; simp) (by simp) fun v36 w11 hc11 r36 => ?_
      have hs11 := hc11.size
      have hB11 := ((hB7.ext (hx8.trans (hx9.trans hx10)))).chgI hc11 (by omega)
      have o11 := ((o7.ext (hx8.trans (hx9.trans hx10)))).chg hc11 (by omega)
      have r11 := ((r7.ext (hx8.trans (hx9.trans hx10)))).chg hc11 (by omega)
      have hB211 := ((hB27.ext (hx8.trans (hx9.trans hx10)))).chgI hc11 (by omega)
      refine rd_fld fd32_2 ?_
      refine opu_blkC (α := List (List Int)) ty27 rfl rfl hB11 (by simp) r36.own fun w12 hc12 hB12 => ?_
      have hs12 := hc12.size
      refine rd_blkS hB12 ty32 ?_
      have ost : OwnI w3.heap.size w11.heap.size w12 (.agg #[.slice (some ⟨w3.heap.size, 0, none⟩) c.globals.length c.globals.length, v1, v36]) (startD c) := by
        refine ownI_state (l0 := w3.heap.size) (h0 := w4.heap.size) (l1 := w6.heap.size) (h1 := hi) (l2 := w9.heap.size) (h2 := w11.heap.size) (o11.chg hc12 (by omega)).own (r11.chg hc12 (by omega)).own ?_ (by omega) (by omega) (by omega) (by omega) (by omega) (by omega)
        have := (r36.chg hc12 (by omega)).own
        rw [en_get] at this
        exact this
      refine opu_blkS ty32 rfl (hB211.chgI hc12 (by omega)) rfl ost fun w13 hc13 hB13 => ?_
      have hs13 := hc13.size
      refine rd_blkR hB13 ty32 ?_
      refine ⟨Ext.chgI (Ext.chgI (Ext.chgI (hx1.trans (hx7.trans (hx8.trans (hx9.trans hx10)))) hc11 (by omega)) hc12 (by omega)) hc13 (by omega), ?_⟩
      unfold startOf
      rw [if_pos hc]
      exact (ost.chg hc13 (by omega)).own.mono (by omega)
/-- what the operations of the literal in startIn yield -/
def stQ (c : DCode) (g1 : Nat) (w0 : World) : ParQ := fun i u T w => match i with
  | 0 => u 5 = .pointer (some ⟨g1, 0 + 0, none⟩)
  | 1 => Is w0 (u 6) c.globals
  | 2 => u 7 = .int .i64 (c.globals.length : Int)
  | 3 => ∃ a cap, u 8 = .slice a c.globals.length cap ∧ RowI (T 3).1 (T 3).2 3 w (u 8) (List.replicate c.globals.length (0 : Int))
  | 4 => u 9 = .pointer (some ⟨g1, 0 + 1, none⟩)
  | 5 => Is w0 (u 10) c.locks
  | 6 => u 11 = .int .i64 (c.locks.length : Int)
  | 7 => ∃ a cap, u 12 = .slice a c.locks.length cap ∧ RowI (T 7).1 (T 7).2 3 w (u 12) (List.replicate c.locks.length (0 : Int))
  | 8 => u 13 = .agg #[u 8, u 12, .slice none 0 0]
  | 9 => ∃ g, u 3 = .pointer (some ⟨g, 0, none⟩) ∧ (T 9).1 ≤ g ∧ g < (T 9).2 ∧ Blk g 32 w [.slice none 0 0, .slice none 0 0, .slice none 0 0]
  | _ => True
theorem startIn_ok {w W : World} {v : Value} {c : DCode} (h : Is W v c) (e : Ext W w) (hw : wCode c ≤ 1048576) (hc : CodeR c) :
    CALL Tryz.prog 140 [v] w fun r w' => Ext w w' ∧ Own w.heap.size w' r (startD c) := by
  have hsz : c.globals.length ≤ 1048576 ∧ c.locks.length ≤ 1048576 := by unfold wCode wStr at hw; omega
  refine F140_call ?_
  unfold F140
  refine op_box h e fun w1 hx1 hA => ?_
  refine op_alloc zlSt fun w2 hx2 hB2 => ?_
  have hg2 := hB2.lt
  have hs1 := hx1.size
  have hx3 := ext_drew w2
  have hs3 := hx3.size
  refine PAR.mk (stQ c w.heap.size (World.drew1 w2)) ?_ ?_ ?_
  · intro i u u' T T' wa wb hxa hxb hd hq
    match i, hd, hq with
    | 0, hd, hq => exact (hd (0, 5) (by decide)).1.trans hq
    | 1, hd, hq => have := (hd (1, 6) (by decide)).1; show Is _ (u' 6) _; simp only [this]; exact hq
    | 2, hd, hq => exact (hd (2, 7) (by decide)).1.trans hq
    | 3, hd, ⟨a, cap, q1, q2⟩ =>
      obtain ⟨e1, e2⟩ := hd (3, 8) (by decide)
      simp only at e1 e2
      refine ⟨a, cap, e1.trans q1, ?_⟩
      simp only [e1, e2]; exact q2.ext hxb
    | 4, hd, hq => exact (hd (4, 9) (by decide)).1.trans hq
    | 5, hd, hq => have := (hd (5, 10) (by decide)).1; show Is _ (u' 10) _; simp only [this]; exact hq
    | 6, hd, hq => exact (hd (6, 11) (by decide)).1.trans hq
    | 7, hd, ⟨a, cap, q1, q2⟩ =>
      obtain ⟨e1, e2⟩ := hd (7, 12) (by decide)
      simp only at e1 e2
      refine ⟨a, cap, e1.trans q1, ?_⟩
      simp only [e1, e2]; exact q2.ext hxb
    | 8, hd, hq =>
      have e1 := (hd (8, 13) (by decide)).1
      have e2 := (hd (3, 8) (by decide)).1
      have e3 := (hd (7, 12) (by decide)).1
      simp only at e1 e2 e3
      show u' 13 = .agg #[u' 8, u' 12, .slice none 0 0]
      rw [e1, e2, e3]; exact hq
    | 9, hd, ⟨g, q1, q2, q3, q4⟩ =>
      obtain ⟨e1, e2⟩ := hd (9, 3) (by decide)
      simp only at e1 e2
      exact ⟨g, e1.trans q1, by rw [e2]; exact q2, by rw [e2]; exact q3, q4.ext hxb⟩
    | n + 10, _, _ => trivial
  · refine ⟨fun u T w' hx _ _ => ?_, fun u T w' hx _ hp => ?_, fun u T w' hx _ hp => ?_, fun u T w' hx _ hp => ?_, fun u T w' hx _ _ => ?_, fun u T w' hx _ hp => ?_, fun u T w' hx _ hp => ?_, fun u T w' hx _ hp => ?_, fun u T w' hx _ hp => ?_, fun u T w' hx _ _ => ?_, trivial⟩
    · exact rd_fld fd37_0 ⟨Ext.refl _, rfl⟩
    · have q0 : u 5 = _ := hp.1
      rw [q0]
      exact rd_load ty22 (at_DCode_0 hA) (hx2.trans (hx3.trans hx)) fun v6 h6 => ⟨Ext.refl _, (h6.ext (hx2.trans hx3))⟩
    · have q1 : Is _ (u 6) c.globals := hp.1
      exact rd_len u22 q1 ⟨Ext.refl _, rfl⟩
    · have q2 : u 7 = _ := hp.1
      rw [q2]
      exact op_makeZ (α := Int) u23 ty3 rfl rfl zlI (by omega) (by omega) fun w4 hx4 r => ⟨hx4, _, _, rfl, r⟩
    · exact rd_fld fd37_1 ⟨Ext.refl _, rfl⟩
    · have q0 : u 9 = _ := hp.1
      rw [q0]
      exact rd_load ty22 (at_DCode_1 hA) (hx2.trans (hx3.trans hx)) fun v6 h6 => ⟨Ext.refl _, (h6.ext (hx2.trans hx3))⟩
    · have q1 : Is _ (u 10) c.locks := hp.1
      exact rd_len u22 q1 ⟨Ext.refl _, rfl⟩
    · have q2 : u 11 = _ := hp.1
      rw [q2]
      exact op_makeZ (α := Int) u23 ty3 rfl rfl zlI (by omega) (by omega) fun w4 hx4 r => ⟨hx4, _, _, rfl, r⟩
    · obtain ⟨a, cap, q1, _⟩ : ∃ a cap, u 8 = .slice a c.globals.length cap ∧ _ := hp.1
      obtain ⟨a', cap', q1', _⟩ : ∃ a cap, u 12 = .slice a c.locks.length cap ∧ _ := hp.2.1
      rw [q1, q1']
      refine rd_build (cells := #[.slice a c.globals.length cap, .slice a' c.locks.length cap', .slice none 0 0]) (by kernel_rfl) ⟨Ext.refl _, ?_⟩
      show _ = Value.agg #[u 8, u 12, .slice none 0 0]
      rw [q1, q1']; rfl
    · exact op_alloc zlSt fun w4 hx4 hB => ⟨hx4, w'.heap.size, rfl, Nat.le_refl _, hB.lt, hB⟩
  · rintro u T w4 hx4 hap ⟨-, -, -, ⟨a, cap, -, r8⟩, -, -, -, ⟨a', cap', -, r12⟩, q13, ⟨g, q3, hg0, hg1, hB3⟩, -⟩
    have q13 : u 13 = .agg #[u 8, u 12, .slice none 0 0] := q13
    have t3 := hap.1 3 (by decide)
    have t7 := hap.1 7 (by decide)
    have t9 := hap.1 9 (by decide)
    have d37 := hap.2 3 (by decide) 7 (by decide) (by decide)
    have d39 := hap.2 3 (by decide) 9 (by decide) (by decide)
    have d79 := hap.2 7 (by decide) 9 (by decide) (by decide)
    generalize u 8 = v8 at *
    generalize u 12 = v12 at *
    have hs4 := hx4.size
    rw [q13, q3]
    refine opu_blkS (x := (⟨List.replicate c.globals.length 0, List.replicate c.locks.length 0, []⟩ : DState)) (lo := 0) (hi := w4.heap.size) ty32 rfl hB3 rfl
      (ownI_state (l2 := 0) (h2 := 0) r8.own r12.own (ownI_zcap none) (by omega) (by omega) (by omega) (by omega) (by omega) (by omega)) fun w5 hc5 hB5 => ?_
    have hs5 := hc5.size
    have hx15 : Ext w1 w5 := Ext.chgI (hx2.trans (hx3.trans hx4)) hc5 (by omega)
    have o8 := r8.own.chg hc5 (by omega)
    have o12 := r12.own.chg hc5 (by omega)
    have hB25 := ((hB2.ext hx3).ext hx4).chgI hc5 (by omega)
    refine rd_fld fd32_1 ?_
    refine rd_blkV ty23 hB5 rfl ?_
    refine rd_len u23 o12.is ?_
    rw [List.length_replicate]
    refine loopC c.locks.length (fun k us w' => us = [.int .i64 (k : Int)] ∧ w5.heap.size ≤ w'.heap.size ∧ Ext w1 w' ∧ Blk g 32 w' [v8, v12, .slice none 0 0] ∧ OwnI (T 3).1 (T 3).2 w' v8 (List.replicate c.globals.length (0 : Int)) ∧
      OwnI (T 7).1 (T 7).2 w' v12 (List.replicate k (-1) ++ List.replicate (c.locks.length - k) (0 : Int)) ∧ Blk w1.heap.size 32 w' [.slice none 0 0, .slice none 0 0, .slice none 0 0]) 0 (Nat.zero_le _)
      ⟨rfl, Nat.le_refl _, hx15, hB5, o8, by simpa using o12, hB25⟩ ?_
    rintro k m uu w7 hkm ⟨hu, hs7, hx7, hB7, o8, ⟨F, hM, hF⟩, hB27⟩
    simp only [List.map_cons, List.map_nil, List.cons.injEq, and_true] at hu
    rw [hu]
    refine rd_lss ?_
    refine br (fun hlt => ?_) (fun hge => ?_)
    · refine rd_fld fd32_1 ?_
      refine rd_blkV ty23 hB7 rfl ?_
      refine set_step (α := Int) u23 ty3 hM (by simp; omega) (mine_int (w := w7) (x := -1) (by unfold I64; omega)).own fun w8 hc8 hM8 => ?_
      have hcI := hc8.toI hF
      have hs8 := hc8.size
      refine rd_inc (by omega) ?_
      refine ⟨m - 1, by omega, k + 1, by omega, rfl, by omega, Ext.chgI hx7 hcI (by omega), hB7.chgI hcI (by omega), o8.chg hcI (by omega), ⟨F, ?_, hF⟩, hB27.chgI hcI (by omega)⟩
      have : (List.replicate k (-1) ++ List.replicate (c.locks.length - k) (0 : Int)).set k (-1) = List.replicate (k + 1) (-1) ++ List.replicate (c.locks.length - (k + 1)) 0 := by
        rw [show c.locks.length - k = (c.locks.length - (k + 1)) + 1 by omega, List.replicate_succ (n := c.locks.length - (k + 1)), List.set_append_right _ _ (by simp), List.length_replicate, Nat.sub_self, List.set_cons_zero, List.replicate_succ' (n := k)]
        simp
      rw [← this]; exact hM8
    · have hk : k = c.locks.length := by omega
      subst hk
      have o12 : OwnI (T 7).1 (T 7).2 w7 v12 (List.replicate c.locks.length (-1)) := ⟨F, by simpa using hM, hF⟩
      clear hM
      have hx8 := ext_drew w7
      have hs8 := hx8.size
      refine rd_fld fd37_3 ?_
      refine rd_load ty23 (at_DCode_3 hA) (hx7.trans hx8) fun v26 h26 => ?_
      refine rd_fld fd37_2 ?_
      refine rd_load ty22 (at_DCode_2 hA) (hx7.trans hx8) fun v28 h28 => ?_
      refine (indexStr_ok h28 (hx7.trans hx8)).mono ?_
      rintro _ w9 ⟨hx9, rfl⟩
      have hs9 := hx9.size
      refine ⟨hx9, ?_⟩
      obtain ⟨hp0, hp1⟩ : 0 ≤ plc (ByteArray.mk #[109, 97, 105, 110]) c.procs ∧ (plc (ByteArray.mk #[109, 97, 105, 110]) c.procs).toNat < c.entry.length := main_lt hc
      refine rd_index u23 ty3 h26 hp0 hp1 fun b o hA2 => ?_
      refine rd_loadI ty3 hA2 (hx7.trans (hx8.trans hx9)) fun hI => ?_
      refine op_build1I (α := Int) (lo := w9.heap.size) (hi := w9.heap.size) u23 ty3 z3 (by decide) (ownI_int hI) (by omega) fun v32 w10 hx10 o32 => ?_
      have hs10 := hx10.size
      refine op_build1I (α := List Int) u27 ty23 z23 (by decide) o32 (by omega) fun v33 w11 hx11 o33 => ?_
      have hs11 := hx11.size
      have hx711 := hx8.trans (hx9.trans (hx10.trans hx11))
      refine rd_fld fd32_2 ?_
      refine opu_blkC (α := List (List Int)) ty27 rfl rfl (hB7.ext hx711) (by simp) o33 fun w12 hc12 hB12 => ?_
      have hs12 := hc12.size
      refine rd_blkS hB12 ty32 ?_
      have ost : OwnI w2.heap.size w11.heap.size w12 (.agg #[v8, v12, v33]) (startD c) := by
        refine ownI_state (l2 := w9.heap.size) (h2 := w11.heap.size) ((o8.ext hx711).chg hc12 (by omega)) ((o12.ext hx711).chg hc12 (by omega)) ?_ (by omega) (by omega) (by omega) (by omega) (by omega) (by omega)
        have := (o33.chg hc12 (by omega))
        rw [en_get] at this
        exact this
      refine opu_blkS ty32 rfl ((hB27.ext hx711).chgI hc12 (by omega)) rfl ost fun w13 hc13 hB13 => ?_
      have hs13 := hc13.size
      refine rd_blkR hB13 ty32 ?_
      refine ⟨Ext.chgI (Ext.chgI (hx1.trans (hx7.trans hx711)) hc12 (by omega)) hc13 (by omega), ?_⟩
      exact (ost.chg hc13 (by omega)).own.mono (by omega)
end Go.Proofs.YteephmhilnlkpaaGreat
