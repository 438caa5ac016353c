/-
  Meetings and fairness, both programs.
-/
import Derived.Test.YteephmhilnlkpaaGreatMeet5
import Derived.Test.YteephmhilnlkpaaGreatKnot
namespace Go.Proofs.YteephmhilnlkpaaGreat
open Go Go.Sh Go.Proofs
set_option linter.unusedVariables false
set_option linter.unusedSimpArgs false

/-- impl.MeetingsIn -/
def F45 (a0 a1 : Value) (w : World) (R : Value → World → Prop) : Prop :=
  OP Tryz.prog (Instr.box 37 a0) w fun x2 w =>
  OP Tryz.prog (Instr.box 32 a1) w fun x3 w =>
  RD Tryz.prog (Instr.loadAt 37 x2) w fun x5 =>
  RD Tryz.prog (Instr.loadAt 32 x3) w fun x6 =>
  CALL Tryz.prog 71 [x5, x6] w fun x7 w =>
  RD Tryz.prog (Op.unary .not x7) w fun x8 =>
  BR x8
   (R (Value.slice none 0 0) w)
   (RD Tryz.prog (Instr.loadAt 37 x2) w fun x9 =>
   RD Tryz.prog (Instr.loadAt 32 x3) w fun x10 =>
   CALL Tryz.prog 103 [x9, x10] w fun x11 w =>
   R x11 w)
def cfg45 : Cfg := { ext := extL, joins := [], loops := [], draws := [], pars := [] }
theorem F45_eq (a0 a1 : Value) (w : World) (R : Value → World → Prop) : vcF Tryz.prog cfg45 Tryz.f45 [a0, a1] w R = F45 a0 a1 w R := by kernel_rfl
theorem F45_call {a0 a1 : Value} {w : World} {R : Value → World → Prop} (h : F45 a0 a1 w R) : CALL Tryz.prog 45 [a0, a1] w R :=
  call_of (g := cfg45) ent mixed Tryz.func45 (Nat.le_of_ble_eq_true (by kernel_rfl)) (by kernel_rfl) (F45_eq a0 a1 w R ▸ h)


theorem implMeetingsIn_ok {w : World} {v0 : Value} {W0 : World} {c : DCode} {v1 : Value} {W1 : World} {s : DState}  (h0 : Is W0 v0 c) (e0 : Ext W0 w) (h1 : Is W1 v1 s) (e1 : Ext W1 w)  :
    CALL Tryz.prog 45 [v0, v1] w fun r w' => Ext w w' ∧ (Own w.heap.size w' r (meetsL c s)) := by
  refine F45_call ?_
  unfold F45
  have hs_e0 := e0.size
  have hs_e1 := e1.size
  refine op_boxS ty37 rfl h0 e0 fun w1_ hx1_ hA2 hV2 => ?_
  have hs_hx1_ := hx1_.size
  refine op_boxS ty32 rfl h1 (e1.trans hx1_) fun w2_ hx2_ hA3 hV3 => ?_
  have hs_hx2_ := hx2_.size
  refine rd_var hV2 hx2_ ?_
  refine rd_var hV3 (Ext.refl w2_) ?_
  refine (implStateOk_ok h0 (e0.trans (hx1_.trans hx2_)) h1 (e1.trans (hx1_.trans hx2_))).mono ?_
  rintro _ w3_ ⟨hx3_, rfl⟩
  have hs_hx3_ := hx3_.size
  refine rd_nodec ?_
  refine br (fun c1 => ?_) (fun c1 => ?_)
  · refine ⟨(hx1_.trans (hx2_.trans hx3_)), ?_⟩
    unfold meetsL; rw [if_neg c1]; exact own_nil rfl
  · refine rd_var hV2 (hx2_.trans hx3_) ?_
    refine rd_var hV3 hx3_ ?_
    refine (meetings_ok h0 (e0.trans (hx1_.trans (hx2_.trans hx3_))) h1 (e1.trans (hx1_.trans (hx2_.trans hx3_))) (Decidable.not_not.1 c1).1 (Decidable.not_not.1 c1).2).mono ?_
    rintro r11 w4_ ⟨hx4_, o11⟩
    have o11 := o11.toI
    have hs_hx4_ := hx4_.size
    refine ⟨(hx1_.trans (hx2_.trans (hx3_.trans hx4_))), ?_⟩
    unfold meetsL; rw [if_pos (Decidable.not_not.1 c1)]; exact o11.own.mono (by omega)

/-- spec.MeetingsIn -/
def F44 (a0 a1 : Value) (w : World) (R : Value → World → Prop) : Prop :=
  OP Tryz.prog (Instr.box 37 a0) w fun x2 w =>
  OP Tryz.prog (Instr.box 32 a1) w fun x3 w =>
  RD Tryz.prog (Instr.loadAt 37 x2) w fun x5 =>
  RD Tryz.prog (Instr.loadAt 32 x3) w fun x6 =>
  CALL Tryz.prog 88 [x5, x6] w fun x7 w =>
  RD Tryz.prog (Op.unary .not x7) w fun x8 =>
  BR x8
   (OP Tryz.prog (Instr.buildSlice 61 0 #[]) w fun x9 w =>
   R x9 w)
   (RD Tryz.prog (Instr.loadAt 37 x2) w fun x10 =>
   RD Tryz.prog (Instr.loadAt 32 x3) w fun x11 =>
   CALL Tryz.prog 101 [x10, x11] w fun x12 w =>
   R x12 w)
def cfg44 : Cfg := { ext := extL, joins := [], loops := [], draws := [], pars := [] }
theorem F44_eq (a0 a1 : Value) (w : World) (R : Value → World → Prop) : vcF Tryz.prog cfg44 Tryz.f44 [a0, a1] w R = F44 a0 a1 w R := by kernel_rfl
theorem F44_call {a0 a1 : Value} {w : World} {R : Value → World → Prop} (h : F44 a0 a1 w R) : CALL Tryz.prog 44 [a0, a1] w R :=
  call_of (g := cfg44) ent mixed Tryz.func44 (Nat.le_of_ble_eq_true (by kernel_rfl)) (by kernel_rfl) (F44_eq a0 a1 w R ▸ h)


theorem specMeetingsIn_ok {w : World} {v0 : Value} {W0 : World} {c : DCode} {v1 : Value} {W1 : World} {s : DState}  (h0 : Is W0 v0 c) (e0 : Ext W0 w) (h1 : Is W1 v1 s) (e1 : Ext W1 w)  :
    CALL Tryz.prog 44 [v0, v1] w fun r w' => Ext w w' ∧ (Own w.heap.size w' r (meetsL c s)) := by
  refine F44_call ?_
  unfold F44
  have hs_e0 := e0.size
  have hs_e1 := e1.size
  refine op_boxS ty37 rfl h0 e0 fun w1_ hx1_ hA2 hV2 => ?_
  have hs_hx1_ := hx1_.size
  refine op_boxS ty32 rfl h1 (e1.trans hx1_) fun w2_ hx2_ hA3 hV3 => ?_
  have hs_hx2_ := hx2_.size
  refine rd_var hV2 hx2_ ?_
  refine rd_var hV3 (Ext.refl w2_) ?_
  refine (specStateOk_ok h0 (e0.trans (hx1_.trans hx2_)) h1 (e1.trans (hx1_.trans hx2_))).mono ?_
  rintro _ w3_ ⟨hx3_, rfl⟩
  have hs_hx3_ := hx3_.size
  refine rd_nodec ?_
  refine br (fun c1 => ?_) (fun c1 => ?_)
  · refine op_build0I (α := DRace) u61 ty117 fun v9 w4_ hx4_ o9 => ?_
    have hs_hx4_ := hx4_.size
    refine ⟨(hx1_.trans (hx2_.trans (hx3_.trans hx4_))), ?_⟩
    unfold meetsL; rw [if_neg c1]; exact o9.own.own.mono (by omega)
  · refine rd_var hV2 (hx2_.trans hx3_) ?_
    refine rd_var hV3 hx3_ ?_
    refine (l24Meet_ok h0 (e0.trans (hx1_.trans (hx2_.trans hx3_))) h1 (e1.trans (hx1_.trans (hx2_.trans hx3_))) (Decidable.not_not.1 c1).1 (Decidable.not_not.1 c1).2).mono ?_
    rintro r12 w5_ ⟨hx5_, o12⟩
    have o12 := o12.toI
    have hs_hx5_ := hx5_.size
    refine ⟨(hx1_.trans (hx2_.trans (hx3_.trans hx5_))), ?_⟩
    unfold meetsL; rw [if_pos (Decidable.not_not.1 c1)]; exact o12.own.mono (by omega)

theorem bitsL_eq_nil {m : Nat} (h : m < 64) : bitsL m = [] ↔ m = 0 := by
  refine ⟨fun hb => Decidable.byContradiction fun h0 => ?_, fun e => by rw [e]; exact bitsL_zero⟩
  obtain ⟨i, hi⟩ := Nat.exists_testBit_of_ne_zero h0
  have hi6 : i < 6 := Decidable.byContradiction fun hc => by
    have h64 : m < 2 ^ 6 := h
    have := Nat.testBit_lt_two_pow (Nat.lt_of_lt_of_le h64 (Nat.pow_le_pow_right (by omega) (by omega : 6 ≤ i)))
    rw [this] at hi; cases hi
  have : (i : Int) ∈ bitsL m := by
    unfold bitsL
    exact mem_bitsTo.2 ⟨i, by omega, rfl, hi⟩
  rw [hb] at this
  cases this
def fairP (c : DCode) (s : DState) : Prop := (CodeR c ∧ StateR c s) ∧ meets c s = [] ∧ knotsTo c s s.stacks.length = 0
instance (c : DCode) (s : DState) : Decidable (fairP c s) := by unfold fairP; infer_instance
theorem len_zero {α : Type} {l : List α} : ((l.length : Int) = 0) ↔ l = [] := by
  rw [← List.length_eq_zero_iff]; omega
/-- impl.Fair -/
def F40 (a0 a1 : Value) (w : World) (R : Value → World → Prop) : Prop :=
  OP Tryz.prog (Instr.box 37 a0) w fun x2 w =>
  OP Tryz.prog (Instr.box 32 a1) w fun x3 w =>
  RD Tryz.prog (Instr.loadAt 37 x2) w fun x5 =>
  RD Tryz.prog (Instr.loadAt 32 x3) w fun x6 =>
  CALL Tryz.prog 71 [x5, x6] w fun x7 w =>
  BR x7
  (RD Tryz.prog (Instr.loadAt 37 x2) w fun x9 =>
  RD Tryz.prog (Instr.loadAt 32 x3) w fun x10 =>
  CALL Tryz.prog 103 [x9, x10] w fun x11 w =>
  RD Tryz.prog (Builtin.len_ #[61] 3 [x11].toArray) w fun x12 =>
  RD Tryz.prog (bin .eql 3 (.tmp 0) (.const undef) x12 (Value.int .i64 0)) w fun x13 =>
  BR x13
  (RD Tryz.prog (Instr.loadAt 37 x2) w fun x16 =>
  RD Tryz.prog (Instr.loadAt 32 x3) w fun x17 =>
  CALL Tryz.prog 104 [x16, x17] w fun x18 w =>
  RD Tryz.prog (bin .eql 3 (.tmp 0) (.const undef) x18 (Value.int .i64 0)) w fun x19 =>
  R x19 w)
  (R (Value.bool false) w))
  (R (Value.bool false) w)
def cfg40 : Cfg := { ext := extL, joins := [], loops := [], draws := [], pars := [] }
theorem F40_eq (a0 a1 : Value) (w : World) (R : Value → World → Prop) : vcF Tryz.prog cfg40 Tryz.f40 [a0, a1] w R = F40 a0 a1 w R := by kernel_rfl
theorem F40_call {a0 a1 : Value} {w : World} {R : Value → World → Prop} (h : F40 a0 a1 w R) : CALL Tryz.prog 40 [a0, a1] w R :=
  call_of (g := cfg40) ent mixed Tryz.func40 (Nat.le_of_ble_eq_true (by kernel_rfl)) (by kernel_rfl) (F40_eq a0 a1 w R ▸ h)


theorem implFair_ok {w : World} {v0 : Value} {W0 : World} {c : DCode} {v1 : Value} {W1 : World} {s : DState}  (h0 : Is W0 v0 c) (e0 : Ext W0 w) (h1 : Is W1 v1 s) (e1 : Ext W1 w)  :
    CALL Tryz.prog 40 [v0, v1] w fun r w' => Ext w w' ∧ (r = .bool (decide (fairP c s))) := by
  refine F40_call ?_
  unfold F40
  refine op_boxS ty37 rfl h0 e0 fun w1_ hx1_ hA2 hV2 => ?_
  refine op_boxS ty32 rfl h1 (e1.trans hx1_) fun w2_ hx2_ hA3 hV3 => ?_
  refine rd_var hV2 hx2_ ?_
  refine rd_var hV3 (Ext.refl w2_) ?_
  refine (implStateOk_ok h0 (e0.trans (hx1_.trans hx2_)) h1 (e1.trans (hx1_.trans hx2_))).mono ?_
  rintro _ w3_ ⟨hx3_, rfl⟩
  refine br (fun c1 => ?_) (fun c1 => ?_)
  · refine rd_var hV2 (hx2_.trans hx3_) ?_
    refine rd_var hV3 hx3_ ?_
    refine (meetings_ok h0 (e0.trans (hx1_.trans (hx2_.trans hx3_))) h1 (e1.trans (hx1_.trans (hx2_.trans hx3_))) c1.1 c1.2).mono ?_
    rintro r11 w4_ ⟨hx4_, o11⟩
    have hln12 := is_len o11.is
    refine rd_len u61 o11.is ?_
    refine rd_eql ?_
    refine br (fun c2 => ?_) (fun c2 => ?_)
    · refine rd_var hV2 (hx2_.trans (hx3_.trans hx4_)) ?_
      refine rd_var hV3 (hx3_.trans hx4_) ?_
      refine (knots_ok h0 (e0.trans (hx1_.trans (hx2_.trans (hx3_.trans hx4_)))) h1 (e1.trans (hx1_.trans (hx2_.trans (hx3_.trans hx4_)))) c1.1 c1.2).mono ?_
      rintro _ w5_ ⟨hx5_, rfl⟩
      refine rd_eql ?_
      refine ⟨(hx1_.trans (hx2_.trans (hx3_.trans (hx4_.trans hx5_)))), ?_⟩
      congr 1
      rw [decide_eq_decide]
      rw [len_zero] at c2
      exact ⟨fun h => ⟨c1, c2, by omega⟩, fun h => by have := h.2.2; omega⟩
    · refine ⟨(hx1_.trans (hx2_.trans (hx3_.trans hx4_))), ?_⟩
      have : ¬ fairP c s := fun h => c2 (len_zero.2 h.2.1)
      simp only [this, decide_false]
  · refine ⟨(hx1_.trans (hx2_.trans hx3_)), ?_⟩
    have : ¬ fairP c s := fun h => c1 h.1
    simp only [this, decide_false]

/-- spec.Fair -/
def F39 (a0 a1 : Value) (w : World) (R : Value → World → Prop) : Prop :=
  OP Tryz.prog (Instr.box 37 a0) w fun x2 w =>
  OP Tryz.prog (Instr.box 32 a1) w fun x3 w =>
  RD Tryz.prog (Instr.loadAt 37 x2) w fun x5 =>
  RD Tryz.prog (Instr.loadAt 32 x3) w fun x6 =>
  CALL Tryz.prog 88 [x5, x6] w fun x7 w =>
  BR x7
  (RD Tryz.prog (Instr.loadAt 37 x2) w fun x9 =>
  RD Tryz.prog (Instr.loadAt 32 x3) w fun x10 =>
  CALL Tryz.prog 101 [x9, x10] w fun x11 w =>
  RD Tryz.prog (Builtin.len_ #[61] 3 [x11].toArray) w fun x12 =>
  RD Tryz.prog (bin .eql 3 (.tmp 0) (.const undef) x12 (Value.int .i64 0)) w fun x13 =>
  BR x13
  (RD Tryz.prog (Instr.loadAt 37 x2) w fun x16 =>
  RD Tryz.prog (Instr.loadAt 32 x3) w fun x17 =>
  CALL Tryz.prog 102 [x16, x17] w fun x18 w =>
  RD Tryz.prog (Builtin.len_ #[23] 3 [x18].toArray) w fun x19 =>
  RD Tryz.prog (bin .eql 3 (.tmp 0) (.const undef) x19 (Value.int .i64 0)) w fun x20 =>
  R x20 w)
  (R (Value.bool false) w))
  (R (Value.bool false) w)
def cfg39 : Cfg := { ext := extL, joins := [], loops := [], draws := [], pars := [] }
theorem F39_eq (a0 a1 : Value) (w : World) (R : Value → World → Prop) : vcF Tryz.prog cfg39 Tryz.f39 [a0, a1] w R = F39 a0 a1 w R := by kernel_rfl
theorem F39_call {a0 a1 : Value} {w : World} {R : Value → World → Prop} (h : F39 a0 a1 w R) : CALL Tryz.prog 39 [a0, a1] w R :=
  call_of (g := cfg39) ent mixed Tryz.func39 (Nat.le_of_ble_eq_true (by kernel_rfl)) (by kernel_rfl) (F39_eq a0 a1 w R ▸ h)


theorem specFair_ok {w : World} {v0 : Value} {W0 : World} {c : DCode} {v1 : Value} {W1 : World} {s : DState}  (h0 : Is W0 v0 c) (e0 : Ext W0 w) (h1 : Is W1 v1 s) (e1 : Ext W1 w)  :
    CALL Tryz.prog 39 [v0, v1] w fun r w' => Ext w w' ∧ (r = .bool (decide (fairP c s))) := by
  refine F39_call ?_
  unfold F39
  refine op_boxS ty37 rfl h0 e0 fun w1_ hx1_ hA2 hV2 => ?_
  refine op_boxS ty32 rfl h1 (e1.trans hx1_) fun w2_ hx2_ hA3 hV3 => ?_
  refine rd_var hV2 hx2_ ?_
  refine rd_var hV3 (Ext.refl w2_) ?_
  refine (specStateOk_ok h0 (e0.trans (hx1_.trans hx2_)) h1 (e1.trans (hx1_.trans hx2_))).mono ?_
  rintro _ w3_ ⟨hx3_, rfl⟩
  refine br (fun c1 => ?_) (fun c1 => ?_)
  · refine rd_var hV2 (hx2_.trans hx3_) ?_
    refine rd_var hV3 hx3_ ?_
    refine (l24Meet_ok h0 (e0.trans (hx1_.trans (hx2_.trans hx3_))) h1 (e1.trans (hx1_.trans (hx2_.trans hx3_))) c1.1 c1.2).mono ?_
    rintro r11 w4_ ⟨hx4_, o11⟩
    have hln12 := is_len o11.is
    refine rd_len u61 o11.is ?_
    refine rd_eql ?_
    refine br (fun c2 => ?_) (fun c2 => ?_)
    · refine rd_var hV2 (hx2_.trans (hx3_.trans hx4_)) ?_
      refine rd_var hV3 (hx3_.trans hx4_) ?_
      refine (l24Knot_ok h0 (e0.trans (hx1_.trans (hx2_.trans (hx3_.trans hx4_)))) h1 (e1.trans (hx1_.trans (hx2_.trans (hx3_.trans hx4_)))) c1.1 c1.2).mono ?_
      rintro r18 w5_ ⟨hx5_, o18⟩
      have hln19 := is_len o18.is
      refine rd_len u23 o18.is ?_
      refine rd_eql ?_
      refine ⟨(hx1_.trans (hx2_.trans (hx3_.trans (hx4_.trans hx5_)))), ?_⟩
      congr 1
      rw [decide_eq_decide]
      rw [len_zero] at c2
      rw [len_zero, bitsL_eq_nil (knotsTo_lt c1.1 c1.2 _)]
      exact ⟨fun h => ⟨c1, c2, h⟩, fun h => h.2.2⟩
    · refine ⟨(hx1_.trans (hx2_.trans (hx3_.trans hx4_))), ?_⟩
      have : ¬ fairP c s := fun h => c2 (len_zero.2 h.2.1)
      simp only [this, decide_false]
  · refine ⟨(hx1_.trans (hx2_.trans hx3_)), ?_⟩
    have : ¬ fairP c s := fun h => c1 h.1
    simp only [this, decide_false]

end Go.Proofs.YteephmhilnlkpaaGreat
