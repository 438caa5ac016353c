/-
  A step that is asked for: the program's and the reference's.
-/
import Derived.Test.YteephmhilnlkpaaGreatStep
import Derived.Test.YteephmhilnlkpaaGreatStepS
namespace Go.Proofs.YteephmhilnlkpaaGreat
open Go Go.Sh Go.Proofs
set_option linter.unusedVariables false
set_option linter.unusedSimpArgs false

theorem copyState_own {w W : World} {v : Value} {s : DState} (h : Is W v s) (e : Ext W w) (hsz : StSz s) :
    CALL Tryz.prog 73 [v] w fun r w' => Ext w w' ∧ Own w.heap.size w' r s :=
  (copyState_ok h e hsz).mono fun r w' ⟨hx, z, ho, hz⟩ => ⟨hx, hz ▸ (ownI_er ho).own⟩
theorem l21Copy_own {w W : World} {v : Value} {s : DState} (h : Is W v s) (e : Ext W w) (hsz : StSz s) :
    CALL Tryz.prog 66 [v] w fun r w' => Ext w w' ∧ Own w.heap.size w' r s :=
  (l21Copy_ok h e hsz).mono fun r w' ⟨hx, z, ho, hz⟩ => ⟨hx, hz ▸ (ownI_er ho).own⟩
def stepOf (c : DCode) (s : DState) (t : Int) : DState := if (CodeR c ∧ StateR c s) ∧ GoR c s t then stepD c s t else s
/-- impl.StepOf -/
def F19 (a0 a1 a2 : Value) (w : World) (R : Value → World → Prop) : Prop :=
  OP Tryz.prog (Instr.box 37 a0) w fun x3 w =>
  OP Tryz.prog (Instr.box 32 a1) w fun x4 w =>
  OP Tryz.prog (Instr.alloc 32 true (.tuple #[])) w fun x6 w =>
  RD Tryz.prog (Instr.loadAt 37 x3) w fun x8 =>
  RD Tryz.prog (Instr.loadAt 32 x4) w fun x9 =>
  CALL Tryz.prog 71 [x8, x9] w fun x10 w =>
  RD Tryz.prog (Op.unary .not x10) w fun x11 =>
  BR x11
  (RD Tryz.prog (Instr.loadAt 32 x4) w fun x19 =>
   CALL Tryz.prog 73 [x19] w fun x20 w =>
   OPU Tryz.prog (Instr.storeAt 32 x6 x20) w fun w =>
   RD Tryz.prog (loadRes 32 x6) w fun r6 => R (Value.tuple #[r6, (Value.bool false)]) w)
  (RD Tryz.prog (Instr.loadAt 37 x3) w fun x13 =>
  RD Tryz.prog (Instr.loadAt 32 x4) w fun x14 =>
  CALL Tryz.prog 72 [x13, x14, a2] w fun x16 w =>
  RD Tryz.prog (Op.unary .not x16) w fun x17 =>
  BR x17
   (RD Tryz.prog (Instr.loadAt 32 x4) w fun x19 =>
   CALL Tryz.prog 73 [x19] w fun x20 w =>
   OPU Tryz.prog (Instr.storeAt 32 x6 x20) w fun w =>
   RD Tryz.prog (loadRes 32 x6) w fun r6 => R (Value.tuple #[r6, (Value.bool false)]) w)
   (RD Tryz.prog (Instr.loadAt 37 x3) w fun x21 =>
   RD Tryz.prog (Instr.loadAt 32 x4) w fun x22 =>
   CALL Tryz.prog 74 [x21, x22, a2] w fun x24 w =>
   OPU Tryz.prog (Instr.storeAt 32 x6 x24) w fun w =>
   RD Tryz.prog (loadRes 32 x6) w fun r6 => R (Value.tuple #[r6, (Value.bool true)]) w))
def cfg19 : Cfg := { ext := extL, joins := [], loops := [], draws := [], pars := [] }
theorem F19_eq (a0 a1 a2 : Value) (w : World) (R : Value → World → Prop) : vcF Tryz.prog cfg19 Tryz.f19 [a0, a1, a2] w R = F19 a0 a1 a2 w R := by kernel_rfl
theorem F19_call {a0 a1 a2 : Value} {w : World} {R : Value → World → Prop} (h : F19 a0 a1 a2 w R) : CALL Tryz.prog 19 [a0, a1, a2] w R :=
  call_of (g := cfg19) ent mixed Tryz.func19 (Nat.le_of_ble_eq_true (by kernel_rfl)) (by kernel_rfl) (F19_eq a0 a1 a2 w R ▸ h)


theorem implStepOf_ok {w : World} {v0 : Value} {W0 : World} {c : DCode} {v1 : Value} {W1 : World} {s : DState} {t : Int}  (h0 : Is W0 v0 c) (e0 : Ext W0 w) (h1 : Is W1 v1 s) (e1 : Ext W1 w) (hz : StSz s) :
    CALL Tryz.prog 19 [v0, v1, .int .i64 t] w fun r w' => Ext w w' ∧ (∃ a, r = .tuple #[a, .bool (decide ((CodeR c ∧ StateR c s) ∧ GoR c s t))] ∧ Own w.heap.size w' a (stepOf c s t)) := by
  refine F19_call ?_
  unfold F19
  have hs_e0 := e0.size
  have hs_e1 := e1.size
  refine op_boxS ty37 rfl h0 e0 fun w1_ hx1_ hA3 hV3 => ?_
  have hs_hx1_ := hx1_.size
  refine op_boxS ty32 rfl h1 (e1.trans hx1_) fun w2_ hx2_ hA4 hV4 => ?_
  have hs_hx2_ := hx2_.size
  refine op_varZ (α := DState) zl32 fun w3_ hx3_ hv6 => ?_
  have hg6 := hv6.lt
  have hs_hx3_ := hx3_.size
  refine rd_var hV3 (hx2_.trans hx3_) ?_
  refine rd_var hV4 hx3_ ?_
  refine (implStateOk_ok h0 (e0.trans (hx1_.trans (hx2_.trans hx3_))) h1 (e1.trans (hx1_.trans (hx2_.trans hx3_)))).mono ?_
  rintro _ w4_ ⟨hx4_, rfl⟩
  have hs_hx4_ := hx4_.size
  refine rd_nodec ?_
  refine br (fun c1 => ?_) (fun c1 => ?_)
  · refine rd_var hV4 (hx3_.trans hx4_) ?_
    refine (copyState_own h1 (e1.trans (hx1_.trans (hx2_.trans (hx3_.trans hx4_)))) (by assumption)).mono ?_
    rintro r20 w5_ ⟨hx5_, o20⟩
    have o20 := o20.toI
    have hs_hx5_ := hx5_.size
    refine opu_varA ty32 (hv6.ext (hx4_.trans hx5_)) (o20.ext (Ext.refl w5_)) (by omega) fun w6_ hc6_ hv6_s6 => ?_
    have hs_hc6_ := hc6_.size
    have o20_c6 := (o20.ext (Ext.refl w5_)).chg hc6_ (by omega)
    refine rd_varRI ty32 hv6_s6 (Ext.refl w6_) fun r6 hr6 => ?_
    replace hr6 := hr6.ext (Ext.refl w6_)
    refine ⟨(Ext.chgI ((((hx1_.trans hx2_).trans hx3_).trans hx4_).trans hx5_) hc6_ (by omega)), ?_⟩
    rw [decide_eq_false fun h => c1 h.1, show stepOf c s t = s from if_neg fun h => c1 h.1]
    exact ⟨_, rfl, hr6.own.mono (by omega)⟩
  · have hcs := Decidable.not_not.1 c1
    have hc := hcs.1
    have hs := hcs.2
    refine rd_var hV3 (hx2_.trans (hx3_.trans hx4_)) ?_
    refine rd_var hV4 (hx3_.trans hx4_) ?_
    refine (goes_ok h0 (e0.trans (hx1_.trans (hx2_.trans (hx3_.trans hx4_)))) h1 (e1.trans (hx1_.trans (hx2_.trans (hx3_.trans hx4_)))) (by assumption) (by assumption)).mono ?_
    rintro _ w7_ ⟨hx7_, rfl⟩
    have hs_hx7_ := hx7_.size
    refine rd_nodec ?_
    refine br (fun c2 => ?_) (fun c2 => ?_)
    · refine rd_var hV4 (hx3_.trans (hx4_.trans hx7_)) ?_
      refine (copyState_own h1 (e1.trans (hx1_.trans (hx2_.trans (hx3_.trans (hx4_.trans hx7_))))) (by assumption)).mono ?_
      rintro r20 w8_ ⟨hx8_, o20⟩
      have o20 := o20.toI
      have hs_hx8_ := hx8_.size
      refine opu_varA ty32 (hv6.ext (hx4_.trans (hx7_.trans hx8_))) (o20.ext (Ext.refl w8_)) (by omega) fun w9_ hc9_ hv6_s9 => ?_
      have hs_hc9_ := hc9_.size
      have o20_c9 := (o20.ext (Ext.refl w8_)).chg hc9_ (by omega)
      refine rd_varRI ty32 hv6_s9 (Ext.refl w9_) fun r6 hr6 => ?_
      replace hr6 := hr6.ext (Ext.refl w9_)
      refine ⟨(Ext.chgI (((((hx1_.trans hx2_).trans hx3_).trans hx4_).trans hx7_).trans hx8_) hc9_ (by omega)), ?_⟩
      rw [decide_eq_false fun h => c2 h.2, show stepOf c s t = s from if_neg fun h => c2 h.2]
      exact ⟨_, rfl, hr6.own.mono (by omega)⟩
    · have hgo := Decidable.not_not.1 c2
      refine rd_var hV3 (hx2_.trans (hx3_.trans (hx4_.trans hx7_))) ?_
      refine rd_var hV4 (hx3_.trans (hx4_.trans hx7_)) ?_
      refine (stepped_ok h0 (e0.trans (hx1_.trans (hx2_.trans (hx3_.trans (hx4_.trans hx7_))))) h1 (e1.trans (hx1_.trans (hx2_.trans (hx3_.trans (hx4_.trans hx7_))))) (by assumption) (by assumption) (by assumption)).mono ?_
      rintro r24 w10_ ⟨hx10_, o24⟩
      have o24 := o24.toI
      have hs_hx10_ := hx10_.size
      refine opu_varA ty32 (hv6.ext (hx4_.trans (hx7_.trans hx10_))) (o24.ext (Ext.refl w10_)) (by omega) fun w11_ hc11_ hv6_s11 => ?_
      have hs_hc11_ := hc11_.size
      have o24_c11 := (o24.ext (Ext.refl w10_)).chg hc11_ (by omega)
      refine rd_varRI ty32 hv6_s11 (Ext.refl w11_) fun r6 hr6 => ?_
      replace hr6 := hr6.ext (Ext.refl w11_)
      refine ⟨(Ext.chgI (((((hx1_.trans hx2_).trans hx3_).trans hx4_).trans hx7_).trans hx10_) hc11_ (by omega)), ?_⟩
      rw [decide_eq_true ⟨hcs, hgo⟩, show stepOf c s t = stepD c s t from if_pos ⟨hcs, hgo⟩]
      exact ⟨_, rfl, hr6.own.mono (by omega)⟩

/-- spec.StepOf -/
def F16 (a0 a1 a2 : Value) (w : World) (R : Value → World → Prop) : Prop :=
  OP Tryz.prog (Instr.box 37 a0) w fun x3 w =>
  OP Tryz.prog (Instr.box 32 a1) w fun x4 w =>
  OP Tryz.prog (Instr.alloc 32 true (.tuple #[])) w fun x6 w =>
  RD Tryz.prog (Instr.loadAt 37 x3) w fun x8 =>
  RD Tryz.prog (Instr.loadAt 32 x4) w fun x9 =>
  CALL Tryz.prog 65 [x8, x9, a2] w fun x11 w =>
  RD Tryz.prog (Op.unary .not x11) w fun x12 =>
  BR x12
   (RD Tryz.prog (Instr.loadAt 32 x4) w fun x13 =>
   CALL Tryz.prog 66 [x13] w fun x14 w =>
   OPU Tryz.prog (Instr.storeAt 32 x6 x14) w fun w =>
   RD Tryz.prog (loadRes 32 x6) w fun r6 => R (Value.tuple #[r6, (Value.bool false)]) w)
   (RD Tryz.prog (Instr.loadAt 37 x3) w fun x15 =>
   RD Tryz.prog (Instr.loadAt 32 x4) w fun x16 =>
   CALL Tryz.prog 67 [x15, x16, a2] w fun x18 w =>
   OPU Tryz.prog (Instr.storeAt 32 x6 x18) w fun w =>
   RD Tryz.prog (loadRes 32 x6) w fun r6 => R (Value.tuple #[r6, (Value.bool true)]) w)
def cfg16 : Cfg := { ext := extL, joins := [], loops := [], draws := [], pars := [] }
theorem F16_eq (a0 a1 a2 : Value) (w : World) (R : Value → World → Prop) : vcF Tryz.prog cfg16 Tryz.f16 [a0, a1, a2] w R = F16 a0 a1 a2 w R := by kernel_rfl
theorem F16_call {a0 a1 a2 : Value} {w : World} {R : Value → World → Prop} (h : F16 a0 a1 a2 w R) : CALL Tryz.prog 16 [a0, a1, a2] w R :=
  call_of (g := cfg16) ent mixed Tryz.func16 (Nat.le_of_ble_eq_true (by kernel_rfl)) (by kernel_rfl) (F16_eq a0 a1 a2 w R ▸ h)


theorem specStepOf_ok {w : World} {v0 : Value} {W0 : World} {c : DCode} {v1 : Value} {W1 : World} {s : DState} {t : Int}  (h0 : Is W0 v0 c) (e0 : Ext W0 w) (h1 : Is W1 v1 s) (e1 : Ext W1 w) (hz : StSz s) :
    CALL Tryz.prog 16 [v0, v1, .int .i64 t] w fun r w' => Ext w w' ∧ (∃ a, r = .tuple #[a, .bool (decide ((CodeR c ∧ StateR c s) ∧ GoR c s t))] ∧ Own w.heap.size w' a (stepOf c s t)) := by
  refine F16_call ?_
  unfold F16
  have hs_e0 := e0.size
  have hs_e1 := e1.size
  refine op_boxS ty37 rfl h0 e0 fun w1_ hx1_ hA3 hV3 => ?_
  have hs_hx1_ := hx1_.size
  refine op_boxS ty32 rfl h1 (e1.trans hx1_) fun w2_ hx2_ hA4 hV4 => ?_
  have hs_hx2_ := hx2_.size
  refine op_varZ (α := DState) zl32 fun w3_ hx3_ hv6 => ?_
  have hg6 := hv6.lt
  have hs_hx3_ := hx3_.size
  refine rd_var hV3 (hx2_.trans hx3_) ?_
  refine rd_var hV4 hx3_ ?_
  refine (specCanGo_ok h0 (e0.trans (hx1_.trans (hx2_.trans hx3_))) h1 (e1.trans (hx1_.trans (hx2_.trans hx3_)))).mono ?_
  rintro _ w4_ ⟨hx4_, rfl⟩
  have hs_hx4_ := hx4_.size
  refine rd_nodec ?_
  refine br (fun c1 => ?_) (fun c1 => ?_)
  · refine rd_var hV4 (hx3_.trans hx4_) ?_
    refine (l21Copy_own h1 (e1.trans (hx1_.trans (hx2_.trans (hx3_.trans hx4_)))) (by assumption)).mono ?_
    rintro r14 w5_ ⟨hx5_, o14⟩
    have o14 := o14.toI
    have hs_hx5_ := hx5_.size
    refine opu_varA ty32 (hv6.ext (hx4_.trans hx5_)) (o14.ext (Ext.refl w5_)) (by omega) fun w6_ hc6_ hv6_s6 => ?_
    have hs_hc6_ := hc6_.size
    have o14_c6 := (o14.ext (Ext.refl w5_)).chg hc6_ (by omega)
    refine rd_varRI ty32 hv6_s6 (Ext.refl w6_) fun r6 hr6 => ?_
    replace hr6 := hr6.ext (Ext.refl w6_)
    refine ⟨(Ext.chgI ((((hx1_.trans hx2_).trans hx3_).trans hx4_).trans hx5_) hc6_ (by omega)), ?_⟩
    rw [decide_eq_false c1, show stepOf c s t = s from if_neg c1]
    exact ⟨_, rfl, hr6.own.mono (by omega)⟩
  · have hcs := Decidable.not_not.1 c1
    have hc := hcs.1.1
    have hs := hcs.1.2
    have hgo := hcs.2
    refine rd_var hV3 (hx2_.trans (hx3_.trans hx4_)) ?_
    refine rd_var hV4 (hx3_.trans hx4_) ?_
    refine (l21Step_ok h0 (e0.trans (hx1_.trans (hx2_.trans (hx3_.trans hx4_)))) h1 (e1.trans (hx1_.trans (hx2_.trans (hx3_.trans hx4_)))) (by assumption) (by assumption) (by assumption)).mono ?_
    rintro r18 w7_ ⟨hx7_, o18⟩
    have o18 := o18.toI
    have hs_hx7_ := hx7_.size
    refine opu_varA ty32 (hv6.ext (hx4_.trans hx7_)) (o18.ext (Ext.refl w7_)) (by omega) fun w8_ hc8_ hv6_s8 => ?_
    have hs_hc8_ := hc8_.size
    have o18_c8 := (o18.ext (Ext.refl w7_)).chg hc8_ (by omega)
    refine rd_varRI ty32 hv6_s8 (Ext.refl w8_) fun r6 hr6 => ?_
    replace hr6 := hr6.ext (Ext.refl w8_)
    refine ⟨(Ext.chgI ((((hx1_.trans hx2_).trans hx3_).trans hx4_).trans hx7_) hc8_ (by omega)), ?_⟩
    rw [decide_eq_true hcs, show stepOf c s t = stepD c s t from if_pos hcs]
    exact ⟨_, rfl, hr6.own.mono (by omega)⟩

end Go.Proofs.YteephmhilnlkpaaGreat
