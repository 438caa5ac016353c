/-
  Touches that clash; the race of two touches; races put in order one by one.
-/
import Derived.Test.YteephmhilnlkpaaGreatCompactR
import Derived.Test.YteephmhilnlkpaaGreatTouch
import Derived.Test.YteephmhilnlkpaaGreatBits
import Derived.Test.YteephmhilnlkpaaGreatCmp
namespace Go.Proofs.YteephmhilnlkpaaGreat
open Go Go.Sh Go.Proofs
set_option linter.unusedVariables false
/-- impl.raceOf -/
def F175 (a0 a1 : Value) (w : World) (R : Value → World → Prop) : Prop :=
  OP Tryz.prog (Instr.box 171 a0) w fun x2 w =>
  OP Tryz.prog (Instr.box 171 a1) w fun x3 w =>
  OP Tryz.prog (Instr.alloc 117 true (.tuple #[])) w fun x4 w =>
  RD Tryz.prog (Instr.fieldAt 171 x2 1) w fun x5 =>
  RD Tryz.prog (Instr.loadAt 3 x5) w fun x6 =>
  RD Tryz.prog (Instr.fieldAt 171 x2 0) w fun x7 =>
  RD Tryz.prog (Instr.loadAt 3 x7) w fun x8 =>
  RD Tryz.prog (Instr.fieldAt 171 x3 0) w fun x9 =>
  RD Tryz.prog (Instr.loadAt 3 x9) w fun x10 =>
  RD Tryz.prog (Builtin.min_ #[3, 3] 3 [x8, x10].toArray) w fun x11 =>
  RD Tryz.prog (Instr.fieldAt 171 x2 0) w fun x12 =>
  RD Tryz.prog (Instr.loadAt 3 x12) w fun x13 =>
  RD Tryz.prog (Instr.fieldAt 171 x3 0) w fun x14 =>
  RD Tryz.prog (Instr.loadAt 3 x14) w fun x15 =>
  RD Tryz.prog (Builtin.max_ #[3, 3] 3 [x13, x15].toArray) w fun x16 =>
  RD Tryz.prog (Instr.build 117 #[(0, x6), (1, x11), (2, x16)]) w fun x17 =>
  OPU Tryz.prog (Instr.storeAt 117 x4 x17) w fun w =>
  RD Tryz.prog (loadRes 117 x4) w fun r4 => R r4 w
def cfg175 : Cfg := { ext := extL, joins := [], loops := [], draws := [], pars := [] }
theorem F175_eq (a0 a1 : Value) (w : World) (R : Value → World → Prop) : vcF Tryz.prog cfg175 Tryz.f175 [a0, a1] w R = F175 a0 a1 w R := by kernel_rfl
theorem F175_call {a0 a1 : Value} {w : World} {R : Value → World → Prop} (h : F175 a0 a1 w R) : CALL Tryz.prog 175 [a0, a1] w R :=
  call_of (g := cfg175) ent mixed Tryz.func175 (Nat.le_of_ble_eq_true (by kernel_rfl)) (by kernel_rfl) (F175_eq a0 a1 w R ▸ h)

set_option linter.unusedVariables false
set_option linter.unusedSimpArgs false

/-- impl.isSet -/
def F234 (a0 : Value) (w : World) (R : Value → World → Prop) : Prop :=
  RD Tryz.prog (bin .geq 3 (.tmp 0) (.const undef) a0 (Value.int .i64 0)) w fun x4 =>
  BR x4
  (RD Tryz.prog (bin .leq 3 (.tmp 0) (.const undef) a0 (Value.int .i64 63)) w fun x7 =>
  R x7 w)
  (R (Value.bool false) w)
def cfg234 : Cfg := { ext := extL, joins := [], loops := [], draws := [], pars := [] }
theorem F234_eq (a0 : Value) (w : World) (R : Value → World → Prop) : vcF Tryz.prog cfg234 Tryz.f234 [a0] w R = F234 a0 w R := by kernel_rfl
theorem F234_call {a0 : Value} {w : World} {R : Value → World → Prop} (h : F234 a0 w R) : CALL Tryz.prog 234 [a0] w R :=
  call_of (g := cfg234) ent mixed Tryz.func234 (Nat.le_of_ble_eq_true (by kernel_rfl)) (by kernel_rfl) (F234_eq a0 w R ▸ h)


theorem isSet_ok {w : World} {n : Int}    :
    CALL Tryz.prog 234 [.int .i64 n] w fun r w' => Ext w w' ∧ (r = .bool (decide (0 ≤ n ∧ n ≤ 63))) := by
  refine F234_call ?_
  unfold F234
  refine rd_geq ?_
  refine br (fun c1 => ?_) (fun c1 => ?_)
  · refine rd_leq ?_
    refine ⟨Ext.refl w, ?_⟩
    simp [c1]
  · refine ⟨Ext.refl w, ?_⟩
    simp [c1]

def clashP (a b : DTouch) : Prop := a.global = b.global ∧ (a.write = true ∨ b.write = true) ∧ (0 ≤ a.held ∧ a.held ≤ 63) ∧ (0 ≤ b.held ∧ b.held ≤ 63) ∧ a.held.toNat &&& b.held.toNat = 0
instance (a b : DTouch) : Decidable (clashP a b) := by unfold clashP; infer_instance
/-- impl.clash -/
def F174 (a0 a1 : Value) (w : World) (R : Value → World → Prop) : Prop :=
  OP Tryz.prog (Instr.box 171 a0) w fun x2 w =>
  OP Tryz.prog (Instr.box 171 a1) w fun x3 w =>
  JOIN [] (fun J3 =>
   RD Tryz.prog (Instr.fieldAt 171 x2 1) w fun x5 =>
   RD Tryz.prog (Instr.loadAt 3 x5) w fun x6 =>
   RD Tryz.prog (Instr.fieldAt 171 x3 1) w fun x7 =>
   RD Tryz.prog (Instr.loadAt 3 x7) w fun x8 =>
   RD Tryz.prog (bin .neq 3 (.tmp 0) (.tmp 0) x6 x8) w fun x9 =>
   BR x9
   (R (Value.bool false) w)
   (RD Tryz.prog (Instr.fieldAt 171 x2 2) w fun x11 =>
   RD Tryz.prog (Instr.loadAt 4 x11) w fun x12 =>
   RD Tryz.prog (Op.unary .not x12) w fun x13 =>
   GBR x13
   (RD Tryz.prog (Instr.fieldAt 171 x3 2) w fun x15 =>
   RD Tryz.prog (Instr.loadAt 4 x15) w fun x16 =>
   RD Tryz.prog (Op.unary .not x16) w fun x17 =>
   BR x17
    (R (Value.bool false) w)
    (J3 [] w))
   (J3 [] w)
   (BR undef
   (BR undef
    (R (Value.bool false) w)
    (J3 [] w))
   (J3 [] w)))) (fun u3 w =>
   RD Tryz.prog (Instr.fieldAt 171 x2 3) w fun x20 =>
   RD Tryz.prog (Instr.loadAt 3 x20) w fun x21 =>
   CALL Tryz.prog 234 [x21] w fun x22 w =>
   BR x22
   (RD Tryz.prog (Instr.fieldAt 171 x3 3) w fun x24 =>
   RD Tryz.prog (Instr.loadAt 3 x24) w fun x25 =>
   CALL Tryz.prog 234 [x25] w fun x26 w =>
   BR x26
   (RD Tryz.prog (Instr.fieldAt 171 x2 3) w fun x29 =>
   RD Tryz.prog (Instr.loadAt 3 x29) w fun x30 =>
   RD Tryz.prog (Instr.fieldAt 171 x3 3) w fun x31 =>
   RD Tryz.prog (Instr.loadAt 3 x31) w fun x32 =>
   RD Tryz.prog (bin .and 3 (.tmp 0) (.tmp 0) x30 x32) w fun x33 =>
   RD Tryz.prog (bin .eql 3 (.tmp 0) (.const undef) x33 (Value.int .i64 0)) w fun x34 =>
   R x34 w)
   (R (Value.bool false) w))
   (R (Value.bool false) w))
def cfg174 : Cfg := { ext := extL, joins := [(3, 1048560, [])], loops := [], draws := [], pars := [] }
theorem F174_eq (a0 a1 : Value) (w : World) (R : Value → World → Prop) : vcF Tryz.prog cfg174 Tryz.f174 [a0, a1] w R = F174 a0 a1 w R := by kernel_rfl
theorem F174_call {a0 a1 : Value} {w : World} {R : Value → World → Prop} (h : F174 a0 a1 w R) : CALL Tryz.prog 174 [a0, a1] w R :=
  call_of (g := cfg174) ent mixed Tryz.func174 (Nat.le_of_ble_eq_true (by kernel_rfl)) (by kernel_rfl) (F174_eq a0 a1 w R ▸ h)


theorem clash_ok {w : World} {v0 : Value} {W0 : World} {a : DTouch} {v1 : Value} {W1 : World} {b : DTouch}  (h0 : Is W0 v0 a) (e0 : Ext W0 w) (h1 : Is W1 v1 b) (e1 : Ext W1 w)  :
    CALL Tryz.prog 174 [v0, v1] w fun r w' => Ext w w' ∧ (r = .bool (decide (clashP a b))) := by
  refine F174_call ?_
  unfold F174
  refine op_boxS ty171 rfl h0 e0 fun w1_ hx1_ hA2 hV2 => ?_
  refine op_boxS ty171 rfl h1 (e1.trans hx1_) fun w2_ hx2_ hA3 hV3 => ?_
  refine JOIN.mk (fun us w' => us = [] ∧ Ext w2_ w' ∧ (a.global = b.global ∧ (a.write = true ∨ b.write = true))) ?_ ?_
  · refine rd_fld fd171_1 ?_
    refine rd_loadI ty3 (at_DTouch_1 hA2) hx2_ fun hI6 => ?_
    refine rd_fld fd171_1 ?_
    refine rd_loadI ty3 (at_DTouch_1 hA3) (Ext.refl w2_) fun hI8 => ?_
    refine rd_neq ?_
    refine br (fun c1 => ?_) (fun c1 => ?_)
    · refine ⟨(hx1_.trans hx2_), ?_⟩
      have : ¬ clashP a b := fun h => c1 h.1
      simp only [this, decide_false]
    · refine rd_fld fd171_2 ?_
      refine rd_loadB ty4 (at_DTouch_2 hA2) hx2_ ?_
      refine rd_not ?_
      refine gbr_b (fun c2 => ?_) (fun c2 => ?_)
      · refine rd_fld fd171_2 ?_
        refine rd_loadB ty4 (at_DTouch_2 hA3) (Ext.refl w2_) ?_
        refine rd_not ?_
        refine br_b (fun c3 => ?_) (fun c3 => ?_)
        · refine ⟨(hx1_.trans hx2_), ?_⟩
          have : ¬ clashP a b := fun h => by rcases h.2.1 with h | h <;> simp_all
          simp only [this, decide_false]
        · refine ⟨by simp, Ext.refl w2_, ?_⟩
          exact ⟨by omega, .inr (by simpa using c3)⟩
      · refine ⟨by simp, Ext.refl w2_, ?_⟩
        exact ⟨by omega, .inl (by simpa using c2)⟩
  · rintro uj3 w3_ ⟨hu, hx3_, hgl, hwr⟩
    simp only [List.map_cons, List.map_nil, List.cons.injEq, and_true] at hu
    clear hu
    refine rd_fld fd171_3 ?_
    refine rd_loadI ty3 (at_DTouch_3 hA2) (hx2_.trans hx3_) fun hI21 => ?_
    refine (isSet_ok ).mono ?_
    rintro _ w4_ ⟨hx4_, rfl⟩
    refine br (fun c4 => ?_) (fun c4 => ?_)
    · refine rd_fld fd171_3 ?_
      refine rd_loadI ty3 (at_DTouch_3 hA3) (hx3_.trans hx4_) fun hI25 => ?_
      refine (isSet_ok ).mono ?_
      rintro _ w5_ ⟨hx5_, rfl⟩
      refine br (fun c5 => ?_) (fun c5 => ?_)
      · refine rd_fld fd171_3 ?_
        refine rd_loadI ty3 (at_DTouch_3 hA2) (hx2_.trans (hx3_.trans (hx4_.trans hx5_))) fun hI30 => ?_
        refine rd_fld fd171_3 ?_
        refine rd_loadI ty3 (at_DTouch_3 hA3) (hx3_.trans (hx4_.trans hx5_)) fun hI32 => ?_
        obtain ⟨m, hm⟩ := Int.eq_ofNat_of_zero_le c4.1
        obtain ⟨n, hn⟩ := Int.eq_ofNat_of_zero_le c5.1
        rw [hm, hn]
        refine rd_and (by omega) (by omega) ?_
        refine rd_eql ?_
        refine ⟨(hx1_.trans (hx2_.trans (hx3_.trans (hx4_.trans hx5_)))), ?_⟩
        have : clashP a b ↔ m &&& n = 0 := by
          have e1 : a.held.toNat = m := by omega
          have e2 : b.held.toNat = n := by omega
          unfold clashP
          rw [e1, e2]
          exact ⟨fun h => h.2.2.2.2, fun h => ⟨hgl, hwr, c4, c5, h⟩⟩
        congr 1
        rw [decide_eq_decide, this]
        omega
      · refine ⟨(hx1_.trans (hx2_.trans (hx3_.trans (hx4_.trans hx5_)))), ?_⟩
        have : ¬ clashP a b := fun h => c5 h.2.2.2.1
        simp only [this, decide_false]
    · refine ⟨(hx1_.trans (hx2_.trans (hx3_.trans hx4_))), ?_⟩
      have : ¬ clashP a b := fun h => c4 h.2.2.1
      simp only [this, decide_false]

def raceOf (a b : DTouch) : DRace := ⟨a.global, min a.at_ b.at_, max a.at_ b.at_⟩
theorem raceOf_ok {w W0 W1 : World} {v0 v1 : Value} {a b : DTouch} (h0 : Is W0 v0 a) (e0 : Ext W0 w) (h1 : Is W1 v1 b) (e1 : Ext W1 w) :
    CALL Tryz.prog 175 [v0, v1] w fun r w' => Ext w w' ∧ ∀ lo hi, OwnI lo hi w' r (raceOf a b) := by
  refine F175_call ?_
  unfold F175
  refine op_box h0 e0 fun w1 hx1 hA => ?_
  refine op_box h1 (e1.trans hx1) fun w2 hx2 hB => ?_
  refine op_varZ (α := DRace) zl117 fun w3 hx3 hv => ?_
  have hs1 := hx1.size
  have hs2 := hx2.size
  have hs3 := hx3.size
  have hx23 := hx2.trans hx3
  refine rd_fld fd171_1 ?_
  refine rd_loadI ty3 (at_DTouch_1 hA) hx23 fun hI6 => ?_
  refine rd_fld fd171_0 ?_
  refine rd_loadI ty3 (at_DTouch_0 hA) hx23 fun hI8 => ?_
  refine rd_fld fd171_0 ?_
  refine rd_loadI ty3 (at_DTouch_0 hB) hx3 fun hI10 => ?_
  refine rd_min ?_
  refine rd_fld fd171_0 ?_
  refine rd_loadI ty3 (at_DTouch_0 hA) hx23 fun _ => ?_
  refine rd_fld fd171_0 ?_
  refine rd_loadI ty3 (at_DTouch_0 hB) hx3 fun _ => ?_
  refine rd_max ?_
  have hm : ∀ (w : World) lo hi, OwnI lo hi w (.agg #[.int .i64 a.global, .int .i64 (min a.at_ b.at_), .int .i64 (max a.at_ b.at_)]) (raceOf a b) := fun w lo hi => ⟨[], mine_race (x := raceOf a b) hI6 (by unfold I64 raceOf at *; simp only; omega) (by unfold I64 raceOf at *; simp only; omega), by simp⟩
  refine rd_build (cells := #[.int .i64 a.global, .int .i64 (min a.at_ b.at_), .int .i64 (max a.at_ b.at_)]) (by kernel_rfl) ?_
  have hg := hv.lt
  refine opu_varA (lo := w3.heap.size) (hi := w3.heap.size) ty117 hv (hm w3 _ _) (by omega) fun w4 hc4 hv4 => ?_
  have hs4 := hc4.size
  refine rd_varRI ty117 hv4 (Ext.refl _) fun r hr => ?_
  refine ⟨Ext.chgI (hx1.trans hx23) hc4 (by omega), fun lo hi => ?_⟩
  obtain ⟨F, hM, _⟩ := hr
  obtain ⟨cs, h, _⟩ := hM.own
  have hF := Flat.flat h
  subst hF
  exact ⟨[], hM, by simp⟩
instance (x y : DRace) : Decidable (ltR x y) := by unfold ltR; infer_instance
/-- spec.RaceLess -/
def F233 (a0 a1 : Value) (w : World) (R : Value → World → Prop) : Prop :=
  OP Tryz.prog (Instr.box 117 a0) w fun x2 w =>
  OP Tryz.prog (Instr.box 117 a1) w fun x3 w =>
  RD Tryz.prog (Instr.fieldAt 117 x2 0) w fun x5 =>
  RD Tryz.prog (Instr.loadAt 3 x5) w fun x6 =>
  RD Tryz.prog (Instr.fieldAt 117 x3 0) w fun x7 =>
  RD Tryz.prog (Instr.loadAt 3 x7) w fun x8 =>
  RD Tryz.prog (bin .neq 3 (.tmp 0) (.tmp 0) x6 x8) w fun x9 =>
  BR x9
   (RD Tryz.prog (Instr.fieldAt 117 x2 0) w fun x10 =>
   RD Tryz.prog (Instr.loadAt 3 x10) w fun x11 =>
   RD Tryz.prog (Instr.fieldAt 117 x3 0) w fun x12 =>
   RD Tryz.prog (Instr.loadAt 3 x12) w fun x13 =>
   RD Tryz.prog (bin .lss 3 (.tmp 0) (.tmp 0) x11 x13) w fun x14 =>
   R x14 w)
   (RD Tryz.prog (Instr.fieldAt 117 x2 1) w fun x15 =>
   RD Tryz.prog (Instr.loadAt 3 x15) w fun x16 =>
   RD Tryz.prog (Instr.fieldAt 117 x3 1) w fun x17 =>
   RD Tryz.prog (Instr.loadAt 3 x17) w fun x18 =>
   RD Tryz.prog (bin .neq 3 (.tmp 0) (.tmp 0) x16 x18) w fun x19 =>
   BR x19
    (RD Tryz.prog (Instr.fieldAt 117 x2 1) w fun x20 =>
    RD Tryz.prog (Instr.loadAt 3 x20) w fun x21 =>
    RD Tryz.prog (Instr.fieldAt 117 x3 1) w fun x22 =>
    RD Tryz.prog (Instr.loadAt 3 x22) w fun x23 =>
    RD Tryz.prog (bin .lss 3 (.tmp 0) (.tmp 0) x21 x23) w fun x24 =>
    R x24 w)
    (RD Tryz.prog (Instr.fieldAt 117 x2 2) w fun x25 =>
    RD Tryz.prog (Instr.loadAt 3 x25) w fun x26 =>
    RD Tryz.prog (Instr.fieldAt 117 x3 2) w fun x27 =>
    RD Tryz.prog (Instr.loadAt 3 x27) w fun x28 =>
    RD Tryz.prog (bin .lss 3 (.tmp 0) (.tmp 0) x26 x28) w fun x29 =>
    R x29 w))
def cfg233 : Cfg := { ext := extL, joins := [], loops := [], draws := [], pars := [] }
theorem F233_eq (a0 a1 : Value) (w : World) (R : Value → World → Prop) : vcF Tryz.prog cfg233 Tryz.f233 [a0, a1] w R = F233 a0 a1 w R := by kernel_rfl
theorem F233_call {a0 a1 : Value} {w : World} {R : Value → World → Prop} (h : F233 a0 a1 w R) : CALL Tryz.prog 233 [a0, a1] w R :=
  call_of (g := cfg233) ent mixed Tryz.func233 (Nat.le_of_ble_eq_true (by kernel_rfl)) (by kernel_rfl) (F233_eq a0 a1 w R ▸ h)


theorem raceLess_ok {w : World} {v0 : Value} {W0 : World} {x : DRace} {v1 : Value} {W1 : World} {y : DRace}  (h0 : Is W0 v0 x) (e0 : Ext W0 w) (h1 : Is W1 v1 y) (e1 : Ext W1 w)  :
    CALL Tryz.prog 233 [v0, v1] w fun r w' => Ext w w' ∧ (r = .bool (decide (ltR x y))) := by
  refine F233_call ?_
  unfold F233
  refine op_boxS ty117 rfl h0 e0 fun w1_ hx1_ hA2 hV2 => ?_
  refine op_boxS ty117 rfl h1 (e1.trans hx1_) fun w2_ hx2_ hA3 hV3 => ?_
  refine rd_fld fd117_0 ?_
  refine rd_loadI ty3 (at_DRace_0 hA2) hx2_ fun hI6 => ?_
  refine rd_fld fd117_0 ?_
  refine rd_loadI ty3 (at_DRace_0 hA3) (Ext.refl w2_) fun hI8 => ?_
  refine rd_neq ?_
  refine br (fun c1 => ?_) (fun c1 => ?_)
  · refine rd_fld fd117_0 ?_
    refine rd_loadI ty3 (at_DRace_0 hA2) hx2_ fun hI11 => ?_
    refine rd_fld fd117_0 ?_
    refine rd_loadI ty3 (at_DRace_0 hA3) (Ext.refl w2_) fun hI13 => ?_
    refine rd_lss ?_
    refine ⟨(hx1_.trans hx2_), ?_⟩
    congr 1
    rw [decide_eq_decide]
    unfold ltR
    omega
  · refine rd_fld fd117_1 ?_
    refine rd_loadI ty3 (at_DRace_1 hA2) hx2_ fun hI16 => ?_
    refine rd_fld fd117_1 ?_
    refine rd_loadI ty3 (at_DRace_1 hA3) (Ext.refl w2_) fun hI18 => ?_
    refine rd_neq ?_
    refine br (fun c2 => ?_) (fun c2 => ?_)
    · refine rd_fld fd117_1 ?_
      refine rd_loadI ty3 (at_DRace_1 hA2) hx2_ fun hI21 => ?_
      refine rd_fld fd117_1 ?_
      refine rd_loadI ty3 (at_DRace_1 hA3) (Ext.refl w2_) fun hI23 => ?_
      refine rd_lss ?_
      refine ⟨(hx1_.trans hx2_), ?_⟩
      congr 1
      rw [decide_eq_decide]
      unfold ltR
      omega
    · refine rd_fld fd117_2 ?_
      refine rd_loadI ty3 (at_DRace_2 hA2) hx2_ fun hI26 => ?_
      refine rd_fld fd117_2 ?_
      refine rd_loadI ty3 (at_DRace_2 hA3) (Ext.refl w2_) fun hI28 => ?_
      refine rd_lss ?_
      refine ⟨(hx1_.trans hx2_), ?_⟩
      congr 1
      rw [decide_eq_decide]
      unfold ltR
      omega

theorem ltR_irrefl (x : DRace) : ¬ ltR x x := by unfold ltR; omega
theorem ltR_trans {x y z : DRace} (h : ltR x y) (k : ltR y z) : ltR x z := by unfold ltR at *; omega
theorem ltR_total {x y : DRace} (h : ¬ ltR x y) (k : ¬ ltR y x) : x = y := by
  unfold ltR at *
  exact DRace.ext_iff.2 ⟨by omega, by omega, by omega⟩
/-- a race is put at its place, once -/
def putR (r : DRace) : List DRace → List DRace
  | [] => [r]
  | x :: l => if ltR x r then x :: putR r l else if x = r then x :: l else r :: x :: l
/-- how many lie ahead -/
def ahd (r : DRace) : List DRace → Nat
  | [] => 0
  | x :: l => if ltR x r then ahd r l + 1 else 0
theorem ahd_le (r : DRace) : ∀ l, ahd r l ≤ l.length
  | [] => Nat.le_refl _
  | x :: l => by
    rw [ahd]
    split
    · have := ahd_le r l; simp only [List.length_cons]; omega
    · simp
theorem putR_ahd (r : DRace) : ∀ l, putR r l = if h : ahd r l < l.length then (if l[ahd r l] = r then l else l.take (ahd r l) ++ (r :: l.drop (ahd r l))) else l ++ [r]
  | [] => rfl
  | x :: l => by
    rw [putR]
    by_cases h : ltR x r
    · have e : ahd r (x :: l) = ahd r l + 1 := by rw [ahd, if_pos h]
      rw [if_pos h, putR_ahd r l]
      by_cases h2 : ahd r l < l.length
      · rw [dif_pos h2, dif_pos (by rw [e]; simpa using h2)]
        have e2 : (x :: l)[ahd r (x :: l)]'(by rw [e]; simpa using h2) = l[ahd r l] := by simp [e]
        rw [e2]
        split
        · rfl
        · simp [e]
      · rw [dif_neg h2, dif_neg (by rw [e]; simpa using h2)]; rfl
    · have e : ahd r (x :: l) = 0 := by rw [ahd, if_neg h]
      rw [if_neg h, dif_pos (by rw [e]; simp)]
      have e2 : (x :: l)[ahd r (x :: l)]'(by rw [e]; simp) = x := by simp [e]
      rw [e2]
      split
      · rfl
      · simp [e]
theorem ahd_at {r : DRace} : ∀ {l : List DRace} {k : Nat} (hk : k ≤ l.length), (∀ j (h : j < k), ltR (l[j]'(by omega)) r) → (∀ h : k < l.length, ¬ ltR l[k] r) → ahd r l = k
  | [], 0, _, _, _ => rfl
  | x :: l, 0, _, _, h => by
    have h' : ¬ ltR x r := h (by simp)
    rw [ahd, if_neg h']
  | x :: l, k + 1, hk, h1, h2 => by
    have e : ltR x r := h1 0 (by omega)
    rw [ahd, if_pos e, ahd_at (k := k) (by simpa using hk) (fun j hj => h1 (j + 1) (by omega)) fun h => h2 (by simpa using h)]
theorem putR_mem {r x : DRace} : ∀ {l : List DRace}, x ∈ putR r l ↔ x = r ∨ x ∈ l
  | [] => by simp [putR]
  | y :: l => by
    rw [putR]
    split
    · rw [List.mem_cons, putR_mem, List.mem_cons]; exact ⟨fun h => by rcases h with h | h | h <;> simp [h], fun h => by rcases h with h | h | h <;> simp [h]⟩
    · split
      · rename_i h; subst h; simp
      · simp
theorem putR_sorted {r : DRace} : ∀ {l : List DRace}, l.Pairwise ltR → (putR r l).Pairwise ltR
  | [], _ => by simp [putR]
  | y :: l, h => by
    rw [List.pairwise_cons] at h
    rw [putR]
    split
    · rename_i hy
      refine List.pairwise_cons.2 ⟨fun z hz => ?_, putR_sorted h.2⟩
      rcases putR_mem.1 hz with rfl | hz
      · exact hy
      · exact h.1 z hz
    · rename_i hy
      split
      · exact List.pairwise_cons.2 h
      · rename_i hne
        have hry : ltR r y := Decidable.byContradiction fun hc => hne (ltR_total hy hc)
        refine List.pairwise_cons.2 ⟨fun z hz => ?_, List.pairwise_cons.2 h⟩
        rcases List.mem_cons.1 hz with rfl | hz
        · exact hry
        · exact ltR_trans hry (h.1 z hz)
/-- two lists in strict order with the same members are one -/
theorem sorted_ext : ∀ {l m : List DRace}, l.Pairwise ltR → m.Pairwise ltR → (∀ x, x ∈ l ↔ x ∈ m) → l = m
  | [], [], _, _, _ => rfl
  | [], y :: m, _, _, h => by have := (h y).2 (by simp); cases this
  | x :: l, [], _, _, h => by have := (h x).1 (by simp); cases this
  | x :: l, y :: m, h1, h2, h => by
    rw [List.pairwise_cons] at h1 h2
    have hxy : x = y := by
      rcases List.mem_cons.1 ((h x).1 (by simp)) with e | hm
      · exact e
      · rcases List.mem_cons.1 ((h y).2 (by simp)) with e | hl
        · exact e.symm
        · exact absurd (ltR_trans (h1.1 y hl) (h2.1 x hm)) (ltR_irrefl x)
    subst hxy
    congr 1
    refine sorted_ext h1.2 h2.2 fun z => ⟨fun hz => ?_, fun hz => ?_⟩
    · rcases List.mem_cons.1 ((h z).1 (by simp [hz])) with rfl | h'
      · exact absurd (h1.1 z hz) (ltR_irrefl z)
      · exact h'
    · rcases List.mem_cons.1 ((h z).2 (by simp [hz])) with rfl | h'
      · exact absurd (h2.1 z hz) (ltR_irrefl z)
      · exact h'
end Go.Proofs.YteephmhilnlkpaaGreat
