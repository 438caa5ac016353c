/-
  The laws of meetings and fairness: each returns true.
-/
import Derived.Test.YteephmhilnlkpaaGreatMeet6
import Derived.Test.YteephmhilnlkpaaGreatMarkR
namespace Go.Proofs.YteephmhilnlkpaaGreat
open Go Go.Sh Go.Proofs
set_option linter.unusedVariables false

theorem stOk_of11 {s : DState} {n m : Int} (hm : m ≤ 1048576) (h : -1 ≤ n ∧ n ≤ m ∧ (0 ≤ n → (s.vars.length : Int) ≤ m ∧ (s.owner.length : Int) ≤ m ∧ (s.stacks.length : Int) ≤ m ∧ (∀ x ∈ s.stacks, (x.length : Int) ≤ m) ∧ n + s.vars.length + s.owner.length + s.stacks.length + nLL s.stacks ≤ m)) (c : ¬ n < 0) : StOk s := by
  obtain ⟨h1, h2, h3⟩ := h
  obtain ⟨h4, h5, h6, h7, h8⟩ := h3 (by omega)
  exact ⟨by omega, by omega, by omega, fun x hx => by have := h7 x hx; omega⟩
theorem stN_of11 {s : DState} {n m : Int} (hm : m ≤ 1048576) (h : -1 ≤ n ∧ n ≤ m ∧ (0 ≤ n → (s.vars.length : Int) ≤ m ∧ (s.owner.length : Int) ≤ m ∧ (s.stacks.length : Int) ≤ m ∧ (∀ x ∈ s.stacks, (x.length : Int) ≤ m) ∧ n + s.vars.length + s.owner.length + s.stacks.length + nLL s.stacks ≤ m)) (c : ¬ n < 0) : s.stacks.length + nSt s ≤ 1073741824 := by
  have := (h.2.2 (by omega)).2.2.2.2
  unfold nSt; omega
theorem cdOk_of11 {c : DCode} {n m : Int} (hm : m ≤ 1048576) (h : -1 ≤ n ∧ n ≤ m ∧ (0 ≤ n → n + wCode c ≤ m)) (hc : ¬ n < 0) : wCode c ≤ 1048576 := by
  have := h.2.2 (by omega); omega
/-- laws.FnExactFair -/
def F8 (a0 a1 : Value) (w : World) (R : Value → World → Prop) : Prop :=
  OP Tryz.prog (Instr.box 26 a0) w fun x2 w =>
  OP Tryz.prog (Instr.box 29 a1) w fun x3 w =>
  RD Tryz.prog (Instr.loadAt 26 x2) w fun x10 =>
  CALL Tryz.prog 14 [x10, (Value.int .i64 1048576)] w fun x12 w =>
  RD Tryz.prog (bin .lss 3 (.tmp 0) (.const undef) x12 (Value.int .i64 0)) w fun x14 =>
  BR x14
   (R (Value.bool true) w)
   (RD Tryz.prog (Instr.loadAt 29 x3) w fun x15 =>
   CALL Tryz.prog 15 [x15, x12] w fun x17 w =>
   RD Tryz.prog (bin .lss 3 (.tmp 0) (.const undef) x17 (Value.int .i64 0)) w fun x19 =>
   BR x19
    (R (Value.bool true) w)
    ((fun w => RD Tryz.prog (Instr.loadAt 26 x2) w fun x20 =>
    RD Tryz.prog (Instr.loadAt 29 x3) w fun x22 =>
    (fun w_ => CALL Tryz.prog 17 [x20] w_ fun x21 w =>
    Ext w_ w ∧
    CALL Tryz.prog 18 [x22] w fun x23 w =>
    CALL Tryz.prog 39 [x21, x23] w fun x24 w =>
    RD Tryz.prog (Instr.loadAt 26 x2) w fun x25 =>
    CALL Tryz.prog 17 [x25] w fun x26 w =>
    OP Tryz.prog (Instr.alloc 37 true (.tuple #[])) w fun x7 w =>
    OPU Tryz.prog (Instr.storeAt 37 x7 x26) w fun w =>
    RD Tryz.prog (Instr.loadAt 29 x3) w fun x27 =>
    CALL Tryz.prog 18 [x27] w fun x28 w =>
    OP Tryz.prog (Instr.alloc 32 true (.tuple #[])) w fun x8 w =>
    OPU Tryz.prog (Instr.storeAt 32 x8 x28) w fun w =>
    RD Tryz.prog (Instr.loadAt 37 x7) w fun x29 =>
    RD Tryz.prog (Instr.loadAt 32 x8) w fun x30 =>
    CALL Tryz.prog 40 [x29, x30] w fun x31 w =>
    RD Tryz.prog (bin .neq 4 (.tmp 0) (.tmp 0) x31 x24) w fun x34 =>
    BR x34
     (R (Value.bool false) w)
     ((fun w => RD Tryz.prog (Instr.loadAt 37 x7) w fun x35 =>
     RD Tryz.prog (Instr.loadAt 26 x2) w fun x36 =>
     (fun w_ => CALL Tryz.prog 17 [x36] w_ fun x37 w =>
     Ext w_ w ∧
     CALL Tryz.prog 21 [x35, x37] w fun x38 w =>
     RD Tryz.prog (Op.unary .not x38) w fun x39 =>
     BR x39
      (R (Value.bool false) w)
      ((fun w => RD Tryz.prog (Instr.loadAt 32 x8) w fun x40 =>
      RD Tryz.prog (Instr.loadAt 29 x3) w fun x41 =>
      (fun w_ => CALL Tryz.prog 18 [x41] w_ fun x42 w =>
      Ext w_ w ∧
      CALL Tryz.prog 20 [x40, x42] w fun x43 w =>
      RD Tryz.prog (Op.unary .not x43) w fun x44 =>
      BR x44
       (R (Value.bool false) w)
       (R (Value.bool true) w)) w) (World.drew1 w))) w) (World.drew1 w))) w) (World.drew1 w)))
def cfg8 : Cfg := { ext := extL, joins := [], loops := [], draws := [(8, [0, 2, 1, 3, 4, 5], 2), (14, [0, 1, 2, 3, 4], 4), (16, [0, 1, 2, 3, 4], 4)], pars := [] }
theorem F8_eq (a0 a1 : Value) (w : World) (R : Value → World → Prop) : vcF Tryz.prog cfg8 Tryz.f8 [a0, a1] w R = F8 a0 a1 w R := by kernel_rfl
theorem F8_call {a0 a1 : Value} {w : World} {R : Value → World → Prop} (h : F8 a0 a1 w R) : CALL Tryz.prog 8 [a0, a1] w R :=
  call_of (g := cfg8) ent mixed Tryz.func8 (Nat.le_of_ble_eq_true (by kernel_rfl)) (by kernel_rfl) (F8_eq a0 a1 w R ▸ h)


theorem lawFair {w : World} {v0 : Value} {W0 : World} {c : DCode} {v1 : Value} {W1 : World} {s : DState}  (h0 : Is W0 v0 c) (e0 : Ext W0 w) (h1 : Is W1 v1 s) (e1 : Ext W1 w)  :
    CALL Tryz.prog 8 [v0, v1] w fun r w' => Ext w w' ∧ (r = .bool true) := by
  refine F8_call ?_
  unfold F8
  refine op_boxS ty26 rfl h0 e0 fun w1_ hx1_ hA2 hV2 => ?_
  refine op_boxS ty29 rfl h1 (e1.trans hx1_) fun w2_ hx2_ hA3 hV3 => ?_
  refine rd_var hV2 hx2_ ?_
  refine (szCode_ok h0 (e0.trans (hx1_.trans hx2_)) (by omega) (by omega)).mono ?_
  rintro _ w3_ ⟨hx3_, n12, rfl, hn12⟩
  refine rd_lss ?_
  refine br (fun c1 => ?_) (fun c1 => ?_)
  · refine ⟨(hx1_.trans (hx2_.trans hx3_)), ?_⟩
    first | rfl | contradiction
  · refine rd_var hV3 hx3_ ?_
    refine (szState_ok h1 (e1.trans (hx1_.trans (hx2_.trans hx3_))) (by omega) (by omega)).mono ?_
    rintro _ w4_ ⟨hx4_, n17, rfl, hn17⟩
    refine rd_lss ?_
    refine br (fun c2 => ?_) (fun c2 => ?_)
    · refine ⟨(hx1_.trans (hx2_.trans (hx3_.trans hx4_))), ?_⟩
      first | rfl | contradiction
    · have hx5_ := ext_drew w4_
      refine rd_var hV2 (hx2_.trans (hx3_.trans (hx4_.trans hx5_))) ?_
      refine rd_var hV3 (hx3_.trans (hx4_.trans hx5_)) ?_
      have hcd := cdOk_of11 (by omega) hn12 c1
      have hst := stOk_of11 (by omega) hn17 c2
      refine (toCode_ok (h0.ext (e0.trans (hx1_.trans (hx2_.trans (hx3_.trans (hx4_.trans hx5_)))))) (by omega)).mono ?_
      rintro r21 w6_ ⟨hx6_, o21⟩
      refine ⟨hx6_, ?_⟩
      refine (toState_ok (h1.ext (e1.trans (hx1_.trans (hx2_.trans (hx3_.trans (hx4_.trans (hx5_.trans hx6_))))))) (by assumption)).mono ?_
      rintro r23 w7_ ⟨hx7_, o23⟩
      refine (specFair_ok o21.is hx7_ o23.is (Ext.refl w7_)).mono ?_
      rintro _ w8_ ⟨hx8_, rfl⟩
      refine rd_var hV2 (hx2_.trans (hx3_.trans (hx4_.trans (hx5_.trans (hx6_.trans (hx7_.trans hx8_)))))) ?_
      refine (toCode_ok (h0.ext (e0.trans (hx1_.trans (hx2_.trans (hx3_.trans (hx4_.trans (hx5_.trans (hx6_.trans (hx7_.trans hx8_))))))))) (by omega)).mono ?_
      rintro r26 w9_ ⟨hx9_, o26⟩
      refine op_var zl37 rfl ty37 rfl o26.is (Ext.refl w9_) fun w10_ hx10_ hA7 hV7 => ?_
      refine rd_var hV3 (hx3_.trans (hx4_.trans (hx5_.trans (hx6_.trans (hx7_.trans (hx8_.trans (hx9_.trans hx10_))))))) ?_
      refine (toState_ok (h1.ext (e1.trans (hx1_.trans (hx2_.trans (hx3_.trans (hx4_.trans (hx5_.trans (hx6_.trans (hx7_.trans (hx8_.trans (hx9_.trans hx10_))))))))))) (by assumption)).mono ?_
      rintro r28 w11_ ⟨hx11_, o28⟩
      refine op_var zl32 rfl ty32 rfl o28.is (Ext.refl w11_) fun w12_ hx12_ hA8 hV8 => ?_
      refine rd_var hV7 (hx11_.trans hx12_) ?_
      refine rd_var hV8 (Ext.refl w12_) ?_
      refine (implFair_ok o26.is (hx10_.trans (hx11_.trans hx12_)) o28.is hx12_).mono ?_
      rintro _ w13_ ⟨hx13_, rfl⟩
      refine rd_neqB u4 ?_
      refine br (fun c3 => ?_) (fun c3 => ?_)
      · refine ⟨(hx1_.trans (hx2_.trans (hx3_.trans (hx4_.trans (hx5_.trans (hx6_.trans (hx7_.trans (hx8_.trans (hx9_.trans (hx10_.trans (hx11_.trans (hx12_.trans hx13_)))))))))))), ?_⟩
        first | rfl | contradiction
      · have hx14_ := ext_drew w13_
        refine rd_var hV7 (hx11_.trans (hx12_.trans (hx13_.trans hx14_))) ?_
        refine rd_var hV2 (hx2_.trans (hx3_.trans (hx4_.trans (hx5_.trans (hx6_.trans (hx7_.trans (hx8_.trans (hx9_.trans (hx10_.trans (hx11_.trans (hx12_.trans (hx13_.trans hx14_)))))))))))) ?_
        refine (toCode_ok (h0.ext (e0.trans (hx1_.trans (hx2_.trans (hx3_.trans (hx4_.trans (hx5_.trans (hx6_.trans (hx7_.trans (hx8_.trans (hx9_.trans (hx10_.trans (hx11_.trans (hx12_.trans (hx13_.trans hx14_))))))))))))))) (by omega)).mono ?_
        rintro r37 w15_ ⟨hx15_, o37⟩
        refine ⟨hx15_, ?_⟩
        refine (eqCode_ok o26.is (hx10_.trans (hx11_.trans (hx12_.trans (hx13_.trans (hx14_.trans hx15_))))) o37.is (Ext.refl w15_)).mono ?_
        rintro _ w16_ ⟨hx16_, rfl⟩
        refine rd_nodec ?_
        refine br (fun c4 => ?_) (fun c4 => ?_)
        · refine ⟨(hx1_.trans (hx2_.trans (hx3_.trans (hx4_.trans (hx5_.trans (hx6_.trans (hx7_.trans (hx8_.trans (hx9_.trans (hx10_.trans (hx11_.trans (hx12_.trans (hx13_.trans (hx14_.trans (hx15_.trans hx16_))))))))))))))), ?_⟩
          first | rfl | contradiction
        · have hx17_ := ext_drew w16_
          refine rd_var hV8 (hx13_.trans (hx14_.trans (hx15_.trans (hx16_.trans hx17_)))) ?_
          refine rd_var hV3 (hx3_.trans (hx4_.trans (hx5_.trans (hx6_.trans (hx7_.trans (hx8_.trans (hx9_.trans (hx10_.trans (hx11_.trans (hx12_.trans (hx13_.trans (hx14_.trans (hx15_.trans (hx16_.trans hx17_)))))))))))))) ?_
          refine (toState_ok (h1.ext (e1.trans (hx1_.trans (hx2_.trans (hx3_.trans (hx4_.trans (hx5_.trans (hx6_.trans (hx7_.trans (hx8_.trans (hx9_.trans (hx10_.trans (hx11_.trans (hx12_.trans (hx13_.trans (hx14_.trans (hx15_.trans (hx16_.trans hx17_)))))))))))))))))) (by assumption)).mono ?_
          rintro r42 w18_ ⟨hx18_, o42⟩
          refine ⟨hx18_, ?_⟩
          refine (eqState_ok o28.is (hx12_.trans (hx13_.trans (hx14_.trans (hx15_.trans (hx16_.trans (hx17_.trans hx18_)))))) o42.is (Ext.refl w18_)).mono ?_
          rintro _ w19_ ⟨hx19_, rfl⟩
          refine rd_nodec ?_
          refine br (fun c5 => ?_) (fun c5 => ?_)
          · refine ⟨(hx1_.trans (hx2_.trans (hx3_.trans (hx4_.trans (hx5_.trans (hx6_.trans (hx7_.trans (hx8_.trans (hx9_.trans (hx10_.trans (hx11_.trans (hx12_.trans (hx13_.trans (hx14_.trans (hx15_.trans (hx16_.trans (hx17_.trans (hx18_.trans hx19_)))))))))))))))))), ?_⟩
            first | rfl | contradiction
          · refine ⟨(hx1_.trans (hx2_.trans (hx3_.trans (hx4_.trans (hx5_.trans (hx6_.trans (hx7_.trans (hx8_.trans (hx9_.trans (hx10_.trans (hx11_.trans (hx12_.trans (hx13_.trans (hx14_.trans (hx15_.trans (hx16_.trans (hx17_.trans (hx18_.trans hx19_)))))))))))))))))), ?_⟩
            first | rfl | contradiction

theorem meetsL_len (c : DCode) (s : DState) : (meetsL c s).length ≤ 5184 := by
  unfold meetsL
  split
  · rename_i h; exact meets_len s h.1 h.2
  · simp
/-- laws.FnExactMeetingsIn -/
def F10 (a0 a1 : Value) (w : World) (R : Value → World → Prop) : Prop :=
  OP Tryz.prog (Instr.box 26 a0) w fun x2 w =>
  OP Tryz.prog (Instr.box 29 a1) w fun x3 w =>
  RD Tryz.prog (Instr.loadAt 26 x2) w fun x14 =>
  CALL Tryz.prog 14 [x14, (Value.int .i64 1048576)] w fun x16 w =>
  RD Tryz.prog (bin .lss 3 (.tmp 0) (.const undef) x16 (Value.int .i64 0)) w fun x18 =>
  BR x18
   (R (Value.bool true) w)
   (RD Tryz.prog (Instr.loadAt 29 x3) w fun x19 =>
   CALL Tryz.prog 15 [x19, x16] w fun x21 w =>
   RD Tryz.prog (bin .lss 3 (.tmp 0) (.const undef) x21 (Value.int .i64 0)) w fun x23 =>
   BR x23
    (R (Value.bool true) w)
    ((fun w => RD Tryz.prog (Instr.loadAt 26 x2) w fun x24 =>
    RD Tryz.prog (Instr.loadAt 29 x3) w fun x26 =>
    (fun w_ => CALL Tryz.prog 17 [x24] w_ fun x25 w =>
    Ext w_ w ∧
    CALL Tryz.prog 18 [x26] w fun x27 w =>
    CALL Tryz.prog 44 [x25, x27] w fun x28 w =>
    RD Tryz.prog (Instr.loadAt 26 x2) w fun x29 =>
    CALL Tryz.prog 17 [x29] w fun x30 w =>
    OP Tryz.prog (Instr.alloc 37 true (.tuple #[])) w fun x7 w =>
    OPU Tryz.prog (Instr.storeAt 37 x7 x30) w fun w =>
    RD Tryz.prog (Instr.loadAt 29 x3) w fun x31 =>
    CALL Tryz.prog 18 [x31] w fun x32 w =>
    OP Tryz.prog (Instr.alloc 32 true (.tuple #[])) w fun x8 w =>
    OPU Tryz.prog (Instr.storeAt 32 x8 x32) w fun w =>
    RD Tryz.prog (Instr.loadAt 37 x7) w fun x33 =>
    RD Tryz.prog (Instr.loadAt 32 x8) w fun x34 =>
    CALL Tryz.prog 45 [x33, x34] w fun x35 w =>
    CALL Tryz.prog 46 [x35, x28] w fun x38 w =>
    RD Tryz.prog (Op.unary .not x38) w fun x39 =>
    BR x39
     (R (Value.bool false) w)
     ((fun w => RD Tryz.prog (Instr.loadAt 37 x7) w fun x40 =>
     RD Tryz.prog (Instr.loadAt 26 x2) w fun x41 =>
     (fun w_ => CALL Tryz.prog 17 [x41] w_ fun x42 w =>
     Ext w_ w ∧
     CALL Tryz.prog 21 [x40, x42] w fun x43 w =>
     RD Tryz.prog (Op.unary .not x43) w fun x44 =>
     BR x44
      (R (Value.bool false) w)
      ((fun w => RD Tryz.prog (Instr.loadAt 32 x8) w fun x45 =>
      RD Tryz.prog (Instr.loadAt 29 x3) w fun x46 =>
      (fun w_ => CALL Tryz.prog 18 [x46] w_ fun x47 w =>
      Ext w_ w ∧
      CALL Tryz.prog 20 [x45, x47] w fun x48 w =>
      RD Tryz.prog (Op.unary .not x48) w fun x49 =>
      BR x49
       (R (Value.bool false) w)
       (RD Tryz.prog (Instr.loadAt 37 x7) w fun x50 =>
       CALL Tryz.prog 22 [x50, (Value.int .i64 1)] w fun x52 w =>
       RD Tryz.prog (Instr.loadAt 32 x8) w fun x53 =>
       CALL Tryz.prog 23 [x53, x52] w fun x55 w =>
       RD Tryz.prog (bin .lss 3 (.tmp 0) (.const undef) x55 (Value.int .i64 0)) w fun x57 =>
       BR x57
       (R (Value.bool false) w)
       (CALL Tryz.prog 46 [x35, x28] w fun x61 w =>
       RD Tryz.prog (Op.unary .not x61) w fun x62 =>
       BR x62
        (R (Value.bool false) w)
        (CALL Tryz.prog 47 [x35, (Value.int .i64 1)] w fun x66 w =>
        CALL Tryz.prog 48 [x35, (Value.int .i64 1)] w fun x69 w =>
        RD Tryz.prog (bin .lss 3 (.tmp 0) (.const undef) x69 (Value.int .i64 0)) w fun x71 =>
        BR x71
         (R (Value.bool false) w)
         (RD Tryz.prog (bin .neq 3 (.tmp 0) (.tmp 0) x69 x66) w fun x74 =>
         BR x74
          (R (Value.bool false) w)
          ((fun w => RD Tryz.prog (Instr.loadAt 26 x2) w fun x75 =>
          RD Tryz.prog (Instr.loadAt 29 x3) w fun x77 =>
          (fun w_ => CALL Tryz.prog 17 [x75] w_ fun x76 w =>
          Ext w_ w ∧
          CALL Tryz.prog 18 [x77] w fun x78 w =>
          CALL Tryz.prog 45 [x76, x78] w fun x79 w =>
          CALL Tryz.prog 46 [x79, x28] w fun x82 w =>
          RD Tryz.prog (Op.unary .not x82) w fun x83 =>
          BR x83
           (R (Value.bool false) w)
           (CALL Tryz.prog 48 [x35, (Value.int .i64 1)] w fun x86 w =>
           RD Tryz.prog (bin .lss 3 (.tmp 0) (.const undef) x86 (Value.int .i64 0)) w fun x88 =>
           BR x88
            (R (Value.bool false) w)
            (RD Tryz.prog (bin .neq 3 (.tmp 0) (.tmp 0) x86 x66) w fun x91 =>
            BR x91
             (R (Value.bool false) w)
             (R (Value.bool true) w)))) w) (World.drew1 w))))))) w) (World.drew1 w))) w) (World.drew1 w))) w) (World.drew1 w)))
def cfg10 : Cfg := { ext := extL, joins := [], loops := [], draws := [(8, [0, 2, 1, 3, 4, 5], 2), (14, [0, 1, 2, 3, 4], 4), (16, [0, 1, 2, 3, 4], 4), (31, [0, 2, 1, 3, 4, 5], 2)], pars := [] }
theorem F10_eq (a0 a1 : Value) (w : World) (R : Value → World → Prop) : vcF Tryz.prog cfg10 Tryz.f10 [a0, a1] w R = F10 a0 a1 w R := by kernel_rfl
theorem F10_call {a0 a1 : Value} {w : World} {R : Value → World → Prop} (h : F10 a0 a1 w R) : CALL Tryz.prog 10 [a0, a1] w R :=
  call_of (g := cfg10) ent mixed Tryz.func10 (Nat.le_of_ble_eq_true (by kernel_rfl)) (by kernel_rfl) (F10_eq a0 a1 w R ▸ h)


theorem lawMeetingsIn {w : World} {v0 : Value} {W0 : World} {c : DCode} {v1 : Value} {W1 : World} {s : DState}  (h0 : Is W0 v0 c) (e0 : Ext W0 w) (h1 : Is W1 v1 s) (e1 : Ext W1 w)  :
    CALL Tryz.prog 10 [v0, v1] w fun r w' => Ext w w' ∧ (r = .bool true) := by
  refine F10_call ?_
  unfold F10
  have hs_e0 := e0.size
  have hs_e1 := e1.size
  refine op_boxS ty26 rfl h0 e0 fun w1_ hx1_ hA2 hV2 => ?_
  have hs_hx1_ := hx1_.size
  refine op_boxS ty29 rfl h1 (e1.trans hx1_) fun w2_ hx2_ hA3 hV3 => ?_
  have hs_hx2_ := hx2_.size
  refine rd_var hV2 hx2_ ?_
  refine (szCode_ok h0 (e0.trans (hx1_.trans hx2_)) (by omega) (by omega)).mono ?_
  rintro _ w3_ ⟨hx3_, n16, rfl, hn16⟩
  have hs_hx3_ := hx3_.size
  refine rd_lss ?_
  refine br (fun c1 => ?_) (fun c1 => ?_)
  · refine ⟨(hx1_.trans (hx2_.trans hx3_)), ?_⟩
    first | rfl | contradiction | (exfalso; omega)
  · refine rd_var hV3 hx3_ ?_
    refine (szState_ok h1 (e1.trans (hx1_.trans (hx2_.trans hx3_))) (by omega) (by omega)).mono ?_
    rintro _ w4_ ⟨hx4_, n21, rfl, hn21⟩
    have hs_hx4_ := hx4_.size
    refine rd_lss ?_
    refine br (fun c2 => ?_) (fun c2 => ?_)
    · refine ⟨(hx1_.trans (hx2_.trans (hx3_.trans hx4_))), ?_⟩
      first | rfl | contradiction | (exfalso; omega)
    · have hx5_ := ext_drew w4_
      have hs_hx5_ := hx5_.size
      refine rd_var hV2 (hx2_.trans (hx3_.trans (hx4_.trans hx5_))) ?_
      refine rd_var hV3 (hx3_.trans (hx4_.trans hx5_)) ?_
      have hcd := cdOk_of11 (by omega) hn16 c1
      have hst := stOk_of11 (by omega) hn21 c2
      have hsn := stN_of11 (by omega) hn21 c2
      have hlr := meetsL_len c s
      refine (toCode_ok (h0.ext (e0.trans (hx1_.trans (hx2_.trans (hx3_.trans (hx4_.trans hx5_)))))) (by omega)).mono ?_
      rintro r25 w6_ ⟨hx6_, o25⟩
      have o25 := o25.toI
      have hs_hx6_ := hx6_.size
      refine ⟨hx6_, ?_⟩
      refine (toState_ok (h1.ext (e1.trans (hx1_.trans (hx2_.trans (hx3_.trans (hx4_.trans (hx5_.trans hx6_))))))) (by assumption)).mono ?_
      rintro r27 w7_ ⟨hx7_, o27⟩
      have o27 := o27.toI
      have hs_hx7_ := hx7_.size
      refine (specMeetingsIn_ok o25.is hx7_ o27.is (Ext.refl w7_)).mono ?_
      rintro r28 w8_ ⟨hx8_, o28⟩
      have o28 := o28.toI
      have hs_hx8_ := hx8_.size
      refine rd_var hV2 (hx2_.trans (hx3_.trans (hx4_.trans (hx5_.trans (hx6_.trans (hx7_.trans hx8_)))))) ?_
      refine (toCode_ok (h0.ext (e0.trans (hx1_.trans (hx2_.trans (hx3_.trans (hx4_.trans (hx5_.trans (hx6_.trans (hx7_.trans hx8_))))))))) (by omega)).mono ?_
      rintro r30 w9_ ⟨hx9_, o30⟩
      have o30 := o30.toI
      have hs_hx9_ := hx9_.size
      refine op_var zl37 rfl ty37 rfl o30.is (Ext.refl w9_) fun w10_ hx10_ hA7 hV7 => ?_
      have hs_hx10_ := hx10_.size
      have hg7 := hV7.lt
      refine rd_var hV3 (hx3_.trans (hx4_.trans (hx5_.trans (hx6_.trans (hx7_.trans (hx8_.trans (hx9_.trans hx10_))))))) ?_
      refine (toState_ok (h1.ext (e1.trans (hx1_.trans (hx2_.trans (hx3_.trans (hx4_.trans (hx5_.trans (hx6_.trans (hx7_.trans (hx8_.trans (hx9_.trans hx10_))))))))))) (by assumption)).mono ?_
      rintro r32 w11_ ⟨hx11_, o32⟩
      have o32 := o32.toI
      have hs_hx11_ := hx11_.size
      refine op_var zl32 rfl ty32 rfl o32.is (Ext.refl w11_) fun w12_ hx12_ hA8 hV8 => ?_
      have hs_hx12_ := hx12_.size
      have hg8 := hV8.lt
      refine rd_var hV7 (hx11_.trans hx12_) ?_
      refine rd_var hV8 (Ext.refl w12_) ?_
      refine (implMeetingsIn_ok o30.is (hx10_.trans (hx11_.trans hx12_)) o32.is hx12_).mono ?_
      rintro r35 w13_ ⟨hx13_, o35⟩
      have o35 := o35.toI
      have hs_hx13_ := hx13_.size
      refine (eqRaceS_ok o35.is (Ext.refl w13_) o28.is (hx9_.trans (hx10_.trans (hx11_.trans (hx12_.trans hx13_))))).mono ?_
      rintro _ w14_ ⟨hx14_, rfl⟩
      have hs_hx14_ := hx14_.size
      refine rd_nodec ?_
      refine br (fun c3 => ?_) (fun c3 => ?_)
      · refine ⟨(hx1_.trans (hx2_.trans (hx3_.trans (hx4_.trans (hx5_.trans (hx6_.trans (hx7_.trans (hx8_.trans (hx9_.trans (hx10_.trans (hx11_.trans (hx12_.trans (hx13_.trans hx14_))))))))))))), ?_⟩
        first | rfl | contradiction | (exfalso; omega)
      · have hx15_ := ext_drew w14_
        have hs_hx15_ := hx15_.size
        refine rd_var hV7 (hx11_.trans (hx12_.trans (hx13_.trans (hx14_.trans hx15_)))) ?_
        refine rd_var hV2 (hx2_.trans (hx3_.trans (hx4_.trans (hx5_.trans (hx6_.trans (hx7_.trans (hx8_.trans (hx9_.trans (hx10_.trans (hx11_.trans (hx12_.trans (hx13_.trans (hx14_.trans hx15_))))))))))))) ?_
        refine (toCode_ok (h0.ext (e0.trans (hx1_.trans (hx2_.trans (hx3_.trans (hx4_.trans (hx5_.trans (hx6_.trans (hx7_.trans (hx8_.trans (hx9_.trans (hx10_.trans (hx11_.trans (hx12_.trans (hx13_.trans (hx14_.trans hx15_)))))))))))))))) (by omega)).mono ?_
        rintro r42 w16_ ⟨hx16_, o42⟩
        have o42 := o42.toI
        have hs_hx16_ := hx16_.size
        refine ⟨hx16_, ?_⟩
        refine (eqCode_ok o30.is (hx10_.trans (hx11_.trans (hx12_.trans (hx13_.trans (hx14_.trans (hx15_.trans hx16_)))))) o42.is (Ext.refl w16_)).mono ?_
        rintro _ w17_ ⟨hx17_, rfl⟩
        have hs_hx17_ := hx17_.size
        refine rd_nodec ?_
        refine br (fun c4 => ?_) (fun c4 => ?_)
        · refine ⟨(hx1_.trans (hx2_.trans (hx3_.trans (hx4_.trans (hx5_.trans (hx6_.trans (hx7_.trans (hx8_.trans (hx9_.trans (hx10_.trans (hx11_.trans (hx12_.trans (hx13_.trans (hx14_.trans (hx15_.trans (hx16_.trans hx17_)))))))))))))))), ?_⟩
          first | rfl | contradiction | (exfalso; omega)
        · have hx18_ := ext_drew w17_
          have hs_hx18_ := hx18_.size
          refine rd_var hV8 (hx13_.trans (hx14_.trans (hx15_.trans (hx16_.trans (hx17_.trans hx18_))))) ?_
          refine rd_var hV3 (hx3_.trans (hx4_.trans (hx5_.trans (hx6_.trans (hx7_.trans (hx8_.trans (hx9_.trans (hx10_.trans (hx11_.trans (hx12_.trans (hx13_.trans (hx14_.trans (hx15_.trans (hx16_.trans (hx17_.trans hx18_))))))))))))))) ?_
          refine (toState_ok (h1.ext (e1.trans (hx1_.trans (hx2_.trans (hx3_.trans (hx4_.trans (hx5_.trans (hx6_.trans (hx7_.trans (hx8_.trans (hx9_.trans (hx10_.trans (hx11_.trans (hx12_.trans (hx13_.trans (hx14_.trans (hx15_.trans (hx16_.trans (hx17_.trans hx18_))))))))))))))))))) (by assumption)).mono ?_
          rintro r47 w19_ ⟨hx19_, o47⟩
          have o47 := o47.toI
          have hs_hx19_ := hx19_.size
          refine ⟨hx19_, ?_⟩
          refine (eqState_ok o32.is (hx12_.trans (hx13_.trans (hx14_.trans (hx15_.trans (hx16_.trans (hx17_.trans (hx18_.trans hx19_))))))) o47.is (Ext.refl w19_)).mono ?_
          rintro _ w20_ ⟨hx20_, rfl⟩
          have hs_hx20_ := hx20_.size
          refine rd_nodec ?_
          refine br (fun c5 => ?_) (fun c5 => ?_)
          · refine ⟨(hx1_.trans (hx2_.trans (hx3_.trans (hx4_.trans (hx5_.trans (hx6_.trans (hx7_.trans (hx8_.trans (hx9_.trans (hx10_.trans (hx11_.trans (hx12_.trans (hx13_.trans (hx14_.trans (hx15_.trans (hx16_.trans (hx17_.trans (hx18_.trans (hx19_.trans hx20_))))))))))))))))))), ?_⟩
            first | rfl | contradiction | (exfalso; omega)
          · refine rd_var hV7 (hx11_.trans (hx12_.trans (hx13_.trans (hx14_.trans (hx15_.trans (hx16_.trans (hx17_.trans (hx18_.trans (hx19_.trans hx20_))))))))) ?_
            refine (markCode_ok (o30.ext (hx10_.trans (hx11_.trans (hx12_.trans (hx13_.trans (hx14_.trans (hx15_.trans (hx16_.trans (hx17_.trans (hx18_.trans (hx19_.trans hx20_))))))))))) (by omega) (by omega) (by omega)).mono ?_
            rintro _ w21_ ⟨n52, rfl, hn52, hc21_⟩
            have hs_hc21_ := hc21_.size
            have o25_c21 := (o25.ext (hx7_.trans (hx8_.trans (hx9_.trans (hx10_.trans (hx11_.trans (hx12_.trans (hx13_.trans (hx14_.trans (hx15_.trans (hx16_.trans (hx17_.trans (hx18_.trans (hx19_.trans hx20_)))))))))))))).chg hc21_ (by omega)
            have o27_c21 := (o27.ext (hx8_.trans (hx9_.trans (hx10_.trans (hx11_.trans (hx12_.trans (hx13_.trans (hx14_.trans (hx15_.trans (hx16_.trans (hx17_.trans (hx18_.trans (hx19_.trans hx20_))))))))))))).chg hc21_ (by omega)
            have o28_c21 := (o28.ext (hx9_.trans (hx10_.trans (hx11_.trans (hx12_.trans (hx13_.trans (hx14_.trans (hx15_.trans (hx16_.trans (hx17_.trans (hx18_.trans (hx19_.trans hx20_)))))))))))).chg hc21_ (by omega)
            have hV7_c21 := (hV7.ext (hx11_.trans (hx12_.trans (hx13_.trans (hx14_.trans (hx15_.trans (hx16_.trans (hx17_.trans (hx18_.trans (hx19_.trans hx20_)))))))))).chgI hc21_ (by omega)
            have o32_c21 := (o32.ext (hx12_.trans (hx13_.trans (hx14_.trans (hx15_.trans (hx16_.trans (hx17_.trans (hx18_.trans (hx19_.trans hx20_))))))))).chg hc21_ (by omega)
            have hV8_c21 := (hV8.ext (hx13_.trans (hx14_.trans (hx15_.trans (hx16_.trans (hx17_.trans (hx18_.trans (hx19_.trans hx20_)))))))).chgI hc21_ (by omega)
            have o35_c21 := (o35.ext (hx14_.trans (hx15_.trans (hx16_.trans (hx17_.trans (hx18_.trans (hx19_.trans hx20_))))))).chg hc21_ (by omega)
            have o42_c21 := (o42.ext (hx17_.trans (hx18_.trans (hx19_.trans hx20_)))).chg hc21_ (by omega)
            have o47_c21 := (o47.ext hx20_).chg hc21_ (by omega)
            refine rd_var hV8_c21 (Ext.refl w21_) ?_
            refine (markState_ok (o32_c21.ext (Ext.refl w21_)) (by omega) (by omega) (by omega)).mono ?_
            rintro _ w22_ ⟨rfl, hc22_, o32_c22⟩
            have hs_hc22_ := hc22_.size
            have o25_c22 := (o25_c21.ext (Ext.refl w21_)).chg hc22_ (by omega)
            have o27_c22 := (o27_c21.ext (Ext.refl w21_)).chg hc22_ (by omega)
            have o28_c22 := (o28_c21.ext (Ext.refl w21_)).chg hc22_ (by omega)
            have hV8_c22 := (hV8_c21.ext (Ext.refl w21_)).chgI hc22_ (by omega)
            have o35_c22 := (o35_c21.ext (Ext.refl w21_)).chg hc22_ (by omega)
            have o42_c22 := (o42_c21.ext (Ext.refl w21_)).chg hc22_ (by omega)
            have o47_c22 := (o47_c21.ext (Ext.refl w21_)).chg hc22_ (by omega)
            refine rd_lss ?_
            refine br (fun c6 => ?_) (fun c6 => ?_)
            · refine ⟨(Ext.chgI (Ext.chgI (((((((((((((((((((hx1_.trans hx2_).trans hx3_).trans hx4_).trans hx5_).trans hx6_).trans hx7_).trans hx8_).trans hx9_).trans hx10_).trans hx11_).trans hx12_).trans hx13_).trans hx14_).trans hx15_).trans hx16_).trans hx17_).trans hx18_).trans hx19_).trans hx20_) hc21_ (by omega)) hc22_ (by omega)), ?_⟩
              first | rfl | contradiction | (exfalso; omega)
            · refine (eqRaceS_ok o35_c22.is (Ext.refl w22_) o28_c22.is (Ext.refl w22_)).mono ?_
              rintro _ w23_ ⟨hx23_, rfl⟩
              have hs_hx23_ := hx23_.size
              refine rd_nodec ?_
              refine br (fun c7 => ?_) (fun c7 => ?_)
              · refine ⟨((Ext.chgI (Ext.chgI (((((((((((((((((((hx1_.trans hx2_).trans hx3_).trans hx4_).trans hx5_).trans hx6_).trans hx7_).trans hx8_).trans hx9_).trans hx10_).trans hx11_).trans hx12_).trans hx13_).trans hx14_).trans hx15_).trans hx16_).trans hx17_).trans hx18_).trans hx19_).trans hx20_) hc21_ (by omega)) hc22_ (by omega)).trans hx23_), ?_⟩
                first | rfl | contradiction | (exfalso; omega)
              · refine (markRaceS_I (o35_c22.ext hx23_) (by omega) (by omega) (by omega)).mono ?_
                rintro _ w24_ ⟨rfl, hc24_, o35_c24⟩
                have hs_hc24_ := hc24_.size
                have o25_c24 := (o25_c22.ext hx23_).chg hc24_ (by omega)
                have o27_c24 := (o27_c22.ext hx23_).chg hc24_ (by omega)
                have o28_c24 := (o28_c22.ext hx23_).chg hc24_ (by omega)
                have o32_c24 := (o32_c22.ext hx23_).chg hc24_ (by omega)
                have hV8_c24 := (hV8_c22.ext hx23_).chgI hc24_ (by omega)
                have o42_c24 := (o42_c22.ext hx23_).chg hc24_ (by omega)
                have o47_c24 := (o47_c22.ext hx23_).chg hc24_ (by omega)
                refine (heldRaceS_ok o35_c24.is (Ext.refl w24_) (by omega) (by omega) (by omega)).mono ?_
                rintro _ w25_ ⟨hx25_, rfl⟩
                have hs_hx25_ := hx25_.size
                refine rd_lss ?_
                refine br (fun c8 => ?_) (fun c8 => ?_)
                · refine ⟨((Ext.chgI ((Ext.chgI (Ext.chgI (((((((((((((((((((hx1_.trans hx2_).trans hx3_).trans hx4_).trans hx5_).trans hx6_).trans hx7_).trans hx8_).trans hx9_).trans hx10_).trans hx11_).trans hx12_).trans hx13_).trans hx14_).trans hx15_).trans hx16_).trans hx17_).trans hx18_).trans hx19_).trans hx20_) hc21_ (by omega)) hc22_ (by omega)).trans hx23_) hc24_ (by omega)).trans hx25_), ?_⟩
                  first | rfl | contradiction | (exfalso; omega)
                · refine rd_neq ?_
                  refine br (fun c9 => ?_) (fun c9 => ?_)
                  · refine ⟨((Ext.chgI ((Ext.chgI (Ext.chgI (((((((((((((((((((hx1_.trans hx2_).trans hx3_).trans hx4_).trans hx5_).trans hx6_).trans hx7_).trans hx8_).trans hx9_).trans hx10_).trans hx11_).trans hx12_).trans hx13_).trans hx14_).trans hx15_).trans hx16_).trans hx17_).trans hx18_).trans hx19_).trans hx20_) hc21_ (by omega)) hc22_ (by omega)).trans hx23_) hc24_ (by omega)).trans hx25_), ?_⟩
                    first | rfl | contradiction | (exfalso; omega)
                  · have hx26_ := ext_drew w25_
                    have hs_hx26_ := hx26_.size
                    refine rd_var hV2 (((Ext.chgI ((Ext.chgI (Ext.chgI ((((((((((((((((((hx2_.trans hx3_).trans hx4_).trans hx5_).trans hx6_).trans hx7_).trans hx8_).trans hx9_).trans hx10_).trans hx11_).trans hx12_).trans hx13_).trans hx14_).trans hx15_).trans hx16_).trans hx17_).trans hx18_).trans hx19_).trans hx20_) hc21_ (by omega)) hc22_ (by omega)).trans hx23_) hc24_ (by omega)).trans hx25_).trans hx26_) ?_
                    refine rd_var hV3 (((Ext.chgI ((Ext.chgI (Ext.chgI (((((((((((((((((hx3_.trans hx4_).trans hx5_).trans hx6_).trans hx7_).trans hx8_).trans hx9_).trans hx10_).trans hx11_).trans hx12_).trans hx13_).trans hx14_).trans hx15_).trans hx16_).trans hx17_).trans hx18_).trans hx19_).trans hx20_) hc21_ (by omega)) hc22_ (by omega)).trans hx23_) hc24_ (by omega)).trans hx25_).trans hx26_) ?_
                    refine (toCode_ok (h0.ext (((Ext.chgI ((Ext.chgI (Ext.chgI ((((((((((((((((((((e0.trans hx1_).trans hx2_).trans hx3_).trans hx4_).trans hx5_).trans hx6_).trans hx7_).trans hx8_).trans hx9_).trans hx10_).trans hx11_).trans hx12_).trans hx13_).trans hx14_).trans hx15_).trans hx16_).trans hx17_).trans hx18_).trans hx19_).trans hx20_) hc21_ (by omega)) hc22_ (by omega)).trans hx23_) hc24_ (by omega)).trans hx25_).trans hx26_)) (by omega)).mono ?_
                    rintro r76 w27_ ⟨hx27_, o76⟩
                    have o76 := o76.toI
                    have hs_hx27_ := hx27_.size
                    refine ⟨hx27_, ?_⟩
                    refine (toState_ok (h1.ext ((((Ext.chgI ((Ext.chgI (Ext.chgI ((((((((((((((((((((e1.trans hx1_).trans hx2_).trans hx3_).trans hx4_).trans hx5_).trans hx6_).trans hx7_).trans hx8_).trans hx9_).trans hx10_).trans hx11_).trans hx12_).trans hx13_).trans hx14_).trans hx15_).trans hx16_).trans hx17_).trans hx18_).trans hx19_).trans hx20_) hc21_ (by omega)) hc22_ (by omega)).trans hx23_) hc24_ (by omega)).trans hx25_).trans hx26_).trans hx27_)) (by assumption)).mono ?_
                    rintro r78 w28_ ⟨hx28_, o78⟩
                    have o78 := o78.toI
                    have hs_hx28_ := hx28_.size
                    refine (implMeetingsIn_ok o76.is hx28_ o78.is (Ext.refl w28_)).mono ?_
                    rintro r79 w29_ ⟨hx29_, o79⟩
                    have o79 := o79.toI
                    have hs_hx29_ := hx29_.size
                    refine (eqRaceS_ok o79.is (Ext.refl w29_) o28_c24.is (hx25_.trans (hx26_.trans (hx27_.trans (hx28_.trans hx29_))))).mono ?_
                    rintro _ w30_ ⟨hx30_, rfl⟩
                    have hs_hx30_ := hx30_.size
                    refine rd_nodec ?_
                    refine br (fun c10 => ?_) (fun c10 => ?_)
                    · refine ⟨(((((((Ext.chgI ((Ext.chgI (Ext.chgI (((((((((((((((((((hx1_.trans hx2_).trans hx3_).trans hx4_).trans hx5_).trans hx6_).trans hx7_).trans hx8_).trans hx9_).trans hx10_).trans hx11_).trans hx12_).trans hx13_).trans hx14_).trans hx15_).trans hx16_).trans hx17_).trans hx18_).trans hx19_).trans hx20_) hc21_ (by omega)) hc22_ (by omega)).trans hx23_) hc24_ (by omega)).trans hx25_).trans hx26_).trans hx27_).trans hx28_).trans hx29_).trans hx30_), ?_⟩
                      first | rfl | contradiction | (exfalso; omega)
                    · refine (heldRaceS_ok o35_c24.is (hx25_.trans (hx26_.trans (hx27_.trans (hx28_.trans (hx29_.trans hx30_))))) (by omega) (by omega) (by omega)).mono ?_
                      rintro _ w31_ ⟨hx31_, rfl⟩
                      have hs_hx31_ := hx31_.size
                      refine rd_lss ?_
                      refine br (fun c11 => ?_) (fun c11 => ?_)
                      · refine ⟨((((((((Ext.chgI ((Ext.chgI (Ext.chgI (((((((((((((((((((hx1_.trans hx2_).trans hx3_).trans hx4_).trans hx5_).trans hx6_).trans hx7_).trans hx8_).trans hx9_).trans hx10_).trans hx11_).trans hx12_).trans hx13_).trans hx14_).trans hx15_).trans hx16_).trans hx17_).trans hx18_).trans hx19_).trans hx20_) hc21_ (by omega)) hc22_ (by omega)).trans hx23_) hc24_ (by omega)).trans hx25_).trans hx26_).trans hx27_).trans hx28_).trans hx29_).trans hx30_).trans hx31_), ?_⟩
                        first | rfl | contradiction | (exfalso; omega)
                      · refine rd_neq ?_
                        refine br (fun c12 => ?_) (fun c12 => ?_)
                        · refine ⟨((((((((Ext.chgI ((Ext.chgI (Ext.chgI (((((((((((((((((((hx1_.trans hx2_).trans hx3_).trans hx4_).trans hx5_).trans hx6_).trans hx7_).trans hx8_).trans hx9_).trans hx10_).trans hx11_).trans hx12_).trans hx13_).trans hx14_).trans hx15_).trans hx16_).trans hx17_).trans hx18_).trans hx19_).trans hx20_) hc21_ (by omega)) hc22_ (by omega)).trans hx23_) hc24_ (by omega)).trans hx25_).trans hx26_).trans hx27_).trans hx28_).trans hx29_).trans hx30_).trans hx31_), ?_⟩
                          first | rfl | contradiction | (exfalso; omega)
                        · refine ⟨((((((((Ext.chgI ((Ext.chgI (Ext.chgI (((((((((((((((((((hx1_.trans hx2_).trans hx3_).trans hx4_).trans hx5_).trans hx6_).trans hx7_).trans hx8_).trans hx9_).trans hx10_).trans hx11_).trans hx12_).trans hx13_).trans hx14_).trans hx15_).trans hx16_).trans hx17_).trans hx18_).trans hx19_).trans hx20_) hc21_ (by omega)) hc22_ (by omega)).trans hx23_) hc24_ (by omega)).trans hx25_).trans hx26_).trans hx27_).trans hx28_).trans hx29_).trans hx30_).trans hx31_), ?_⟩
                          first | rfl | contradiction | (exfalso; omega)

end Go.Proofs.YteephmhilnlkpaaGreat
