/-
  The law of the way to a state: it returns true.
-/
import Derived.Test.YteephmhilnlkpaaGreatWayTo
import Derived.Test.YteephmhilnlkpaaGreatMarks
namespace Go.Proofs.YteephmhilnlkpaaGreat
open Go Go.Sh Go.Proofs
set_option linter.unusedVariables false

theorem stOk_of9 {s : DState} {n m : Int} (hm : m ≤ 1048576) (h : -1 ≤ n ∧ n ≤ m ∧ (0 ≤ n → (s.vars.length : Int) ≤ m ∧ (s.owner.length : Int) ≤ m ∧ (s.stacks.length : Int) ≤ m ∧ (∀ x ∈ s.stacks, (x.length : Int) ≤ m) ∧ n + s.vars.length + s.owner.length + s.stacks.length + nLL s.stacks ≤ m)) (c : ¬ n < 0) : StOk s ∧ s.stacks.length + nSt s ≤ 1073741824 := by
  obtain ⟨h1, h2, h3⟩ := h
  obtain ⟨h4, h5, h6, h7, h8⟩ := h3 (by omega)
  refine ⟨⟨by omega, by omega, by omega, fun x hx => by have := h7 x hx; omega⟩, ?_⟩
  unfold nSt; omega
theorem cdOk_of9 {c : DCode} {n m : Int} (hm : m ≤ 1048576) (h : -1 ≤ n ∧ n ≤ m ∧ (0 ≤ n → n + wCode c ≤ m)) (hc : ¬ n < 0) : wCode c ≤ 1048576 := by
  have := h.2.2 (by omega)
  omega
/-- laws.FnExactWayTo -/
def F5 (a0 a1 a2 : Value) (w : World) (R : Value → World → Prop) : Prop :=
  OP Tryz.prog (Instr.box 26 a0) w fun x3 w =>
  OP Tryz.prog (Instr.box 29 a1) w fun x4 w =>
  RD Tryz.prog (Instr.loadAt 26 x3) w fun x19 =>
  CALL Tryz.prog 14 [x19, (Value.int .i64 1048576)] w fun x21 w =>
  RD Tryz.prog (bin .lss 3 (.tmp 0) (.const undef) x21 (Value.int .i64 0)) w fun x23 =>
  BR x23
   (R (Value.bool true) w)
   (RD Tryz.prog (Instr.loadAt 29 x4) w fun x24 =>
   CALL Tryz.prog 15 [x24, x21] w fun x26 w =>
   RD Tryz.prog (bin .lss 3 (.tmp 0) (.const undef) x26 (Value.int .i64 0)) w fun x28 =>
   BR x28
    (R (Value.bool true) w)
    ((fun w => RD Tryz.prog (Instr.loadAt 26 x3) w fun x30 =>
    RD Tryz.prog (Instr.loadAt 29 x4) w fun x32 =>
    (fun w_ => CALL Tryz.prog 17 [x30] w_ fun x31 w =>
    Ext w_ w ∧
    (fun w_ => CALL Tryz.prog 18 [x32] w_ fun x33 w =>
    Ext w_ w ∧
    CALL Tryz.prog 30 [x31, x33, a2] w fun x35 w =>
    RD Tryz.prog (Instr.extract x35 0) w fun x36 =>
    RD Tryz.prog (Instr.extract x35 1) w fun x37 =>
    RD Tryz.prog (Instr.loadAt 26 x3) w fun x38 =>
    CALL Tryz.prog 17 [x38] w fun x39 w =>
    OP Tryz.prog (Instr.alloc 37 true (.tuple #[])) w fun x10 w =>
    OPU Tryz.prog (Instr.storeAt 37 x10 x39) w fun w =>
    RD Tryz.prog (Instr.loadAt 29 x4) w fun x40 =>
    CALL Tryz.prog 18 [x40] w fun x41 w =>
    OP Tryz.prog (Instr.alloc 32 true (.tuple #[])) w fun x11 w =>
    OPU Tryz.prog (Instr.storeAt 32 x11 x41) w fun w =>
    RD Tryz.prog (Instr.loadAt 37 x10) w fun x43 =>
    RD Tryz.prog (Instr.loadAt 32 x11) w fun x44 =>
    CALL Tryz.prog 31 [x43, x44, a2] w fun x46 w =>
    RD Tryz.prog (Instr.extract x46 0) w fun x47 =>
    RD Tryz.prog (Instr.extract x46 1) w fun x48 =>
    CALL Tryz.prog 32 [x47, x36] w fun x51 w =>
    RD Tryz.prog (Op.unary .not x51) w fun x52 =>
    BR x52
    (R (Value.bool false) w)
    (RD Tryz.prog (bin .neq 4 (.tmp 0) (.tmp 0) x48 x37) w fun x56 =>
    BR x56
     (R (Value.bool false) w)
     ((fun w => RD Tryz.prog (Instr.loadAt 37 x10) w fun x58 =>
     RD Tryz.prog (Instr.loadAt 26 x3) w fun x59 =>
     (fun w_ => CALL Tryz.prog 17 [x59] w_ fun x60 w =>
     Ext w_ w ∧
     CALL Tryz.prog 21 [x58, x60] w fun x61 w =>
     RD Tryz.prog (Op.unary .not x61) w fun x62 =>
     BR x62
      (R (Value.bool false) w)
      ((fun w => RD Tryz.prog (Instr.loadAt 32 x11) w fun x63 =>
      RD Tryz.prog (Instr.loadAt 29 x4) w fun x64 =>
      (fun w_ => CALL Tryz.prog 18 [x64] w_ fun x65 w =>
      Ext w_ w ∧
      CALL Tryz.prog 20 [x63, x65] w fun x66 w =>
      RD Tryz.prog (Op.unary .not x66) w fun x67 =>
      BR x67
       (R (Value.bool false) w)
       (RD Tryz.prog (Instr.loadAt 37 x10) w fun x68 =>
       CALL Tryz.prog 22 [x68, (Value.int .i64 1)] w fun x70 w =>
       RD Tryz.prog (Instr.loadAt 32 x11) w fun x71 =>
       CALL Tryz.prog 23 [x71, x70] w fun x73 w =>
       RD Tryz.prog (bin .lss 3 (.tmp 0) (.const undef) x73 (Value.int .i64 0)) w fun x75 =>
       BR x75
       (R (Value.bool false) w)
       (CALL Tryz.prog 32 [x47, x36] w fun x79 w =>
       RD Tryz.prog (Op.unary .not x79) w fun x80 =>
       BR x80
       (R (Value.bool false) w)
       (RD Tryz.prog (bin .neq 4 (.tmp 0) (.tmp 0) x48 x37) w fun x85 =>
       BR x85
        (R (Value.bool false) w)
        (CALL Tryz.prog 33 [x47, (Value.int .i64 1)] w fun x89 w =>
        CALL Tryz.prog 34 [x47, (Value.int .i64 1)] w fun x92 w =>
        RD Tryz.prog (bin .lss 3 (.tmp 0) (.const undef) x92 (Value.int .i64 0)) w fun x94 =>
        BR x94
         (R (Value.bool false) w)
         (RD Tryz.prog (bin .neq 3 (.tmp 0) (.tmp 0) x92 x89) w fun x97 =>
         BR x97
          (R (Value.bool false) w)
          ((fun w => RD Tryz.prog (Instr.loadAt 26 x3) w fun x99 =>
          RD Tryz.prog (Instr.loadAt 29 x4) w fun x101 =>
          (fun w_ => CALL Tryz.prog 17 [x99] w_ fun x100 w =>
          Ext w_ w ∧
          (fun w_ => CALL Tryz.prog 18 [x101] w_ fun x102 w =>
          Ext w_ w ∧
          CALL Tryz.prog 31 [x100, x102, a2] w fun x104 w =>
          RD Tryz.prog (Instr.extract x104 0) w fun x105 =>
          RD Tryz.prog (Instr.extract x104 1) w fun x106 =>
          CALL Tryz.prog 32 [x105, x36] w fun x109 w =>
          RD Tryz.prog (Op.unary .not x109) w fun x110 =>
          BR x110
          (R (Value.bool false) w)
          (RD Tryz.prog (bin .neq 4 (.tmp 0) (.tmp 0) x106 x37) w fun x114 =>
          BR x114
           (R (Value.bool false) w)
           (CALL Tryz.prog 34 [x47, (Value.int .i64 1)] w fun x118 w =>
           RD Tryz.prog (bin .lss 3 (.tmp 0) (.const undef) x118 (Value.int .i64 0)) w fun x120 =>
           BR x120
            (R (Value.bool false) w)
            (RD Tryz.prog (bin .neq 3 (.tmp 0) (.tmp 0) x118 x89) w fun x123 =>
            BR x123
             (R (Value.bool false) w)
             (R (Value.bool true) w))))) w) w) (World.drew1 w)))))))) w) (World.drew1 w))) w) (World.drew1 w)))) w) w) (World.drew1 w)))
def cfg5 : Cfg := { ext := extL, joins := [], loops := [], draws := [(8, [0, 2, 4, 1, 3, 5, 6, 7, 8, 9, 10], 10), (14, [0, 1, 2, 3, 4], 4), (16, [0, 1, 2, 3, 4], 4), (31, [0, 2, 4, 1, 3, 5, 6, 7, 8, 9, 10], 10)], pars := [] }
theorem F5_eq (a0 a1 a2 : Value) (w : World) (R : Value → World → Prop) : vcF Tryz.prog cfg5 Tryz.f5 [a0, a1, a2] w R = F5 a0 a1 a2 w R := by kernel_rfl
theorem F5_call {a0 a1 a2 : Value} {w : World} {R : Value → World → Prop} (h : F5 a0 a1 a2 w R) : CALL Tryz.prog 5 [a0, a1, a2] w R :=
  call_of (g := cfg5) ent mixed Tryz.func5 (Nat.le_of_ble_eq_true (by kernel_rfl)) (by kernel_rfl) (F5_eq a0 a1 a2 w R ▸ h)


theorem lawWayTo {w : World} {v0 : Value} {W0 : World} {c : DCode} {v1 : Value} {W1 : World} {s : DState} {m : Int}  (h0 : Is W0 v0 c) (e0 : Ext W0 w) (h1 : Is W1 v1 s) (e1 : Ext W1 w)  :
    CALL Tryz.prog 5 [v0, v1, .int .i64 m] w fun r w' => Ext w w' ∧ (r = .bool true) := by
  refine F5_call ?_
  unfold F5
  have hs_e0 := e0.size
  have hs_e1 := e1.size
  refine op_boxS ty26 rfl h0 e0 fun w1_ hx1_ hA3 hV3 => ?_
  have hs_hx1_ := hx1_.size
  refine op_boxS ty29 rfl h1 (e1.trans hx1_) fun w2_ hx2_ hA4 hV4 => ?_
  have hs_hx2_ := hx2_.size
  refine rd_var hV3 hx2_ ?_
  refine (szCode_ok h0 (e0.trans (hx1_.trans hx2_)) (by omega) (by omega)).mono ?_
  rintro _ w3_ ⟨hx3_, n21, rfl, hn21⟩
  have hs_hx3_ := hx3_.size
  refine rd_lss ?_
  refine br (fun c1 => ?_) (fun c1 => ?_)
  · refine ⟨(hx1_.trans (hx2_.trans hx3_)), ?_⟩
    first | rfl | contradiction | (exfalso; omega)
  · refine rd_var hV4 hx3_ ?_
    refine (szState_ok h1 (e1.trans (hx1_.trans (hx2_.trans hx3_))) (by omega) (by omega)).mono ?_
    rintro _ w4_ ⟨hx4_, n26, rfl, hn26⟩
    have hs_hx4_ := hx4_.size
    refine rd_lss ?_
    refine br (fun c2 => ?_) (fun c2 => ?_)
    · refine ⟨(hx1_.trans (hx2_.trans (hx3_.trans hx4_))), ?_⟩
      first | rfl | contradiction | (exfalso; omega)
    · have hx5_ := ext_drew w4_
      have hs_hx5_ := hx5_.size
      have hcd := cdOk_of9 (by omega) hn21 c1
      have hst2 := stOk_of9 (by omega) hn26 c2
      have hst := hst2.1
      have hsn := hst2.2
      have hwl := wayTo_len c s m
      refine rd_var hV3 (hx2_.trans (hx3_.trans (hx4_.trans hx5_))) ?_
      refine rd_var hV4 (hx3_.trans (hx4_.trans hx5_)) ?_
      refine (toCode_ok (h0.ext (e0.trans (hx1_.trans (hx2_.trans (hx3_.trans (hx4_.trans hx5_)))))) (by omega)).mono ?_
      rintro r31 w6_ ⟨hx6_, o31⟩
      have o31 := o31.toI
      have hs_hx6_ := hx6_.size
      refine ⟨hx6_, ?_⟩
      refine (toState_ok (h1.ext (e1.trans (hx1_.trans (hx2_.trans (hx3_.trans (hx4_.trans (hx5_.trans hx6_))))))) (by assumption)).mono ?_
      rintro r33 w7_ ⟨hx7_, o33⟩
      have o33 := o33.toI
      have hs_hx7_ := hx7_.size
      refine ⟨hx7_, ?_⟩
      refine (specWayTo_ok o31.is hx7_ o33.is (Ext.refl w7_) (by omega)).mono ?_
      rintro _ w8_ ⟨hx8_, r35_0, rfl, o35_0⟩
      have o35_0 := o35_0.toI
      have hs_hx8_ := hx8_.size
      refine rd_extract rfl ?_
      refine rd_extract rfl ?_
      refine rd_var hV3 (hx2_.trans (hx3_.trans (hx4_.trans (hx5_.trans (hx6_.trans (hx7_.trans hx8_)))))) ?_
      refine (toCode_ok (h0.ext (e0.trans (hx1_.trans (hx2_.trans (hx3_.trans (hx4_.trans (hx5_.trans (hx6_.trans (hx7_.trans hx8_))))))))) (by omega)).mono ?_
      rintro r39 w9_ ⟨hx9_, o39⟩
      have o39 := o39.toI
      have hs_hx9_ := hx9_.size
      refine op_var zl37 rfl ty37 rfl o39.is (Ext.refl w9_) fun w10_ hx10_ hA10 hV10 => ?_
      have hs_hx10_ := hx10_.size
      have hg10 := hV10.lt
      refine rd_var hV4 (hx3_.trans (hx4_.trans (hx5_.trans (hx6_.trans (hx7_.trans (hx8_.trans (hx9_.trans hx10_))))))) ?_
      refine (toState_ok (h1.ext (e1.trans (hx1_.trans (hx2_.trans (hx3_.trans (hx4_.trans (hx5_.trans (hx6_.trans (hx7_.trans (hx8_.trans (hx9_.trans hx10_))))))))))) (by assumption)).mono ?_
      rintro r41 w11_ ⟨hx11_, o41⟩
      have o41 := o41.toI
      have hs_hx11_ := hx11_.size
      refine op_var zl32 rfl ty32 rfl o41.is (Ext.refl w11_) fun w12_ hx12_ hA11 hV11 => ?_
      have hs_hx12_ := hx12_.size
      have hg11 := hV11.lt
      refine rd_var hV10 (hx11_.trans hx12_) ?_
      refine rd_var hV11 (Ext.refl w12_) ?_
      refine (implWayTo_ok o39.is (hx10_.trans (hx11_.trans hx12_)) o41.is hx12_ (by omega)).mono ?_
      rintro _ w13_ ⟨hx13_, r46_0, rfl, o46_0⟩
      have o46_0 := o46_0.toI
      have hs_hx13_ := hx13_.size
      refine rd_extract rfl ?_
      refine rd_extract rfl ?_
      refine (eqIntS_ok2 o46_0.is (Ext.refl w13_) o35_0.is (hx9_.trans (hx10_.trans (hx11_.trans (hx12_.trans hx13_))))).mono ?_
      rintro _ w14_ ⟨hx14_, rfl⟩
      have hs_hx14_ := hx14_.size
      refine rd_nodec ?_
      refine br (fun c3 => ?_) (fun c3 => ?_)
      · refine ⟨(hx1_.trans (hx2_.trans (hx3_.trans (hx4_.trans (hx5_.trans (hx6_.trans (hx7_.trans (hx8_.trans (hx9_.trans (hx10_.trans (hx11_.trans (hx12_.trans (hx13_.trans hx14_))))))))))))), ?_⟩
        first | rfl | contradiction | (exfalso; omega)
      · refine rd_neqB u4 ?_
        refine br (fun c4 => ?_) (fun c4 => ?_)
        · refine ⟨(hx1_.trans (hx2_.trans (hx3_.trans (hx4_.trans (hx5_.trans (hx6_.trans (hx7_.trans (hx8_.trans (hx9_.trans (hx10_.trans (hx11_.trans (hx12_.trans (hx13_.trans hx14_))))))))))))), ?_⟩
          first | rfl | contradiction | (exfalso; omega)
        · have hx15_ := ext_drew w14_
          have hs_hx15_ := hx15_.size
          refine rd_var hV10 (hx11_.trans (hx12_.trans (hx13_.trans (hx14_.trans hx15_)))) ?_
          refine rd_var hV3 (hx2_.trans (hx3_.trans (hx4_.trans (hx5_.trans (hx6_.trans (hx7_.trans (hx8_.trans (hx9_.trans (hx10_.trans (hx11_.trans (hx12_.trans (hx13_.trans (hx14_.trans hx15_))))))))))))) ?_
          refine (toCode_ok (h0.ext (e0.trans (hx1_.trans (hx2_.trans (hx3_.trans (hx4_.trans (hx5_.trans (hx6_.trans (hx7_.trans (hx8_.trans (hx9_.trans (hx10_.trans (hx11_.trans (hx12_.trans (hx13_.trans (hx14_.trans hx15_)))))))))))))))) (by omega)).mono ?_
          rintro r60 w16_ ⟨hx16_, o60⟩
          have o60 := o60.toI
          have hs_hx16_ := hx16_.size
          refine ⟨hx16_, ?_⟩
          refine (eqCode_ok o39.is (hx10_.trans (hx11_.trans (hx12_.trans (hx13_.trans (hx14_.trans (hx15_.trans hx16_)))))) o60.is (Ext.refl w16_)).mono ?_
          rintro _ w17_ ⟨hx17_, rfl⟩
          have hs_hx17_ := hx17_.size
          refine rd_nodec ?_
          refine br (fun c5 => ?_) (fun c5 => ?_)
          · refine ⟨(hx1_.trans (hx2_.trans (hx3_.trans (hx4_.trans (hx5_.trans (hx6_.trans (hx7_.trans (hx8_.trans (hx9_.trans (hx10_.trans (hx11_.trans (hx12_.trans (hx13_.trans (hx14_.trans (hx15_.trans (hx16_.trans hx17_)))))))))))))))), ?_⟩
            first | rfl | contradiction | (exfalso; omega)
          · have hx18_ := ext_drew w17_
            have hs_hx18_ := hx18_.size
            refine rd_var hV11 (hx13_.trans (hx14_.trans (hx15_.trans (hx16_.trans (hx17_.trans hx18_))))) ?_
            refine rd_var hV4 (hx3_.trans (hx4_.trans (hx5_.trans (hx6_.trans (hx7_.trans (hx8_.trans (hx9_.trans (hx10_.trans (hx11_.trans (hx12_.trans (hx13_.trans (hx14_.trans (hx15_.trans (hx16_.trans (hx17_.trans hx18_))))))))))))))) ?_
            refine (toState_ok (h1.ext (e1.trans (hx1_.trans (hx2_.trans (hx3_.trans (hx4_.trans (hx5_.trans (hx6_.trans (hx7_.trans (hx8_.trans (hx9_.trans (hx10_.trans (hx11_.trans (hx12_.trans (hx13_.trans (hx14_.trans (hx15_.trans (hx16_.trans (hx17_.trans hx18_))))))))))))))))))) (by assumption)).mono ?_
            rintro r65 w19_ ⟨hx19_, o65⟩
            have o65 := o65.toI
            have hs_hx19_ := hx19_.size
            refine ⟨hx19_, ?_⟩
            refine (eqState_ok o41.is (hx12_.trans (hx13_.trans (hx14_.trans (hx15_.trans (hx16_.trans (hx17_.trans (hx18_.trans hx19_))))))) o65.is (Ext.refl w19_)).mono ?_
            rintro _ w20_ ⟨hx20_, rfl⟩
            have hs_hx20_ := hx20_.size
            refine rd_nodec ?_
            refine br (fun c6 => ?_) (fun c6 => ?_)
            · refine ⟨(hx1_.trans (hx2_.trans (hx3_.trans (hx4_.trans (hx5_.trans (hx6_.trans (hx7_.trans (hx8_.trans (hx9_.trans (hx10_.trans (hx11_.trans (hx12_.trans (hx13_.trans (hx14_.trans (hx15_.trans (hx16_.trans (hx17_.trans (hx18_.trans (hx19_.trans hx20_))))))))))))))))))), ?_⟩
              first | rfl | contradiction | (exfalso; omega)
            · refine rd_var hV10 (hx11_.trans (hx12_.trans (hx13_.trans (hx14_.trans (hx15_.trans (hx16_.trans (hx17_.trans (hx18_.trans (hx19_.trans hx20_))))))))) ?_
              refine (markCode_ok (o39.ext (hx10_.trans (hx11_.trans (hx12_.trans (hx13_.trans (hx14_.trans (hx15_.trans (hx16_.trans (hx17_.trans (hx18_.trans (hx19_.trans hx20_))))))))))) (by omega) (by omega) (by omega)).mono ?_
              rintro _ w21_ ⟨n70, rfl, hn70, hc21_⟩
              have hs_hc21_ := hc21_.size
              have o31_c21 := (o31.ext (hx7_.trans (hx8_.trans (hx9_.trans (hx10_.trans (hx11_.trans (hx12_.trans (hx13_.trans (hx14_.trans (hx15_.trans (hx16_.trans (hx17_.trans (hx18_.trans (hx19_.trans hx20_)))))))))))))).chg hc21_ (by omega)
              have o33_c21 := (o33.ext (hx8_.trans (hx9_.trans (hx10_.trans (hx11_.trans (hx12_.trans (hx13_.trans (hx14_.trans (hx15_.trans (hx16_.trans (hx17_.trans (hx18_.trans (hx19_.trans hx20_))))))))))))).chg hc21_ (by omega)
              have o35_0_c21 := (o35_0.ext (hx9_.trans (hx10_.trans (hx11_.trans (hx12_.trans (hx13_.trans (hx14_.trans (hx15_.trans (hx16_.trans (hx17_.trans (hx18_.trans (hx19_.trans hx20_)))))))))))).chg hc21_ (by omega)
              have hV10_c21 := (hV10.ext (hx11_.trans (hx12_.trans (hx13_.trans (hx14_.trans (hx15_.trans (hx16_.trans (hx17_.trans (hx18_.trans (hx19_.trans hx20_)))))))))).chgI hc21_ (by omega)
              have o41_c21 := (o41.ext (hx12_.trans (hx13_.trans (hx14_.trans (hx15_.trans (hx16_.trans (hx17_.trans (hx18_.trans (hx19_.trans hx20_))))))))).chg hc21_ (by omega)
              have hV11_c21 := (hV11.ext (hx13_.trans (hx14_.trans (hx15_.trans (hx16_.trans (hx17_.trans (hx18_.trans (hx19_.trans hx20_)))))))).chgI hc21_ (by omega)
              have o46_0_c21 := (o46_0.ext (hx14_.trans (hx15_.trans (hx16_.trans (hx17_.trans (hx18_.trans (hx19_.trans hx20_))))))).chg hc21_ (by omega)
              have o60_c21 := (o60.ext (hx17_.trans (hx18_.trans (hx19_.trans hx20_)))).chg hc21_ (by omega)
              have o65_c21 := (o65.ext hx20_).chg hc21_ (by omega)
              refine rd_var hV11_c21 (Ext.refl w21_) ?_
              refine (markState_ok (o41_c21.ext (Ext.refl w21_)) (by omega) (by omega) (by omega)).mono ?_
              rintro _ w22_ ⟨rfl, hc22_, o41_c22⟩
              have hs_hc22_ := hc22_.size
              have o31_c22 := (o31_c21.ext (Ext.refl w21_)).chg hc22_ (by omega)
              have o33_c22 := (o33_c21.ext (Ext.refl w21_)).chg hc22_ (by omega)
              have o35_0_c22 := (o35_0_c21.ext (Ext.refl w21_)).chg hc22_ (by omega)
              have hV11_c22 := (hV11_c21.ext (Ext.refl w21_)).chgI hc22_ (by omega)
              have o46_0_c22 := (o46_0_c21.ext (Ext.refl w21_)).chg hc22_ (by omega)
              have o60_c22 := (o60_c21.ext (Ext.refl w21_)).chg hc22_ (by omega)
              have o65_c22 := (o65_c21.ext (Ext.refl w21_)).chg hc22_ (by omega)
              refine rd_lss ?_
              refine br (fun c7 => ?_) (fun c7 => ?_)
              · refine ⟨(Ext.chgI (Ext.chgI (((((((((((((((((((hx1_.trans hx2_).trans hx3_).trans hx4_).trans hx5_).trans hx6_).trans hx7_).trans hx8_).trans hx9_).trans hx10_).trans hx11_).trans hx12_).trans hx13_).trans hx14_).trans hx15_).trans hx16_).trans hx17_).trans hx18_).trans hx19_).trans hx20_) hc21_ (by omega)) hc22_ (by omega)), ?_⟩
                first | rfl | contradiction | (exfalso; omega)
              · refine (eqIntS_ok2 o46_0_c22.is (Ext.refl w22_) o35_0_c22.is (Ext.refl w22_)).mono ?_
                rintro _ w23_ ⟨hx23_, rfl⟩
                have hs_hx23_ := hx23_.size
                refine rd_nodec ?_
                refine br (fun c8 => ?_) (fun c8 => ?_)
                · refine ⟨((Ext.chgI (Ext.chgI (((((((((((((((((((hx1_.trans hx2_).trans hx3_).trans hx4_).trans hx5_).trans hx6_).trans hx7_).trans hx8_).trans hx9_).trans hx10_).trans hx11_).trans hx12_).trans hx13_).trans hx14_).trans hx15_).trans hx16_).trans hx17_).trans hx18_).trans hx19_).trans hx20_) hc21_ (by omega)) hc22_ (by omega)).trans hx23_), ?_⟩
                  first | rfl | contradiction | (exfalso; omega)
                · refine rd_neqB u4 ?_
                  refine br (fun c9 => ?_) (fun c9 => ?_)
                  · refine ⟨((Ext.chgI (Ext.chgI (((((((((((((((((((hx1_.trans hx2_).trans hx3_).trans hx4_).trans hx5_).trans hx6_).trans hx7_).trans hx8_).trans hx9_).trans hx10_).trans hx11_).trans hx12_).trans hx13_).trans hx14_).trans hx15_).trans hx16_).trans hx17_).trans hx18_).trans hx19_).trans hx20_) hc21_ (by omega)) hc22_ (by omega)).trans hx23_), ?_⟩
                    first | rfl | contradiction | (exfalso; omega)
                  · refine (markIntS_I (o46_0_c22.ext hx23_) (by omega) (by omega) (by omega)).mono ?_
                    rintro _ w24_ ⟨rfl, hc24_, o46_0_c24⟩
                    have hs_hc24_ := hc24_.size
                    have o31_c24 := (o31_c22.ext hx23_).chg hc24_ (by omega)
                    have o33_c24 := (o33_c22.ext hx23_).chg hc24_ (by omega)
                    have o35_0_c24 := (o35_0_c22.ext hx23_).chg hc24_ (by omega)
                    have o41_c24 := (o41_c22.ext hx23_).chg hc24_ (by omega)
                    have hV11_c24 := (hV11_c22.ext hx23_).chgI hc24_ (by omega)
                    have o60_c24 := (o60_c22.ext hx23_).chg hc24_ (by omega)
                    have o65_c24 := (o65_c22.ext hx23_).chg hc24_ (by omega)
                    refine (heldIntS_is o46_0_c24.is (Ext.refl w24_) (by omega) (by omega) (by omega)).mono ?_
                    rintro _ w25_ ⟨hx25_, rfl⟩
                    have hs_hx25_ := hx25_.size
                    refine rd_lss ?_
                    refine br (fun c10 => ?_) (fun c10 => ?_)
                    · refine ⟨((Ext.chgI ((Ext.chgI (Ext.chgI (((((((((((((((((((hx1_.trans hx2_).trans hx3_).trans hx4_).trans hx5_).trans hx6_).trans hx7_).trans hx8_).trans hx9_).trans hx10_).trans hx11_).trans hx12_).trans hx13_).trans hx14_).trans hx15_).trans hx16_).trans hx17_).trans hx18_).trans hx19_).trans hx20_) hc21_ (by omega)) hc22_ (by omega)).trans hx23_) hc24_ (by omega)).trans hx25_), ?_⟩
                      first | rfl | contradiction | (exfalso; omega)
                    · refine rd_neq ?_
                      refine br (fun c11 => ?_) (fun c11 => ?_)
                      · refine ⟨((Ext.chgI ((Ext.chgI (Ext.chgI (((((((((((((((((((hx1_.trans hx2_).trans hx3_).trans hx4_).trans hx5_).trans hx6_).trans hx7_).trans hx8_).trans hx9_).trans hx10_).trans hx11_).trans hx12_).trans hx13_).trans hx14_).trans hx15_).trans hx16_).trans hx17_).trans hx18_).trans hx19_).trans hx20_) hc21_ (by omega)) hc22_ (by omega)).trans hx23_) hc24_ (by omega)).trans hx25_), ?_⟩
                        first | rfl | contradiction | (exfalso; omega)
                      · have hx26_ := ext_drew w25_
                        have hs_hx26_ := hx26_.size
                        refine rd_var hV3 (((Ext.chgI ((Ext.chgI (Ext.chgI ((((((((((((((((((hx2_.trans hx3_).trans hx4_).trans hx5_).trans hx6_).trans hx7_).trans hx8_).trans hx9_).trans hx10_).trans hx11_).trans hx12_).trans hx13_).trans hx14_).trans hx15_).trans hx16_).trans hx17_).trans hx18_).trans hx19_).trans hx20_) hc21_ (by omega)) hc22_ (by omega)).trans hx23_) hc24_ (by omega)).trans hx25_).trans hx26_) ?_
                        refine rd_var hV4 (((Ext.chgI ((Ext.chgI (Ext.chgI (((((((((((((((((hx3_.trans hx4_).trans hx5_).trans hx6_).trans hx7_).trans hx8_).trans hx9_).trans hx10_).trans hx11_).trans hx12_).trans hx13_).trans hx14_).trans hx15_).trans hx16_).trans hx17_).trans hx18_).trans hx19_).trans hx20_) hc21_ (by omega)) hc22_ (by omega)).trans hx23_) hc24_ (by omega)).trans hx25_).trans hx26_) ?_
                        refine (toCode_ok (h0.ext (((Ext.chgI ((Ext.chgI (Ext.chgI ((((((((((((((((((((e0.trans hx1_).trans hx2_).trans hx3_).trans hx4_).trans hx5_).trans hx6_).trans hx7_).trans hx8_).trans hx9_).trans hx10_).trans hx11_).trans hx12_).trans hx13_).trans hx14_).trans hx15_).trans hx16_).trans hx17_).trans hx18_).trans hx19_).trans hx20_) hc21_ (by omega)) hc22_ (by omega)).trans hx23_) hc24_ (by omega)).trans hx25_).trans hx26_)) (by omega)).mono ?_
                        rintro r100 w27_ ⟨hx27_, o100⟩
                        have o100 := o100.toI
                        have hs_hx27_ := hx27_.size
                        refine ⟨hx27_, ?_⟩
                        refine (toState_ok (h1.ext ((((Ext.chgI ((Ext.chgI (Ext.chgI ((((((((((((((((((((e1.trans hx1_).trans hx2_).trans hx3_).trans hx4_).trans hx5_).trans hx6_).trans hx7_).trans hx8_).trans hx9_).trans hx10_).trans hx11_).trans hx12_).trans hx13_).trans hx14_).trans hx15_).trans hx16_).trans hx17_).trans hx18_).trans hx19_).trans hx20_) hc21_ (by omega)) hc22_ (by omega)).trans hx23_) hc24_ (by omega)).trans hx25_).trans hx26_).trans hx27_)) (by assumption)).mono ?_
                        rintro r102 w28_ ⟨hx28_, o102⟩
                        have o102 := o102.toI
                        have hs_hx28_ := hx28_.size
                        refine ⟨hx28_, ?_⟩
                        refine (implWayTo_ok o100.is hx28_ o102.is (Ext.refl w28_) (by omega)).mono ?_
                        rintro _ w29_ ⟨hx29_, r104_0, rfl, o104_0⟩
                        have o104_0 := o104_0.toI
                        have hs_hx29_ := hx29_.size
                        refine rd_extract rfl ?_
                        refine rd_extract rfl ?_
                        refine (eqIntS_ok2 o104_0.is (Ext.refl w29_) o35_0_c24.is (hx25_.trans (hx26_.trans (hx27_.trans (hx28_.trans hx29_))))).mono ?_
                        rintro _ w30_ ⟨hx30_, rfl⟩
                        have hs_hx30_ := hx30_.size
                        refine rd_nodec ?_
                        refine br (fun c12 => ?_) (fun c12 => ?_)
                        · refine ⟨(((((((Ext.chgI ((Ext.chgI (Ext.chgI (((((((((((((((((((hx1_.trans hx2_).trans hx3_).trans hx4_).trans hx5_).trans hx6_).trans hx7_).trans hx8_).trans hx9_).trans hx10_).trans hx11_).trans hx12_).trans hx13_).trans hx14_).trans hx15_).trans hx16_).trans hx17_).trans hx18_).trans hx19_).trans hx20_) hc21_ (by omega)) hc22_ (by omega)).trans hx23_) hc24_ (by omega)).trans hx25_).trans hx26_).trans hx27_).trans hx28_).trans hx29_).trans hx30_), ?_⟩
                          first | rfl | contradiction | (exfalso; omega)
                        · refine rd_neqB u4 ?_
                          refine br (fun c13 => ?_) (fun c13 => ?_)
                          · refine ⟨(((((((Ext.chgI ((Ext.chgI (Ext.chgI (((((((((((((((((((hx1_.trans hx2_).trans hx3_).trans hx4_).trans hx5_).trans hx6_).trans hx7_).trans hx8_).trans hx9_).trans hx10_).trans hx11_).trans hx12_).trans hx13_).trans hx14_).trans hx15_).trans hx16_).trans hx17_).trans hx18_).trans hx19_).trans hx20_) hc21_ (by omega)) hc22_ (by omega)).trans hx23_) hc24_ (by omega)).trans hx25_).trans hx26_).trans hx27_).trans hx28_).trans hx29_).trans hx30_), ?_⟩
                            first | rfl | contradiction | (exfalso; omega)
                          · refine (heldIntS_is o46_0_c24.is (hx25_.trans (hx26_.trans (hx27_.trans (hx28_.trans (hx29_.trans hx30_))))) (by omega) (by omega) (by omega)).mono ?_
                            rintro _ w31_ ⟨hx31_, rfl⟩
                            have hs_hx31_ := hx31_.size
                            refine rd_lss ?_
                            refine br (fun c14 => ?_) (fun c14 => ?_)
                            · refine ⟨((((((((Ext.chgI ((Ext.chgI (Ext.chgI (((((((((((((((((((hx1_.trans hx2_).trans hx3_).trans hx4_).trans hx5_).trans hx6_).trans hx7_).trans hx8_).trans hx9_).trans hx10_).trans hx11_).trans hx12_).trans hx13_).trans hx14_).trans hx15_).trans hx16_).trans hx17_).trans hx18_).trans hx19_).trans hx20_) hc21_ (by omega)) hc22_ (by omega)).trans hx23_) hc24_ (by omega)).trans hx25_).trans hx26_).trans hx27_).trans hx28_).trans hx29_).trans hx30_).trans hx31_), ?_⟩
                              first | rfl | contradiction | (exfalso; omega)
                            · refine rd_neq ?_
                              refine br (fun c15 => ?_) (fun c15 => ?_)
                              · refine ⟨((((((((Ext.chgI ((Ext.chgI (Ext.chgI (((((((((((((((((((hx1_.trans hx2_).trans hx3_).trans hx4_).trans hx5_).trans hx6_).trans hx7_).trans hx8_).trans hx9_).trans hx10_).trans hx11_).trans hx12_).trans hx13_).trans hx14_).trans hx15_).trans hx16_).trans hx17_).trans hx18_).trans hx19_).trans hx20_) hc21_ (by omega)) hc22_ (by omega)).trans hx23_) hc24_ (by omega)).trans hx25_).trans hx26_).trans hx27_).trans hx28_).trans hx29_).trans hx30_).trans hx31_), ?_⟩
                                first | rfl | contradiction | (exfalso; omega)
                              · refine ⟨((((((((Ext.chgI ((Ext.chgI (Ext.chgI (((((((((((((((((((hx1_.trans hx2_).trans hx3_).trans hx4_).trans hx5_).trans hx6_).trans hx7_).trans hx8_).trans hx9_).trans hx10_).trans hx11_).trans hx12_).trans hx13_).trans hx14_).trans hx15_).trans hx16_).trans hx17_).trans hx18_).trans hx19_).trans hx20_) hc21_ (by omega)) hc22_ (by omega)).trans hx23_) hc24_ (by omega)).trans hx25_).trans hx26_).trans hx27_).trans hx28_).trans hx29_).trans hx30_).trans hx31_), ?_⟩
                                first | rfl | contradiction | (exfalso; omega)

end Go.Proofs.YteephmhilnlkpaaGreat
