/-
  The law of the beginning: it returns true.
-/
import Derived.Test.YtokppocbfpjngaaStart
import Derived.Test.YtokppocbfpjngaaMarks
namespace Go.Proofs.Ytokppocbfpjngaa
open Go Go.Sh Go.Proofs
set_option linter.unusedVariables false

theorem cdOk_of5 {c : DCode} {n m : Int} (hm : m ≤ 1048576) (h : -1 ≤ n ∧ n ≤ m ∧ (0 ≤ n → n + wCode c ≤ m)) (hc : ¬ n < 0) : wCode c ≤ 1048576 := by
  have := h.2.2 (by omega)
  omega
theorem startOf_n {c : DCode} (h : wCode c ≤ 1048576) : (startOf c).stacks.length + nSt (startOf c) ≤ 1073741824 := by
  have hsz : c.globals.length ≤ 1048576 ∧ c.locks.length ≤ 1048576 := by unfold wCode wStr at h; omega
  unfold startOf
  split
  · simp only [startD, nSt, nLL, sm, List.length_replicate, List.length_cons, List.length_nil, List.map_cons, List.map_nil, List.sum_cons, List.sum_nil]; omega
  · simp only [nSt, nLL, sm, List.length_nil, List.map_nil, List.sum_nil]; omega
/-- laws.FnExactStartOf -/
def F5 (a0 : Value) (w : World) (R : Value → World → Prop) : Prop :=
  OP Try.prog (Instr.box 26 a0) w fun x1 w =>
  RD Try.prog (Instr.loadAt 26 x1) w fun x11 =>
  CALL Try.prog 14 [x11, (Value.int .i64 1048576)] w fun x13 w =>
  RD Try.prog (bin .lss 3 (.tmp 0) (.const undef) x13 (Value.int .i64 0)) w fun x15 =>
  BR x15
   (R (Value.bool true) w)
   (RD Try.prog (Instr.loadAt 26 x1) w fun x16 =>
   CALL Try.prog 16 [x16] w fun x17 w =>
   CALL Try.prog 26 [x17] w fun x18 w =>
   OP Try.prog (Instr.alloc 42 true (.tuple #[])) w fun x4 w =>
   OPU Try.prog (Instr.storeAt 42 x4 x18) w fun w =>
   RD Try.prog (Instr.loadAt 26 x1) w fun x19 =>
   CALL Try.prog 16 [x19] w fun x20 w =>
   OP Try.prog (Instr.alloc 31 true (.tuple #[])) w fun x5 w =>
   OPU Try.prog (Instr.storeAt 31 x5 x20) w fun w =>
   RD Try.prog (Instr.loadAt 31 x5) w fun x21 =>
   CALL Try.prog 27 [x21] w fun x22 w =>
   OP Try.prog (Instr.alloc 42 true (.tuple #[])) w fun x6 w =>
   OPU Try.prog (Instr.storeAt 42 x6 x22) w fun w =>
   RD Try.prog (Instr.loadAt 42 x6) w fun x23 =>
   RD Try.prog (Instr.loadAt 42 x4) w fun x24 =>
   CALL Try.prog 25 [x23, x24] w fun x25 w =>
   RD Try.prog (Op.unary .not x25) w fun x26 =>
   BR x26
    (R (Value.bool false) w)
    ((fun w => RD Try.prog (Instr.loadAt 31 x5) w fun x27 =>
    RD Try.prog (Instr.loadAt 26 x1) w fun x28 =>
    (fun w_ => CALL Try.prog 16 [x28] w_ fun x29 w =>
    Ext w_ w ∧
    CALL Try.prog 19 [x27, x29] w fun x30 w =>
    RD Try.prog (Op.unary .not x30) w fun x31 =>
    BR x31
     (R (Value.bool false) w)
     (RD Try.prog (Instr.loadAt 31 x5) w fun x32 =>
     CALL Try.prog 28 [x32, (Value.int .i64 1)] w fun x34 w =>
     RD Try.prog (bin .lss 3 (.tmp 0) (.const undef) x34 (Value.int .i64 0)) w fun x36 =>
     BR x36
     (R (Value.bool false) w)
     (RD Try.prog (Instr.loadAt 42 x6) w fun x38 =>
     RD Try.prog (Instr.loadAt 42 x4) w fun x39 =>
     CALL Try.prog 25 [x38, x39] w fun x40 w =>
     RD Try.prog (Op.unary .not x40) w fun x41 =>
     BR x41
      (R (Value.bool false) w)
      (RD Try.prog (Instr.loadAt 42 x6) w fun x43 =>
      CALL Try.prog 29 [x43, (Value.int .i64 1)] w fun x45 w =>
      RD Try.prog (Instr.loadAt 42 x6) w fun x46 =>
      CALL Try.prog 30 [x46, (Value.int .i64 1)] w fun x48 w =>
      RD Try.prog (bin .lss 3 (.tmp 0) (.const undef) x48 (Value.int .i64 0)) w fun x50 =>
      BR x50
       (R (Value.bool false) w)
       (RD Try.prog (bin .neq 3 (.tmp 0) (.tmp 0) x48 x45) w fun x53 =>
       BR x53
        (R (Value.bool false) w)
        (RD Try.prog (Instr.loadAt 26 x1) w fun x54 =>
        CALL Try.prog 16 [x54] w fun x55 w =>
        CALL Try.prog 27 [x55] w fun x56 w =>
        OP Try.prog (Instr.alloc 42 true (.tuple #[])) w fun x10 w =>
        OPU Try.prog (Instr.storeAt 42 x10 x56) w fun w =>
        RD Try.prog (Instr.loadAt 42 x10) w fun x57 =>
        RD Try.prog (Instr.loadAt 42 x4) w fun x58 =>
        CALL Try.prog 25 [x57, x58] w fun x59 w =>
        RD Try.prog (Op.unary .not x59) w fun x60 =>
        BR x60
         (R (Value.bool false) w)
         (RD Try.prog (Instr.loadAt 42 x6) w fun x61 =>
         CALL Try.prog 30 [x61, (Value.int .i64 1)] w fun x63 w =>
         RD Try.prog (bin .lss 3 (.tmp 0) (.const undef) x63 (Value.int .i64 0)) w fun x65 =>
         BR x65
          (R (Value.bool false) w)
          (RD Try.prog (bin .neq 3 (.tmp 0) (.tmp 0) x63 x45) w fun x68 =>
          BR x68
           (R (Value.bool false) w)
           (R (Value.bool true) w))))))))) w) (World.drew1 w)))
def cfg5 : Cfg := { ext := extL, joins := [], loops := [], draws := [(10, [0, 1, 2, 3, 4], 4)], pars := [] }
theorem F5_eq (a0 : Value) (w : World) (R : Value → World → Prop) : vcF Try.prog cfg5 Try.f5 [a0] w R = F5 a0 w R := by kernel_rfl
theorem F5_call {a0 : Value} {w : World} {R : Value → World → Prop} (h : F5 a0 w R) : CALL Try.prog 5 [a0] w R :=
  call_of (g := cfg5) ent mixed Try.func5 (Nat.le_of_ble_eq_true (by kernel_rfl)) (by kernel_rfl) (F5_eq a0 w R ▸ h)


theorem lawStartOf {w : World} {v0 : Value} {W0 : World} {c : DCode}  (h0 : Is W0 v0 c) (e0 : Ext W0 w)  :
    CALL Try.prog 5 [v0] w fun r w' => Ext w w' ∧ (r = .bool true) := by
  refine F5_call ?_
  unfold F5
  have hs_e0 := e0.size
  refine op_boxS ty26 rfl h0 e0 fun w1_ hx1_ hA1 hV1 => ?_
  have hs_hx1_ := hx1_.size
  refine rd_var hV1 (Ext.refl w1_) ?_
  refine (szCode_ok h0 (e0.trans hx1_) (by omega) (by omega)).mono ?_
  rintro _ w2_ ⟨hx2_, n13, rfl, hn13⟩
  have hs_hx2_ := hx2_.size
  refine rd_lss ?_
  refine br (fun c1 => ?_) (fun c1 => ?_)
  · refine ⟨(hx1_.trans hx2_), ?_⟩
    first | rfl | contradiction | (exfalso; omega)
  · refine rd_var hV1 hx2_ ?_
    have hcd := cdOk_of5 (by omega) hn13 c1
    have hlr := startOf_n hcd
    refine (toCode_ok (h0.ext (e0.trans (hx1_.trans hx2_))) (by omega)).mono ?_
    rintro r17 w3_ ⟨hx3_, o17⟩
    have o17 := o17.toI
    have hs_hx3_ := hx3_.size
    refine (specStartOf_ok o17.is (Ext.refl w3_) (by omega)).mono ?_
    rintro r18 w4_ ⟨hx4_, o18⟩
    have o18 := o18.toI
    have hs_hx4_ := hx4_.size
    refine op_var zl42 rfl ty42 rfl o18.is (Ext.refl w4_) fun w5_ hx5_ hA4 hV4 => ?_
    have hs_hx5_ := hx5_.size
    have hg4 := hV4.lt
    refine rd_var hV1 (hx2_.trans (hx3_.trans (hx4_.trans hx5_))) ?_
    refine (toCode_ok (h0.ext (e0.trans (hx1_.trans (hx2_.trans (hx3_.trans (hx4_.trans hx5_)))))) (by omega)).mono ?_
    rintro r20 w6_ ⟨hx6_, o20⟩
    have o20 := o20.toI
    have hs_hx6_ := hx6_.size
    refine op_var zl31 rfl ty31 rfl o20.is (Ext.refl w6_) fun w7_ hx7_ hA5 hV5 => ?_
    have hs_hx7_ := hx7_.size
    have hg5 := hV5.lt
    refine rd_var hV5 (Ext.refl w7_) ?_
    refine (implStartOf_ok o20.is hx7_ (by omega)).mono ?_
    rintro r22 w8_ ⟨hx8_, o22⟩
    have o22 := o22.toI
    have hs_hx8_ := hx8_.size
    refine op_var zl42 rfl ty42 rfl o22.is (Ext.refl w8_) fun w9_ hx9_ hA6 hV6 => ?_
    have hs_hx9_ := hx9_.size
    have hg6 := hV6.lt
    refine rd_var hV6 (Ext.refl w9_) ?_
    refine rd_var hV4 (hx6_.trans (hx7_.trans (hx8_.trans hx9_))) ?_
    refine (eqState_ok o22.is hx9_ o18.is (hx5_.trans (hx6_.trans (hx7_.trans (hx8_.trans hx9_))))).mono ?_
    rintro _ w10_ ⟨hx10_, rfl⟩
    have hs_hx10_ := hx10_.size
    refine rd_nodec ?_
    refine br (fun c2 => ?_) (fun c2 => ?_)
    · refine ⟨(hx1_.trans (hx2_.trans (hx3_.trans (hx4_.trans (hx5_.trans (hx6_.trans (hx7_.trans (hx8_.trans (hx9_.trans hx10_))))))))), ?_⟩
      first | rfl | contradiction | (exfalso; omega)
    · have hx11_ := ext_drew w10_
      have hs_hx11_ := hx11_.size
      refine rd_var hV5 (hx8_.trans (hx9_.trans (hx10_.trans hx11_))) ?_
      refine rd_var hV1 (hx2_.trans (hx3_.trans (hx4_.trans (hx5_.trans (hx6_.trans (hx7_.trans (hx8_.trans (hx9_.trans (hx10_.trans hx11_))))))))) ?_
      refine (toCode_ok (h0.ext (e0.trans (hx1_.trans (hx2_.trans (hx3_.trans (hx4_.trans (hx5_.trans (hx6_.trans (hx7_.trans (hx8_.trans (hx9_.trans (hx10_.trans hx11_)))))))))))) (by omega)).mono ?_
      rintro r29 w12_ ⟨hx12_, o29⟩
      have o29 := o29.toI
      have hs_hx12_ := hx12_.size
      refine ⟨hx12_, ?_⟩
      refine (eqCode_ok o20.is (hx7_.trans (hx8_.trans (hx9_.trans (hx10_.trans (hx11_.trans hx12_))))) o29.is (Ext.refl w12_)).mono ?_
      rintro _ w13_ ⟨hx13_, rfl⟩
      have hs_hx13_ := hx13_.size
      refine rd_nodec ?_
      refine br (fun c3 => ?_) (fun c3 => ?_)
      · refine ⟨(hx1_.trans (hx2_.trans (hx3_.trans (hx4_.trans (hx5_.trans (hx6_.trans (hx7_.trans (hx8_.trans (hx9_.trans (hx10_.trans (hx11_.trans (hx12_.trans hx13_)))))))))))), ?_⟩
        first | rfl | contradiction | (exfalso; omega)
      · refine rd_var hV5 (hx8_.trans (hx9_.trans (hx10_.trans (hx11_.trans (hx12_.trans hx13_))))) ?_
        refine (markCode_ok (o20.ext (hx7_.trans (hx8_.trans (hx9_.trans (hx10_.trans (hx11_.trans (hx12_.trans hx13_))))))) (by omega) (by omega) (by omega)).mono ?_
        rintro _ w14_ ⟨n34, rfl, hn34, hc14_⟩
        have hs_hc14_ := hc14_.size
        have o17_c14 := (o17.ext (hx4_.trans (hx5_.trans (hx6_.trans (hx7_.trans (hx8_.trans (hx9_.trans (hx10_.trans (hx11_.trans (hx12_.trans hx13_)))))))))).chg hc14_ (by omega)
        have o18_c14 := (o18.ext (hx5_.trans (hx6_.trans (hx7_.trans (hx8_.trans (hx9_.trans (hx10_.trans (hx11_.trans (hx12_.trans hx13_))))))))).chg hc14_ (by omega)
        have hV4_c14 := (hV4.ext (hx6_.trans (hx7_.trans (hx8_.trans (hx9_.trans (hx10_.trans (hx11_.trans (hx12_.trans hx13_)))))))).chgI hc14_ (by omega)
        have hV5_c14 := (hV5.ext (hx8_.trans (hx9_.trans (hx10_.trans (hx11_.trans (hx12_.trans hx13_)))))).chgI hc14_ (by omega)
        have o22_c14 := (o22.ext (hx9_.trans (hx10_.trans (hx11_.trans (hx12_.trans hx13_))))).chg hc14_ (by omega)
        have hV6_c14 := (hV6.ext (hx10_.trans (hx11_.trans (hx12_.trans hx13_)))).chgI hc14_ (by omega)
        have o29_c14 := (o29.ext hx13_).chg hc14_ (by omega)
        refine rd_lss ?_
        refine br (fun c4 => ?_) (fun c4 => ?_)
        · refine ⟨(Ext.chgI ((((((((((((hx1_.trans hx2_).trans hx3_).trans hx4_).trans hx5_).trans hx6_).trans hx7_).trans hx8_).trans hx9_).trans hx10_).trans hx11_).trans hx12_).trans hx13_) hc14_ (by omega)), ?_⟩
          first | rfl | contradiction | (exfalso; omega)
        · refine rd_var hV6_c14 (Ext.refl w14_) ?_
          refine rd_var hV4_c14 (Ext.refl w14_) ?_
          refine (eqState_ok o22_c14.is (Ext.refl w14_) o18_c14.is (Ext.refl w14_)).mono ?_
          rintro _ w15_ ⟨hx15_, rfl⟩
          have hs_hx15_ := hx15_.size
          refine rd_nodec ?_
          refine br (fun c5 => ?_) (fun c5 => ?_)
          · refine ⟨((Ext.chgI ((((((((((((hx1_.trans hx2_).trans hx3_).trans hx4_).trans hx5_).trans hx6_).trans hx7_).trans hx8_).trans hx9_).trans hx10_).trans hx11_).trans hx12_).trans hx13_) hc14_ (by omega)).trans hx15_), ?_⟩
            first | rfl | contradiction | (exfalso; omega)
          · refine rd_var hV6_c14 hx15_ ?_
            refine (markState_ok (o22_c14.ext hx15_) (by omega) (by omega) (by omega)).mono ?_
            rintro _ w16_ ⟨rfl, hc16_, o22_c16⟩
            have hs_hc16_ := hc16_.size
            have o17_c16 := (o17_c14.ext hx15_).chg hc16_ (by omega)
            have o18_c16 := (o18_c14.ext hx15_).chg hc16_ (by omega)
            have hV4_c16 := (hV4_c14.ext hx15_).chgI hc16_ (by omega)
            have hV6_c16 := (hV6_c14.ext hx15_).chgI hc16_ (by omega)
            have o29_c16 := (o29_c14.ext hx15_).chg hc16_ (by omega)
            refine rd_var hV6_c16 (Ext.refl w16_) ?_
            refine (heldState_ok o22_c16.is (Ext.refl w16_) (by omega) (by omega) (by omega)).mono ?_
            rintro _ w17_ ⟨hx17_, rfl⟩
            have hs_hx17_ := hx17_.size
            refine rd_lss ?_
            refine br (fun c6 => ?_) (fun c6 => ?_)
            · refine ⟨((Ext.chgI ((Ext.chgI ((((((((((((hx1_.trans hx2_).trans hx3_).trans hx4_).trans hx5_).trans hx6_).trans hx7_).trans hx8_).trans hx9_).trans hx10_).trans hx11_).trans hx12_).trans hx13_) hc14_ (by omega)).trans hx15_) hc16_ (by omega)).trans hx17_), ?_⟩
              first | rfl | contradiction | (exfalso; omega)
            · refine rd_neq ?_
              refine br (fun c7 => ?_) (fun c7 => ?_)
              · refine ⟨((Ext.chgI ((Ext.chgI ((((((((((((hx1_.trans hx2_).trans hx3_).trans hx4_).trans hx5_).trans hx6_).trans hx7_).trans hx8_).trans hx9_).trans hx10_).trans hx11_).trans hx12_).trans hx13_) hc14_ (by omega)).trans hx15_) hc16_ (by omega)).trans hx17_), ?_⟩
                first | rfl | contradiction | (exfalso; omega)
              · refine rd_var hV1 ((Ext.chgI ((Ext.chgI (((((((((((hx2_.trans hx3_).trans hx4_).trans hx5_).trans hx6_).trans hx7_).trans hx8_).trans hx9_).trans hx10_).trans hx11_).trans hx12_).trans hx13_) hc14_ (by omega)).trans hx15_) hc16_ (by omega)).trans hx17_) ?_
                refine (toCode_ok (h0.ext ((Ext.chgI ((Ext.chgI (((((((((((((e0.trans hx1_).trans hx2_).trans hx3_).trans hx4_).trans hx5_).trans hx6_).trans hx7_).trans hx8_).trans hx9_).trans hx10_).trans hx11_).trans hx12_).trans hx13_) hc14_ (by omega)).trans hx15_) hc16_ (by omega)).trans hx17_)) (by omega)).mono ?_
                rintro r55 w18_ ⟨hx18_, o55⟩
                have o55 := o55.toI
                have hs_hx18_ := hx18_.size
                refine (implStartOf_ok o55.is (Ext.refl w18_) (by omega)).mono ?_
                rintro r56 w19_ ⟨hx19_, o56⟩
                have o56 := o56.toI
                have hs_hx19_ := hx19_.size
                refine op_var zl42 rfl ty42 rfl o56.is (Ext.refl w19_) fun w20_ hx20_ hA10 hV10 => ?_
                have hs_hx20_ := hx20_.size
                have hg10 := hV10.lt
                refine rd_var hV10 (Ext.refl w20_) ?_
                refine rd_var hV4_c16 (hx17_.trans (hx18_.trans (hx19_.trans hx20_))) ?_
                refine (eqState_ok o56.is hx20_ o18_c16.is (hx17_.trans (hx18_.trans (hx19_.trans hx20_)))).mono ?_
                rintro _ w21_ ⟨hx21_, rfl⟩
                have hs_hx21_ := hx21_.size
                refine rd_nodec ?_
                refine br (fun c8 => ?_) (fun c8 => ?_)
                · refine ⟨((((((Ext.chgI ((Ext.chgI ((((((((((((hx1_.trans hx2_).trans hx3_).trans hx4_).trans hx5_).trans hx6_).trans hx7_).trans hx8_).trans hx9_).trans hx10_).trans hx11_).trans hx12_).trans hx13_) hc14_ (by omega)).trans hx15_) hc16_ (by omega)).trans hx17_).trans hx18_).trans hx19_).trans hx20_).trans hx21_), ?_⟩
                  first | rfl | contradiction | (exfalso; omega)
                · refine rd_var hV6_c16 (hx17_.trans (hx18_.trans (hx19_.trans (hx20_.trans hx21_)))) ?_
                  refine (heldState_ok o22_c16.is (hx17_.trans (hx18_.trans (hx19_.trans (hx20_.trans hx21_)))) (by omega) (by omega) (by omega)).mono ?_
                  rintro _ w22_ ⟨hx22_, rfl⟩
                  have hs_hx22_ := hx22_.size
                  refine rd_lss ?_
                  refine br (fun c9 => ?_) (fun c9 => ?_)
                  · refine ⟨(((((((Ext.chgI ((Ext.chgI ((((((((((((hx1_.trans hx2_).trans hx3_).trans hx4_).trans hx5_).trans hx6_).trans hx7_).trans hx8_).trans hx9_).trans hx10_).trans hx11_).trans hx12_).trans hx13_) hc14_ (by omega)).trans hx15_) hc16_ (by omega)).trans hx17_).trans hx18_).trans hx19_).trans hx20_).trans hx21_).trans hx22_), ?_⟩
                    first | rfl | contradiction | (exfalso; omega)
                  · refine rd_neq ?_
                    refine br (fun c10 => ?_) (fun c10 => ?_)
                    · refine ⟨(((((((Ext.chgI ((Ext.chgI ((((((((((((hx1_.trans hx2_).trans hx3_).trans hx4_).trans hx5_).trans hx6_).trans hx7_).trans hx8_).trans hx9_).trans hx10_).trans hx11_).trans hx12_).trans hx13_) hc14_ (by omega)).trans hx15_) hc16_ (by omega)).trans hx17_).trans hx18_).trans hx19_).trans hx20_).trans hx21_).trans hx22_), ?_⟩
                      first | rfl | contradiction | (exfalso; omega)
                    · refine ⟨(((((((Ext.chgI ((Ext.chgI ((((((((((((hx1_.trans hx2_).trans hx3_).trans hx4_).trans hx5_).trans hx6_).trans hx7_).trans hx8_).trans hx9_).trans hx10_).trans hx11_).trans hx12_).trans hx13_) hc14_ (by omega)).trans hx15_) hc16_ (by omega)).trans hx17_).trans hx18_).trans hx19_).trans hx20_).trans hx21_).trans hx22_), ?_⟩
                      first | rfl | contradiction | (exfalso; omega)

end Go.Proofs.Ytokppocbfpjngaa
