/-
  Laws over code and lines: each returns true.
-/
import Derived.Test.YtokppocbfpjngaaLines
namespace Go.Proofs.Ytokppocbfpjngaa
open Go Go.Sh Go.Proofs
set_option linter.unusedVariables false

theorem cdOk_of3 {c : DCode} {n m : Int} (hm : m ≤ 1048576) (h : -1 ≤ n ∧ n ≤ m ∧ (0 ≤ n → n + wCode c ≤ m)) (hc : ¬ n < 0) : wCode c ≤ 1048576 := by
  have := h.2.2 (by omega); omega
/-- laws.FnExactRoundLine -/
def F3 (a0 a1 : Value) (w : World) (R : Value → World → Prop) : Prop :=
  OP Try.prog (Instr.box 26 a0) w fun x2 w =>
  RD Try.prog (Builtin.len_ #[23] 3 [a1].toArray) w fun x11 =>
  RD Try.prog (bin .gtr 3 (.tmp 0) (.const undef) x11 (Value.int .i64 1048576)) w fun x12 =>
  BR x12
   (R (Value.bool true) w)
   (RD Try.prog (Instr.loadAt 26 x2) w fun x13 =>
   CALL Try.prog 14 [x13, (Value.int .i64 1048576)] w fun x15 w =>
   RD Try.prog (bin .lss 3 (.tmp 0) (.const undef) x15 (Value.int .i64 0)) w fun x17 =>
   BR x17
    (R (Value.bool true) w)
    (RD Try.prog (Instr.loadAt 26 x2) w fun x18 =>
    CALL Try.prog 16 [x18] w fun x19 w =>
    CALL Try.prog 17 [a1] w fun x21 w =>
    CALL Try.prog 15 [x19, x21] w fun x22 w =>
    RD Try.prog (Instr.loadAt 26 x2) w fun x23 =>
    CALL Try.prog 16 [x23] w fun x24 w =>
    OP Try.prog (Instr.alloc 31 true (.tuple #[])) w fun x7 w =>
    OPU Try.prog (Instr.storeAt 31 x7 x24) w fun w =>
    CALL Try.prog 17 [a1] w fun x26 w =>
    RD Try.prog (Instr.loadAt 31 x7) w fun x27 =>
    CALL Try.prog 18 [x27, x26] w fun x29 w =>
    RD Try.prog (bin .neq 9 (.tmp 0) (.tmp 0) x29 x22) w fun x32 =>
    BR x32
     (R (Value.bool false) w)
     ((fun w => RD Try.prog (Instr.loadAt 31 x7) w fun x33 =>
     RD Try.prog (Instr.loadAt 26 x2) w fun x34 =>
     (fun w_ => CALL Try.prog 16 [x34] w_ fun x35 w =>
     Ext w_ w ∧
     CALL Try.prog 19 [x33, x35] w fun x36 w =>
     RD Try.prog (Op.unary .not x36) w fun x37 =>
     BR x37
      (R (Value.bool false) w)
      (CALL Try.prog 17 [a1] w fun x40 w =>
      CALL Try.prog 20 [x26, x40] w fun x41 w =>
      RD Try.prog (Op.unary .not x41) w fun x42 =>
      BR x42
       (R (Value.bool false) w)
       (R (Value.bool true) w))) w) (World.drew1 w))))
def cfg3 : Cfg := { ext := extL, joins := [], loops := [], draws := [(13, [0, 1, 2, 3, 4], 4)], pars := [] }
theorem F3_eq (a0 a1 : Value) (w : World) (R : Value → World → Prop) : vcF Try.prog cfg3 Try.f3 [a0, a1] w R = F3 a0 a1 w R := by kernel_rfl
theorem F3_call {a0 a1 : Value} {w : World} {R : Value → World → Prop} (h : F3 a0 a1 w R) : CALL Try.prog 3 [a0, a1] w R :=
  call_of (g := cfg3) ent mixed Try.func3 (Nat.le_of_ble_eq_true (by kernel_rfl)) (by kernel_rfl) (F3_eq a0 a1 w R ▸ h)


theorem lawRoundLine {w : World} {v0 : Value} {W0 : World} {c : DCode} {v1 : Value} {W1 : World} {part : (List Int)}  (h0 : Is W0 v0 c) (e0 : Ext W0 w) (h1 : Is W1 v1 part) (e1 : Ext W1 w)  :
    CALL Try.prog 3 [v0, v1] w fun r w' => Ext w w' ∧ (r = .bool true) := by
  refine F3_call ?_
  unfold F3
  refine op_boxS ty26 rfl h0 e0 fun w1_ hx1_ hA2 hV2 => ?_
  have hln11 := is_len h1
  refine rd_len u23 h1 ?_
  refine rd_gtr ?_
  refine br (fun c1 => ?_) (fun c1 => ?_)
  · refine ⟨hx1_, ?_⟩
    first | rfl | contradiction
  · refine rd_var hV2 (Ext.refl w1_) ?_
    refine (szCode_ok h0 (e0.trans hx1_) (by omega) (by omega)).mono ?_
    rintro _ w2_ ⟨hx2_, n15, rfl, hn15⟩
    refine rd_lss ?_
    refine br (fun c2 => ?_) (fun c2 => ?_)
    · refine ⟨(hx1_.trans hx2_), ?_⟩
      first | rfl | contradiction
    · refine rd_var hV2 hx2_ ?_
      refine (toCode_ok (h0.ext (e0.trans (hx1_.trans hx2_))) (by omega)).mono ?_
      rintro r19 w3_ ⟨hx3_, o19⟩
      refine (toIntS_ok (h1.ext (e1.trans (hx1_.trans (hx2_.trans hx3_)))) (by omega)).mono ?_
      rintro r21 w4_ ⟨hx4_, o21⟩
      refine (specRoundLine_ok o19.is hx4_ o21.is (Ext.refl w4_)).mono ?_
      rintro _ w5_ ⟨hx5_, rfl⟩
      refine rd_var hV2 (hx2_.trans (hx3_.trans (hx4_.trans hx5_))) ?_
      refine (toCode_ok (h0.ext (e0.trans (hx1_.trans (hx2_.trans (hx3_.trans (hx4_.trans hx5_)))))) (by omega)).mono ?_
      rintro r24 w6_ ⟨hx6_, o24⟩
      refine op_var zl31 rfl ty31 rfl o24.is (Ext.refl w6_) fun w7_ hx7_ hA7 hV7 => ?_
      refine (toIntS_ok (h1.ext (e1.trans (hx1_.trans (hx2_.trans (hx3_.trans (hx4_.trans (hx5_.trans (hx6_.trans hx7_)))))))) (by omega)).mono ?_
      rintro r26 w8_ ⟨hx8_, o26⟩
      refine rd_var hV7 hx8_ ?_
      refine (implRoundLine_ok o24.is (hx7_.trans hx8_) o26.is (Ext.refl w8_)).mono ?_
      rintro _ w9_ ⟨hx9_, rfl⟩
      refine rd_neqS ?_
      refine br (fun c3 => ?_) (fun c3 => ?_)
      · refine ⟨(hx1_.trans (hx2_.trans (hx3_.trans (hx4_.trans (hx5_.trans (hx6_.trans (hx7_.trans (hx8_.trans hx9_)))))))), ?_⟩
        first | rfl | contradiction
      · have hx10_ := ext_drew w9_
        refine rd_var hV7 (hx8_.trans (hx9_.trans hx10_)) ?_
        refine rd_var hV2 (hx2_.trans (hx3_.trans (hx4_.trans (hx5_.trans (hx6_.trans (hx7_.trans (hx8_.trans (hx9_.trans hx10_)))))))) ?_
        refine (toCode_ok (h0.ext (e0.trans (hx1_.trans (hx2_.trans (hx3_.trans (hx4_.trans (hx5_.trans (hx6_.trans (hx7_.trans (hx8_.trans (hx9_.trans hx10_))))))))))) (by omega)).mono ?_
        rintro r35 w11_ ⟨hx11_, o35⟩
        refine ⟨hx11_, ?_⟩
        refine (eqCode_ok o24.is (hx7_.trans (hx8_.trans (hx9_.trans (hx10_.trans hx11_)))) o35.is (Ext.refl w11_)).mono ?_
        rintro _ w12_ ⟨hx12_, rfl⟩
        refine rd_nodec ?_
        refine br (fun c4 => ?_) (fun c4 => ?_)
        · refine ⟨(hx1_.trans (hx2_.trans (hx3_.trans (hx4_.trans (hx5_.trans (hx6_.trans (hx7_.trans (hx8_.trans (hx9_.trans (hx10_.trans (hx11_.trans hx12_))))))))))), ?_⟩
          first | rfl | contradiction
        · refine (toIntS_ok (h1.ext (e1.trans (hx1_.trans (hx2_.trans (hx3_.trans (hx4_.trans (hx5_.trans (hx6_.trans (hx7_.trans (hx8_.trans (hx9_.trans (hx10_.trans (hx11_.trans hx12_))))))))))))) (by omega)).mono ?_
          rintro r40 w13_ ⟨hx13_, o40⟩
          refine (eqIntS_ok2 o26.is (hx9_.trans (hx10_.trans (hx11_.trans (hx12_.trans hx13_)))) o40.is (Ext.refl w13_)).mono ?_
          rintro _ w14_ ⟨hx14_, rfl⟩
          refine rd_nodec ?_
          refine br (fun c5 => ?_) (fun c5 => ?_)
          · refine ⟨(hx1_.trans (hx2_.trans (hx3_.trans (hx4_.trans (hx5_.trans (hx6_.trans (hx7_.trans (hx8_.trans (hx9_.trans (hx10_.trans (hx11_.trans (hx12_.trans (hx13_.trans hx14_))))))))))))), ?_⟩
            first | rfl | contradiction
          · refine ⟨(hx1_.trans (hx2_.trans (hx3_.trans (hx4_.trans (hx5_.trans (hx6_.trans (hx7_.trans (hx8_.trans (hx9_.trans (hx10_.trans (hx11_.trans (hx12_.trans (hx13_.trans hx14_))))))))))))), ?_⟩
            first | rfl | contradiction

end Go.Proofs.Ytokppocbfpjngaa
