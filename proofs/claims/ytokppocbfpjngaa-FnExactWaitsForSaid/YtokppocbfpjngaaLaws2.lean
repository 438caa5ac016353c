/-
  Laws over code and states: each returns true.
-/
import Derived.Test.YtokppocbfpjngaaGo
namespace Go.Proofs.Ytokppocbfpjngaa
open Go Go.Sh Go.Proofs
set_option linter.unusedVariables false

theorem stOk_of {s : DState} {n m : Int} (hm : m ≤ 1048576) (h : -1 ≤ n ∧ n ≤ m ∧ (0 ≤ n → (s.vars.length : Int) ≤ m ∧ (s.owner.length : Int) ≤ m ∧ (s.stacks.length : Int) ≤ m ∧ ∀ x ∈ s.stacks, (x.length : Int) ≤ m)) (c : ¬ n < 0) : StOk s := by
  obtain ⟨h1, h2, h3⟩ := h
  obtain ⟨h4, h5, h6, h7⟩ := h3 (by omega)
  exact ⟨by omega, by omega, by omega, fun x hx => by have := h7 x hx; omega⟩
theorem cdOk_of {c : DCode} {n m : Int} (hm : m ≤ 1048576) (h : -1 ≤ n ∧ n ≤ m ∧ (0 ≤ n → n + wCode c ≤ m)) (hc : ¬ n < 0) : wCode c ≤ 1048576 := by
  have := h.2.2 (by omega); omega
theorem lawStateOk {w : World} {v0 : Value} {W0 : World} {c : DCode} {v1 : Value} {W1 : World} {s : DState}  (h0 : Is W0 v0 c) (e0 : Ext W0 w) (h1 : Is W1 v1 s) (e1 : Ext W1 w)  :
    CALL Try.prog 4 [v0, v1] w fun r w' => Ext w w' ∧ (r = .bool true) := by
  refine F4_call ?_
  unfold F4
  refine op_boxS ty26 rfl h0 e0 fun w1_ hx1_ hA2 hV2 => ?_
  refine op_boxS ty39 rfl h1 (e1.trans hx1_) fun w2_ hx2_ hA3 hV3 => ?_
  refine rd_var hV2 hx2_ ?_
  refine (szCode_ok h0 (e0.trans (hx1_.trans hx2_)) (by omega) (by omega)).mono ?_
  rintro _ w3_ ⟨hx3_, n12, rfl, hn12⟩
  refine rd_lss ?_
  refine br (fun c1 => ?_) (fun c1 => ?_)
  · refine ⟨(hx1_.trans (hx2_.trans hx3_)), ?_⟩
    first | rfl | contradiction
  · refine rd_var hV3 hx3_ ?_
    refine (szState_ok h1 (e1.trans (hx1_.trans (hx2_.trans hx3_))) (by omega) (by omega)).mono ?_
    rintro _ w4_ ⟨hx4_, n17, rfl, hn17⟩
    refine rd_lss ?_
    refine br (fun c2 => ?_) (fun c2 => ?_)
    · refine ⟨(hx1_.trans (hx2_.trans (hx3_.trans hx4_))), ?_⟩
      first | rfl | contradiction
    · have hx5_ := ext_drew w4_
      refine rd_var hV2 (hx2_.trans (hx3_.trans (hx4_.trans hx5_))) ?_
      refine rd_var hV3 (hx3_.trans (hx4_.trans hx5_)) ?_
      have hcd := cdOk_of (by omega) hn12 c1
      have hst := stOk_of (by omega) hn17 c2
      refine (toCode_ok (h0.ext (e0.trans (hx1_.trans (hx2_.trans (hx3_.trans (hx4_.trans hx5_)))))) (by omega)).mono ?_
      rintro r21 w6_ ⟨hx6_, o21⟩
      refine ⟨hx6_, ?_⟩
      refine (toState_ok (h1.ext (e1.trans (hx1_.trans (hx2_.trans (hx3_.trans (hx4_.trans (hx5_.trans hx6_))))))) (by assumption)).mono ?_
      rintro r23 w7_ ⟨hx7_, o23⟩
      refine (specStateOk_ok o21.is hx7_ o23.is (Ext.refl w7_)).mono ?_
      rintro _ w8_ ⟨hx8_, rfl⟩
      refine rd_var hV2 (hx2_.trans (hx3_.trans (hx4_.trans (hx5_.trans (hx6_.trans (hx7_.trans hx8_)))))) ?_
      refine (toCode_ok (h0.ext (e0.trans (hx1_.trans (hx2_.trans (hx3_.trans (hx4_.trans (hx5_.trans (hx6_.trans (hx7_.trans hx8_))))))))) (by omega)).mono ?_
      rintro r26 w9_ ⟨hx9_, o26⟩
      refine op_var zl31 rfl ty31 rfl o26.is (Ext.refl w9_) fun w10_ hx10_ hA7 hV7 => ?_
      refine rd_var hV3 (hx3_.trans (hx4_.trans (hx5_.trans (hx6_.trans (hx7_.trans (hx8_.trans (hx9_.trans hx10_))))))) ?_
      refine (toState_ok (h1.ext (e1.trans (hx1_.trans (hx2_.trans (hx3_.trans (hx4_.trans (hx5_.trans (hx6_.trans (hx7_.trans (hx8_.trans (hx9_.trans hx10_))))))))))) (by assumption)).mono ?_
      rintro r28 w11_ ⟨hx11_, o28⟩
      refine op_var zl42 rfl ty42 rfl o28.is (Ext.refl w11_) fun w12_ hx12_ hA8 hV8 => ?_
      refine rd_var hV7 (hx11_.trans hx12_) ?_
      refine rd_var hV8 (Ext.refl w12_) ?_
      refine (implStateOk_ok o26.is (hx10_.trans (hx11_.trans hx12_)) o28.is hx12_).mono ?_
      rintro _ w13_ ⟨hx13_, rfl⟩
      refine rd_neqB u4 ?_
      refine br (fun c3 => ?_) (fun c3 => ?_)
      · refine ⟨(hx1_.trans (hx2_.trans (hx3_.trans (hx4_.trans (hx5_.trans (hx6_.trans (hx7_.trans (hx8_.trans (hx9_.trans (hx10_.trans (hx11_.trans (hx12_.trans hx13_)))))))))))), ?_⟩
        first | rfl | contradiction
      · have hx14_ := ext_drew w13_
        refine rd_var hV7 (hx11_.trans (hx12_.trans (hx13_.trans hx14_))) ?_
        refine rd_var hV2 (hx2_.trans (hx3_.trans (hx4_.trans (hx5_.trans (hx6_.trans (hx7_.trans (hx8_.trans (hx9_.trans (hx10_.trans (hx11_.trans (hx12_.trans (hx13_.trans hx14_)))))))))))) ?_
        refine (toCode_ok (h0.ext (e0.trans (hx1_.trans (hx2_.trans (hx3_.trans (hx4_.trans (hx5_.trans (hx6_.trans (hx7_.trans (hx8_.trans (hx9_.trans (hx10_.trans (hx11_.trans (hx12_.trans (hx13_.trans hx14_))))))))))))))) (by omega)).mono ?_
        rintro r37 w15_ ⟨hx15_, o37⟩
        refine ⟨hx15_, ?_⟩
        refine (eqCode_ok o26.is (hx10_.trans (hx11_.trans (hx12_.trans (hx13_.trans (hx14_.trans hx15_))))) o37.is (Ext.refl w15_)).mono ?_
        rintro _ w16_ ⟨hx16_, rfl⟩
        refine rd_nodec ?_
        refine br (fun c4 => ?_) (fun c4 => ?_)
        · refine ⟨(hx1_.trans (hx2_.trans (hx3_.trans (hx4_.trans (hx5_.trans (hx6_.trans (hx7_.trans (hx8_.trans (hx9_.trans (hx10_.trans (hx11_.trans (hx12_.trans (hx13_.trans (hx14_.trans (hx15_.trans hx16_))))))))))))))), ?_⟩
          first | rfl | contradiction
        · have hx17_ := ext_drew w16_
          refine rd_var hV8 (hx13_.trans (hx14_.trans (hx15_.trans (hx16_.trans hx17_)))) ?_
          refine rd_var hV3 (hx3_.trans (hx4_.trans (hx5_.trans (hx6_.trans (hx7_.trans (hx8_.trans (hx9_.trans (hx10_.trans (hx11_.trans (hx12_.trans (hx13_.trans (hx14_.trans (hx15_.trans (hx16_.trans hx17_)))))))))))))) ?_
          refine (toState_ok (h1.ext (e1.trans (hx1_.trans (hx2_.trans (hx3_.trans (hx4_.trans (hx5_.trans (hx6_.trans (hx7_.trans (hx8_.trans (hx9_.trans (hx10_.trans (hx11_.trans (hx12_.trans (hx13_.trans (hx14_.trans (hx15_.trans (hx16_.trans hx17_)))))))))))))))))) (by assumption)).mono ?_
          rintro r42 w18_ ⟨hx18_, o42⟩
          refine ⟨hx18_, ?_⟩
          refine (eqState_ok o28.is (hx12_.trans (hx13_.trans (hx14_.trans (hx15_.trans (hx16_.trans (hx17_.trans hx18_)))))) o42.is (Ext.refl w18_)).mono ?_
          rintro _ w19_ ⟨hx19_, rfl⟩
          refine rd_nodec ?_
          refine br (fun c5 => ?_) (fun c5 => ?_)
          · refine ⟨(hx1_.trans (hx2_.trans (hx3_.trans (hx4_.trans (hx5_.trans (hx6_.trans (hx7_.trans (hx8_.trans (hx9_.trans (hx10_.trans (hx11_.trans (hx12_.trans (hx13_.trans (hx14_.trans (hx15_.trans (hx16_.trans (hx17_.trans (hx18_.trans hx19_)))))))))))))))))), ?_⟩
            first | rfl | contradiction
          · refine ⟨(hx1_.trans (hx2_.trans (hx3_.trans (hx4_.trans (hx5_.trans (hx6_.trans (hx7_.trans (hx8_.trans (hx9_.trans (hx10_.trans (hx11_.trans (hx12_.trans (hx13_.trans (hx14_.trans (hx15_.trans (hx16_.trans (hx17_.trans (hx18_.trans hx19_)))))))))))))))))), ?_⟩
            first | rfl | contradiction

theorem lawStoppedIn {w : World} {v0 : Value} {W0 : World} {c : DCode} {v1 : Value} {W1 : World} {s : DState}  (h0 : Is W0 v0 c) (e0 : Ext W0 w) (h1 : Is W1 v1 s) (e1 : Ext W1 w)  :
    CALL Try.prog 9 [v0, v1] w fun r w' => Ext w w' ∧ (r = .bool true) := by
  refine F9_call ?_
  unfold F9
  refine op_boxS ty26 rfl h0 e0 fun w1_ hx1_ hA2 hV2 => ?_
  refine op_boxS ty39 rfl h1 (e1.trans hx1_) fun w2_ hx2_ hA3 hV3 => ?_
  refine rd_var hV2 hx2_ ?_
  refine (szCode_ok h0 (e0.trans (hx1_.trans hx2_)) (by omega) (by omega)).mono ?_
  rintro _ w3_ ⟨hx3_, n12, rfl, hn12⟩
  refine rd_lss ?_
  refine br (fun c1 => ?_) (fun c1 => ?_)
  · refine ⟨(hx1_.trans (hx2_.trans hx3_)), ?_⟩
    first | rfl | contradiction
  · refine rd_var hV3 hx3_ ?_
    refine (szState_ok h1 (e1.trans (hx1_.trans (hx2_.trans hx3_))) (by omega) (by omega)).mono ?_
    rintro _ w4_ ⟨hx4_, n17, rfl, hn17⟩
    refine rd_lss ?_
    refine br (fun c2 => ?_) (fun c2 => ?_)
    · refine ⟨(hx1_.trans (hx2_.trans (hx3_.trans hx4_))), ?_⟩
      first | rfl | contradiction
    · have hx5_ := ext_drew w4_
      refine rd_var hV2 (hx2_.trans (hx3_.trans (hx4_.trans hx5_))) ?_
      refine rd_var hV3 (hx3_.trans (hx4_.trans hx5_)) ?_
      have hcd := cdOk_of (by omega) hn12 c1
      have hst := stOk_of (by omega) hn17 c2
      refine (toCode_ok (h0.ext (e0.trans (hx1_.trans (hx2_.trans (hx3_.trans (hx4_.trans hx5_)))))) (by omega)).mono ?_
      rintro r21 w6_ ⟨hx6_, o21⟩
      refine ⟨hx6_, ?_⟩
      refine (toState_ok (h1.ext (e1.trans (hx1_.trans (hx2_.trans (hx3_.trans (hx4_.trans (hx5_.trans hx6_))))))) (by assumption)).mono ?_
      rintro r23 w7_ ⟨hx7_, o23⟩
      refine (specStoppedIn_ok o21.is hx7_ o23.is (Ext.refl w7_)).mono ?_
      rintro _ w8_ ⟨hx8_, rfl⟩
      refine rd_var hV2 (hx2_.trans (hx3_.trans (hx4_.trans (hx5_.trans (hx6_.trans (hx7_.trans hx8_)))))) ?_
      refine (toCode_ok (h0.ext (e0.trans (hx1_.trans (hx2_.trans (hx3_.trans (hx4_.trans (hx5_.trans (hx6_.trans (hx7_.trans hx8_))))))))) (by omega)).mono ?_
      rintro r26 w9_ ⟨hx9_, o26⟩
      refine op_var zl31 rfl ty31 rfl o26.is (Ext.refl w9_) fun w10_ hx10_ hA7 hV7 => ?_
      refine rd_var hV3 (hx3_.trans (hx4_.trans (hx5_.trans (hx6_.trans (hx7_.trans (hx8_.trans (hx9_.trans hx10_))))))) ?_
      refine (toState_ok (h1.ext (e1.trans (hx1_.trans (hx2_.trans (hx3_.trans (hx4_.trans (hx5_.trans (hx6_.trans (hx7_.trans (hx8_.trans (hx9_.trans hx10_))))))))))) (by assumption)).mono ?_
      rintro r28 w11_ ⟨hx11_, o28⟩
      refine op_var zl42 rfl ty42 rfl o28.is (Ext.refl w11_) fun w12_ hx12_ hA8 hV8 => ?_
      refine rd_var hV7 (hx11_.trans hx12_) ?_
      refine rd_var hV8 (Ext.refl w12_) ?_
      refine (implStoppedIn_ok o26.is (hx10_.trans (hx11_.trans hx12_)) o28.is hx12_).mono ?_
      rintro _ w13_ ⟨hx13_, rfl⟩
      refine rd_neqB u4 ?_
      refine br (fun c3 => ?_) (fun c3 => ?_)
      · refine ⟨(hx1_.trans (hx2_.trans (hx3_.trans (hx4_.trans (hx5_.trans (hx6_.trans (hx7_.trans (hx8_.trans (hx9_.trans (hx10_.trans (hx11_.trans (hx12_.trans hx13_)))))))))))), ?_⟩
        first | rfl | contradiction
      · have hx14_ := ext_drew w13_
        refine rd_var hV7 (hx11_.trans (hx12_.trans (hx13_.trans hx14_))) ?_
        refine rd_var hV2 (hx2_.trans (hx3_.trans (hx4_.trans (hx5_.trans (hx6_.trans (hx7_.trans (hx8_.trans (hx9_.trans (hx10_.trans (hx11_.trans (hx12_.trans (hx13_.trans hx14_)))))))))))) ?_
        refine (toCode_ok (h0.ext (e0.trans (hx1_.trans (hx2_.trans (hx3_.trans (hx4_.trans (hx5_.trans (hx6_.trans (hx7_.trans (hx8_.trans (hx9_.trans (hx10_.trans (hx11_.trans (hx12_.trans (hx13_.trans hx14_))))))))))))))) (by omega)).mono ?_
        rintro r37 w15_ ⟨hx15_, o37⟩
        refine ⟨hx15_, ?_⟩
        refine (eqCode_ok o26.is (hx10_.trans (hx11_.trans (hx12_.trans (hx13_.trans (hx14_.trans hx15_))))) o37.is (Ext.refl w15_)).mono ?_
        rintro _ w16_ ⟨hx16_, rfl⟩
        refine rd_nodec ?_
        refine br (fun c4 => ?_) (fun c4 => ?_)
        · refine ⟨(hx1_.trans (hx2_.trans (hx3_.trans (hx4_.trans (hx5_.trans (hx6_.trans (hx7_.trans (hx8_.trans (hx9_.trans (hx10_.trans (hx11_.trans (hx12_.trans (hx13_.trans (hx14_.trans (hx15_.trans hx16_))))))))))))))), ?_⟩
          first | rfl | contradiction
        · have hx17_ := ext_drew w16_
          refine rd_var hV8 (hx13_.trans (hx14_.trans (hx15_.trans (hx16_.trans hx17_)))) ?_
          refine rd_var hV3 (hx3_.trans (hx4_.trans (hx5_.trans (hx6_.trans (hx7_.trans (hx8_.trans (hx9_.trans (hx10_.trans (hx11_.trans (hx12_.trans (hx13_.trans (hx14_.trans (hx15_.trans (hx16_.trans hx17_)))))))))))))) ?_
          refine (toState_ok (h1.ext (e1.trans (hx1_.trans (hx2_.trans (hx3_.trans (hx4_.trans (hx5_.trans (hx6_.trans (hx7_.trans (hx8_.trans (hx9_.trans (hx10_.trans (hx11_.trans (hx12_.trans (hx13_.trans (hx14_.trans (hx15_.trans (hx16_.trans hx17_)))))))))))))))))) (by assumption)).mono ?_
          rintro r42 w18_ ⟨hx18_, o42⟩
          refine ⟨hx18_, ?_⟩
          refine (eqState_ok o28.is (hx12_.trans (hx13_.trans (hx14_.trans (hx15_.trans (hx16_.trans (hx17_.trans hx18_)))))) o42.is (Ext.refl w18_)).mono ?_
          rintro _ w19_ ⟨hx19_, rfl⟩
          refine rd_nodec ?_
          refine br (fun c5 => ?_) (fun c5 => ?_)
          · refine ⟨(hx1_.trans (hx2_.trans (hx3_.trans (hx4_.trans (hx5_.trans (hx6_.trans (hx7_.trans (hx8_.trans (hx9_.trans (hx10_.trans (hx11_.trans (hx12_.trans (hx13_.trans (hx14_.trans (hx15_.trans (hx16_.trans (hx17_.trans (hx18_.trans hx19_)))))))))))))))))), ?_⟩
            first | rfl | contradiction
          · refine ⟨(hx1_.trans (hx2_.trans (hx3_.trans (hx4_.trans (hx5_.trans (hx6_.trans (hx7_.trans (hx8_.trans (hx9_.trans (hx10_.trans (hx11_.trans (hx12_.trans (hx13_.trans (hx14_.trans (hx15_.trans (hx16_.trans (hx17_.trans (hx18_.trans hx19_)))))))))))))))))), ?_⟩
            first | rfl | contradiction

theorem lawCanGo {w : World} {v0 : Value} {W0 : World} {c : DCode} {v1 : Value} {W1 : World} {s : DState} {t : Int}  (h0 : Is W0 v0 c) (e0 : Ext W0 w) (h1 : Is W1 v1 s) (e1 : Ext W1 w)  :
    CALL Try.prog 8 [v0, v1, .int .i64 t] w fun r w' => Ext w w' ∧ (r = .bool true) := by
  refine F8_call ?_
  unfold F8
  refine op_boxS ty26 rfl h0 e0 fun w1_ hx1_ hA3 hV3 => ?_
  refine op_boxS ty39 rfl h1 (e1.trans hx1_) fun w2_ hx2_ hA4 hV4 => ?_
  refine rd_var hV3 hx2_ ?_
  refine (szCode_ok h0 (e0.trans (hx1_.trans hx2_)) (by omega) (by omega)).mono ?_
  rintro _ w3_ ⟨hx3_, n14, rfl, hn14⟩
  refine rd_lss ?_
  refine br (fun c1 => ?_) (fun c1 => ?_)
  · refine ⟨(hx1_.trans (hx2_.trans hx3_)), ?_⟩
    first | rfl | contradiction
  · refine rd_var hV4 hx3_ ?_
    refine (szState_ok h1 (e1.trans (hx1_.trans (hx2_.trans hx3_))) (by omega) (by omega)).mono ?_
    rintro _ w4_ ⟨hx4_, n19, rfl, hn19⟩
    refine rd_lss ?_
    refine br (fun c2 => ?_) (fun c2 => ?_)
    · refine ⟨(hx1_.trans (hx2_.trans (hx3_.trans hx4_))), ?_⟩
      first | rfl | contradiction
    · have hx5_ := ext_drew w4_
      refine rd_var hV3 (hx2_.trans (hx3_.trans (hx4_.trans hx5_))) ?_
      refine rd_var hV4 (hx3_.trans (hx4_.trans hx5_)) ?_
      have hcd := cdOk_of (by omega) hn14 c1
      have hst := stOk_of (by omega) hn19 c2
      refine (toCode_ok (h0.ext (e0.trans (hx1_.trans (hx2_.trans (hx3_.trans (hx4_.trans hx5_)))))) (by omega)).mono ?_
      rintro r23 w6_ ⟨hx6_, o23⟩
      refine ⟨hx6_, ?_⟩
      refine (toState_ok (h1.ext (e1.trans (hx1_.trans (hx2_.trans (hx3_.trans (hx4_.trans (hx5_.trans hx6_))))))) (by assumption)).mono ?_
      rintro r25 w7_ ⟨hx7_, o25⟩
      refine ⟨hx7_, ?_⟩
      refine (specCanGo_ok o23.is hx7_ o25.is (Ext.refl w7_)).mono ?_
      rintro _ w8_ ⟨hx8_, rfl⟩
      refine rd_var hV3 (hx2_.trans (hx3_.trans (hx4_.trans (hx5_.trans (hx6_.trans (hx7_.trans hx8_)))))) ?_
      refine (toCode_ok (h0.ext (e0.trans (hx1_.trans (hx2_.trans (hx3_.trans (hx4_.trans (hx5_.trans (hx6_.trans (hx7_.trans hx8_))))))))) (by omega)).mono ?_
      rintro r29 w9_ ⟨hx9_, o29⟩
      refine op_var zl31 rfl ty31 rfl o29.is (Ext.refl w9_) fun w10_ hx10_ hA9 hV9 => ?_
      refine rd_var hV4 (hx3_.trans (hx4_.trans (hx5_.trans (hx6_.trans (hx7_.trans (hx8_.trans (hx9_.trans hx10_))))))) ?_
      refine (toState_ok (h1.ext (e1.trans (hx1_.trans (hx2_.trans (hx3_.trans (hx4_.trans (hx5_.trans (hx6_.trans (hx7_.trans (hx8_.trans (hx9_.trans hx10_))))))))))) (by assumption)).mono ?_
      rintro r31 w11_ ⟨hx11_, o31⟩
      refine op_var zl42 rfl ty42 rfl o31.is (Ext.refl w11_) fun w12_ hx12_ hA10 hV10 => ?_
      refine rd_var hV9 (hx11_.trans hx12_) ?_
      refine rd_var hV10 (Ext.refl w12_) ?_
      refine (implCanGo_ok o29.is (hx10_.trans (hx11_.trans hx12_)) o31.is hx12_).mono ?_
      rintro _ w13_ ⟨hx13_, rfl⟩
      refine rd_neqB u4 ?_
      refine br (fun c3 => ?_) (fun c3 => ?_)
      · refine ⟨(hx1_.trans (hx2_.trans (hx3_.trans (hx4_.trans (hx5_.trans (hx6_.trans (hx7_.trans (hx8_.trans (hx9_.trans (hx10_.trans (hx11_.trans (hx12_.trans hx13_)))))))))))), ?_⟩
        first | rfl | contradiction
      · have hx14_ := ext_drew w13_
        refine rd_var hV9 (hx11_.trans (hx12_.trans (hx13_.trans hx14_))) ?_
        refine rd_var hV3 (hx2_.trans (hx3_.trans (hx4_.trans (hx5_.trans (hx6_.trans (hx7_.trans (hx8_.trans (hx9_.trans (hx10_.trans (hx11_.trans (hx12_.trans (hx13_.trans hx14_)))))))))))) ?_
        refine (toCode_ok (h0.ext (e0.trans (hx1_.trans (hx2_.trans (hx3_.trans (hx4_.trans (hx5_.trans (hx6_.trans (hx7_.trans (hx8_.trans (hx9_.trans (hx10_.trans (hx11_.trans (hx12_.trans (hx13_.trans hx14_))))))))))))))) (by omega)).mono ?_
        rintro r41 w15_ ⟨hx15_, o41⟩
        refine ⟨hx15_, ?_⟩
        refine (eqCode_ok o29.is (hx10_.trans (hx11_.trans (hx12_.trans (hx13_.trans (hx14_.trans hx15_))))) o41.is (Ext.refl w15_)).mono ?_
        rintro _ w16_ ⟨hx16_, rfl⟩
        refine rd_nodec ?_
        refine br (fun c4 => ?_) (fun c4 => ?_)
        · refine ⟨(hx1_.trans (hx2_.trans (hx3_.trans (hx4_.trans (hx5_.trans (hx6_.trans (hx7_.trans (hx8_.trans (hx9_.trans (hx10_.trans (hx11_.trans (hx12_.trans (hx13_.trans (hx14_.trans (hx15_.trans hx16_))))))))))))))), ?_⟩
          first | rfl | contradiction
        · have hx17_ := ext_drew w16_
          refine rd_var hV10 (hx13_.trans (hx14_.trans (hx15_.trans (hx16_.trans hx17_)))) ?_
          refine rd_var hV4 (hx3_.trans (hx4_.trans (hx5_.trans (hx6_.trans (hx7_.trans (hx8_.trans (hx9_.trans (hx10_.trans (hx11_.trans (hx12_.trans (hx13_.trans (hx14_.trans (hx15_.trans (hx16_.trans hx17_)))))))))))))) ?_
          refine (toState_ok (h1.ext (e1.trans (hx1_.trans (hx2_.trans (hx3_.trans (hx4_.trans (hx5_.trans (hx6_.trans (hx7_.trans (hx8_.trans (hx9_.trans (hx10_.trans (hx11_.trans (hx12_.trans (hx13_.trans (hx14_.trans (hx15_.trans (hx16_.trans hx17_)))))))))))))))))) (by assumption)).mono ?_
          rintro r46 w18_ ⟨hx18_, o46⟩
          refine ⟨hx18_, ?_⟩
          refine (eqState_ok o31.is (hx12_.trans (hx13_.trans (hx14_.trans (hx15_.trans (hx16_.trans (hx17_.trans hx18_)))))) o46.is (Ext.refl w18_)).mono ?_
          rintro _ w19_ ⟨hx19_, rfl⟩
          refine rd_nodec ?_
          refine br (fun c5 => ?_) (fun c5 => ?_)
          · refine ⟨(hx1_.trans (hx2_.trans (hx3_.trans (hx4_.trans (hx5_.trans (hx6_.trans (hx7_.trans (hx8_.trans (hx9_.trans (hx10_.trans (hx11_.trans (hx12_.trans (hx13_.trans (hx14_.trans (hx15_.trans (hx16_.trans (hx17_.trans (hx18_.trans hx19_)))))))))))))))))), ?_⟩
            first | rfl | contradiction
          · refine ⟨(hx1_.trans (hx2_.trans (hx3_.trans (hx4_.trans (hx5_.trans (hx6_.trans (hx7_.trans (hx8_.trans (hx9_.trans (hx10_.trans (hx11_.trans (hx12_.trans (hx13_.trans (hx14_.trans (hx15_.trans (hx16_.trans (hx17_.trans (hx18_.trans hx19_)))))))))))))))))), ?_⟩
            first | rfl | contradiction

theorem lawWaitsFor {w : World} {v0 : Value} {W0 : World} {c : DCode} {v1 : Value} {W1 : World} {s : DState} {t : Int}  (h0 : Is W0 v0 c) (e0 : Ext W0 w) (h1 : Is W1 v1 s) (e1 : Ext W1 w)  :
    CALL Try.prog 7 [v0, v1, .int .i64 t] w fun r w' => Ext w w' ∧ (r = .bool true) := by
  refine F7_call ?_
  unfold F7
  refine op_boxS ty26 rfl h0 e0 fun w1_ hx1_ hA3 hV3 => ?_
  refine op_boxS ty39 rfl h1 (e1.trans hx1_) fun w2_ hx2_ hA4 hV4 => ?_
  refine rd_var hV3 hx2_ ?_
  refine (szCode_ok h0 (e0.trans (hx1_.trans hx2_)) (by omega) (by omega)).mono ?_
  rintro _ w3_ ⟨hx3_, n14, rfl, hn14⟩
  refine rd_lss ?_
  refine br (fun c1 => ?_) (fun c1 => ?_)
  · refine ⟨(hx1_.trans (hx2_.trans hx3_)), ?_⟩
    first | rfl | contradiction
  · refine rd_var hV4 hx3_ ?_
    refine (szState_ok h1 (e1.trans (hx1_.trans (hx2_.trans hx3_))) (by omega) (by omega)).mono ?_
    rintro _ w4_ ⟨hx4_, n19, rfl, hn19⟩
    refine rd_lss ?_
    refine br (fun c2 => ?_) (fun c2 => ?_)
    · refine ⟨(hx1_.trans (hx2_.trans (hx3_.trans hx4_))), ?_⟩
      first | rfl | contradiction
    · have hx5_ := ext_drew w4_
      refine rd_var hV3 (hx2_.trans (hx3_.trans (hx4_.trans hx5_))) ?_
      refine rd_var hV4 (hx3_.trans (hx4_.trans hx5_)) ?_
      have hcd := cdOk_of (by omega) hn14 c1
      have hst := stOk_of (by omega) hn19 c2
      refine (toCode_ok (h0.ext (e0.trans (hx1_.trans (hx2_.trans (hx3_.trans (hx4_.trans hx5_)))))) (by omega)).mono ?_
      rintro r23 w6_ ⟨hx6_, o23⟩
      refine ⟨hx6_, ?_⟩
      refine (toState_ok (h1.ext (e1.trans (hx1_.trans (hx2_.trans (hx3_.trans (hx4_.trans (hx5_.trans hx6_))))))) (by assumption)).mono ?_
      rintro r25 w7_ ⟨hx7_, o25⟩
      refine ⟨hx7_, ?_⟩
      refine (specWaitsFor_ok o23.is hx7_ o25.is (Ext.refl w7_)).mono ?_
      rintro _ w8_ ⟨hx8_, rfl⟩
      refine rd_var hV3 (hx2_.trans (hx3_.trans (hx4_.trans (hx5_.trans (hx6_.trans (hx7_.trans hx8_)))))) ?_
      refine (toCode_ok (h0.ext (e0.trans (hx1_.trans (hx2_.trans (hx3_.trans (hx4_.trans (hx5_.trans (hx6_.trans (hx7_.trans hx8_))))))))) (by omega)).mono ?_
      rintro r29 w9_ ⟨hx9_, o29⟩
      refine op_var zl31 rfl ty31 rfl o29.is (Ext.refl w9_) fun w10_ hx10_ hA9 hV9 => ?_
      refine rd_var hV4 (hx3_.trans (hx4_.trans (hx5_.trans (hx6_.trans (hx7_.trans (hx8_.trans (hx9_.trans hx10_))))))) ?_
      refine (toState_ok (h1.ext (e1.trans (hx1_.trans (hx2_.trans (hx3_.trans (hx4_.trans (hx5_.trans (hx6_.trans (hx7_.trans (hx8_.trans (hx9_.trans hx10_))))))))))) (by assumption)).mono ?_
      rintro r31 w11_ ⟨hx11_, o31⟩
      refine op_var zl42 rfl ty42 rfl o31.is (Ext.refl w11_) fun w12_ hx12_ hA10 hV10 => ?_
      refine rd_var hV9 (hx11_.trans hx12_) ?_
      refine rd_var hV10 (Ext.refl w12_) ?_
      refine (implWaitsFor_ok o29.is (hx10_.trans (hx11_.trans hx12_)) o31.is hx12_).mono ?_
      rintro _ w13_ ⟨hx13_, rfl⟩
      refine rd_neq ?_
      refine br (fun c3 => ?_) (fun c3 => ?_)
      · refine ⟨(hx1_.trans (hx2_.trans (hx3_.trans (hx4_.trans (hx5_.trans (hx6_.trans (hx7_.trans (hx8_.trans (hx9_.trans (hx10_.trans (hx11_.trans (hx12_.trans hx13_)))))))))))), ?_⟩
        first | rfl | contradiction
      · have hx14_ := ext_drew w13_
        refine rd_var hV9 (hx11_.trans (hx12_.trans (hx13_.trans hx14_))) ?_
        refine rd_var hV3 (hx2_.trans (hx3_.trans (hx4_.trans (hx5_.trans (hx6_.trans (hx7_.trans (hx8_.trans (hx9_.trans (hx10_.trans (hx11_.trans (hx12_.trans (hx13_.trans hx14_)))))))))))) ?_
        refine (toCode_ok (h0.ext (e0.trans (hx1_.trans (hx2_.trans (hx3_.trans (hx4_.trans (hx5_.trans (hx6_.trans (hx7_.trans (hx8_.trans (hx9_.trans (hx10_.trans (hx11_.trans (hx12_.trans (hx13_.trans hx14_))))))))))))))) (by omega)).mono ?_
        rintro r41 w15_ ⟨hx15_, o41⟩
        refine ⟨hx15_, ?_⟩
        refine (eqCode_ok o29.is (hx10_.trans (hx11_.trans (hx12_.trans (hx13_.trans (hx14_.trans hx15_))))) o41.is (Ext.refl w15_)).mono ?_
        rintro _ w16_ ⟨hx16_, rfl⟩
        refine rd_nodec ?_
        refine br (fun c4 => ?_) (fun c4 => ?_)
        · refine ⟨(hx1_.trans (hx2_.trans (hx3_.trans (hx4_.trans (hx5_.trans (hx6_.trans (hx7_.trans (hx8_.trans (hx9_.trans (hx10_.trans (hx11_.trans (hx12_.trans (hx13_.trans (hx14_.trans (hx15_.trans hx16_))))))))))))))), ?_⟩
          first | rfl | contradiction
        · have hx17_ := ext_drew w16_
          refine rd_var hV10 (hx13_.trans (hx14_.trans (hx15_.trans (hx16_.trans hx17_)))) ?_
          refine rd_var hV4 (hx3_.trans (hx4_.trans (hx5_.trans (hx6_.trans (hx7_.trans (hx8_.trans (hx9_.trans (hx10_.trans (hx11_.trans (hx12_.trans (hx13_.trans (hx14_.trans (hx15_.trans (hx16_.trans hx17_)))))))))))))) ?_
          refine (toState_ok (h1.ext (e1.trans (hx1_.trans (hx2_.trans (hx3_.trans (hx4_.trans (hx5_.trans (hx6_.trans (hx7_.trans (hx8_.trans (hx9_.trans (hx10_.trans (hx11_.trans (hx12_.trans (hx13_.trans (hx14_.trans (hx15_.trans (hx16_.trans hx17_)))))))))))))))))) (by assumption)).mono ?_
          rintro r46 w18_ ⟨hx18_, o46⟩
          refine ⟨hx18_, ?_⟩
          refine (eqState_ok o31.is (hx12_.trans (hx13_.trans (hx14_.trans (hx15_.trans (hx16_.trans (hx17_.trans hx18_)))))) o46.is (Ext.refl w18_)).mono ?_
          rintro _ w19_ ⟨hx19_, rfl⟩
          refine rd_nodec ?_
          refine br (fun c5 => ?_) (fun c5 => ?_)
          · refine ⟨(hx1_.trans (hx2_.trans (hx3_.trans (hx4_.trans (hx5_.trans (hx6_.trans (hx7_.trans (hx8_.trans (hx9_.trans (hx10_.trans (hx11_.trans (hx12_.trans (hx13_.trans (hx14_.trans (hx15_.trans (hx16_.trans (hx17_.trans (hx18_.trans hx19_)))))))))))))))))), ?_⟩
            first | rfl | contradiction
          · refine ⟨(hx1_.trans (hx2_.trans (hx3_.trans (hx4_.trans (hx5_.trans (hx6_.trans (hx7_.trans (hx8_.trans (hx9_.trans (hx10_.trans (hx11_.trans (hx12_.trans (hx13_.trans (hx14_.trans (hx15_.trans (hx16_.trans (hx17_.trans (hx18_.trans hx19_)))))))))))))))))), ?_⟩
            first | rfl | contradiction

end Go.Proofs.Ytokppocbfpjngaa
