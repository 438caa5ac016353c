/-
  The laws of small questions, over data: each returns true.
-/
import Derived.Test.YthieonacgnppiaaSeen
namespace Go.Proofs.Ythieonacgnppiaa
open Go Go.Sh Go.Proofs
set_option linter.unusedVariables false

theorem stOk_of {s : DState} {n m : Int} (hm : m ≤ 1048576) (h : -1 ≤ n ∧ n ≤ m ∧ (0 ≤ n → (s.vars.length : Int) ≤ m ∧ (s.owner.length : Int) ≤ m ∧ (s.stacks.length : Int) ≤ m ∧ ∀ x ∈ s.stacks, (x.length : Int) ≤ m)) (c : ¬ n < 0) : StOk s := by
  obtain ⟨h1, h2, h3⟩ := h
  obtain ⟨h4, h5, h6, h7⟩ := h3 (by omega)
  exact ⟨by omega, by omega, by omega, fun x hx => by have := h7 x hx; omega⟩
theorem toRace_is {w W : World} {v : Value} {x : DRace} (h : Is W v x) (hx : Ext W w) :
    CALL Try.prog 20 [v] w fun r w' => Ext w w' ∧ Is w' r x :=
  (toRace_ok h hx).mono fun r w' ⟨h1, h2, h3, h4, h5⟩ => ⟨h1, is_race.2 ⟨h2, h3, h4, h5⟩⟩
theorem lawAtOf {w : World} {v0 : Value} {W0 : World} {s : DState} {t : Int}  (h0 : Is W0 v0 s) (e0 : Ext W0 w)  :
    CALL Try.prog 5 [v0, .int .i64 t] w fun r w' => Ext w w' ∧ (r = .bool true) := by
  refine F5_call ?_
  unfold F5
  refine op_boxS ty42 rfl h0 e0 fun w1_ hx1_ hA2 hV2 => ?_
  refine rd_var hV2 (Ext.refl w1_) ?_
  refine (szState_ok h0 (e0.trans hx1_) (by omega) (by omega)).mono ?_
  rintro _ w2_ ⟨hx2_, n11, rfl, hn11⟩
  refine rd_lss ?_
  refine br (fun c1 => ?_) (fun c1 => ?_)
  · refine ⟨(hx1_.trans hx2_), ?_⟩
    first | rfl | contradiction
  · refine rd_var hV2 hx2_ ?_
    have hok0 := stOk_of (by omega) hn11 c1
    refine (toState_ok (h0.ext (e0.trans (hx1_.trans hx2_))) (by assumption)).mono ?_
    rintro r15 w3_ ⟨hx3_, o15⟩
    refine (specAtOf_ok o15.is (Ext.refl w3_)).mono ?_
    rintro _ w4_ ⟨hx4_, rfl⟩
    refine rd_var hV2 (hx2_.trans (hx3_.trans hx4_)) ?_
    refine (toState_ok (h0.ext (e0.trans (hx1_.trans (hx2_.trans (hx3_.trans hx4_))))) (by assumption)).mono ?_
    rintro r19 w5_ ⟨hx5_, o19⟩
    refine op_var zl45 rfl ty45 rfl o19.is (Ext.refl w5_) fun w6_ hx6_ hA7 hV7 => ?_
    refine rd_var hV7 (Ext.refl w6_) ?_
    refine (implAtOf_ok o19.is hx6_).mono ?_
    rintro _ w7_ ⟨hx7_, rfl⟩
    refine rd_neq ?_
    refine br (fun c2 => ?_) (fun c2 => ?_)
    · refine ⟨(hx1_.trans (hx2_.trans (hx3_.trans (hx4_.trans (hx5_.trans (hx6_.trans hx7_)))))), ?_⟩
      first | rfl | contradiction
    · have hx8_ := ext_drew w7_
      refine rd_var hV7 (hx7_.trans hx8_) ?_
      refine rd_var hV2 (hx2_.trans (hx3_.trans (hx4_.trans (hx5_.trans (hx6_.trans (hx7_.trans hx8_)))))) ?_
      refine (toState_ok (h0.ext (e0.trans (hx1_.trans (hx2_.trans (hx3_.trans (hx4_.trans (hx5_.trans (hx6_.trans (hx7_.trans hx8_))))))))) (by assumption)).mono ?_
      rintro r28 w9_ ⟨hx9_, o28⟩
      refine ⟨hx9_, ?_⟩
      refine (eqState_ok o19.is (hx6_.trans (hx7_.trans (hx8_.trans hx9_))) o28.is (Ext.refl w9_)).mono ?_
      rintro _ w10_ ⟨hx10_, rfl⟩
      refine rd_nodec ?_
      refine br (fun c3 => ?_) (fun c3 => ?_)
      · refine ⟨(hx1_.trans (hx2_.trans (hx3_.trans (hx4_.trans (hx5_.trans (hx6_.trans (hx7_.trans (hx8_.trans (hx9_.trans hx10_))))))))), ?_⟩
        first | rfl | contradiction
      · refine ⟨(hx1_.trans (hx2_.trans (hx3_.trans (hx4_.trans (hx5_.trans (hx6_.trans (hx7_.trans (hx8_.trans (hx9_.trans hx10_))))))))), ?_⟩
        first | rfl | contradiction

theorem lawOverIn {w : World} {v0 : Value} {W0 : World} {s : DState}  (h0 : Is W0 v0 s) (e0 : Ext W0 w)  :
    CALL Try.prog 6 [v0] w fun r w' => Ext w w' ∧ (r = .bool true) := by
  refine F6_call ?_
  unfold F6
  refine op_boxS ty42 rfl h0 e0 fun w1_ hx1_ hA1 hV1 => ?_
  refine rd_var hV1 (Ext.refl w1_) ?_
  refine (szState_ok h0 (e0.trans hx1_) (by omega) (by omega)).mono ?_
  rintro _ w2_ ⟨hx2_, n9, rfl, hn9⟩
  refine rd_lss ?_
  refine br (fun c1 => ?_) (fun c1 => ?_)
  · refine ⟨(hx1_.trans hx2_), ?_⟩
    first | rfl | contradiction
  · refine rd_var hV1 hx2_ ?_
    have hok0 := stOk_of (by omega) hn9 c1
    refine (toState_ok (h0.ext (e0.trans (hx1_.trans hx2_))) (by assumption)).mono ?_
    rintro r13 w3_ ⟨hx3_, o13⟩
    refine (specOverIn_ok o13.is (Ext.refl w3_)).mono ?_
    rintro _ w4_ ⟨hx4_, rfl⟩
    refine rd_var hV1 (hx2_.trans (hx3_.trans hx4_)) ?_
    refine (toState_ok (h0.ext (e0.trans (hx1_.trans (hx2_.trans (hx3_.trans hx4_))))) (by assumption)).mono ?_
    rintro r16 w5_ ⟨hx5_, o16⟩
    refine op_var zl45 rfl ty45 rfl o16.is (Ext.refl w5_) fun w6_ hx6_ hA5 hV5 => ?_
    refine rd_var hV5 (Ext.refl w6_) ?_
    refine (implOverIn_ok o16.is hx6_).mono ?_
    rintro _ w7_ ⟨hx7_, rfl⟩
    refine rd_neqB u4 ?_
    refine br (fun c2 => ?_) (fun c2 => ?_)
    · refine ⟨(hx1_.trans (hx2_.trans (hx3_.trans (hx4_.trans (hx5_.trans (hx6_.trans hx7_)))))), ?_⟩
      first | rfl | contradiction
    · have hx8_ := ext_drew w7_
      refine rd_var hV5 (hx7_.trans hx8_) ?_
      refine rd_var hV1 (hx2_.trans (hx3_.trans (hx4_.trans (hx5_.trans (hx6_.trans (hx7_.trans hx8_)))))) ?_
      refine (toState_ok (h0.ext (e0.trans (hx1_.trans (hx2_.trans (hx3_.trans (hx4_.trans (hx5_.trans (hx6_.trans (hx7_.trans hx8_))))))))) (by assumption)).mono ?_
      rintro r24 w9_ ⟨hx9_, o24⟩
      refine ⟨hx9_, ?_⟩
      refine (eqState_ok o16.is (hx6_.trans (hx7_.trans (hx8_.trans hx9_))) o24.is (Ext.refl w9_)).mono ?_
      rintro _ w10_ ⟨hx10_, rfl⟩
      refine rd_nodec ?_
      refine br (fun c3 => ?_) (fun c3 => ?_)
      · refine ⟨(hx1_.trans (hx2_.trans (hx3_.trans (hx4_.trans (hx5_.trans (hx6_.trans (hx7_.trans (hx8_.trans (hx9_.trans hx10_))))))))), ?_⟩
        first | rfl | contradiction
      · refine ⟨(hx1_.trans (hx2_.trans (hx3_.trans (hx4_.trans (hx5_.trans (hx6_.trans (hx7_.trans (hx8_.trans (hx9_.trans hx10_))))))))), ?_⟩
        first | rfl | contradiction

theorem lawHeldBy {w : World} {v0 : Value} {W0 : World} {s : DState} {t : Int}  (h0 : Is W0 v0 s) (e0 : Ext W0 w)  :
    CALL Try.prog 8 [v0, .int .i64 t] w fun r w' => Ext w w' ∧ (r = .bool true) := by
  refine F8_call ?_
  unfold F8
  refine op_boxS ty42 rfl h0 e0 fun w1_ hx1_ hA2 hV2 => ?_
  refine rd_var hV2 (Ext.refl w1_) ?_
  refine (szState_ok h0 (e0.trans hx1_) (by omega) (by omega)).mono ?_
  rintro _ w2_ ⟨hx2_, n11, rfl, hn11⟩
  refine rd_lss ?_
  refine br (fun c1 => ?_) (fun c1 => ?_)
  · refine ⟨(hx1_.trans hx2_), ?_⟩
    first | rfl | contradiction
  · refine rd_var hV2 hx2_ ?_
    have hok0 := stOk_of (by omega) hn11 c1
    refine (toState_ok (h0.ext (e0.trans (hx1_.trans hx2_))) (by assumption)).mono ?_
    rintro r15 w3_ ⟨hx3_, o15⟩
    refine (specHeldBy_ok o15.is (Ext.refl w3_)).mono ?_
    rintro _ w4_ ⟨hx4_, rfl⟩
    refine rd_var hV2 (hx2_.trans (hx3_.trans hx4_)) ?_
    refine (toState_ok (h0.ext (e0.trans (hx1_.trans (hx2_.trans (hx3_.trans hx4_))))) (by assumption)).mono ?_
    rintro r19 w5_ ⟨hx5_, o19⟩
    refine op_var zl45 rfl ty45 rfl o19.is (Ext.refl w5_) fun w6_ hx6_ hA7 hV7 => ?_
    refine rd_var hV7 (Ext.refl w6_) ?_
    refine (implHeldBy_ok o19.is hx6_).mono ?_
    rintro _ w7_ ⟨hx7_, rfl⟩
    refine rd_neq ?_
    refine br (fun c2 => ?_) (fun c2 => ?_)
    · refine ⟨(hx1_.trans (hx2_.trans (hx3_.trans (hx4_.trans (hx5_.trans (hx6_.trans hx7_)))))), ?_⟩
      first | rfl | contradiction
    · have hx8_ := ext_drew w7_
      refine rd_var hV7 (hx7_.trans hx8_) ?_
      refine rd_var hV2 (hx2_.trans (hx3_.trans (hx4_.trans (hx5_.trans (hx6_.trans (hx7_.trans hx8_)))))) ?_
      refine (toState_ok (h0.ext (e0.trans (hx1_.trans (hx2_.trans (hx3_.trans (hx4_.trans (hx5_.trans (hx6_.trans (hx7_.trans hx8_))))))))) (by assumption)).mono ?_
      rintro r28 w9_ ⟨hx9_, o28⟩
      refine ⟨hx9_, ?_⟩
      refine (eqState_ok o19.is (hx6_.trans (hx7_.trans (hx8_.trans hx9_))) o28.is (Ext.refl w9_)).mono ?_
      rintro _ w10_ ⟨hx10_, rfl⟩
      refine rd_nodec ?_
      refine br (fun c3 => ?_) (fun c3 => ?_)
      · refine ⟨(hx1_.trans (hx2_.trans (hx3_.trans (hx4_.trans (hx5_.trans (hx6_.trans (hx7_.trans (hx8_.trans (hx9_.trans hx10_))))))))), ?_⟩
        first | rfl | contradiction
      · refine ⟨(hx1_.trans (hx2_.trans (hx3_.trans (hx4_.trans (hx5_.trans (hx6_.trans (hx7_.trans (hx8_.trans (hx9_.trans hx10_))))))))), ?_⟩
        first | rfl | contradiction

theorem lawToldRace {w : World} {v0 : Value} {W0 : World} {l : (List DRace)} {v1 : Value} {W1 : World} {y : DRace}  (h0 : Is W0 v0 l) (e0 : Ext W0 w) (h1 : Is W1 v1 y) (e1 : Ext W1 w)  :
    CALL Try.prog 4 [v0, v1] w fun r w' => Ext w w' ∧ (r = .bool true) := by
  refine F4_call ?_
  unfold F4
  refine op_boxS ty31 rfl h1 e1 fun w1_ hx1_ hA3 hV3 => ?_
  refine (szRaceS_ok h0 (e0.trans hx1_) (by omega) (by omega)).mono ?_
  rintro _ w2_ ⟨hx2_, n11, rfl, hn11⟩
  refine rd_lss ?_
  refine br (fun c1 => ?_) (fun c1 => ?_)
  · refine ⟨(hx1_.trans hx2_), ?_⟩
    first | rfl | contradiction
  · have hx3_ := ext_drew w2_
    refine rd_var hV3 (hx2_.trans hx3_) ?_
    refine (toRaceS_ok (h0.ext (e0.trans (hx1_.trans (hx2_.trans hx3_)))) (by omega)).mono ?_
    rintro r15 w4_ ⟨hx4_, o15⟩
    refine ⟨hx4_, ?_⟩
    refine (toRace_is h1 (e1.trans (hx1_.trans (hx2_.trans (hx3_.trans hx4_))))).mono ?_
    rintro r17 w5_ ⟨hx5_, h17⟩
    refine (specToldRace_ok o15.is hx5_ h17 (Ext.refl w5_)).mono ?_
    rintro _ w6_ ⟨hx6_, rfl⟩
    refine (toRaceS_ok (h0.ext (e0.trans (hx1_.trans (hx2_.trans (hx3_.trans (hx4_.trans (hx5_.trans hx6_))))))) (by omega)).mono ?_
    rintro r20 w7_ ⟨hx7_, o20⟩
    refine rd_var hV3 (hx2_.trans (hx3_.trans (hx4_.trans (hx5_.trans (hx6_.trans hx7_))))) ?_
    refine (toRace_is h1 (e1.trans (hx1_.trans (hx2_.trans (hx3_.trans (hx4_.trans (hx5_.trans (hx6_.trans hx7_)))))))).mono ?_
    rintro r23 w8_ ⟨hx8_, h23⟩
    refine (implToldRace_ok o20.is hx8_ h23 (Ext.refl w8_)).mono ?_
    rintro _ w9_ ⟨hx9_, rfl⟩
    refine rd_neqB u4 ?_
    refine br (fun c2 => ?_) (fun c2 => ?_)
    · refine ⟨(hx1_.trans (hx2_.trans (hx3_.trans (hx4_.trans (hx5_.trans (hx6_.trans (hx7_.trans (hx8_.trans hx9_)))))))), ?_⟩
      first | rfl | contradiction
    · refine (toRaceS_ok (h0.ext (e0.trans (hx1_.trans (hx2_.trans (hx3_.trans (hx4_.trans (hx5_.trans (hx6_.trans (hx7_.trans (hx8_.trans hx9_)))))))))) (by omega)).mono ?_
      rintro r30 w10_ ⟨hx10_, o30⟩
      refine (eqRaceS_ok o20.is (hx8_.trans (hx9_.trans hx10_)) o30.is (Ext.refl w10_)).mono ?_
      rintro _ w11_ ⟨hx11_, rfl⟩
      refine rd_nodec ?_
      refine br (fun c3 => ?_) (fun c3 => ?_)
      · refine ⟨(hx1_.trans (hx2_.trans (hx3_.trans (hx4_.trans (hx5_.trans (hx6_.trans (hx7_.trans (hx8_.trans (hx9_.trans (hx10_.trans hx11_)))))))))), ?_⟩
        first | rfl | contradiction
      · refine ⟨(hx1_.trans (hx2_.trans (hx3_.trans (hx4_.trans (hx5_.trans (hx6_.trans (hx7_.trans (hx8_.trans (hx9_.trans (hx10_.trans hx11_)))))))))), ?_⟩
        first | rfl | contradiction

theorem lawToldKnot {w : World} {v0 : Value} {W0 : World} {rounds : (List (List Int))} {v1 : Value} {W1 : World} {locks : (List Int)}  (h0 : Is W0 v0 rounds) (e0 : Ext W0 w) (h1 : Is W1 v1 locks) (e1 : Ext W1 w)  :
    CALL Try.prog 7 [v0, v1] w fun r w' => Ext w w' ∧ (r = .bool true) := by
  refine F7_call ?_
  unfold F7
  have hln11 := is_len h1
  refine rd_len u22 h1 ?_
  refine rd_gtr ?_
  refine br (fun c1 => ?_) (fun c1 => ?_)
  · refine ⟨Ext.refl w, ?_⟩
    first | rfl | contradiction
  · refine (szIntSS_ok h0 e0 (by omega) (by omega)).mono ?_
    rintro _ w1_ ⟨hx1_, n15, rfl, hn15⟩
    refine rd_lss ?_
    refine br (fun c2 => ?_) (fun c2 => ?_)
    · refine ⟨hx1_, ?_⟩
      first | rfl | contradiction
    · obtain ⟨hq1, hq2, hq3⟩ := hn15
      obtain ⟨hq4, hq5⟩ := hq3 (by omega)
      have hq6 : ∀ x ∈ rounds, x.length ≤ 1048576 := fun x hx => by have := hq5 x hx; omega
      refine (toIntSS_ok (h0.ext (e0.trans hx1_)) (by omega) (by assumption)).mono ?_
      rintro r19 w2_ ⟨hx2_, o19⟩
      refine (toIntS_ok (h1.ext (e1.trans (hx1_.trans hx2_))) (by omega)).mono ?_
      rintro r21 w3_ ⟨hx3_, o21⟩
      refine (specToldKnot_ok o19.is hx3_ o21.is (Ext.refl w3_)).mono ?_
      rintro _ w4_ ⟨hx4_, rfl⟩
      refine (toIntSS_ok (h0.ext (e0.trans (hx1_.trans (hx2_.trans (hx3_.trans hx4_))))) (by omega) (by assumption)).mono ?_
      rintro r24 w5_ ⟨hx5_, o24⟩
      refine (toIntS_ok (h1.ext (e1.trans (hx1_.trans (hx2_.trans (hx3_.trans (hx4_.trans hx5_)))))) (by omega)).mono ?_
      rintro r26 w6_ ⟨hx6_, o26⟩
      refine (implToldKnot_ok o24.is hx6_ o26.is (Ext.refl w6_)).mono ?_
      rintro _ w7_ ⟨hx7_, rfl⟩
      refine rd_neqB u4 ?_
      refine br (fun c3 => ?_) (fun c3 => ?_)
      · refine ⟨(hx1_.trans (hx2_.trans (hx3_.trans (hx4_.trans (hx5_.trans (hx6_.trans hx7_)))))), ?_⟩
        first | rfl | contradiction
      · refine (toIntSS_ok (h0.ext (e0.trans (hx1_.trans (hx2_.trans (hx3_.trans (hx4_.trans (hx5_.trans (hx6_.trans hx7_)))))))) (by omega) (by assumption)).mono ?_
        rintro r35 w8_ ⟨hx8_, o35⟩
        refine (eqIntSS_ok o24.is (hx6_.trans (hx7_.trans hx8_)) o35.is (Ext.refl w8_)).mono ?_
        rintro _ w9_ ⟨hx9_, rfl⟩
        refine rd_nodec ?_
        refine br (fun c4 => ?_) (fun c4 => ?_)
        · refine ⟨(hx1_.trans (hx2_.trans (hx3_.trans (hx4_.trans (hx5_.trans (hx6_.trans (hx7_.trans (hx8_.trans hx9_)))))))), ?_⟩
          first | rfl | contradiction
        · refine (toIntS_ok (h1.ext (e1.trans (hx1_.trans (hx2_.trans (hx3_.trans (hx4_.trans (hx5_.trans (hx6_.trans (hx7_.trans (hx8_.trans hx9_)))))))))) (by omega)).mono ?_
          rintro r40 w10_ ⟨hx10_, o40⟩
          refine (eqIntS_ok2 o26.is (hx7_.trans (hx8_.trans (hx9_.trans hx10_))) o40.is (Ext.refl w10_)).mono ?_
          rintro _ w11_ ⟨hx11_, rfl⟩
          refine rd_nodec ?_
          refine br (fun c5 => ?_) (fun c5 => ?_)
          · refine ⟨(hx1_.trans (hx2_.trans (hx3_.trans (hx4_.trans (hx5_.trans (hx6_.trans (hx7_.trans (hx8_.trans (hx9_.trans (hx10_.trans hx11_)))))))))), ?_⟩
            first | rfl | contradiction
          · refine ⟨(hx1_.trans (hx2_.trans (hx3_.trans (hx4_.trans (hx5_.trans (hx6_.trans (hx7_.trans (hx8_.trans (hx9_.trans (hx10_.trans hx11_)))))))))), ?_⟩
            first | rfl | contradiction

theorem lawLinesIn {w : World} {s : ByteArray}    :
    CALL Try.prog 9 [.string s] w fun r w' => Ext w w' ∧ (r = .bool true) := by
  refine F9_call ?_
  unfold F9
  refine rd_lenS u9 ?_
  refine rd_gtr ?_
  refine br (fun c1 => ?_) (fun c1 => ?_)
  · refine ⟨Ext.refl w, ?_⟩
    first | rfl | contradiction
  · refine (specLinesIn_ok (by omega)).mono ?_
    rintro _ w1_ ⟨hx1_, rfl⟩
    refine (implLinesIn_ok (by omega)).mono ?_
    rintro _ w2_ ⟨hx2_, rfl⟩
    refine rd_neq ?_
    refine br (fun c2 => ?_) (fun c2 => ?_)
    · refine ⟨(hx1_.trans hx2_), ?_⟩
      first | rfl | contradiction
    · refine ⟨(hx1_.trans hx2_), ?_⟩
      first | rfl | contradiction

theorem lawSameState {w : World} {v0 : Value} {W0 : World} {s1 : DState} {v1 : Value} {W1 : World} {s2 : DState}  (h0 : Is W0 v0 s1) (e0 : Ext W0 w) (h1 : Is W1 v1 s2) (e1 : Ext W1 w)  :
    CALL Try.prog 10 [v0, v1] w fun r w' => Ext w w' ∧ (r = .bool true) := by
  refine F10_call ?_
  unfold F10
  refine op_boxS ty42 rfl h0 e0 fun w1_ hx1_ hA2 hV2 => ?_
  refine op_boxS ty42 rfl h1 (e1.trans hx1_) fun w2_ hx2_ hA3 hV3 => ?_
  refine rd_var hV2 hx2_ ?_
  refine (szState_ok h0 (e0.trans (hx1_.trans hx2_)) (by omega) (by omega)).mono ?_
  rintro _ w3_ ⟨hx3_, n12, rfl, hn12⟩
  refine rd_lss ?_
  refine br (fun c1 => ?_) (fun c1 => ?_)
  · refine ⟨(hx1_.trans (hx2_.trans hx3_)), ?_⟩
    first | rfl | contradiction
  · refine rd_var hV3 hx3_ ?_
    have hok0 := stOk_of (by omega) hn12 c1
    refine (szState_ok h1 (e1.trans (hx1_.trans (hx2_.trans hx3_))) (by omega) (by omega)).mono ?_
    rintro _ w4_ ⟨hx4_, n17, rfl, hn17⟩
    refine rd_lss ?_
    refine br (fun c2 => ?_) (fun c2 => ?_)
    · refine ⟨(hx1_.trans (hx2_.trans (hx3_.trans hx4_))), ?_⟩
      first | rfl | contradiction
    · have hx5_ := ext_drew w4_
      have hok1 := stOk_of (by omega) hn17 c2
      refine rd_var hV2 (hx2_.trans (hx3_.trans (hx4_.trans hx5_))) ?_
      refine rd_var hV3 (hx3_.trans (hx4_.trans hx5_)) ?_
      refine (toState_ok (h0.ext (e0.trans (hx1_.trans (hx2_.trans (hx3_.trans (hx4_.trans hx5_)))))) (by assumption)).mono ?_
      rintro r21 w6_ ⟨hx6_, o21⟩
      refine ⟨hx6_, ?_⟩
      refine (toState_ok (h1.ext (e1.trans (hx1_.trans (hx2_.trans (hx3_.trans (hx4_.trans (hx5_.trans hx6_))))))) (by assumption)).mono ?_
      rintro r23 w7_ ⟨hx7_, o23⟩
      refine (specSameState_ok o21.is hx7_ o23.is (Ext.refl w7_)).mono ?_
      rintro _ w8_ ⟨hx8_, rfl⟩
      refine rd_var hV2 (hx2_.trans (hx3_.trans (hx4_.trans (hx5_.trans (hx6_.trans (hx7_.trans hx8_)))))) ?_
      refine (toState_ok (h0.ext (e0.trans (hx1_.trans (hx2_.trans (hx3_.trans (hx4_.trans (hx5_.trans (hx6_.trans (hx7_.trans hx8_))))))))) (by assumption)).mono ?_
      rintro r26 w9_ ⟨hx9_, o26⟩
      refine op_var zl45 rfl ty45 rfl o26.is (Ext.refl w9_) fun w10_ hx10_ hA7 hV7 => ?_
      refine rd_var hV3 (hx3_.trans (hx4_.trans (hx5_.trans (hx6_.trans (hx7_.trans (hx8_.trans (hx9_.trans hx10_))))))) ?_
      refine (toState_ok (h1.ext (e1.trans (hx1_.trans (hx2_.trans (hx3_.trans (hx4_.trans (hx5_.trans (hx6_.trans (hx7_.trans (hx8_.trans (hx9_.trans hx10_))))))))))) (by assumption)).mono ?_
      rintro r28 w11_ ⟨hx11_, o28⟩
      refine op_var zl45 rfl ty45 rfl o28.is (Ext.refl w11_) fun w12_ hx12_ hA8 hV8 => ?_
      refine rd_var hV7 (hx11_.trans hx12_) ?_
      refine rd_var hV8 (Ext.refl w12_) ?_
      refine (implSameState_ok o26.is (hx10_.trans (hx11_.trans hx12_)) o28.is hx12_).mono ?_
      rintro _ w13_ ⟨hx13_, rfl⟩
      refine rd_neqB u4 ?_
      refine br (fun c3 => ?_) (fun c3 => ?_)
      · refine ⟨(hx1_.trans (hx2_.trans (hx3_.trans (hx4_.trans (hx5_.trans (hx6_.trans (hx7_.trans (hx8_.trans (hx9_.trans (hx10_.trans (hx11_.trans (hx12_.trans hx13_)))))))))))), ?_⟩
        first | rfl | contradiction
      · have hx14_ := ext_drew w13_
        refine rd_var hV7 (hx11_.trans (hx12_.trans (hx13_.trans hx14_))) ?_
        refine rd_var hV2 (hx2_.trans (hx3_.trans (hx4_.trans (hx5_.trans (hx6_.trans (hx7_.trans (hx8_.trans (hx9_.trans (hx10_.trans (hx11_.trans (hx12_.trans (hx13_.trans hx14_)))))))))))) ?_
        refine (toState_ok (h0.ext (e0.trans (hx1_.trans (hx2_.trans (hx3_.trans (hx4_.trans (hx5_.trans (hx6_.trans (hx7_.trans (hx8_.trans (hx9_.trans (hx10_.trans (hx11_.trans (hx12_.trans (hx13_.trans hx14_))))))))))))))) (by assumption)).mono ?_
        rintro r37 w15_ ⟨hx15_, o37⟩
        refine ⟨hx15_, ?_⟩
        refine (eqState_ok o26.is (hx10_.trans (hx11_.trans (hx12_.trans (hx13_.trans (hx14_.trans hx15_))))) o37.is (Ext.refl w15_)).mono ?_
        rintro _ w16_ ⟨hx16_, rfl⟩
        refine rd_nodec ?_
        refine br (fun c4 => ?_) (fun c4 => ?_)
        · refine ⟨(hx1_.trans (hx2_.trans (hx3_.trans (hx4_.trans (hx5_.trans (hx6_.trans (hx7_.trans (hx8_.trans (hx9_.trans (hx10_.trans (hx11_.trans (hx12_.trans (hx13_.trans (hx14_.trans (hx15_.trans hx16_))))))))))))))), ?_⟩
          first | rfl | contradiction
        · have hx17_ := ext_drew w16_
          refine rd_var hV8 (hx13_.trans (hx14_.trans (hx15_.trans (hx16_.trans hx17_)))) ?_
          refine rd_var hV3 (hx3_.trans (hx4_.trans (hx5_.trans (hx6_.trans (hx7_.trans (hx8_.trans (hx9_.trans (hx10_.trans (hx11_.trans (hx12_.trans (hx13_.trans (hx14_.trans (hx15_.trans (hx16_.trans hx17_)))))))))))))) ?_
          refine (toState_ok (h1.ext (e1.trans (hx1_.trans (hx2_.trans (hx3_.trans (hx4_.trans (hx5_.trans (hx6_.trans (hx7_.trans (hx8_.trans (hx9_.trans (hx10_.trans (hx11_.trans (hx12_.trans (hx13_.trans (hx14_.trans (hx15_.trans (hx16_.trans hx17_)))))))))))))))))) (by assumption)).mono ?_
          rintro r42 w18_ ⟨hx18_, o42⟩
          refine ⟨hx18_, ?_⟩
          refine (eqState_ok o28.is (hx12_.trans (hx13_.trans (hx14_.trans (hx15_.trans (hx16_.trans (hx17_.trans hx18_)))))) o42.is (Ext.refl w18_)).mono ?_
          rintro _ w19_ ⟨hx19_, rfl⟩
          refine rd_nodec ?_
          refine br (fun c5 => ?_) (fun c5 => ?_)
          · refine ⟨(hx1_.trans (hx2_.trans (hx3_.trans (hx4_.trans (hx5_.trans (hx6_.trans (hx7_.trans (hx8_.trans (hx9_.trans (hx10_.trans (hx11_.trans (hx12_.trans (hx13_.trans (hx14_.trans (hx15_.trans (hx16_.trans (hx17_.trans (hx18_.trans hx19_)))))))))))))))))), ?_⟩
            first | rfl | contradiction
          · refine ⟨(hx1_.trans (hx2_.trans (hx3_.trans (hx4_.trans (hx5_.trans (hx6_.trans (hx7_.trans (hx8_.trans (hx9_.trans (hx10_.trans (hx11_.trans (hx12_.trans (hx13_.trans (hx14_.trans (hx15_.trans (hx16_.trans (hx17_.trans (hx18_.trans hx19_)))))))))))))))))), ?_⟩
            first | rfl | contradiction

end Go.Proofs.Ythieonacgnppiaa
