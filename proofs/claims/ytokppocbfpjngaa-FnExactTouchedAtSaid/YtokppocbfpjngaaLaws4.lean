/-
  The law of touches: it returns true.
-/
import Derived.Test.YtokppocbfpjngaaTouch
import Derived.Test.YtokppocbfpjngaaMarkT
namespace Go.Proofs.Ytokppocbfpjngaa
open Go Go.Sh Go.Proofs
set_option linter.unusedVariables false

theorem cdOk_of4 {c : DCode} {n m : Int} (hm : m ≤ 1048576) (h : -1 ≤ n ∧ n ≤ m ∧ (0 ≤ n → n + wCode c ≤ m)) (hc : ¬ n < 0) : wCode c ≤ 1048576 ∧ c.globals.length ≤ 1048576 := by
  have := h.2.2 (by omega)
  have h2 : c.globals.length ≤ wCode c := by unfold wCode wStr; omega
  omega
/-- laws.eqTouch -/
def F77 (a0 a1 : Value) (w : World) (R : Value → World → Prop) : Prop :=
  OP Try.prog (Instr.box 80 a0) w fun x2 w =>
  OP Try.prog (Instr.box 80 a1) w fun x3 w =>
  RD Try.prog (Instr.fieldAt 80 x2 0) w fun x5 =>
  RD Try.prog (Instr.loadAt 3 x5) w fun x6 =>
  RD Try.prog (Instr.fieldAt 80 x3 0) w fun x7 =>
  RD Try.prog (Instr.loadAt 3 x7) w fun x8 =>
  RD Try.prog (bin .neq 3 (.tmp 0) (.tmp 0) x6 x8) w fun x9 =>
  BR x9
   (R (Value.bool false) w)
   (RD Try.prog (Instr.fieldAt 80 x2 1) w fun x10 =>
   RD Try.prog (Instr.loadAt 3 x10) w fun x11 =>
   RD Try.prog (Instr.fieldAt 80 x3 1) w fun x12 =>
   RD Try.prog (Instr.loadAt 3 x12) w fun x13 =>
   RD Try.prog (bin .neq 3 (.tmp 0) (.tmp 0) x11 x13) w fun x14 =>
   BR x14
    (R (Value.bool false) w)
    (RD Try.prog (Instr.fieldAt 80 x2 2) w fun x15 =>
    RD Try.prog (Instr.loadAt 4 x15) w fun x16 =>
    RD Try.prog (Instr.fieldAt 80 x3 2) w fun x17 =>
    RD Try.prog (Instr.loadAt 4 x17) w fun x18 =>
    RD Try.prog (bin .neq 4 (.tmp 0) (.tmp 0) x16 x18) w fun x19 =>
    BR x19
     (R (Value.bool false) w)
     (RD Try.prog (Instr.fieldAt 80 x2 3) w fun x20 =>
     RD Try.prog (Instr.loadAt 3 x20) w fun x21 =>
     RD Try.prog (Instr.fieldAt 80 x3 3) w fun x22 =>
     RD Try.prog (Instr.loadAt 3 x22) w fun x23 =>
     RD Try.prog (bin .neq 3 (.tmp 0) (.tmp 0) x21 x23) w fun x24 =>
     BR x24
      (R (Value.bool false) w)
      (R (Value.bool true) w))))
def cfg77 : Cfg := { ext := extL, joins := [], loops := [], draws := [], pars := [] }
theorem F77_eq (a0 a1 : Value) (w : World) (R : Value → World → Prop) : vcF Try.prog cfg77 Try.f77 [a0, a1] w R = F77 a0 a1 w R := by kernel_rfl
theorem F77_call {a0 a1 : Value} {w : World} {R : Value → World → Prop} (h : F77 a0 a1 w R) : CALL Try.prog 77 [a0, a1] w R :=
  call_of (g := cfg77) ent mixed Try.func77 (Nat.le_of_ble_eq_true (by kernel_rfl)) (by kernel_rfl) (F77_eq a0 a1 w R ▸ h)


theorem eqTouch_ok {w : World} {v0 : Value} {W0 : World} {s1 : DTouch} {v1 : Value} {W1 : World} {s2 : DTouch}  (h0 : Is W0 v0 s1) (e0 : Ext W0 w) (h1 : Is W1 v1 s2) (e1 : Ext W1 w)  :
    CALL Try.prog 77 [v0, v1] w fun r w' => Ext w w' ∧ (r = .bool (decide (s1 = s2))) := by
  refine F77_call ?_
  unfold F77
  refine op_boxS ty80 rfl h0 e0 fun w1_ hx1_ hA2 hV2 => ?_
  refine op_boxS ty80 rfl h1 (e1.trans hx1_) fun w2_ hx2_ hA3 hV3 => ?_
  refine rd_fld fd80_0 ?_
  refine rd_loadI ty3 (at_DTouch_0 hA2) hx2_ fun hI6 => ?_
  refine rd_fld fd80_0 ?_
  refine rd_loadI ty3 (at_DTouch_0 hA3) (Ext.refl w2_) fun hI8 => ?_
  refine rd_neq ?_
  refine br (fun c1 => ?_) (fun c1 => ?_)
  · refine ⟨(hx1_.trans hx2_), ?_⟩
    have : s1 ≠ s2 := fun e => c1 (by rw [e])
    simp [this]
  · refine rd_fld fd80_1 ?_
    refine rd_loadI ty3 (at_DTouch_1 hA2) hx2_ fun hI11 => ?_
    refine rd_fld fd80_1 ?_
    refine rd_loadI ty3 (at_DTouch_1 hA3) (Ext.refl w2_) fun hI13 => ?_
    refine rd_neq ?_
    refine br (fun c2 => ?_) (fun c2 => ?_)
    · refine ⟨(hx1_.trans hx2_), ?_⟩
      have : s1 ≠ s2 := fun e => c2 (by rw [e])
      simp [this]
    · refine rd_fld fd80_2 ?_
      refine rd_loadB ty4 (at_DTouch_2 hA2) hx2_ ?_
      refine rd_fld fd80_2 ?_
      refine rd_loadB ty4 (at_DTouch_2 hA3) (Ext.refl w2_) ?_
      refine rd_neqB u4 ?_
      refine br (fun c3 => ?_) (fun c3 => ?_)
      · refine ⟨(hx1_.trans hx2_), ?_⟩
        have : s1 ≠ s2 := fun e => c3 (by rw [e])
        simp [this]
      · refine rd_fld fd80_3 ?_
        refine rd_loadI ty3 (at_DTouch_3 hA2) hx2_ fun hI21 => ?_
        refine rd_fld fd80_3 ?_
        refine rd_loadI ty3 (at_DTouch_3 hA3) (Ext.refl w2_) fun hI23 => ?_
        refine rd_neq ?_
        refine br (fun c4 => ?_) (fun c4 => ?_)
        · refine ⟨(hx1_.trans hx2_), ?_⟩
          have : s1 ≠ s2 := fun e => c4 (by rw [e])
          simp [this]
        · refine ⟨(hx1_.trans hx2_), ?_⟩
          have : s1 = s2 := DTouch.ext_iff.2 ⟨Decidable.not_not.1 c1, Decidable.not_not.1 c2, Decidable.not_not.1 c3, Decidable.not_not.1 c4⟩
          simp [this]

/-- laws.eqTouchS -/
def F33 (a0 a1 : Value) (w : World) (R : Value → World → Prop) : Prop :=
  RD Try.prog (Builtin.len_ #[50] 3 [a0].toArray) w fun x7 =>
  RD Try.prog (Builtin.len_ #[50] 3 [a1].toArray) w fun x9 =>
  RD Try.prog (bin .neq 3 (.tmp 0) (.tmp 0) x7 x9) w fun x10 =>
  BR x10
   (R (Value.bool false) w)
   (LOOPI [5] [(Value.int .i64 0)] w fun u4 w next4 =>
    RD Try.prog (Builtin.len_ #[50] 3 [a0].toArray) w fun x13 =>
    RD Try.prog (bin .lss 3 (.tmp 0) (.tmp 0) (u4 5) x13) w fun x14 =>
    BR x14
     ((fun w => RD Try.prog (Instr.indexAt 50 a0 (u4 5)) w fun x19 =>
     RD Try.prog (Instr.loadAt 80 x19) w fun x20 =>
     RD Try.prog (Instr.indexAt 50 a1 (u4 5)) w fun x23 =>
     RD Try.prog (Instr.loadAt 80 x23) w fun x24 =>
     CALL Try.prog 77 [x20, x24] w fun x25 w =>
     RD Try.prog (Op.unary .not x25) w fun x26 =>
     BR x26
      (R (Value.bool false) w)
      (RD Try.prog (bin .add 3 (.tmp 0) (.const undef) (u4 5) (Value.int .i64 1)) w fun x16 =>
      next4 [x16] w)) (World.drew1 w))
     (R (Value.bool true) w))
def cfg33 : Cfg := { ext := extL, joins := [], loops := [(4, 134215728, [5])], draws := [(6, [0, 1, 2, 3, 4, 5, 6, 7, 8, 9], 0)], pars := [] }
theorem F33_eq (a0 a1 : Value) (w : World) (R : Value → World → Prop) : vcF Try.prog cfg33 Try.f33 [a0, a1] w R = F33 a0 a1 w R := by kernel_rfl
theorem F33_call {a0 a1 : Value} {w : World} {R : Value → World → Prop} (h : F33 a0 a1 w R) : CALL Try.prog 33 [a0, a1] w R :=
  call_of (g := cfg33) ent mixed Try.func33 (Nat.le_of_ble_eq_true (by kernel_rfl)) (by kernel_rfl) (F33_eq a0 a1 w R ▸ h)


theorem eqTouchS_ok {w : World} {v0 : Value} {W0 : World} {l1 : (List DTouch)} {v1 : Value} {W1 : World} {l2 : (List DTouch)}  (h0 : Is W0 v0 l1) (e0 : Ext W0 w) (h1 : Is W1 v1 l2) (e1 : Ext W1 w)  :
    CALL Try.prog 33 [v0, v1] w fun r w' => Ext w w' ∧ (r = .bool (decide (l1 = l2))) := by
  refine F33_call ?_
  unfold F33
  have hl1 := is_len h0
  have hln7 := is_len h0
  refine rd_len u50 h0 ?_
  have hln9 := is_len h1
  refine rd_len u50 h1 ?_
  refine rd_neq ?_
  refine br (fun c1 => ?_) (fun c1 => ?_)
  · refine ⟨Ext.refl w, ?_⟩
    have : l1 ≠ l2 := fun e => c1 (by rw [e])
    simp [this]
  · refine loopC (l1.length) (fun k us w' => us = [.int .i64 (k : Int)] ∧ Ext w w' ∧ (l1.take k = l2.take k)) (0) (by omega) ⟨by simp, Ext.refl w, by simp⟩ ?_
    rintro k m4 uu4 w1_ hk4 ⟨hu, hx1_, hinv⟩
    simp only [List.map_cons, List.map_nil, List.cons.injEq, and_true] at hu
    try rw [hu]
    try clear hu
    have hln13 := is_len h0
    refine rd_len u50 h0 ?_
    refine rd_lss ?_
    refine br (fun c2 => ?_) (fun c2 => ?_)
    · have hx2_ := ext_drew w1_
      refine rd_indexN u50 ty80 h0 (by omega) fun b19 o19 h19 => ?_
      refine rd_load ty80 h19 (e0.trans (hx1_.trans hx2_)) fun v20 h20 => ?_
      refine rd_indexN u50 ty80 h1 (by omega) fun b23 o23 h23 => ?_
      refine rd_load ty80 h23 (e1.trans (hx1_.trans hx2_)) fun v24 h24 => ?_
      refine (eqTouch_ok h20 (e0.trans (hx1_.trans hx2_)) h24 (e1.trans (hx1_.trans hx2_))).mono ?_
      rintro _ w3_ ⟨hx3_, rfl⟩
      refine rd_nodec ?_
      refine br (fun c3 => ?_) (fun c3 => ?_)
      · refine ⟨(hx1_.trans (hx2_.trans hx3_)), ?_⟩
        have : l1 ≠ l2 := fun e => c3 (by subst e; rfl)
        simp [this]
      · refine rd_inc (by omega) ?_
        refine ⟨m4 - 1, by omega, k + 1, by omega, by simp, (hx1_.trans (hx2_.trans hx3_)), ?_⟩
        rw [List.take_succ_eq_append_getElem (by omega), List.take_succ_eq_append_getElem (by omega), hinv, Decidable.not_not.1 c3]
    · refine ⟨hx1_, ?_⟩
      rw [List.take_of_length_le (by omega), List.take_of_length_le (by omega)] at hinv
      simp [hinv]

theorem touchedAt_len (c : DCode) (a : Int) : (touchedAt c a).length ≤ 2 * c.globals.length := by
  unfold touchedAt
  split
  · exact touchAt_len c a 0
  · simp
/-- laws.FnExactTouchedAt -/
def F6 (a0 a1 : Value) (w : World) (R : Value → World → Prop) : Prop :=
  OP Try.prog (Instr.box 26 a0) w fun x2 w =>
  RD Try.prog (Instr.loadAt 26 x2) w fun x13 =>
  CALL Try.prog 14 [x13, (Value.int .i64 1048576)] w fun x15 w =>
  RD Try.prog (bin .lss 3 (.tmp 0) (.const undef) x15 (Value.int .i64 0)) w fun x17 =>
  BR x17
   (R (Value.bool true) w)
   (RD Try.prog (Instr.loadAt 26 x2) w fun x18 =>
   CALL Try.prog 16 [x18] w fun x19 w =>
   CALL Try.prog 31 [x19, a1] w fun x21 w =>
   RD Try.prog (Instr.loadAt 26 x2) w fun x22 =>
   CALL Try.prog 16 [x22] w fun x23 w =>
   OP Try.prog (Instr.alloc 31 true (.tuple #[])) w fun x7 w =>
   OPU Try.prog (Instr.storeAt 31 x7 x23) w fun w =>
   RD Try.prog (Instr.loadAt 31 x7) w fun x24 =>
   CALL Try.prog 32 [x24, a1] w fun x26 w =>
   CALL Try.prog 33 [x26, x21] w fun x29 w =>
   RD Try.prog (Op.unary .not x29) w fun x30 =>
   BR x30
    (R (Value.bool false) w)
    ((fun w => RD Try.prog (Instr.loadAt 31 x7) w fun x31 =>
    RD Try.prog (Instr.loadAt 26 x2) w fun x32 =>
    (fun w_ => CALL Try.prog 16 [x32] w_ fun x33 w =>
    Ext w_ w ∧
    CALL Try.prog 19 [x31, x33] w fun x34 w =>
    RD Try.prog (Op.unary .not x34) w fun x35 =>
    BR x35
     (R (Value.bool false) w)
     (RD Try.prog (Instr.loadAt 31 x7) w fun x36 =>
     CALL Try.prog 28 [x36, (Value.int .i64 1)] w fun x38 w =>
     RD Try.prog (bin .lss 3 (.tmp 0) (.const undef) x38 (Value.int .i64 0)) w fun x40 =>
     BR x40
     (R (Value.bool false) w)
     (CALL Try.prog 33 [x26, x21] w fun x44 w =>
     RD Try.prog (Op.unary .not x44) w fun x45 =>
     BR x45
      (R (Value.bool false) w)
      (CALL Try.prog 34 [x26, (Value.int .i64 1)] w fun x49 w =>
      CALL Try.prog 35 [x26, (Value.int .i64 1)] w fun x52 w =>
      RD Try.prog (bin .lss 3 (.tmp 0) (.const undef) x52 (Value.int .i64 0)) w fun x54 =>
      BR x54
       (R (Value.bool false) w)
       (RD Try.prog (bin .neq 3 (.tmp 0) (.tmp 0) x52 x49) w fun x57 =>
       BR x57
        (R (Value.bool false) w)
        (RD Try.prog (Instr.loadAt 26 x2) w fun x58 =>
        CALL Try.prog 16 [x58] w fun x59 w =>
        CALL Try.prog 32 [x59, a1] w fun x61 w =>
        CALL Try.prog 33 [x61, x21] w fun x64 w =>
        RD Try.prog (Op.unary .not x64) w fun x65 =>
        BR x65
         (R (Value.bool false) w)
         (CALL Try.prog 35 [x26, (Value.int .i64 1)] w fun x68 w =>
         RD Try.prog (bin .lss 3 (.tmp 0) (.const undef) x68 (Value.int .i64 0)) w fun x70 =>
         BR x70
          (R (Value.bool false) w)
          (RD Try.prog (bin .neq 3 (.tmp 0) (.tmp 0) x68 x49) w fun x73 =>
          BR x73
           (R (Value.bool false) w)
           (R (Value.bool true) w))))))))) w) (World.drew1 w)))
def cfg6 : Cfg := { ext := extL, joins := [], loops := [], draws := [(10, [0, 1, 2, 3, 4], 4)], pars := [] }
theorem F6_eq (a0 a1 : Value) (w : World) (R : Value → World → Prop) : vcF Try.prog cfg6 Try.f6 [a0, a1] w R = F6 a0 a1 w R := by kernel_rfl
theorem F6_call {a0 a1 : Value} {w : World} {R : Value → World → Prop} (h : F6 a0 a1 w R) : CALL Try.prog 6 [a0, a1] w R :=
  call_of (g := cfg6) ent mixed Try.func6 (Nat.le_of_ble_eq_true (by kernel_rfl)) (by kernel_rfl) (F6_eq a0 a1 w R ▸ h)


theorem lawTouchedAt {w : World} {v0 : Value} {W0 : World} {c : DCode} {a : Int}  (h0 : Is W0 v0 c) (e0 : Ext W0 w)  :
    CALL Try.prog 6 [v0, .int .i64 a] w fun r w' => Ext w w' ∧ (r = .bool true) := by
  refine F6_call ?_
  unfold F6
  have hs_e0 := e0.size
  refine op_boxS ty26 rfl h0 e0 fun w1_ hx1_ hA2 hV2 => ?_
  have hs_hx1_ := hx1_.size
  refine rd_var hV2 (Ext.refl w1_) ?_
  refine (szCode_ok h0 (e0.trans hx1_) (by omega) (by omega)).mono ?_
  rintro _ w2_ ⟨hx2_, n15, rfl, hn15⟩
  have hs_hx2_ := hx2_.size
  refine rd_lss ?_
  refine br (fun c1 => ?_) (fun c1 => ?_)
  · refine ⟨(hx1_.trans hx2_), ?_⟩
    first | rfl | contradiction | (exfalso; omega)
  · refine rd_var hV2 hx2_ ?_
    refine (toCode_ok (h0.ext (e0.trans (hx1_.trans hx2_))) (by omega)).mono ?_
    rintro r19 w3_ ⟨hx3_, o19⟩
    have o19 := o19.toI
    have hs_hx3_ := hx3_.size
    have hcd := cdOk_of4 (by omega) hn15 c1
    have hlr := touchedAt_len c a
    refine (specTouchedAt_ok o19.is (Ext.refl w3_)).mono ?_
    rintro r21 w4_ ⟨hx4_, o21⟩
    have o21 := o21.toI
    have hs_hx4_ := hx4_.size
    refine rd_var hV2 (hx2_.trans (hx3_.trans hx4_)) ?_
    refine (toCode_ok (h0.ext (e0.trans (hx1_.trans (hx2_.trans (hx3_.trans hx4_))))) (by omega)).mono ?_
    rintro r23 w5_ ⟨hx5_, o23⟩
    have o23 := o23.toI
    have hs_hx5_ := hx5_.size
    refine op_var zl31 rfl ty31 rfl o23.is (Ext.refl w5_) fun w6_ hx6_ hA7 hV7 => ?_
    have hs_hx6_ := hx6_.size
    have hg7 := hV7.lt
    refine rd_var hV7 (Ext.refl w6_) ?_
    refine (implTouchedAt_ok o23.is hx6_).mono ?_
    rintro r26 w7_ ⟨hx7_, o26⟩
    have o26 := o26.toI
    have hs_hx7_ := hx7_.size
    refine (eqTouchS_ok o26.is (Ext.refl w7_) o21.is (hx5_.trans (hx6_.trans hx7_))).mono ?_
    rintro _ w8_ ⟨hx8_, rfl⟩
    have hs_hx8_ := hx8_.size
    refine rd_nodec ?_
    refine br (fun c2 => ?_) (fun c2 => ?_)
    · refine ⟨(hx1_.trans (hx2_.trans (hx3_.trans (hx4_.trans (hx5_.trans (hx6_.trans (hx7_.trans hx8_))))))), ?_⟩
      first | rfl | contradiction | (exfalso; omega)
    · have hx9_ := ext_drew w8_
      have hs_hx9_ := hx9_.size
      refine rd_var hV7 (hx7_.trans (hx8_.trans hx9_)) ?_
      refine rd_var hV2 (hx2_.trans (hx3_.trans (hx4_.trans (hx5_.trans (hx6_.trans (hx7_.trans (hx8_.trans hx9_))))))) ?_
      refine (toCode_ok (h0.ext (e0.trans (hx1_.trans (hx2_.trans (hx3_.trans (hx4_.trans (hx5_.trans (hx6_.trans (hx7_.trans (hx8_.trans hx9_)))))))))) (by omega)).mono ?_
      rintro r33 w10_ ⟨hx10_, o33⟩
      have o33 := o33.toI
      have hs_hx10_ := hx10_.size
      refine ⟨hx10_, ?_⟩
      refine (eqCode_ok o23.is (hx6_.trans (hx7_.trans (hx8_.trans (hx9_.trans hx10_)))) o33.is (Ext.refl w10_)).mono ?_
      rintro _ w11_ ⟨hx11_, rfl⟩
      have hs_hx11_ := hx11_.size
      refine rd_nodec ?_
      refine br (fun c3 => ?_) (fun c3 => ?_)
      · refine ⟨(hx1_.trans (hx2_.trans (hx3_.trans (hx4_.trans (hx5_.trans (hx6_.trans (hx7_.trans (hx8_.trans (hx9_.trans (hx10_.trans hx11_)))))))))), ?_⟩
        first | rfl | contradiction | (exfalso; omega)
      · refine rd_var hV7 (hx7_.trans (hx8_.trans (hx9_.trans (hx10_.trans hx11_)))) ?_
        refine (markCode_ok (o23.ext (hx6_.trans (hx7_.trans (hx8_.trans (hx9_.trans (hx10_.trans hx11_)))))) (by omega) (by omega) (by omega)).mono ?_
        rintro _ w12_ ⟨n38, rfl, hn38, hc12_⟩
        have hs_hc12_ := hc12_.size
        have o19_c12 := (o19.ext (hx4_.trans (hx5_.trans (hx6_.trans (hx7_.trans (hx8_.trans (hx9_.trans (hx10_.trans hx11_)))))))).chg hc12_ (by omega)
        have o21_c12 := (o21.ext (hx5_.trans (hx6_.trans (hx7_.trans (hx8_.trans (hx9_.trans (hx10_.trans hx11_))))))).chg hc12_ (by omega)
        have hV7_c12 := (hV7.ext (hx7_.trans (hx8_.trans (hx9_.trans (hx10_.trans hx11_))))).chgI hc12_ (by omega)
        have o26_c12 := (o26.ext (hx8_.trans (hx9_.trans (hx10_.trans hx11_)))).chg hc12_ (by omega)
        have o33_c12 := (o33.ext hx11_).chg hc12_ (by omega)
        refine rd_lss ?_
        refine br (fun c4 => ?_) (fun c4 => ?_)
        · refine ⟨(Ext.chgI ((((((((((hx1_.trans hx2_).trans hx3_).trans hx4_).trans hx5_).trans hx6_).trans hx7_).trans hx8_).trans hx9_).trans hx10_).trans hx11_) hc12_ (by omega)), ?_⟩
          first | rfl | contradiction | (exfalso; omega)
        · refine (eqTouchS_ok o26_c12.is (Ext.refl w12_) o21_c12.is (Ext.refl w12_)).mono ?_
          rintro _ w13_ ⟨hx13_, rfl⟩
          have hs_hx13_ := hx13_.size
          refine rd_nodec ?_
          refine br (fun c5 => ?_) (fun c5 => ?_)
          · refine ⟨((Ext.chgI ((((((((((hx1_.trans hx2_).trans hx3_).trans hx4_).trans hx5_).trans hx6_).trans hx7_).trans hx8_).trans hx9_).trans hx10_).trans hx11_) hc12_ (by omega)).trans hx13_), ?_⟩
            first | rfl | contradiction | (exfalso; omega)
          · refine (markTouchS_I (o26_c12.ext hx13_) (by omega) (by omega) (by omega)).mono ?_
            rintro _ w14_ ⟨rfl, hc14_, o26_c14⟩
            have hs_hc14_ := hc14_.size
            have o19_c14 := (o19_c12.ext hx13_).chg hc14_ (by omega)
            have o21_c14 := (o21_c12.ext hx13_).chg hc14_ (by omega)
            have o33_c14 := (o33_c12.ext hx13_).chg hc14_ (by omega)
            refine (heldTouchS_ok o26_c14.is (Ext.refl w14_) (by omega) (by omega) (by omega)).mono ?_
            rintro _ w15_ ⟨hx15_, rfl⟩
            have hs_hx15_ := hx15_.size
            refine rd_lss ?_
            refine br (fun c6 => ?_) (fun c6 => ?_)
            · refine ⟨((Ext.chgI ((Ext.chgI ((((((((((hx1_.trans hx2_).trans hx3_).trans hx4_).trans hx5_).trans hx6_).trans hx7_).trans hx8_).trans hx9_).trans hx10_).trans hx11_) hc12_ (by omega)).trans hx13_) hc14_ (by omega)).trans hx15_), ?_⟩
              first | rfl | contradiction | (exfalso; omega)
            · refine rd_neq ?_
              refine br (fun c7 => ?_) (fun c7 => ?_)
              · refine ⟨((Ext.chgI ((Ext.chgI ((((((((((hx1_.trans hx2_).trans hx3_).trans hx4_).trans hx5_).trans hx6_).trans hx7_).trans hx8_).trans hx9_).trans hx10_).trans hx11_) hc12_ (by omega)).trans hx13_) hc14_ (by omega)).trans hx15_), ?_⟩
                first | rfl | contradiction | (exfalso; omega)
              · refine rd_var hV2 ((Ext.chgI ((Ext.chgI (((((((((hx2_.trans hx3_).trans hx4_).trans hx5_).trans hx6_).trans hx7_).trans hx8_).trans hx9_).trans hx10_).trans hx11_) hc12_ (by omega)).trans hx13_) hc14_ (by omega)).trans hx15_) ?_
                refine (toCode_ok (h0.ext ((Ext.chgI ((Ext.chgI (((((((((((e0.trans hx1_).trans hx2_).trans hx3_).trans hx4_).trans hx5_).trans hx6_).trans hx7_).trans hx8_).trans hx9_).trans hx10_).trans hx11_) hc12_ (by omega)).trans hx13_) hc14_ (by omega)).trans hx15_)) (by omega)).mono ?_
                rintro r59 w16_ ⟨hx16_, o59⟩
                have o59 := o59.toI
                have hs_hx16_ := hx16_.size
                refine (implTouchedAt_ok o59.is (Ext.refl w16_)).mono ?_
                rintro r61 w17_ ⟨hx17_, o61⟩
                have o61 := o61.toI
                have hs_hx17_ := hx17_.size
                refine (eqTouchS_ok o61.is (Ext.refl w17_) o21_c14.is (hx15_.trans (hx16_.trans hx17_))).mono ?_
                rintro _ w18_ ⟨hx18_, rfl⟩
                have hs_hx18_ := hx18_.size
                refine rd_nodec ?_
                refine br (fun c8 => ?_) (fun c8 => ?_)
                · refine ⟨(((((Ext.chgI ((Ext.chgI ((((((((((hx1_.trans hx2_).trans hx3_).trans hx4_).trans hx5_).trans hx6_).trans hx7_).trans hx8_).trans hx9_).trans hx10_).trans hx11_) hc12_ (by omega)).trans hx13_) hc14_ (by omega)).trans hx15_).trans hx16_).trans hx17_).trans hx18_), ?_⟩
                  first | rfl | contradiction | (exfalso; omega)
                · refine (heldTouchS_ok o26_c14.is (hx15_.trans (hx16_.trans (hx17_.trans hx18_))) (by omega) (by omega) (by omega)).mono ?_
                  rintro _ w19_ ⟨hx19_, rfl⟩
                  have hs_hx19_ := hx19_.size
                  refine rd_lss ?_
                  refine br (fun c9 => ?_) (fun c9 => ?_)
                  · refine ⟨((((((Ext.chgI ((Ext.chgI ((((((((((hx1_.trans hx2_).trans hx3_).trans hx4_).trans hx5_).trans hx6_).trans hx7_).trans hx8_).trans hx9_).trans hx10_).trans hx11_) hc12_ (by omega)).trans hx13_) hc14_ (by omega)).trans hx15_).trans hx16_).trans hx17_).trans hx18_).trans hx19_), ?_⟩
                    first | rfl | contradiction | (exfalso; omega)
                  · refine rd_neq ?_
                    refine br (fun c10 => ?_) (fun c10 => ?_)
                    · refine ⟨((((((Ext.chgI ((Ext.chgI ((((((((((hx1_.trans hx2_).trans hx3_).trans hx4_).trans hx5_).trans hx6_).trans hx7_).trans hx8_).trans hx9_).trans hx10_).trans hx11_) hc12_ (by omega)).trans hx13_) hc14_ (by omega)).trans hx15_).trans hx16_).trans hx17_).trans hx18_).trans hx19_), ?_⟩
                      first | rfl | contradiction | (exfalso; omega)
                    · refine ⟨((((((Ext.chgI ((Ext.chgI ((((((((((hx1_.trans hx2_).trans hx3_).trans hx4_).trans hx5_).trans hx6_).trans hx7_).trans hx8_).trans hx9_).trans hx10_).trans hx11_) hc12_ (by omega)).trans hx13_) hc14_ (by omega)).trans hx15_).trans hx16_).trans hx17_).trans hx18_).trans hx19_), ?_⟩
                      first | rfl | contradiction | (exfalso; omega)

end Go.Proofs.Ytokppocbfpjngaa
