/-
  The law of the ends: it returns true.
-/
import Derived.Test.YteephmhilnlkpaaGreatEnds
import Derived.Test.YteephmhilnlkpaaGreatMarkSt
namespace Go.Proofs.YteephmhilnlkpaaGreat
open Go Go.Sh Go.Proofs
set_option linter.unusedVariables false

theorem cdOk_of10 {c : DCode} {n m : Int} (hm : m ≤ 1048576) (h : -1 ≤ n ∧ n ≤ m ∧ (0 ≤ n → n + wCode c ≤ m)) (hc : ¬ n < 0) : wCode c ≤ 1048576 := by
  have := h.2.2 (by omega)
  omega
theorem sm_le10 {α : Type} {f : α → Nat} {b : Nat} : ∀ {l : List α}, (∀ x ∈ l, f x ≤ b) → (l.map f).sum ≤ l.length * b
  | [], _ => by simp
  | x :: l, h => by
    have h1 := sm_le10 (l := l) fun y hy => h y (List.mem_cons_of_mem _ hy)
    have h2 := h x List.mem_cons_self
    simp only [List.map_cons, List.sum_cons, List.length_cons, Nat.add_mul]
    omega
theorem stSz_n10 {c : DCode} {s : DState} (hc : CodeR c) (hs : StateR c s) : s.stacks.length + nSt s ≤ 1000 := by
  have h1 := hc.1.globals6
  have h2 := hc.1.locks6
  have h3 := hs.1
  have h4 := hs.2.1
  have h5 := hs.2.2.1
  have h6 := sm_le10 (f := List.length) (b := 8) fun x hx => (hs.2.2.2.2.2 x hx).1
  have h7 : s.stacks.length * 8 ≤ 48 := by omega
  simp only [nSt, nLL, sm]
  omega
theorem ends_n {c : DCode} {m : Int} (h : CodeR c → TrOk c (mostN m) (lookD c (mostN m))) : (endsOf c m).length ≤ 150 ∧ nSS (endsOf c m) ≤ 1000000 ∧ ∀ s ∈ endsOf c m, s.stacks.length ≤ 1048576 := by
  have hr := statesOf_right h
  have hl := statesOf_len h
  have hle : (endsOf c m).length ≤ 150 := Nat.le_trans (List.length_filter_le _ _) hl
  have hm : ∀ s ∈ endsOf c m, CodeR c ∧ StateR c s := fun s hs => hr s (List.mem_filter.1 hs).1
  refine ⟨hle, ?_, fun s hs => by have := (hm s hs).2.2.2.1; omega⟩
  have := sm_le10 (f := nSt) (b := 1000) (l := endsOf c m) fun s hs => by have := stSz_n10 (hm s hs).1 (hm s hs).2; omega
  unfold nSS sm
  omega
theorem implEndsOf_L {w W0 : World} {v0 : Value} {c : DCode} {m : Int} (h0 : Is W0 v0 c) (e0 : Ext W0 w) (hw : wCode c ≤ 1048576) :
    CALL Tryz.prog 36 [v0, .int .i64 m] w fun r w' => Ext w w' ∧ Own w.heap.size w' r (endsOf c m) ∧ (endsOf c m).length ≤ 150 ∧ nSS (endsOf c m) ≤ 1000000 ∧ ∀ s ∈ endsOf c m, s.stacks.length ≤ 1048576 :=
  (implEndsOf_ok h0 e0 hw).mono fun r w' ⟨hx, h2, h3⟩ => ⟨hx, h2, ends_n h3⟩
theorem specEndsOf_L {w W0 : World} {v0 : Value} {c : DCode} {m : Int} (h0 : Is W0 v0 c) (e0 : Ext W0 w) (hw : wCode c ≤ 1048576) :
    CALL Tryz.prog 35 [v0, .int .i64 m] w fun r w' => Ext w w' ∧ Own w.heap.size w' r (endsOf c m) ∧ (endsOf c m).length ≤ 150 ∧ nSS (endsOf c m) ≤ 1000000 ∧ ∀ s ∈ endsOf c m, s.stacks.length ≤ 1048576 :=
  (specEndsOf_ok h0 e0 hw).mono fun r w' ⟨hx, h2, h3⟩ => ⟨hx, h2, ends_n h3⟩
/-- laws.FnExactEndsOf -/
def F6 (a0 a1 : Value) (w : World) (R : Value → World → Prop) : Prop :=
  OP Tryz.prog (Instr.box 26 a0) w fun x2 w =>
  RD Tryz.prog (Instr.loadAt 26 x2) w fun x13 =>
  CALL Tryz.prog 14 [x13, (Value.int .i64 1048576)] w fun x15 w =>
  RD Tryz.prog (bin .lss 3 (.tmp 0) (.const undef) x15 (Value.int .i64 0)) w fun x17 =>
  BR x17
   (R (Value.bool true) w)
   (RD Tryz.prog (Instr.loadAt 26 x2) w fun x18 =>
   CALL Tryz.prog 17 [x18] w fun x19 w =>
   CALL Tryz.prog 35 [x19, a1] w fun x21 w =>
   RD Tryz.prog (Instr.loadAt 26 x2) w fun x22 =>
   CALL Tryz.prog 17 [x22] w fun x23 w =>
   OP Tryz.prog (Instr.alloc 37 true (.tuple #[])) w fun x7 w =>
   OPU Tryz.prog (Instr.storeAt 37 x7 x23) w fun w =>
   RD Tryz.prog (Instr.loadAt 37 x7) w fun x24 =>
   CALL Tryz.prog 36 [x24, a1] w fun x26 w =>
   CALL Tryz.prog 27 [x26, x21] w fun x29 w =>
   RD Tryz.prog (Op.unary .not x29) w fun x30 =>
   BR x30
    (R (Value.bool false) w)
    ((fun w => RD Tryz.prog (Instr.loadAt 37 x7) w fun x31 =>
    RD Tryz.prog (Instr.loadAt 26 x2) w fun x32 =>
    (fun w_ => CALL Tryz.prog 17 [x32] w_ fun x33 w =>
    Ext w_ w ∧
    CALL Tryz.prog 21 [x31, x33] w fun x34 w =>
    RD Tryz.prog (Op.unary .not x34) w fun x35 =>
    BR x35
     (R (Value.bool false) w)
     (RD Tryz.prog (Instr.loadAt 37 x7) w fun x36 =>
     CALL Tryz.prog 22 [x36, (Value.int .i64 1)] w fun x38 w =>
     RD Tryz.prog (bin .lss 3 (.tmp 0) (.const undef) x38 (Value.int .i64 0)) w fun x40 =>
     BR x40
     (R (Value.bool false) w)
     (CALL Tryz.prog 27 [x26, x21] w fun x44 w =>
     RD Tryz.prog (Op.unary .not x44) w fun x45 =>
     BR x45
      (R (Value.bool false) w)
      (CALL Tryz.prog 28 [x26, (Value.int .i64 1)] w fun x49 w =>
      CALL Tryz.prog 29 [x26, (Value.int .i64 1)] w fun x52 w =>
      RD Tryz.prog (bin .lss 3 (.tmp 0) (.const undef) x52 (Value.int .i64 0)) w fun x54 =>
      BR x54
       (R (Value.bool false) w)
       (RD Tryz.prog (bin .neq 3 (.tmp 0) (.tmp 0) x52 x49) w fun x57 =>
       BR x57
        (R (Value.bool false) w)
        (RD Tryz.prog (Instr.loadAt 26 x2) w fun x58 =>
        CALL Tryz.prog 17 [x58] w fun x59 w =>
        CALL Tryz.prog 36 [x59, a1] w fun x61 w =>
        CALL Tryz.prog 27 [x61, x21] w fun x64 w =>
        RD Tryz.prog (Op.unary .not x64) w fun x65 =>
        BR x65
         (R (Value.bool false) w)
         (CALL Tryz.prog 29 [x26, (Value.int .i64 1)] w fun x68 w =>
         RD Tryz.prog (bin .lss 3 (.tmp 0) (.const undef) x68 (Value.int .i64 0)) w fun x70 =>
         BR x70
          (R (Value.bool false) w)
          (RD Tryz.prog (bin .neq 3 (.tmp 0) (.tmp 0) x68 x49) w fun x73 =>
          BR x73
           (R (Value.bool false) w)
           (R (Value.bool true) w))))))))) w) (World.drew1 w)))
def cfg6 : Cfg := { ext := extL, joins := [], loops := [], draws := [(10, [0, 1, 2, 3, 4], 4)], pars := [] }
theorem F6_eq (a0 a1 : Value) (w : World) (R : Value → World → Prop) : vcF Tryz.prog cfg6 Tryz.f6 [a0, a1] w R = F6 a0 a1 w R := by kernel_rfl
theorem F6_call {a0 a1 : Value} {w : World} {R : Value → World → Prop} (h : F6 a0 a1 w R) : CALL Tryz.prog 6 [a0, a1] w R :=
  call_of (g := cfg6) ent mixed Tryz.func6 (Nat.le_of_ble_eq_true (by kernel_rfl)) (by kernel_rfl) (F6_eq a0 a1 w R ▸ h)


theorem lawEndsOf {w : World} {v0 : Value} {W0 : World} {c : DCode} {m : Int}  (h0 : Is W0 v0 c) (e0 : Ext W0 w)  :
    CALL Tryz.prog 6 [v0, .int .i64 m] w fun r w' => Ext w w' ∧ (r = .bool true) := by
  refine F6_call ?_
  unfold F6
  have hs_e0 := e0.size
  refine op_boxS ty26 rfl h0 e0 fun w1_ hx1_ hA2 hV2 => ?_
  have hs_hx1_ := hx1_.size
  refine rd_var hV2 (Ext.refl w1_) ?_
  refine (szCode_ok h0 (e0.trans hx1_) (by omega) (by omega)).mono ?_
  rintro _ w2_ ⟨hx2_, n15, rfl, hn15⟩
  have hs_hx2_ := hx2_.size
  refine rd_lss ?_
  refine br (fun c1 => ?_) (fun c1 => ?_)
  · refine ⟨(hx1_.trans hx2_), ?_⟩
    first | rfl | contradiction | (exfalso; omega)
  · refine rd_var hV2 hx2_ ?_
    refine (toCode_ok (h0.ext (e0.trans (hx1_.trans hx2_))) (by omega)).mono ?_
    rintro r19 w3_ ⟨hx3_, o19⟩
    have o19 := o19.toI
    have hs_hx3_ := hx3_.size
    refine (specEndsOf_L o19.is (Ext.refl w3_) (by omega)).mono ?_
    rintro r21 w4_ ⟨hx4_, o21, hsa21, hsb21, hsc21⟩
    have o21 := o21.toI
    have hs_hx4_ := hx4_.size
    refine rd_var hV2 (hx2_.trans (hx3_.trans hx4_)) ?_
    refine (toCode_ok (h0.ext (e0.trans (hx1_.trans (hx2_.trans (hx3_.trans hx4_))))) (by omega)).mono ?_
    rintro r23 w5_ ⟨hx5_, o23⟩
    have o23 := o23.toI
    have hs_hx5_ := hx5_.size
    refine op_var zl37 rfl ty37 rfl o23.is (Ext.refl w5_) fun w6_ hx6_ hA7 hV7 => ?_
    have hs_hx6_ := hx6_.size
    have hg7 := hV7.lt
    refine rd_var hV7 (Ext.refl w6_) ?_
    refine (implEndsOf_L o23.is hx6_ (by omega)).mono ?_
    rintro r26 w7_ ⟨hx7_, o26, hsa26, hsb26, hsc26⟩
    have o26 := o26.toI
    have hs_hx7_ := hx7_.size
    refine (eqStateS_ok o26.is (Ext.refl w7_) o21.is (hx5_.trans (hx6_.trans hx7_))).mono ?_
    rintro _ w8_ ⟨hx8_, rfl⟩
    have hs_hx8_ := hx8_.size
    refine rd_nodec ?_
    refine br (fun c2 => ?_) (fun c2 => ?_)
    · refine ⟨(hx1_.trans (hx2_.trans (hx3_.trans (hx4_.trans (hx5_.trans (hx6_.trans (hx7_.trans hx8_))))))), ?_⟩
      first | rfl | contradiction | (exfalso; omega)
    · have hx9_ := ext_drew w8_
      have hs_hx9_ := hx9_.size
      refine rd_var hV7 (hx7_.trans (hx8_.trans hx9_)) ?_
      refine rd_var hV2 (hx2_.trans (hx3_.trans (hx4_.trans (hx5_.trans (hx6_.trans (hx7_.trans (hx8_.trans hx9_))))))) ?_
      refine (toCode_ok (h0.ext (e0.trans (hx1_.trans (hx2_.trans (hx3_.trans (hx4_.trans (hx5_.trans (hx6_.trans (hx7_.trans (hx8_.trans hx9_)))))))))) (by omega)).mono ?_
      rintro r33 w10_ ⟨hx10_, o33⟩
      have o33 := o33.toI
      have hs_hx10_ := hx10_.size
      refine ⟨hx10_, ?_⟩
      refine (eqCode_ok o23.is (hx6_.trans (hx7_.trans (hx8_.trans (hx9_.trans hx10_)))) o33.is (Ext.refl w10_)).mono ?_
      rintro _ w11_ ⟨hx11_, rfl⟩
      have hs_hx11_ := hx11_.size
      refine rd_nodec ?_
      refine br (fun c3 => ?_) (fun c3 => ?_)
      · refine ⟨(hx1_.trans (hx2_.trans (hx3_.trans (hx4_.trans (hx5_.trans (hx6_.trans (hx7_.trans (hx8_.trans (hx9_.trans (hx10_.trans hx11_)))))))))), ?_⟩
        first | rfl | contradiction | (exfalso; omega)
      · refine rd_var hV7 (hx7_.trans (hx8_.trans (hx9_.trans (hx10_.trans hx11_)))) ?_
        refine (markCode_ok (o23.ext (hx6_.trans (hx7_.trans (hx8_.trans (hx9_.trans (hx10_.trans hx11_)))))) (by omega) (by omega) (by omega)).mono ?_
        rintro _ w12_ ⟨n38, rfl, hn38, hc12_⟩
        have hs_hc12_ := hc12_.size
        have o19_c12 := (o19.ext (hx4_.trans (hx5_.trans (hx6_.trans (hx7_.trans (hx8_.trans (hx9_.trans (hx10_.trans hx11_)))))))).chg hc12_ (by omega)
        have o21_c12 := (o21.ext (hx5_.trans (hx6_.trans (hx7_.trans (hx8_.trans (hx9_.trans (hx10_.trans hx11_))))))).chg hc12_ (by omega)
        have hV7_c12 := (hV7.ext (hx7_.trans (hx8_.trans (hx9_.trans (hx10_.trans hx11_))))).chgI hc12_ (by omega)
        have o26_c12 := (o26.ext (hx8_.trans (hx9_.trans (hx10_.trans hx11_)))).chg hc12_ (by omega)
        have o33_c12 := (o33.ext hx11_).chg hc12_ (by omega)
        refine rd_lss ?_
        refine br (fun c4 => ?_) (fun c4 => ?_)
        · refine ⟨(Ext.chgI ((((((((((hx1_.trans hx2_).trans hx3_).trans hx4_).trans hx5_).trans hx6_).trans hx7_).trans hx8_).trans hx9_).trans hx10_).trans hx11_) hc12_ (by omega)), ?_⟩
          first | rfl | contradiction | (exfalso; omega)
        · refine (eqStateS_ok o26_c12.is (Ext.refl w12_) o21_c12.is (Ext.refl w12_)).mono ?_
          rintro _ w13_ ⟨hx13_, rfl⟩
          have hs_hx13_ := hx13_.size
          refine rd_nodec ?_
          refine br (fun c5 => ?_) (fun c5 => ?_)
          · refine ⟨((Ext.chgI ((((((((((hx1_.trans hx2_).trans hx3_).trans hx4_).trans hx5_).trans hx6_).trans hx7_).trans hx8_).trans hx9_).trans hx10_).trans hx11_) hc12_ (by omega)).trans hx13_), ?_⟩
            first | rfl | contradiction | (exfalso; omega)
          · refine (markStateS_ok (o26_c12.ext hx13_) (by omega) (by omega) (by assumption) (by omega) (by omega)).mono ?_
            rintro _ w14_ ⟨rfl, hc14_, o26_c14⟩
            have hs_hc14_ := hc14_.size
            have o19_c14 := (o19_c12.ext hx13_).chg hc14_ (by omega)
            have o21_c14 := (o21_c12.ext hx13_).chg hc14_ (by omega)
            have o33_c14 := (o33_c12.ext hx13_).chg hc14_ (by omega)
            refine (heldStateS_ok o26_c14.is (Ext.refl w14_) (by omega) (by omega) (by assumption) (by omega) (by omega)).mono ?_
            rintro _ w15_ ⟨hx15_, rfl⟩
            have hs_hx15_ := hx15_.size
            refine rd_lss ?_
            refine br (fun c6 => ?_) (fun c6 => ?_)
            · refine ⟨((Ext.chgI ((Ext.chgI ((((((((((hx1_.trans hx2_).trans hx3_).trans hx4_).trans hx5_).trans hx6_).trans hx7_).trans hx8_).trans hx9_).trans hx10_).trans hx11_) hc12_ (by omega)).trans hx13_) hc14_ (by omega)).trans hx15_), ?_⟩
              first | rfl | contradiction | (exfalso; omega)
            · refine rd_neq ?_
              refine br (fun c7 => ?_) (fun c7 => ?_)
              · refine ⟨((Ext.chgI ((Ext.chgI ((((((((((hx1_.trans hx2_).trans hx3_).trans hx4_).trans hx5_).trans hx6_).trans hx7_).trans hx8_).trans hx9_).trans hx10_).trans hx11_) hc12_ (by omega)).trans hx13_) hc14_ (by omega)).trans hx15_), ?_⟩
                first | rfl | contradiction | (exfalso; omega)
              · refine rd_var hV2 ((Ext.chgI ((Ext.chgI (((((((((hx2_.trans hx3_).trans hx4_).trans hx5_).trans hx6_).trans hx7_).trans hx8_).trans hx9_).trans hx10_).trans hx11_) hc12_ (by omega)).trans hx13_) hc14_ (by omega)).trans hx15_) ?_
                refine (toCode_ok (h0.ext ((Ext.chgI ((Ext.chgI (((((((((((e0.trans hx1_).trans hx2_).trans hx3_).trans hx4_).trans hx5_).trans hx6_).trans hx7_).trans hx8_).trans hx9_).trans hx10_).trans hx11_) hc12_ (by omega)).trans hx13_) hc14_ (by omega)).trans hx15_)) (by omega)).mono ?_
                rintro r59 w16_ ⟨hx16_, o59⟩
                have o59 := o59.toI
                have hs_hx16_ := hx16_.size
                refine (implEndsOf_L o59.is (Ext.refl w16_) (by omega)).mono ?_
                rintro r61 w17_ ⟨hx17_, o61, hsa61, hsb61, hsc61⟩
                have o61 := o61.toI
                have hs_hx17_ := hx17_.size
                refine (eqStateS_ok o61.is (Ext.refl w17_) o21_c14.is (hx15_.trans (hx16_.trans hx17_))).mono ?_
                rintro _ w18_ ⟨hx18_, rfl⟩
                have hs_hx18_ := hx18_.size
                refine rd_nodec ?_
                refine br (fun c8 => ?_) (fun c8 => ?_)
                · refine ⟨(((((Ext.chgI ((Ext.chgI ((((((((((hx1_.trans hx2_).trans hx3_).trans hx4_).trans hx5_).trans hx6_).trans hx7_).trans hx8_).trans hx9_).trans hx10_).trans hx11_) hc12_ (by omega)).trans hx13_) hc14_ (by omega)).trans hx15_).trans hx16_).trans hx17_).trans hx18_), ?_⟩
                  first | rfl | contradiction | (exfalso; omega)
                · refine (heldStateS_ok o26_c14.is (hx15_.trans (hx16_.trans (hx17_.trans hx18_))) (by omega) (by omega) (by assumption) (by omega) (by omega)).mono ?_
                  rintro _ w19_ ⟨hx19_, rfl⟩
                  have hs_hx19_ := hx19_.size
                  refine rd_lss ?_
                  refine br (fun c9 => ?_) (fun c9 => ?_)
                  · refine ⟨((((((Ext.chgI ((Ext.chgI ((((((((((hx1_.trans hx2_).trans hx3_).trans hx4_).trans hx5_).trans hx6_).trans hx7_).trans hx8_).trans hx9_).trans hx10_).trans hx11_) hc12_ (by omega)).trans hx13_) hc14_ (by omega)).trans hx15_).trans hx16_).trans hx17_).trans hx18_).trans hx19_), ?_⟩
                    first | rfl | contradiction | (exfalso; omega)
                  · refine rd_neq ?_
                    refine br (fun c10 => ?_) (fun c10 => ?_)
                    · refine ⟨((((((Ext.chgI ((Ext.chgI ((((((((((hx1_.trans hx2_).trans hx3_).trans hx4_).trans hx5_).trans hx6_).trans hx7_).trans hx8_).trans hx9_).trans hx10_).trans hx11_) hc12_ (by omega)).trans hx13_) hc14_ (by omega)).trans hx15_).trans hx16_).trans hx17_).trans hx18_).trans hx19_), ?_⟩
                      first | rfl | contradiction | (exfalso; omega)
                    · refine ⟨((((((Ext.chgI ((Ext.chgI ((((((((((hx1_.trans hx2_).trans hx3_).trans hx4_).trans hx5_).trans hx6_).trans hx7_).trans hx8_).trans hx9_).trans hx10_).trans hx11_) hc12_ (by omega)).trans hx13_) hc14_ (by omega)).trans hx15_).trans hx16_).trans hx17_).trans hx18_).trans hx19_), ?_⟩
                      first | rfl | contradiction | (exfalso; omega)

end Go.Proofs.YteephmhilnlkpaaGreat
