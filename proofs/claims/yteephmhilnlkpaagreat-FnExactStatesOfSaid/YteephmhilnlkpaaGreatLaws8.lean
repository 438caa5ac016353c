/-
  The law of all states: it returns true.
-/
import Derived.Test.YteephmhilnlkpaaGreatWays
import Derived.Test.YteephmhilnlkpaaGreatMarkSt
namespace Go.Proofs.YteephmhilnlkpaaGreat
open Go Go.Sh Go.Proofs
set_option linter.unusedVariables false

theorem cdOk_of8 {c : DCode} {n m : Int} (hm : m ≤ 1048576) (h : -1 ≤ n ∧ n ≤ m ∧ (0 ≤ n → n + wCode c ≤ m)) (hc : ¬ n < 0) : wCode c ≤ 1048576 := by
  have := h.2.2 (by omega)
  omega
theorem sm_le8 {α : Type} {f : α → Nat} {b : Nat} : ∀ {l : List α}, (∀ x ∈ l, f x ≤ b) → (l.map f).sum ≤ l.length * b
  | [], _ => by simp
  | x :: l, h => by
    have h1 := sm_le8 (l := l) fun y hy => h y (List.mem_cons_of_mem _ hy)
    have h2 := h x List.mem_cons_self
    simp only [List.map_cons, List.sum_cons, List.length_cons, Nat.add_mul]
    omega
theorem stSz_n8 {c : DCode} {s : DState} (hc : CodeR c) (hs : StateR c s) : s.stacks.length + nSt s ≤ 1000 := by
  have h1 := hc.1.globals6
  have h2 := hc.1.locks6
  have h3 := hs.1
  have h4 := hs.2.1
  have h5 := hs.2.2.1
  have h6 := sm_le8 (f := List.length) (b := 8) fun x hx => (hs.2.2.2.2.2 x hx).1
  have h7 : s.stacks.length * 8 ≤ 48 := by omega
  simp only [nSt, nLL, sm]
  omega
theorem states_n {c : DCode} {m : Int} (h : CodeR c → TrOk c (mostN m) (lookD c (mostN m))) : (statesOf c m).length ≤ 150 ∧ nSS (statesOf c m) ≤ 1000000 ∧ ∀ s ∈ statesOf c m, s.stacks.length ≤ 1048576 := by
  unfold statesOf
  split
  · rename_i hc
    have hk := h hc
    have hm := hk.many
    have hb := brought_in m
    have hM : mostN m ≤ 150 := by unfold mostN; omega
    have hl : (lookD c (mostN m)).states.length ≤ 150 := by omega
    refine ⟨hl, ?_, fun s hs => by have := (hk.right s hs).2.2.1; omega⟩
    have := sm_le8 (f := nSt) (b := 1000) (l := (lookD c (mostN m)).states) fun s hs => by have := stSz_n8 hc (hk.right s hs); omega
    unfold nSS sm
    omega
  · exact ⟨by simp, by simp [nSS, sm], by simp⟩
theorem implStatesOf_L {w W0 : World} {v0 : Value} {c : DCode} {m : Int} (h0 : Is W0 v0 c) (e0 : Ext W0 w) (hw : wCode c ≤ 1048576) :
    CALL Tryz.prog 26 [v0, .int .i64 m] w fun r w' => Ext w w' ∧ ∃ a, r = .tuple #[a, .bool (wholeOf c m)] ∧ Own w.heap.size w' a (statesOf c m) ∧ (statesOf c m).length ≤ 150 ∧ nSS (statesOf c m) ≤ 1000000 ∧ ∀ s ∈ statesOf c m, s.stacks.length ≤ 1048576 :=
  (implStatesOf_ok h0 e0 hw).mono fun r w' ⟨hx, ⟨a, h1, h2⟩, h3⟩ => ⟨hx, a, h1, h2, states_n h3⟩
theorem specStatesOf_L {w W0 : World} {v0 : Value} {c : DCode} {m : Int} (h0 : Is W0 v0 c) (e0 : Ext W0 w) (hw : wCode c ≤ 1048576) :
    CALL Tryz.prog 25 [v0, .int .i64 m] w fun r w' => Ext w w' ∧ ∃ a, r = .tuple #[a, .bool (wholeOf c m)] ∧ Own w.heap.size w' a (statesOf c m) ∧ (statesOf c m).length ≤ 150 ∧ nSS (statesOf c m) ≤ 1000000 ∧ ∀ s ∈ statesOf c m, s.stacks.length ≤ 1048576 :=
  (specStatesOf_ok h0 e0 hw).mono fun r w' ⟨hx, ⟨a, h1, h2⟩, h3⟩ => ⟨hx, a, h1, h2, states_n h3⟩
/-- laws.FnExactStatesOf -/
def F4 (a0 a1 : Value) (w : World) (R : Value → World → Prop) : Prop :=
  OP Tryz.prog (Instr.box 26 a0) w fun x2 w =>
  RD Tryz.prog (Instr.loadAt 26 x2) w fun x16 =>
  CALL Tryz.prog 14 [x16, (Value.int .i64 1048576)] w fun x18 w =>
  RD Tryz.prog (bin .lss 3 (.tmp 0) (.const undef) x18 (Value.int .i64 0)) w fun x20 =>
  BR x20
   (R (Value.bool true) w)
   (RD Tryz.prog (Instr.loadAt 26 x2) w fun x22 =>
   CALL Tryz.prog 17 [x22] w fun x23 w =>
   CALL Tryz.prog 25 [x23, a1] w fun x25 w =>
   RD Tryz.prog (Instr.extract x25 0) w fun x26 =>
   RD Tryz.prog (Instr.extract x25 1) w fun x27 =>
   RD Tryz.prog (Instr.loadAt 26 x2) w fun x28 =>
   CALL Tryz.prog 17 [x28] w fun x29 w =>
   OP Tryz.prog (Instr.alloc 37 true (.tuple #[])) w fun x8 w =>
   OPU Tryz.prog (Instr.storeAt 37 x8 x29) w fun w =>
   RD Tryz.prog (Instr.loadAt 37 x8) w fun x31 =>
   CALL Tryz.prog 26 [x31, a1] w fun x33 w =>
   RD Tryz.prog (Instr.extract x33 0) w fun x34 =>
   RD Tryz.prog (Instr.extract x33 1) w fun x35 =>
   CALL Tryz.prog 27 [x34, x26] w fun x38 w =>
   RD Tryz.prog (Op.unary .not x38) w fun x39 =>
   BR x39
   (R (Value.bool false) w)
   (RD Tryz.prog (bin .neq 4 (.tmp 0) (.tmp 0) x35 x27) w fun x43 =>
   BR x43
    (R (Value.bool false) w)
    ((fun w => RD Tryz.prog (Instr.loadAt 37 x8) w fun x45 =>
    RD Tryz.prog (Instr.loadAt 26 x2) w fun x46 =>
    (fun w_ => CALL Tryz.prog 17 [x46] w_ fun x47 w =>
    Ext w_ w ∧
    CALL Tryz.prog 21 [x45, x47] w fun x48 w =>
    RD Tryz.prog (Op.unary .not x48) w fun x49 =>
    BR x49
     (R (Value.bool false) w)
     (RD Tryz.prog (Instr.loadAt 37 x8) w fun x50 =>
     CALL Tryz.prog 22 [x50, (Value.int .i64 1)] w fun x52 w =>
     RD Tryz.prog (bin .lss 3 (.tmp 0) (.const undef) x52 (Value.int .i64 0)) w fun x54 =>
     BR x54
     (R (Value.bool false) w)
     (CALL Tryz.prog 27 [x34, x26] w fun x58 w =>
     RD Tryz.prog (Op.unary .not x58) w fun x59 =>
     BR x59
     (R (Value.bool false) w)
     (RD Tryz.prog (bin .neq 4 (.tmp 0) (.tmp 0) x35 x27) w fun x64 =>
     BR x64
      (R (Value.bool false) w)
      (CALL Tryz.prog 28 [x34, (Value.int .i64 1)] w fun x68 w =>
      CALL Tryz.prog 29 [x34, (Value.int .i64 1)] w fun x71 w =>
      RD Tryz.prog (bin .lss 3 (.tmp 0) (.const undef) x71 (Value.int .i64 0)) w fun x73 =>
      BR x73
       (R (Value.bool false) w)
       (RD Tryz.prog (bin .neq 3 (.tmp 0) (.tmp 0) x71 x68) w fun x76 =>
       BR x76
        (R (Value.bool false) w)
        (RD Tryz.prog (Instr.loadAt 26 x2) w fun x78 =>
        CALL Tryz.prog 17 [x78] w fun x79 w =>
        CALL Tryz.prog 26 [x79, a1] w fun x81 w =>
        RD Tryz.prog (Instr.extract x81 0) w fun x82 =>
        RD Tryz.prog (Instr.extract x81 1) w fun x83 =>
        CALL Tryz.prog 27 [x82, x26] w fun x86 w =>
        RD Tryz.prog (Op.unary .not x86) w fun x87 =>
        BR x87
        (R (Value.bool false) w)
        (RD Tryz.prog (bin .neq 4 (.tmp 0) (.tmp 0) x83 x27) w fun x91 =>
        BR x91
         (R (Value.bool false) w)
         (CALL Tryz.prog 29 [x34, (Value.int .i64 1)] w fun x95 w =>
         RD Tryz.prog (bin .lss 3 (.tmp 0) (.const undef) x95 (Value.int .i64 0)) w fun x97 =>
         BR x97
          (R (Value.bool false) w)
          (RD Tryz.prog (bin .neq 3 (.tmp 0) (.tmp 0) x95 x68) w fun x100 =>
          BR x100
           (R (Value.bool false) w)
           (R (Value.bool true) w))))))))))) w) (World.drew1 w))))
def cfg4 : Cfg := { ext := extL, joins := [], loops := [], draws := [(10, [0, 1, 2, 3, 4], 4)], pars := [] }
theorem F4_eq (a0 a1 : Value) (w : World) (R : Value → World → Prop) : vcF Tryz.prog cfg4 Tryz.f4 [a0, a1] w R = F4 a0 a1 w R := by kernel_rfl
theorem F4_call {a0 a1 : Value} {w : World} {R : Value → World → Prop} (h : F4 a0 a1 w R) : CALL Tryz.prog 4 [a0, a1] w R :=
  call_of (g := cfg4) ent mixed Tryz.func4 (Nat.le_of_ble_eq_true (by kernel_rfl)) (by kernel_rfl) (F4_eq a0 a1 w R ▸ h)


theorem lawStatesOf {w : World} {v0 : Value} {W0 : World} {c : DCode} {m : Int}  (h0 : Is W0 v0 c) (e0 : Ext W0 w)  :
    CALL Tryz.prog 4 [v0, .int .i64 m] w fun r w' => Ext w w' ∧ (r = .bool true) := by
  refine F4_call ?_
  unfold F4
  have hs_e0 := e0.size
  refine op_boxS ty26 rfl h0 e0 fun w1_ hx1_ hA2 hV2 => ?_
  have hs_hx1_ := hx1_.size
  refine rd_var hV2 (Ext.refl w1_) ?_
  refine (szCode_ok h0 (e0.trans hx1_) (by omega) (by omega)).mono ?_
  rintro _ w2_ ⟨hx2_, n18, rfl, hn18⟩
  have hs_hx2_ := hx2_.size
  refine rd_lss ?_
  refine br (fun c1 => ?_) (fun c1 => ?_)
  · refine ⟨(hx1_.trans hx2_), ?_⟩
    first | rfl | contradiction | (exfalso; omega)
  · refine rd_var hV2 hx2_ ?_
    refine (toCode_ok (h0.ext (e0.trans (hx1_.trans hx2_))) (by omega)).mono ?_
    rintro r23 w3_ ⟨hx3_, o23⟩
    have o23 := o23.toI
    have hs_hx3_ := hx3_.size
    refine (specStatesOf_L o23.is (Ext.refl w3_) (by omega)).mono ?_
    rintro _ w4_ ⟨hx4_, r25_0, rfl, o25_0, hsa25, hsb25, hsc25⟩
    have o25_0 := o25_0.toI
    have hs_hx4_ := hx4_.size
    refine rd_extract rfl ?_
    refine rd_extract rfl ?_
    refine rd_var hV2 (hx2_.trans (hx3_.trans hx4_)) ?_
    refine (toCode_ok (h0.ext (e0.trans (hx1_.trans (hx2_.trans (hx3_.trans hx4_))))) (by omega)).mono ?_
    rintro r29 w5_ ⟨hx5_, o29⟩
    have o29 := o29.toI
    have hs_hx5_ := hx5_.size
    refine op_var zl37 rfl ty37 rfl o29.is (Ext.refl w5_) fun w6_ hx6_ hA8 hV8 => ?_
    have hs_hx6_ := hx6_.size
    have hg8 := hV8.lt
    refine rd_var hV8 (Ext.refl w6_) ?_
    refine (implStatesOf_L o29.is hx6_ (by omega)).mono ?_
    rintro _ w7_ ⟨hx7_, r33_0, rfl, o33_0, hsa33, hsb33, hsc33⟩
    have o33_0 := o33_0.toI
    have hs_hx7_ := hx7_.size
    refine rd_extract rfl ?_
    refine rd_extract rfl ?_
    refine (eqStateS_ok o33_0.is (Ext.refl w7_) o25_0.is (hx5_.trans (hx6_.trans hx7_))).mono ?_
    rintro _ w8_ ⟨hx8_, rfl⟩
    have hs_hx8_ := hx8_.size
    refine rd_nodec ?_
    refine br (fun c2 => ?_) (fun c2 => ?_)
    · refine ⟨(hx1_.trans (hx2_.trans (hx3_.trans (hx4_.trans (hx5_.trans (hx6_.trans (hx7_.trans hx8_))))))), ?_⟩
      first | rfl | contradiction | (exfalso; omega)
    · refine rd_neqB u4 ?_
      refine br (fun c3 => ?_) (fun c3 => ?_)
      · refine ⟨(hx1_.trans (hx2_.trans (hx3_.trans (hx4_.trans (hx5_.trans (hx6_.trans (hx7_.trans hx8_))))))), ?_⟩
        first | rfl | contradiction | (exfalso; omega)
      · have hx9_ := ext_drew w8_
        have hs_hx9_ := hx9_.size
        refine rd_var hV8 (hx7_.trans (hx8_.trans hx9_)) ?_
        refine rd_var hV2 (hx2_.trans (hx3_.trans (hx4_.trans (hx5_.trans (hx6_.trans (hx7_.trans (hx8_.trans hx9_))))))) ?_
        refine (toCode_ok (h0.ext (e0.trans (hx1_.trans (hx2_.trans (hx3_.trans (hx4_.trans (hx5_.trans (hx6_.trans (hx7_.trans (hx8_.trans hx9_)))))))))) (by omega)).mono ?_
        rintro r47 w10_ ⟨hx10_, o47⟩
        have o47 := o47.toI
        have hs_hx10_ := hx10_.size
        refine ⟨hx10_, ?_⟩
        refine (eqCode_ok o29.is (hx6_.trans (hx7_.trans (hx8_.trans (hx9_.trans hx10_)))) o47.is (Ext.refl w10_)).mono ?_
        rintro _ w11_ ⟨hx11_, rfl⟩
        have hs_hx11_ := hx11_.size
        refine rd_nodec ?_
        refine br (fun c4 => ?_) (fun c4 => ?_)
        · refine ⟨(hx1_.trans (hx2_.trans (hx3_.trans (hx4_.trans (hx5_.trans (hx6_.trans (hx7_.trans (hx8_.trans (hx9_.trans (hx10_.trans hx11_)))))))))), ?_⟩
          first | rfl | contradiction | (exfalso; omega)
        · refine rd_var hV8 (hx7_.trans (hx8_.trans (hx9_.trans (hx10_.trans hx11_)))) ?_
          refine (markCode_ok (o29.ext (hx6_.trans (hx7_.trans (hx8_.trans (hx9_.trans (hx10_.trans hx11_)))))) (by omega) (by omega) (by omega)).mono ?_
          rintro _ w12_ ⟨n52, rfl, hn52, hc12_⟩
          have hs_hc12_ := hc12_.size
          have o23_c12 := (o23.ext (hx4_.trans (hx5_.trans (hx6_.trans (hx7_.trans (hx8_.trans (hx9_.trans (hx10_.trans hx11_)))))))).chg hc12_ (by omega)
          have o25_0_c12 := (o25_0.ext (hx5_.trans (hx6_.trans (hx7_.trans (hx8_.trans (hx9_.trans (hx10_.trans hx11_))))))).chg hc12_ (by omega)
          have hV8_c12 := (hV8.ext (hx7_.trans (hx8_.trans (hx9_.trans (hx10_.trans hx11_))))).chgI hc12_ (by omega)
          have o33_0_c12 := (o33_0.ext (hx8_.trans (hx9_.trans (hx10_.trans hx11_)))).chg hc12_ (by omega)
          have o47_c12 := (o47.ext hx11_).chg hc12_ (by omega)
          refine rd_lss ?_
          refine br (fun c5 => ?_) (fun c5 => ?_)
          · refine ⟨(Ext.chgI ((((((((((hx1_.trans hx2_).trans hx3_).trans hx4_).trans hx5_).trans hx6_).trans hx7_).trans hx8_).trans hx9_).trans hx10_).trans hx11_) hc12_ (by omega)), ?_⟩
            first | rfl | contradiction | (exfalso; omega)
          · refine (eqStateS_ok o33_0_c12.is (Ext.refl w12_) o25_0_c12.is (Ext.refl w12_)).mono ?_
            rintro _ w13_ ⟨hx13_, rfl⟩
            have hs_hx13_ := hx13_.size
            refine rd_nodec ?_
            refine br (fun c6 => ?_) (fun c6 => ?_)
            · refine ⟨((Ext.chgI ((((((((((hx1_.trans hx2_).trans hx3_).trans hx4_).trans hx5_).trans hx6_).trans hx7_).trans hx8_).trans hx9_).trans hx10_).trans hx11_) hc12_ (by omega)).trans hx13_), ?_⟩
              first | rfl | contradiction | (exfalso; omega)
            · refine rd_neqB u4 ?_
              refine br (fun c7 => ?_) (fun c7 => ?_)
              · refine ⟨((Ext.chgI ((((((((((hx1_.trans hx2_).trans hx3_).trans hx4_).trans hx5_).trans hx6_).trans hx7_).trans hx8_).trans hx9_).trans hx10_).trans hx11_) hc12_ (by omega)).trans hx13_), ?_⟩
                first | rfl | contradiction | (exfalso; omega)
              · refine (markStateS_ok (o33_0_c12.ext hx13_) (by omega) (by omega) (by assumption) (by omega) (by omega)).mono ?_
                rintro _ w14_ ⟨rfl, hc14_, o33_0_c14⟩
                have hs_hc14_ := hc14_.size
                have o23_c14 := (o23_c12.ext hx13_).chg hc14_ (by omega)
                have o25_0_c14 := (o25_0_c12.ext hx13_).chg hc14_ (by omega)
                have o47_c14 := (o47_c12.ext hx13_).chg hc14_ (by omega)
                refine (heldStateS_ok o33_0_c14.is (Ext.refl w14_) (by omega) (by omega) (by assumption) (by omega) (by omega)).mono ?_
                rintro _ w15_ ⟨hx15_, rfl⟩
                have hs_hx15_ := hx15_.size
                refine rd_lss ?_
                refine br (fun c8 => ?_) (fun c8 => ?_)
                · refine ⟨((Ext.chgI ((Ext.chgI ((((((((((hx1_.trans hx2_).trans hx3_).trans hx4_).trans hx5_).trans hx6_).trans hx7_).trans hx8_).trans hx9_).trans hx10_).trans hx11_) hc12_ (by omega)).trans hx13_) hc14_ (by omega)).trans hx15_), ?_⟩
                  first | rfl | contradiction | (exfalso; omega)
                · refine rd_neq ?_
                  refine br (fun c9 => ?_) (fun c9 => ?_)
                  · refine ⟨((Ext.chgI ((Ext.chgI ((((((((((hx1_.trans hx2_).trans hx3_).trans hx4_).trans hx5_).trans hx6_).trans hx7_).trans hx8_).trans hx9_).trans hx10_).trans hx11_) hc12_ (by omega)).trans hx13_) hc14_ (by omega)).trans hx15_), ?_⟩
                    first | rfl | contradiction | (exfalso; omega)
                  · refine rd_var hV2 ((Ext.chgI ((Ext.chgI (((((((((hx2_.trans hx3_).trans hx4_).trans hx5_).trans hx6_).trans hx7_).trans hx8_).trans hx9_).trans hx10_).trans hx11_) hc12_ (by omega)).trans hx13_) hc14_ (by omega)).trans hx15_) ?_
                    refine (toCode_ok (h0.ext ((Ext.chgI ((Ext.chgI (((((((((((e0.trans hx1_).trans hx2_).trans hx3_).trans hx4_).trans hx5_).trans hx6_).trans hx7_).trans hx8_).trans hx9_).trans hx10_).trans hx11_) hc12_ (by omega)).trans hx13_) hc14_ (by omega)).trans hx15_)) (by omega)).mono ?_
                    rintro r79 w16_ ⟨hx16_, o79⟩
                    have o79 := o79.toI
                    have hs_hx16_ := hx16_.size
                    refine (implStatesOf_L o79.is (Ext.refl w16_) (by omega)).mono ?_
                    rintro _ w17_ ⟨hx17_, r81_0, rfl, o81_0, hsa81, hsb81, hsc81⟩
                    have o81_0 := o81_0.toI
                    have hs_hx17_ := hx17_.size
                    refine rd_extract rfl ?_
                    refine rd_extract rfl ?_
                    refine (eqStateS_ok o81_0.is (Ext.refl w17_) o25_0_c14.is (hx15_.trans (hx16_.trans hx17_))).mono ?_
                    rintro _ w18_ ⟨hx18_, rfl⟩
                    have hs_hx18_ := hx18_.size
                    refine rd_nodec ?_
                    refine br (fun c10 => ?_) (fun c10 => ?_)
                    · refine ⟨(((((Ext.chgI ((Ext.chgI ((((((((((hx1_.trans hx2_).trans hx3_).trans hx4_).trans hx5_).trans hx6_).trans hx7_).trans hx8_).trans hx9_).trans hx10_).trans hx11_) hc12_ (by omega)).trans hx13_) hc14_ (by omega)).trans hx15_).trans hx16_).trans hx17_).trans hx18_), ?_⟩
                      first | rfl | contradiction | (exfalso; omega)
                    · refine rd_neqB u4 ?_
                      refine br (fun c11 => ?_) (fun c11 => ?_)
                      · refine ⟨(((((Ext.chgI ((Ext.chgI ((((((((((hx1_.trans hx2_).trans hx3_).trans hx4_).trans hx5_).trans hx6_).trans hx7_).trans hx8_).trans hx9_).trans hx10_).trans hx11_) hc12_ (by omega)).trans hx13_) hc14_ (by omega)).trans hx15_).trans hx16_).trans hx17_).trans hx18_), ?_⟩
                        first | rfl | contradiction | (exfalso; omega)
                      · refine (heldStateS_ok o33_0_c14.is (hx15_.trans (hx16_.trans (hx17_.trans hx18_))) (by omega) (by omega) (by assumption) (by omega) (by omega)).mono ?_
                        rintro _ w19_ ⟨hx19_, rfl⟩
                        have hs_hx19_ := hx19_.size
                        refine rd_lss ?_
                        refine br (fun c12 => ?_) (fun c12 => ?_)
                        · refine ⟨((((((Ext.chgI ((Ext.chgI ((((((((((hx1_.trans hx2_).trans hx3_).trans hx4_).trans hx5_).trans hx6_).trans hx7_).trans hx8_).trans hx9_).trans hx10_).trans hx11_) hc12_ (by omega)).trans hx13_) hc14_ (by omega)).trans hx15_).trans hx16_).trans hx17_).trans hx18_).trans hx19_), ?_⟩
                          first | rfl | contradiction | (exfalso; omega)
                        · refine rd_neq ?_
                          refine br (fun c13 => ?_) (fun c13 => ?_)
                          · refine ⟨((((((Ext.chgI ((Ext.chgI ((((((((((hx1_.trans hx2_).trans hx3_).trans hx4_).trans hx5_).trans hx6_).trans hx7_).trans hx8_).trans hx9_).trans hx10_).trans hx11_) hc12_ (by omega)).trans hx13_) hc14_ (by omega)).trans hx15_).trans hx16_).trans hx17_).trans hx18_).trans hx19_), ?_⟩
                            first | rfl | contradiction | (exfalso; omega)
                          · refine ⟨((((((Ext.chgI ((Ext.chgI ((((((((((hx1_.trans hx2_).trans hx3_).trans hx4_).trans hx5_).trans hx6_).trans hx7_).trans hx8_).trans hx9_).trans hx10_).trans hx11_) hc12_ (by omega)).trans hx13_) hc14_ (by omega)).trans hx15_).trans hx16_).trans hx17_).trans hx18_).trans hx19_), ?_⟩
                            first | rfl | contradiction | (exfalso; omega)

end Go.Proofs.YteephmhilnlkpaaGreat
