/-
  The law FnExactSeenAll of the given program returns true for every input, and its arguments read afterwards as before: the given statement Rows.FnExactSeenAllSaid.
-/
import Derived.Test.YtjgfldfbljmhhaaGreatPSeenAll6
namespace Go.Proofs.YtjgfldfbljmhhaaGreat
open Go Go.Sh Go.Proofs
set_option linter.unusedVariables false
theorem markIntSS_I {w : World} {lo hi : Nat} {v : Value} {l : List (List Int)} {k : Int} (h : OwnI lo hi w v l) (hn : l.length + nLL l ≤ 1073741824) (hk0 : 0 ≤ k) (hk1 : k ≤ 1000000000000000000) :
    CALL Tryz.prog 37 [v, .int .i64 k] w fun r w' => r = .int .i64 (k + nLL l) ∧ ChgI lo hi w w' ∧ OwnI lo hi w' v (mkLL k l) := by
  obtain ⟨F, hM, hF⟩ := h
  exact (markIntSS_ok hM hn hk0 hk1).mono fun r w' ⟨h1, h2, h3⟩ => ⟨h1, h2.toI hF, h3.toI hF⟩
theorem heldIntSS_is {w w0 : World} {v : Value} {l : List (List Int)} {k : Int} (h : Is w0 v (mkLL k l)) (hx : Ext w0 w) (hn : l.length + nLL l ≤ 1073741824) (hk0 : 0 ≤ k) (hk1 : k ≤ 1000000000000000000) :
    CALL Tryz.prog 38 [v, .int .i64 k] w fun r w' => Ext w w' ∧ r = .int .i64 (k + nLL l) := (heldIntSS_ok h hx hn hk0 hk1).mono fun r w' ⟨h1, h2⟩ => ⟨h2, h1⟩
theorem cdOk_of15 {c : DCode} {n m : Int} (hm : m ≤ 1048576) (h : -1 ≤ n ∧ n ≤ m ∧ (0 ≤ n → n + wCode c ≤ m)) (hc : ¬ n < 0) : wCode c ≤ 1048576 := by
  have := h.2.2 (by omega); omega
theorem sm_le15 {α : Type} {f : α → Nat} {b : Nat} : ∀ {l : List α}, (∀ x ∈ l, f x ≤ b) → sm f l ≤ l.length * b
  | [], _ => by simp [sm]
  | x :: l, h => by
    have h1 := sm_le15 (l := l) fun y hy => h y (List.mem_cons_of_mem _ hy)
    have h2 := h x List.mem_cons_self
    unfold sm at *
    simp only [List.map_cons, List.sum_cons, List.length_cons, Nat.add_mul]
    omega
theorem seen_n {c : DCode} {m : Int} (h : CodeR c → TrOk c (mostN m) (lookD c (mostN m))) : (canon (racesF c (statesOf c m))).length ≤ 1000000 ∧ (seenL c (statesOf c m)).length + nLL (seenL c (statesOf c m)) ≤ 1000000 := by
  obtain ⟨h1, h2, h3⟩ := states_in h
  refine ⟨Nat.le_trans (canon_len _) ?_, ?_⟩
  · by_cases he : statesOf c m = []
    · rw [he]; simp [racesF]
    · have := racesF_len (h2 he) h3 _ (Nat.le_refl _)
      rw [List.take_length] at this; omega
  · have h4 := seenL_len (c := c) (fun s hs => (h3 s hs).2.2.1.2) _ (Nat.le_refl _)
    have h5 := seenL_in (c := c) (sts := statesOf c m) _ (Nat.le_refl _)
    rw [List.take_length] at h4 h5
    have h6 : nLL (seenL c (statesOf c m)) ≤ (seenL c (statesOf c m)).length * 64 := sm_le15 h5
    omega
theorem specSeenAll_L {w W0 : World} {v0 : Value} {c : DCode} {m : Int} (h0 : Is W0 v0 c) (e0 : Ext W0 w) (hw : wCode c ≤ 1048576) :
    CALL Tryz.prog 39 [v0, .int .i64 m] w fun r w' => Ext w w' ∧ ∃ a b, r = .tuple #[a, b] ∧ Own w.heap.size w' a (canon (racesF c (statesOf c m))) ∧ Own w.heap.size w' b (seenL c (statesOf c m)) ∧ (canon (racesF c (statesOf c m))).length ≤ 1000000 ∧ (seenL c (statesOf c m)).length + nLL (seenL c (statesOf c m)) ≤ 1000000 :=
  (specSeenAll_ok h0 e0 hw).mono fun r w' ⟨hx, a, b, h1, h2, h3, h4⟩ => ⟨hx, a, b, h1, h2, h3, seen_n h4⟩
def F8 (a0 a1 : Value) (w : World) (R : Value → World → Prop) : Prop :=
 OP Tryz.prog (Instr.box 26 a0) w fun x2 w =>
 RD Tryz.prog (Instr.loadAt 26 x2) w fun x16 =>
 CALL Tryz.prog 12 [x16, (Value.int .i64 1048576)] w fun x18 w =>
 RD Tryz.prog (bin .lss 3 (.tmp 0) (.const undef) x18 (Value.int .i64 0)) w fun x20 =>
 BR x20
 (R (Value.bool true) w)
 (RD Tryz.prog (Instr.loadAt 26 x2) w fun x22 =>
 CALL Tryz.prog 15 [x22] w fun x23 w =>
 CALL Tryz.prog 39 [x23, a1] w fun x25 w =>
 RD Tryz.prog (Instr.extract x25 0) w fun x26 =>
 RD Tryz.prog (Instr.extract x25 1) w fun x27 =>
 RD Tryz.prog (Instr.loadAt 26 x2) w fun x28 =>
 CALL Tryz.prog 15 [x28] w fun x29 w =>
 OP Tryz.prog (Instr.alloc 35 true (.tuple #[])) w fun x8 w =>
 OPU Tryz.prog (Instr.storeAt 35 x8 x29) w fun w =>
 RD Tryz.prog (Instr.loadAt 35 x8) w fun x31 =>
 CALL Tryz.prog 40 [x31, a1] w fun x33 w =>
 RD Tryz.prog (Instr.extract x33 0) w fun x34 =>
 RD Tryz.prog (Instr.extract x33 1) w fun x35 =>
 CALL Tryz.prog 41 [x34, x26] w fun x38 w =>
 RD Tryz.prog (Op.unary .not x38) w fun x39 =>
 BR x39
 (R (Value.bool false) w)
 (CALL Tryz.prog 36 [x35, x27] w fun x43 w =>
 RD Tryz.prog (Op.unary .not x43) w fun x44 =>
 BR x44
 (R (Value.bool false) w)
 ((fun w => RD Tryz.prog (Instr.loadAt 35 x8) w fun x46 =>
 RD Tryz.prog (Instr.loadAt 26 x2) w fun x47 =>
 (fun w_ => CALL Tryz.prog 15 [x47] w_ fun x48 w =>
 Ext w_ w ∧
 CALL Tryz.prog 18 [x46, x48] w fun x49 w =>
 RD Tryz.prog (Op.unary .not x49) w fun x50 =>
 BR x50
 (R (Value.bool false) w)
 (RD Tryz.prog (Instr.loadAt 35 x8) w fun x51 =>
 CALL Tryz.prog 24 [x51, (Value.int .i64 1)] w fun x53 w =>
 RD Tryz.prog (bin .lss 3 (.tmp 0) (.const undef) x53 (Value.int .i64 0)) w fun x55 =>
 BR x55
 (R (Value.bool false) w)
 (CALL Tryz.prog 41 [x34, x26] w fun x59 w =>
 RD Tryz.prog (Op.unary .not x59) w fun x60 =>
 BR x60
 (R (Value.bool false) w)
 (CALL Tryz.prog 36 [x35, x27] w fun x65 w =>
 RD Tryz.prog (Op.unary .not x65) w fun x66 =>
 BR x66
 (R (Value.bool false) w)
 (CALL Tryz.prog 42 [x34, (Value.int .i64 1)] w fun x70 w =>
 CALL Tryz.prog 37 [x35, x70] w fun x73 w =>
 CALL Tryz.prog 43 [x34, (Value.int .i64 1)] w fun x76 w =>
 RD Tryz.prog (bin .lss 3 (.tmp 0) (.const undef) x76 (Value.int .i64 0)) w fun x78 =>
 BR x78
 (R (Value.bool false) w)
 (CALL Tryz.prog 38 [x35, x76] w fun x81 w =>
 RD Tryz.prog (bin .lss 3 (.tmp 0) (.const undef) x81 (Value.int .i64 0)) w fun x83 =>
 BR x83
 (R (Value.bool false) w)
 (RD Tryz.prog (bin .neq 3 (.tmp 0) (.tmp 0) x81 x73) w fun x86 =>
 BR x86
 (R (Value.bool false) w)
 (RD Tryz.prog (Instr.loadAt 26 x2) w fun x88 =>
 CALL Tryz.prog 15 [x88] w fun x89 w =>
 CALL Tryz.prog 40 [x89, a1] w fun x91 w =>
 RD Tryz.prog (Instr.extract x91 0) w fun x92 =>
 RD Tryz.prog (Instr.extract x91 1) w fun x93 =>
 CALL Tryz.prog 41 [x92, x26] w fun x96 w =>
 RD Tryz.prog (Op.unary .not x96) w fun x97 =>
 BR x97
 (R (Value.bool false) w)
 (CALL Tryz.prog 36 [x93, x27] w fun x101 w =>
 RD Tryz.prog (Op.unary .not x101) w fun x102 =>
 BR x102
 (R (Value.bool false) w)
 (CALL Tryz.prog 43 [x34, (Value.int .i64 1)] w fun x106 w =>
 RD Tryz.prog (bin .lss 3 (.tmp 0) (.const undef) x106 (Value.int .i64 0)) w fun x108 =>
 BR x108
 (R (Value.bool false) w)
 (CALL Tryz.prog 38 [x35, x106] w fun x111 w =>
 RD Tryz.prog (bin .lss 3 (.tmp 0) (.const undef) x111 (Value.int .i64 0)) w fun x113 =>
 BR x113
 (R (Value.bool false) w)
 (RD Tryz.prog (bin .neq 3 (.tmp 0) (.tmp 0) x111 x73) w fun x116 =>
 BR x116
 (R (Value.bool false) w)
 (R (Value.bool true) w))))))))))))) w) (World.drew1 w))))
def cfg8 : Cfg := { ext := extL, joins := [], loops := [], draws := [(10, [0, 1, 2, 3, 4], 4)], pars := [] }
theorem F8_eq (a0 a1 : Value) (w : World) (R : Value → World → Prop) : vcF Tryz.prog cfg8 Tryz.f8 [a0, a1] w R = F8 a0 a1 w R := by kernel_rfl
theorem F8_call {a0 a1 : Value} {w : World} {R : Value → World → Prop} (h : F8 a0 a1 w R) : CALL Tryz.prog 8 [a0, a1] w R :=
  call_of (g := cfg8) ent mixed Tryz.func8 (Nat.le_of_ble_eq_true (by kernel_rfl)) (by kernel_rfl) (F8_eq a0 a1 w R ▸ h)
theorem lawSeenAll {w : World} {v0 : Value} {W0 : World} {c : DCode} {m : Int}  (h0 : Is W0 v0 c) (e0 : Ext W0 w)  :
    CALL Tryz.prog 8 [v0, .int .i64 m] w fun r w' => Ext w w' ∧ (r = .bool true) := by
  refine F8_call ?_
  unfold F8
  have hs_e0 := e0.size
  refine op_boxS ty26 rfl h0 e0 fun w1_ hx1_ hA2 hV2 => ?_
  have hs_hx1_ := hx1_.size
  refine rd_var hV2 (Ext.refl w1_) ?_
  refine (szCode_ok h0 (e0.trans hx1_) (by omega) (by omega)).mono ?_
  rintro _ w2_ ⟨hx2_, n18, rfl, hn18⟩
  have hs_hx2_ := hx2_.size
  refine rd_lss ?_
  refine br (fun c1 => ?_) (fun c1 => ?_)
  · refine ⟨(hx1_.trans hx2_), ?_⟩
    first | rfl | contradiction | (exfalso; omega)
  · refine rd_var hV2 hx2_ ?_
    refine (toCode_ok (h0.ext (e0.trans (hx1_.trans hx2_))) (by omega)).mono ?_
    rintro r23 w3_ ⟨hx3_, o23⟩
    have o23 := o23.toI
    have hs_hx3_ := hx3_.size
    refine (specSeenAll_L o23.is (Ext.refl w3_) (by omega)).mono ?_
    rintro _ w4_ ⟨hx4_, r25_0, r25_1, rfl, o25_0, o25_1, hsa25, hsb25⟩
    have o25_0 := o25_0.toI
    have o25_1 := o25_1.toI
    have hs_hx4_ := hx4_.size
    have hcd := cdOk_of15 (by omega) hn18 c1
    refine rd_extract rfl ?_
    refine rd_extract rfl ?_
    refine rd_var hV2 (hx2_.trans (hx3_.trans hx4_)) ?_
    refine (toCode_ok (h0.ext (e0.trans (hx1_.trans (hx2_.trans (hx3_.trans hx4_))))) (by omega)).mono ?_
    rintro r29 w5_ ⟨hx5_, o29⟩
    have o29 := o29.toI
    have hs_hx5_ := hx5_.size
    refine op_var zl35 rfl ty35 rfl o29.is (Ext.refl w5_) fun w6_ hx6_ hA8 hV8 => ?_
    have hs_hx6_ := hx6_.size
    have hg8 := hV8.lt
    refine rd_var hV8 (Ext.refl w6_) ?_
    refine (implSeenAll_ok o29.is hx6_ (by omega)).mono ?_
    rintro _ w7_ ⟨hx7_, a33, b33, lo33, hi33, lo33_, hi33_, rfl, oa33, ob33, bd33⟩
    have hs_hx7_ := hx7_.size
    refine rd_extract rfl ?_
    refine rd_extract rfl ?_
    refine (eqRaceS_ok oa33.is (Ext.refl w7_) o25_0.is (hx5_.trans (hx6_.trans hx7_))).mono ?_
    rintro _ w8_ ⟨hx8_, rfl⟩
    have hs_hx8_ := hx8_.size
    refine rd_nodec ?_
    refine br (fun c2 => ?_) (fun c2 => ?_)
    · refine ⟨(hx1_.trans (hx2_.trans (hx3_.trans (hx4_.trans (hx5_.trans (hx6_.trans (hx7_.trans hx8_))))))), ?_⟩
      first | rfl | contradiction | (exfalso; omega)
    · refine (eqIntSS_ok ob33.is hx8_ o25_1.is (hx5_.trans (hx6_.trans (hx7_.trans hx8_)))).mono ?_
      rintro _ w9_ ⟨hx9_, rfl⟩
      have hs_hx9_ := hx9_.size
      refine rd_nodec ?_
      refine br (fun c3 => ?_) (fun c3 => ?_)
      · refine ⟨(hx1_.trans (hx2_.trans (hx3_.trans (hx4_.trans (hx5_.trans (hx6_.trans (hx7_.trans (hx8_.trans hx9_)))))))), ?_⟩
        first | rfl | contradiction | (exfalso; omega)
      · have hx10_ := ext_drew w9_
        have hs_hx10_ := hx10_.size
        refine rd_var hV8 (hx7_.trans (hx8_.trans (hx9_.trans hx10_))) ?_
        refine rd_var hV2 (hx2_.trans (hx3_.trans (hx4_.trans (hx5_.trans (hx6_.trans (hx7_.trans (hx8_.trans (hx9_.trans hx10_)))))))) ?_
        refine (toCode_ok (h0.ext (e0.trans (hx1_.trans (hx2_.trans (hx3_.trans (hx4_.trans (hx5_.trans (hx6_.trans (hx7_.trans (hx8_.trans (hx9_.trans hx10_))))))))))) (by omega)).mono ?_
        rintro r48 w11_ ⟨hx11_, o48⟩
        have o48 := o48.toI
        have hs_hx11_ := hx11_.size
        refine ⟨hx11_, ?_⟩
        refine (eqCode_ok o29.is (hx6_.trans (hx7_.trans (hx8_.trans (hx9_.trans (hx10_.trans hx11_))))) o48.is (Ext.refl w11_)).mono ?_
        rintro _ w12_ ⟨hx12_, rfl⟩
        have hs_hx12_ := hx12_.size
        refine rd_nodec ?_
        refine br (fun c4 => ?_) (fun c4 => ?_)
        · refine ⟨(hx1_.trans (hx2_.trans (hx3_.trans (hx4_.trans (hx5_.trans (hx6_.trans (hx7_.trans (hx8_.trans (hx9_.trans (hx10_.trans (hx11_.trans hx12_))))))))))), ?_⟩
          first | rfl | contradiction | (exfalso; omega)
        · refine rd_var hV8 (hx7_.trans (hx8_.trans (hx9_.trans (hx10_.trans (hx11_.trans hx12_))))) ?_
          refine (markCode_ok (o29.ext (hx6_.trans (hx7_.trans (hx8_.trans (hx9_.trans (hx10_.trans (hx11_.trans hx12_))))))) (by omega) (by omega) (by omega)).mono ?_
          rintro _ w13_ ⟨n53, rfl, hn53, hc13_⟩
          have hs_hc13_ := hc13_.size
          have o23_c13 := (o23.ext (hx4_.trans (hx5_.trans (hx6_.trans (hx7_.trans (hx8_.trans (hx9_.trans (hx10_.trans (hx11_.trans hx12_))))))))).chg hc13_ (by omega)
          have o25_0_c13 := (o25_0.ext (hx5_.trans (hx6_.trans (hx7_.trans (hx8_.trans (hx9_.trans (hx10_.trans (hx11_.trans hx12_)))))))).chg hc13_ (by omega)
          have o25_1_c13 := (o25_1.ext (hx5_.trans (hx6_.trans (hx7_.trans (hx8_.trans (hx9_.trans (hx10_.trans (hx11_.trans hx12_)))))))).chg hc13_ (by omega)
          have hV8_c13 := (hV8.ext (hx7_.trans (hx8_.trans (hx9_.trans (hx10_.trans (hx11_.trans hx12_)))))).chgI hc13_ (by omega)
          have oa33_c13 := (oa33.ext (hx8_.trans (hx9_.trans (hx10_.trans (hx11_.trans hx12_))))).chg hc13_ (by omega)
          have ob33_c13 := (ob33.ext (hx8_.trans (hx9_.trans (hx10_.trans (hx11_.trans hx12_))))).chg hc13_ (by omega)
          have o48_c13 := (o48.ext hx12_).chg hc13_ (by omega)
          refine rd_lss ?_
          refine br (fun c5 => ?_) (fun c5 => ?_)
          · refine ⟨(Ext.chgI (((((((((((hx1_.trans hx2_).trans hx3_).trans hx4_).trans hx5_).trans hx6_).trans hx7_).trans hx8_).trans hx9_).trans hx10_).trans hx11_).trans hx12_) hc13_ (by omega)), ?_⟩
            first | rfl | contradiction | (exfalso; omega)
          · refine (eqRaceS_ok oa33_c13.is (Ext.refl w13_) o25_0_c13.is (Ext.refl w13_)).mono ?_
            rintro _ w14_ ⟨hx14_, rfl⟩
            have hs_hx14_ := hx14_.size
            refine rd_nodec ?_
            refine br (fun c6 => ?_) (fun c6 => ?_)
            · refine ⟨((Ext.chgI (((((((((((hx1_.trans hx2_).trans hx3_).trans hx4_).trans hx5_).trans hx6_).trans hx7_).trans hx8_).trans hx9_).trans hx10_).trans hx11_).trans hx12_) hc13_ (by omega)).trans hx14_), ?_⟩
              first | rfl | contradiction | (exfalso; omega)
            · refine (eqIntSS_ok ob33_c13.is hx14_ o25_1_c13.is hx14_).mono ?_
              rintro _ w15_ ⟨hx15_, rfl⟩
              have hs_hx15_ := hx15_.size
              refine rd_nodec ?_
              refine br (fun c7 => ?_) (fun c7 => ?_)
              · refine ⟨(((Ext.chgI (((((((((((hx1_.trans hx2_).trans hx3_).trans hx4_).trans hx5_).trans hx6_).trans hx7_).trans hx8_).trans hx9_).trans hx10_).trans hx11_).trans hx12_) hc13_ (by omega)).trans hx14_).trans hx15_), ?_⟩
                first | rfl | contradiction | (exfalso; omega)
              · refine (markRaceS_I (oa33_c13.ext (hx14_.trans hx15_)) (by omega) (by omega) (by omega)).mono ?_
                rintro _ w16_ ⟨rfl, hc16_, oa33_c16⟩
                have hs_hc16_ := hc16_.size
                have o23_c16 := (o23_c13.ext (hx14_.trans hx15_)).chg hc16_ (by omega)
                have o25_0_c16 := (o25_0_c13.ext (hx14_.trans hx15_)).chg hc16_ (by omega)
                have o25_1_c16 := (o25_1_c13.ext (hx14_.trans hx15_)).chg hc16_ (by omega)
                have ob33_c16 := (ob33_c13.ext (hx14_.trans hx15_)).chg hc16_ (by omega)
                have o48_c16 := (o48_c13.ext (hx14_.trans hx15_)).chg hc16_ (by omega)
                refine (markIntSS_I (ob33_c16.ext (Ext.refl w16_)) (by omega) (by omega) (by omega)).mono ?_
                rintro _ w17_ ⟨rfl, hc17_, ob33_c17⟩
                have hs_hc17_ := hc17_.size
                have o23_c17 := (o23_c16.ext (Ext.refl w16_)).chg hc17_ (by omega)
                have o25_0_c17 := (o25_0_c16.ext (Ext.refl w16_)).chg hc17_ (by omega)
                have o25_1_c17 := (o25_1_c16.ext (Ext.refl w16_)).chg hc17_ (by omega)
                have oa33_c17 := (oa33_c16.ext (Ext.refl w16_)).chg hc17_ (by omega)
                have o48_c17 := (o48_c16.ext (Ext.refl w16_)).chg hc17_ (by omega)
                refine (heldRaceS_ok oa33_c17.is (Ext.refl w17_) (by omega) (by omega) (by omega)).mono ?_
                rintro _ w18_ ⟨hx18_, rfl⟩
                have hs_hx18_ := hx18_.size
                refine rd_lss ?_
                refine br (fun c8 => ?_) (fun c8 => ?_)
                · refine ⟨((Ext.chgI (Ext.chgI (((Ext.chgI (((((((((((hx1_.trans hx2_).trans hx3_).trans hx4_).trans hx5_).trans hx6_).trans hx7_).trans hx8_).trans hx9_).trans hx10_).trans hx11_).trans hx12_) hc13_ (by omega)).trans hx14_).trans hx15_) hc16_ (by omega)) hc17_ (by omega)).trans hx18_), ?_⟩
                  first | rfl | contradiction | (exfalso; omega)
                · refine (heldIntSS_is ob33_c17.is hx18_ (by omega) (by omega) (by omega)).mono ?_
                  rintro _ w19_ ⟨hx19_, rfl⟩
                  have hs_hx19_ := hx19_.size
                  refine rd_lss ?_
                  refine br (fun c9 => ?_) (fun c9 => ?_)
                  · refine ⟨(((Ext.chgI (Ext.chgI (((Ext.chgI (((((((((((hx1_.trans hx2_).trans hx3_).trans hx4_).trans hx5_).trans hx6_).trans hx7_).trans hx8_).trans hx9_).trans hx10_).trans hx11_).trans hx12_) hc13_ (by omega)).trans hx14_).trans hx15_) hc16_ (by omega)) hc17_ (by omega)).trans hx18_).trans hx19_), ?_⟩
                    first | rfl | contradiction | (exfalso; omega)
                  · refine rd_neq ?_
                    refine br (fun c10 => ?_) (fun c10 => ?_)
                    · refine ⟨(((Ext.chgI (Ext.chgI (((Ext.chgI (((((((((((hx1_.trans hx2_).trans hx3_).trans hx4_).trans hx5_).trans hx6_).trans hx7_).trans hx8_).trans hx9_).trans hx10_).trans hx11_).trans hx12_) hc13_ (by omega)).trans hx14_).trans hx15_) hc16_ (by omega)) hc17_ (by omega)).trans hx18_).trans hx19_), ?_⟩
                      first | rfl | contradiction | (exfalso; omega)
                    · refine rd_var hV2 (((Ext.chgI (Ext.chgI (((Ext.chgI ((((((((((hx2_.trans hx3_).trans hx4_).trans hx5_).trans hx6_).trans hx7_).trans hx8_).trans hx9_).trans hx10_).trans hx11_).trans hx12_) hc13_ (by omega)).trans hx14_).trans hx15_) hc16_ (by omega)) hc17_ (by omega)).trans hx18_).trans hx19_) ?_
                      refine (toCode_ok (h0.ext (((Ext.chgI (Ext.chgI (((Ext.chgI ((((((((((((e0.trans hx1_).trans hx2_).trans hx3_).trans hx4_).trans hx5_).trans hx6_).trans hx7_).trans hx8_).trans hx9_).trans hx10_).trans hx11_).trans hx12_) hc13_ (by omega)).trans hx14_).trans hx15_) hc16_ (by omega)) hc17_ (by omega)).trans hx18_).trans hx19_)) (by omega)).mono ?_
                      rintro r89 w20_ ⟨hx20_, o89⟩
                      have o89 := o89.toI
                      have hs_hx20_ := hx20_.size
                      refine (implSeenAll_ok o89.is (Ext.refl w20_) (by omega)).mono ?_
                      rintro _ w21_ ⟨hx21_, a91, b91, lo91, hi91, lo91_, hi91_, rfl, oa91, ob91, bd91⟩
                      have hs_hx21_ := hx21_.size
                      refine rd_extract rfl ?_
                      refine rd_extract rfl ?_
                      refine (eqRaceS_ok oa91.is (Ext.refl w21_) o25_0_c17.is (hx18_.trans (hx19_.trans (hx20_.trans hx21_)))).mono ?_
                      rintro _ w22_ ⟨hx22_, rfl⟩
                      have hs_hx22_ := hx22_.size
                      refine rd_nodec ?_
                      refine br (fun c11 => ?_) (fun c11 => ?_)
                      · refine ⟨((((((Ext.chgI (Ext.chgI (((Ext.chgI (((((((((((hx1_.trans hx2_).trans hx3_).trans hx4_).trans hx5_).trans hx6_).trans hx7_).trans hx8_).trans hx9_).trans hx10_).trans hx11_).trans hx12_) hc13_ (by omega)).trans hx14_).trans hx15_) hc16_ (by omega)) hc17_ (by omega)).trans hx18_).trans hx19_).trans hx20_).trans hx21_).trans hx22_), ?_⟩
                        first | rfl | contradiction | (exfalso; omega)
                      · refine (eqIntSS_ok ob91.is hx22_ o25_1_c17.is (hx18_.trans (hx19_.trans (hx20_.trans (hx21_.trans hx22_))))).mono ?_
                        rintro _ w23_ ⟨hx23_, rfl⟩
                        have hs_hx23_ := hx23_.size
                        refine rd_nodec ?_
                        refine br (fun c12 => ?_) (fun c12 => ?_)
                        · refine ⟨(((((((Ext.chgI (Ext.chgI (((Ext.chgI (((((((((((hx1_.trans hx2_).trans hx3_).trans hx4_).trans hx5_).trans hx6_).trans hx7_).trans hx8_).trans hx9_).trans hx10_).trans hx11_).trans hx12_) hc13_ (by omega)).trans hx14_).trans hx15_) hc16_ (by omega)) hc17_ (by omega)).trans hx18_).trans hx19_).trans hx20_).trans hx21_).trans hx22_).trans hx23_), ?_⟩
                          first | rfl | contradiction | (exfalso; omega)
                        · refine (heldRaceS_ok oa33_c17.is (hx18_.trans (hx19_.trans (hx20_.trans (hx21_.trans (hx22_.trans hx23_))))) (by omega) (by omega) (by omega)).mono ?_
                          rintro _ w24_ ⟨hx24_, rfl⟩
                          have hs_hx24_ := hx24_.size
                          refine rd_lss ?_
                          refine br (fun c13 => ?_) (fun c13 => ?_)
                          · refine ⟨((((((((Ext.chgI (Ext.chgI (((Ext.chgI (((((((((((hx1_.trans hx2_).trans hx3_).trans hx4_).trans hx5_).trans hx6_).trans hx7_).trans hx8_).trans hx9_).trans hx10_).trans hx11_).trans hx12_) hc13_ (by omega)).trans hx14_).trans hx15_) hc16_ (by omega)) hc17_ (by omega)).trans hx18_).trans hx19_).trans hx20_).trans hx21_).trans hx22_).trans hx23_).trans hx24_), ?_⟩
                            first | rfl | contradiction | (exfalso; omega)
                          · refine (heldIntSS_is ob33_c17.is (hx18_.trans (hx19_.trans (hx20_.trans (hx21_.trans (hx22_.trans (hx23_.trans hx24_)))))) (by omega) (by omega) (by omega)).mono ?_
                            rintro _ w25_ ⟨hx25_, rfl⟩
                            have hs_hx25_ := hx25_.size
                            refine rd_lss ?_
                            refine br (fun c14 => ?_) (fun c14 => ?_)
                            · refine ⟨(((((((((Ext.chgI (Ext.chgI (((Ext.chgI (((((((((((hx1_.trans hx2_).trans hx3_).trans hx4_).trans hx5_).trans hx6_).trans hx7_).trans hx8_).trans hx9_).trans hx10_).trans hx11_).trans hx12_) hc13_ (by omega)).trans hx14_).trans hx15_) hc16_ (by omega)) hc17_ (by omega)).trans hx18_).trans hx19_).trans hx20_).trans hx21_).trans hx22_).trans hx23_).trans hx24_).trans hx25_), ?_⟩
                              first | rfl | contradiction | (exfalso; omega)
                            · refine rd_neq ?_
                              refine br (fun c15 => ?_) (fun c15 => ?_)
                              · refine ⟨(((((((((Ext.chgI (Ext.chgI (((Ext.chgI (((((((((((hx1_.trans hx2_).trans hx3_).trans hx4_).trans hx5_).trans hx6_).trans hx7_).trans hx8_).trans hx9_).trans hx10_).trans hx11_).trans hx12_) hc13_ (by omega)).trans hx14_).trans hx15_) hc16_ (by omega)) hc17_ (by omega)).trans hx18_).trans hx19_).trans hx20_).trans hx21_).trans hx22_).trans hx23_).trans hx24_).trans hx25_), ?_⟩
                                first | rfl | contradiction | (exfalso; omega)
                              · refine ⟨(((((((((Ext.chgI (Ext.chgI (((Ext.chgI (((((((((((hx1_.trans hx2_).trans hx3_).trans hx4_).trans hx5_).trans hx6_).trans hx7_).trans hx8_).trans hx9_).trans hx10_).trans hx11_).trans hx12_) hc13_ (by omega)).trans hx14_).trans hx15_) hc16_ (by omega)) hc17_ (by omega)).trans hx18_).trans hx19_).trans hx20_).trans hx21_).trans hx22_).trans hx23_).trans hx24_).trans hx25_), ?_⟩
                                first | rfl | contradiction | (exfalso; omega)
end Go.Proofs.YtjgfldfbljmhhaaGreat
namespace Go.Proofs.YtjgfldfbljmhhaaGreat
open Go Go.Sh Go.Proofs
theorem rdTerm : ∀ n, Reads Tryz.prog 123 DTerm n ∧ Reads Tryz.prog 121 (List DTerm) n
  | 0 => ⟨reads_zero, reads_zero⟩
  | n + 1 => ⟨reads_tup (reads_struct (α := Int × Int × ByteArray × List DTerm) us123 (by kernel_rfl)
      (.cons rfl (by kernel_rfl) (reads_int u3 n) (.cons rfl (by kernel_rfl) (reads_int u3 n) (.cons rfl (by kernel_rfl) (reads_str u9 n) (.one rfl (by kernel_rfl) (rdTerm n).2))))),
    reads_slice u121 (by kernel_rfl) (rdTerm n).1⟩
theorem rdStrs : ∀ n, Reads Tryz.prog 22 (List ByteArray) n := reads_all_slice u22 (by kernel_rfl) (reads_str u9)
theorem rdIns : ∀ n, Reads Tryz.prog 125 DIns n := fun n =>
  reads_via (g := fun p => ⟨p.1, p.2.1, p.2.2.1, p.2.2.2⟩) (fun _ => rfl) (reads_all_struct (α := Int × Int × DTerm × Int) us125 (by kernel_rfl)
    (fun n => .cons rfl (by kernel_rfl) (reads_int u3 n) (.cons rfl (by kernel_rfl) (reads_int u3 n) (.cons rfl (by kernel_rfl) (rdTerm n).1 (.one rfl (by kernel_rfl) (reads_int u3 n))))) n)
theorem rdInss : ∀ n, Reads Tryz.prog 24 (List DIns) n := reads_all_slice u24 (by kernel_rfl) rdIns
theorem rdIntsC : ∀ n, Reads Tryz.prog 23 (List Int) n := reads_all_slice u23 (by kernel_rfl) (reads_int u3)
theorem rdCode : ∀ n, Reads Tryz.prog 26 DCode n := fun n =>
  reads_via (g := fun p => ⟨p.1, p.2.1, p.2.2.1, p.2.2.2.1, p.2.2.2.2⟩) (fun _ => rfl) (reads_all_struct (α := List ByteArray × List ByteArray × List ByteArray × List Int × List DIns) us26 (by kernel_rfl)
    (fun n => .cons rfl (by kernel_rfl) (rdStrs n) (.cons rfl (by kernel_rfl) (rdStrs n) (.cons rfl (by kernel_rfl) (rdStrs n) (.cons rfl (by kernel_rfl) (rdIntsC n) (.one rfl (by kernel_rfl) (rdInss n)))))) n)
end Go.Proofs.YtjgfldfbljmhhaaGreat
namespace Go.Proofs.YtjgfldfbljmhhaaGreat
open Go
theorem and_tt {a b : Bool} (h : a = true) (k : b = true) : (a && b) = true := by rw [h, k]; rfl
theorem fa_laid : laidOutB Tryz.prog = true := by kernel_rfl
theorem fa_maps : mapsRowed Tryz.prog = true := by kernel_rfl
theorem fa_plain : (Rows.fnExactHeldRightRow.plainKeys == Tryz.prog.plainKeys) = true := by kernel_rfl
theorem fa_heard : Tryz.prog.stopsHeard = true := by kernel_rfl
theorem fa_may : Tryz.prog.mayEnter = true := by kernel_rfl
theorem fa_lift : (Rows.fnExactHeldRightRow.lifted == Tryz.prog.liftsFinal) = true := by kernel_rfl
theorem fa_make : (Tryz.prog.make == some Rows.fnExactHeldRightRow.make) = true := by kernel_rfl
end Go.Proofs.YtjgfldfbljmhhaaGreat
namespace Go.Proofs.YtjgfldfbljmhhaaGreat.fnExactSeenAll
open Go.ChangeShapes Go.WideShapes Go.ChangeAt Go.RowKit Go.Sh
set_option linter.unusedVariables false
theorem own : ownKnob Tryz.prog.godebug = none := by kernel_rfl
theorem laidOut : laidOutB Tryz.prog = true := by kernel_rfl
set_option maxRecDepth 100000 in
theorem lifted (os : Os) (started : os.Started) (H : Type) (enc : TypeId × Value → H) :
    ReturnsInHanded {} Tryz.checked os 8 .any (Rows.fnExactSeenAllSpec.pre6 enc Tryz.prog Tryz.f8 Rows.fnExactSeenAllRow.domain false) (Rows.fnExactSeenAllSpec.post enc Tryz.prog Tryz.f8 false true false false) := by
  refine returnsInHanded_of_change (C := Tryz.checked) own started (by kernel_rfl) Tryz.func8
    (ChangeSpec.witness6 (enc := enc) (C := Tryz.checked) false ⟨#[], #[.agg #[.slice none 0 0, .slice none 0 0, .slice none 0 0, .slice none 0 0, .slice none 0 0], .int .i64 0], []⟩ 8 (by kernel_rfl) (by kernel_rfl) (by kernel_rfl) (by kernel_rfl)) ?_
  intro W base args ds gs before hval0 hW hcnd _
  have hval : ∀ (j : Nat) t v, Tryz.f8.params[j]? = some t → args[j]? = some v → Value.okWide Tryz.prog W .any base t v := hval0
  have hW' := hW
  obtain ⟨p, q, hA0, hV, rfl, hfz, hnd⟩ := hW
  have hA : DataW.TrodAll enc Tryz.prog W 0 (fun _ => true) true Tryz.f8.params.toList args.toList ds p := hA0
  rw [Tryz.params8] at hA hval
  obtain ⟨v0, vs0, d0, ds0, p0, q0, hargs, rfl, rfl, h0, r0⟩ := trodAll_cons hA
  obtain ⟨v1, vs1, d1, ds1, p1, q1, rfl, rfl, rfl, h1, r1⟩ := trodAll_cons r0
  obtain ⟨rfl, rfl, rfl⟩ := trodAll_nil r1
  obtain rfl : args = #[v0, v1] := by cases args; simp_all
  obtain ⟨rfl, rfl⟩ := trodVars_none hV
  have lt0 : ∀ x ∈ p0, x.block < W.heap.size := by obtain ⟨m, hm⟩ := h0; exact DataW.trod_lt m _ _ _ hm
  obtain ⟨x0, i0⟩ := is_of_struct (α := DCode) us26 rfl rdCode (hval 0 26 v0 rfl rfl) h0
  have lt1 : ∀ x ∈ p1, x.block < W.heap.size := by obtain ⟨m, hm⟩ := h1; exact DataW.trod_lt m _ _ _ hm
  obtain ⟨x1, i1⟩ := is_of_int u3 (hval 1 3 v1 rfl rfl) h1
  obtain ⟨rfl, j1⟩ := is_int.1 i1
  clear hA0 hval0
  obtain ⟨hcall⟩ := lawSeenAll i0 (Ext.refl W)
  refine hcall.mono fun e W' ⟨v, he, bel, hv⟩ => ?_
  subst he hv
  exact ⟨_, rfl, _, _, _, [], _, [], hW', trodAll_mk1 (shut_bool Tryz.underlying4 _), (trodAll_cons_mk (Below.trod laidOut (by kernel_rfl) (of_decide_eq_true (by kernel_rfl)) h0 bel lt0) (trodAll_cons_mk (Below.trod laidOut (by kernel_rfl) (of_decide_eq_true (by kernel_rfl)) h1 bel lt1) trodAll_mk0)), rfl, bel.frame _, fun h => by cases h⟩
theorem j_inPlace : (Rows.fnExactSeenAllRow.inPlace == Tryz.prog.inPlace 8) = true := by kernel_rfl
theorem j_unfollowed : (Rows.fnExactSeenAllRow.unfollowed == Tryz.prog.unfollowed 8) = true := by kernel_rfl
theorem j_recurses : (Rows.fnExactSeenAllRow.recurses == Tryz.prog.recurses 8) = true := by kernel_rfl
theorem j_named : (Rows.fnExactSeenAllRow.named == Tryz.prog.varsNamed 8) = true := by kernel_rfl
theorem closed : joinedFacts Tryz.prog 8 Tryz.f8 Rows.fnExactSeenAllSpec Rows.fnExactSeenAllRow = true := by
  unfold joinedFacts
  exact (and_tt (and_tt (and_tt (and_tt (and_tt (and_tt (and_tt (and_tt (and_tt (and_tt (and_tt (and_tt (and_tt (and_tt (and_tt (and_tt (and_tt (and_tt (and_tt (and_tt (and_tt (and_tt (and_tt (and_tt (and_tt (and_tt (and_tt (and_tt (and_tt (and_tt (and_tt (by kernel_rfl) fa_laid) fa_maps) (by kernel_rfl)) (by kernel_rfl)) (by kernel_rfl)) (by kernel_rfl)) (by kernel_rfl)) (by kernel_rfl)) j_inPlace) j_unfollowed) j_recurses) j_named) (by kernel_rfl)) (by kernel_rfl)) (by kernel_rfl)) (by kernel_rfl)) (by kernel_rfl)) (by kernel_rfl)) (by kernel_rfl)) (by kernel_rfl)) (by kernel_rfl)) fa_plain) (by kernel_rfl)) fa_heard) fa_may) fa_lift) fa_make) (by kernel_rfl)) (by kernel_rfl)) (by kernel_rfl)) (by kernel_rfl))
theorem over : Rows.fnExactSeenAllRow.holds Tryz.pinned (OpenSpec.ofChange Rows.fnExactSeenAllSpec) :=
  OpenClaim.holds_of_wide 8 Tryz.f8 rfl rfl rfl rfl rfl rfl rfl ⟨rfl, rfl, rfl, rfl, rfl⟩ rfl rfl rfl rfl rfl (by kernel_rfl) Tryz.func8 closed
    (of_decide_eq_true (by kernel_rfl)) (by unfold Func.isWrapper; first | (rw [if_pos (by decide +kernel)]; kernel_rfl) | (rw [if_neg (by decide +kernel)]; exact ⟨rfl, rfl⟩))
    (fun os started H enc _ => lifted os started H enc)
theorem proved : Rows.FnExactSeenAllSaid := over
end Go.Proofs.YtjgfldfbljmhhaaGreat.fnExactSeenAll
