/-
  The law of runs: it returns true.
-/
import Derived.Test.YteephmhilnlkpaaRun
import Derived.Test.YteephmhilnlkpaaMarks
namespace Go.Proofs.Yteephmhilnlkpaa
open Go Go.Sh Go.Proofs
set_option linter.unusedVariables false

theorem cdOk_of6 {c : DCode} {n m : Int} (hm : m ≤ 1048576) (h : -1 ≤ n ∧ n ≤ m ∧ (0 ≤ n → n + wCode c ≤ m)) (hc : ¬ n < 0) : wCode c ≤ 1048576 := by
  have := h.2.2 (by omega)
  omega
theorem sm_le {α : Type} {f : α → Nat} {b : Nat} : ∀ {l : List α}, (∀ x ∈ l, f x ≤ b) → (l.map f).sum ≤ l.length * b
  | [], _ => by simp
  | x :: l, h => by
    have h1 := sm_le (l := l) fun y hy => h y (List.mem_cons_of_mem _ hy)
    have h2 := h x List.mem_cons_self
    simp only [List.map_cons, List.sum_cons, List.length_cons, Nat.add_mul]
    omega
theorem stSz_n {c : DCode} {s : DState} (hc : CodeR c) (hs : StateR c s) : s.stacks.length + nSt s ≤ 1000 := by
  have h1 := hc.1.globals6
  have h2 := hc.1.locks6
  have h3 := hs.1
  have h4 := hs.2.1
  have h5 := hs.2.2.1
  have h6 := sm_le (f := List.length) (b := 8) fun x hx => (hs.2.2.2.2.2 x hx).1
  have h7 : s.stacks.length * 8 ≤ 48 := by omega
  simp only [nSt, nLL, sm]
  omega
theorem runD_right {c : DCode} (hc : CodeR c) (l : List Int) : ∀ {s : DState} {went : List Int}, StateR c s → StateR c (runD c l s went).1 ∧ (runD c l s went).2.length ≤ went.length + l.length := by
  induction l with
  | nil => exact fun hs => ⟨hs, Nat.le_refl _⟩
  | cons p l ih =>
    intro s went hs
    rw [runD]
    by_cases h : (readyL c s).length = 0
    · rw [if_pos h]
      exact ⟨hs, by simp⟩
    · rw [if_neg h]
      have h1 := ih (s := stepD c s (pickOf c s p)) (went := went ++ [pickOf c s p]) (step_right hc hs (pick_go h))
      refine ⟨h1.1, ?_⟩
      have h2 := h1.2
      simp only [List.length_append, List.length_cons, List.length_nil] at h2 ⊢
      omega
theorem runOf_n {c : DCode} {picks : List Int} : (runOf c picks).1.stacks.length + nSt (runOf c picks).1 ≤ 1000 ∧ (runOf c picks).2.length ≤ 400 := by
  unfold runOf
  split
  · rename_i hc
    have h := runD_right hc (picks.take 400) (went := []) (start_right hc)
    have h1 : (picks.take 400).length ≤ 400 := List.length_take_le _ _
    refine ⟨stSz_n hc h.1, ?_⟩
    have := h.2
    simp only [List.length_nil] at this
    omega
  · simp [nSt, nLL, sm]
/-- laws.FnExactRunOf -/
def F3 (a0 a1 : Value) (w : World) (R : Value → World → Prop) : Prop :=
  OP Try.prog (Instr.box 26 a0) w fun x2 w =>
  RD Try.prog (Builtin.len_ #[23] 3 [a1].toArray) w fun x18 =>
  RD Try.prog (bin .gtr 3 (.tmp 0) (.const undef) x18 (Value.int .i64 1048576)) w fun x19 =>
  BR x19
   (R (Value.bool true) w)
   (RD Try.prog (Instr.loadAt 26 x2) w fun x20 =>
   CALL Try.prog 4 [x20, (Value.int .i64 1048576)] w fun x22 w =>
   RD Try.prog (bin .lss 3 (.tmp 0) (.const undef) x22 (Value.int .i64 0)) w fun x24 =>
   BR x24
    (R (Value.bool true) w)
    (RD Try.prog (Instr.loadAt 26 x2) w fun x26 =>
    CALL Try.prog 6 [x26] w fun x27 w =>
    CALL Try.prog 7 [a1] w fun x29 w =>
    CALL Try.prog 5 [x27, x29] w fun x30 w =>
    RD Try.prog (Instr.extract x30 0) w fun x31 =>
    RD Try.prog (Instr.extract x30 1) w fun x32 =>
    OP Try.prog (Instr.alloc 30 true (.tuple #[])) w fun x6 w =>
    OPU Try.prog (Instr.storeAt 30 x6 x31) w fun w =>
    RD Try.prog (Instr.loadAt 26 x2) w fun x33 =>
    CALL Try.prog 6 [x33] w fun x34 w =>
    OP Try.prog (Instr.alloc 35 true (.tuple #[])) w fun x8 w =>
    OPU Try.prog (Instr.storeAt 35 x8 x34) w fun w =>
    CALL Try.prog 7 [a1] w fun x36 w =>
    RD Try.prog (Instr.loadAt 35 x8) w fun x38 =>
    CALL Try.prog 8 [x38, x36] w fun x40 w =>
    RD Try.prog (Instr.extract x40 0) w fun x41 =>
    RD Try.prog (Instr.extract x40 1) w fun x42 =>
    OP Try.prog (Instr.alloc 30 true (.tuple #[])) w fun x10 w =>
    OPU Try.prog (Instr.storeAt 30 x10 x41) w fun w =>
    RD Try.prog (Instr.loadAt 30 x10) w fun x43 =>
    RD Try.prog (Instr.loadAt 30 x6) w fun x44 =>
    CALL Try.prog 9 [x43, x44] w fun x45 w =>
    RD Try.prog (Op.unary .not x45) w fun x46 =>
    BR x46
    (R (Value.bool false) w)
    (CALL Try.prog 10 [x42, x32] w fun x50 w =>
    RD Try.prog (Op.unary .not x50) w fun x51 =>
    BR x51
     (R (Value.bool false) w)
     ((fun w => RD Try.prog (Instr.loadAt 35 x8) w fun x53 =>
     RD Try.prog (Instr.loadAt 26 x2) w fun x54 =>
     (fun w_ => CALL Try.prog 6 [x54] w_ fun x55 w =>
     Ext w_ w ∧
     CALL Try.prog 11 [x53, x55] w fun x56 w =>
     RD Try.prog (Op.unary .not x56) w fun x57 =>
     BR x57
      (R (Value.bool false) w)
      (CALL Try.prog 7 [a1] w fun x60 w =>
      CALL Try.prog 10 [x36, x60] w fun x61 w =>
      RD Try.prog (Op.unary .not x61) w fun x62 =>
      BR x62
       (R (Value.bool false) w)
       (RD Try.prog (Instr.loadAt 35 x8) w fun x63 =>
       CALL Try.prog 12 [x63, (Value.int .i64 1)] w fun x65 w =>
       CALL Try.prog 13 [x36, x65] w fun x68 w =>
       RD Try.prog (bin .lss 3 (.tmp 0) (.const undef) x68 (Value.int .i64 0)) w fun x70 =>
       BR x70
       (R (Value.bool false) w)
       (RD Try.prog (Instr.loadAt 30 x10) w fun x72 =>
       RD Try.prog (Instr.loadAt 30 x6) w fun x73 =>
       CALL Try.prog 9 [x72, x73] w fun x74 w =>
       RD Try.prog (Op.unary .not x74) w fun x75 =>
       BR x75
       (R (Value.bool false) w)
       (CALL Try.prog 10 [x42, x32] w fun x80 w =>
       RD Try.prog (Op.unary .not x80) w fun x81 =>
       BR x81
        (R (Value.bool false) w)
        (RD Try.prog (Instr.loadAt 30 x10) w fun x83 =>
        CALL Try.prog 14 [x83, (Value.int .i64 1)] w fun x85 w =>
        CALL Try.prog 13 [x42, x85] w fun x88 w =>
        RD Try.prog (Instr.loadAt 30 x10) w fun x89 =>
        CALL Try.prog 15 [x89, (Value.int .i64 1)] w fun x91 w =>
        RD Try.prog (bin .lss 3 (.tmp 0) (.const undef) x91 (Value.int .i64 0)) w fun x93 =>
        BR x93
         (R (Value.bool false) w)
         (CALL Try.prog 16 [x42, x91] w fun x96 w =>
         RD Try.prog (bin .lss 3 (.tmp 0) (.const undef) x96 (Value.int .i64 0)) w fun x98 =>
         BR x98
          (R (Value.bool false) w)
          (RD Try.prog (bin .neq 3 (.tmp 0) (.tmp 0) x96 x88) w fun x101 =>
          BR x101
           (R (Value.bool false) w)
           (RD Try.prog (Instr.loadAt 26 x2) w fun x103 =>
           CALL Try.prog 6 [x103] w fun x104 w =>
           CALL Try.prog 7 [a1] w fun x106 w =>
           CALL Try.prog 8 [x104, x106] w fun x107 w =>
           RD Try.prog (Instr.extract x107 0) w fun x108 =>
           RD Try.prog (Instr.extract x107 1) w fun x109 =>
           OP Try.prog (Instr.alloc 30 true (.tuple #[])) w fun x15 w =>
           OPU Try.prog (Instr.storeAt 30 x15 x108) w fun w =>
           RD Try.prog (Instr.loadAt 30 x15) w fun x110 =>
           RD Try.prog (Instr.loadAt 30 x6) w fun x111 =>
           CALL Try.prog 9 [x110, x111] w fun x112 w =>
           RD Try.prog (Op.unary .not x112) w fun x113 =>
           BR x113
           (R (Value.bool false) w)
           (CALL Try.prog 10 [x109, x32] w fun x117 w =>
           RD Try.prog (Op.unary .not x117) w fun x118 =>
           BR x118
            (R (Value.bool false) w)
            (RD Try.prog (Instr.loadAt 30 x10) w fun x120 =>
            CALL Try.prog 15 [x120, (Value.int .i64 1)] w fun x122 w =>
            RD Try.prog (bin .lss 3 (.tmp 0) (.const undef) x122 (Value.int .i64 0)) w fun x124 =>
            BR x124
             (R (Value.bool false) w)
             (CALL Try.prog 16 [x42, x122] w fun x127 w =>
             RD Try.prog (bin .lss 3 (.tmp 0) (.const undef) x127 (Value.int .i64 0)) w fun x129 =>
             BR x129
              (R (Value.bool false) w)
              (RD Try.prog (bin .neq 3 (.tmp 0) (.tmp 0) x127 x88) w fun x132 =>
              BR x132
               (R (Value.bool false) w)
               (R (Value.bool true) w)))))))))))))) w) (World.drew1 w)))))
def cfg3 : Cfg := { ext := extL, joins := [], loops := [], draws := [(13, [0, 1, 2, 3, 4], 4)], pars := [] }
theorem F3_eq (a0 a1 : Value) (w : World) (R : Value → World → Prop) : vcF Try.prog cfg3 Try.f3 [a0, a1] w R = F3 a0 a1 w R := by kernel_rfl
theorem F3_call {a0 a1 : Value} {w : World} {R : Value → World → Prop} (h : F3 a0 a1 w R) : CALL Try.prog 3 [a0, a1] w R :=
  call_of (g := cfg3) ent mixed Try.func3 (Nat.le_of_ble_eq_true (by kernel_rfl)) (by kernel_rfl) (F3_eq a0 a1 w R ▸ h)


theorem lawRunOf {w : World} {v0 : Value} {W0 : World} {c : DCode} {v1 : Value} {W1 : World} {picks : (List Int)}  (h0 : Is W0 v0 c) (e0 : Ext W0 w) (h1 : Is W1 v1 picks) (e1 : Ext W1 w)  :
    CALL Try.prog 3 [v0, v1] w fun r w' => Ext w w' ∧ (r = .bool true) := by
  refine F3_call ?_
  unfold F3
  have hs_e0 := e0.size
  have hs_e1 := e1.size
  refine op_boxS ty26 rfl h0 e0 fun w1_ hx1_ hA2 hV2 => ?_
  have hs_hx1_ := hx1_.size
  have hln18 := is_len h1
  refine rd_len u23 h1 ?_
  refine rd_gtr ?_
  refine br (fun c1 => ?_) (fun c1 => ?_)
  · refine ⟨hx1_, ?_⟩
    first | rfl | contradiction | (exfalso; omega)
  · refine rd_var hV2 (Ext.refl w1_) ?_
    refine (szCode_ok h0 (e0.trans hx1_) (by omega) (by omega)).mono ?_
    rintro _ w2_ ⟨hx2_, n22, rfl, hn22⟩
    have hs_hx2_ := hx2_.size
    refine rd_lss ?_
    refine br (fun c2 => ?_) (fun c2 => ?_)
    · refine ⟨(hx1_.trans hx2_), ?_⟩
      first | rfl | contradiction | (exfalso; omega)
    · have hcd := cdOk_of6 (by omega) hn22 c2
      have hlr := runOf_n (c := c) (picks := picks)
      refine rd_var hV2 hx2_ ?_
      refine (toCode_ok (h0.ext (e0.trans (hx1_.trans hx2_))) (by omega)).mono ?_
      rintro r27 w3_ ⟨hx3_, o27⟩
      have o27 := o27.toI
      have hs_hx3_ := hx3_.size
      refine (toIntS_ok (h1.ext (e1.trans (hx1_.trans (hx2_.trans hx3_)))) (by omega)).mono ?_
      rintro r29 w4_ ⟨hx4_, o29⟩
      have o29 := o29.toI
      have hs_hx4_ := hx4_.size
      refine (specRunOf_ok o27.is hx4_ o29.is (Ext.refl w4_) (by omega)).mono ?_
      rintro _ w5_ ⟨hx5_, a30, b30, lo30, hi30, lo30_, hi30_, rfl, oa30, ob30, bd30⟩
      have hs_hx5_ := hx5_.size
      refine rd_extract rfl ?_
      refine rd_extract rfl ?_
      refine op_var zl30 rfl ty30 rfl oa30.is (Ext.refl w5_) fun w6_ hx6_ hA6 hV6 => ?_
      have hs_hx6_ := hx6_.size
      have hg6 := hV6.lt
      refine rd_var hV2 (hx2_.trans (hx3_.trans (hx4_.trans (hx5_.trans hx6_)))) ?_
      refine (toCode_ok (h0.ext (e0.trans (hx1_.trans (hx2_.trans (hx3_.trans (hx4_.trans (hx5_.trans hx6_))))))) (by omega)).mono ?_
      rintro r34 w7_ ⟨hx7_, o34⟩
      have o34 := o34.toI
      have hs_hx7_ := hx7_.size
      refine op_var zl35 rfl ty35 rfl o34.is (Ext.refl w7_) fun w8_ hx8_ hA8 hV8 => ?_
      have hs_hx8_ := hx8_.size
      have hg8 := hV8.lt
      refine (toIntS_ok (h1.ext (e1.trans (hx1_.trans (hx2_.trans (hx3_.trans (hx4_.trans (hx5_.trans (hx6_.trans (hx7_.trans hx8_))))))))) (by omega)).mono ?_
      rintro r36 w9_ ⟨hx9_, o36⟩
      have o36 := o36.toI
      have hs_hx9_ := hx9_.size
      refine rd_var hV8 hx9_ ?_
      refine (implRunOf_ok o34.is (hx8_.trans hx9_) o36.is (Ext.refl w9_) (by omega)).mono ?_
      rintro _ w10_ ⟨hx10_, a40, b40, lo40, hi40, lo40_, hi40_, rfl, oa40, ob40, bd40⟩
      have hs_hx10_ := hx10_.size
      refine rd_extract rfl ?_
      refine rd_extract rfl ?_
      refine op_var zl30 rfl ty30 rfl oa40.is (Ext.refl w10_) fun w11_ hx11_ hA10 hV10 => ?_
      have hs_hx11_ := hx11_.size
      have hg10 := hV10.lt
      refine rd_var hV10 (Ext.refl w11_) ?_
      refine rd_var hV6 (hx7_.trans (hx8_.trans (hx9_.trans (hx10_.trans hx11_)))) ?_
      refine (eqState_ok oa40.is hx11_ oa30.is (hx6_.trans (hx7_.trans (hx8_.trans (hx9_.trans (hx10_.trans hx11_)))))).mono ?_
      rintro _ w12_ ⟨hx12_, rfl⟩
      have hs_hx12_ := hx12_.size
      refine rd_nodec ?_
      refine br (fun c3 => ?_) (fun c3 => ?_)
      · refine ⟨(hx1_.trans (hx2_.trans (hx3_.trans (hx4_.trans (hx5_.trans (hx6_.trans (hx7_.trans (hx8_.trans (hx9_.trans (hx10_.trans (hx11_.trans hx12_))))))))))), ?_⟩
        first | rfl | contradiction | (exfalso; omega)
      · refine (eqIntS_ok2 ob40.is (hx11_.trans hx12_) ob30.is (hx6_.trans (hx7_.trans (hx8_.trans (hx9_.trans (hx10_.trans (hx11_.trans hx12_))))))).mono ?_
        rintro _ w13_ ⟨hx13_, rfl⟩
        have hs_hx13_ := hx13_.size
        refine rd_nodec ?_
        refine br (fun c4 => ?_) (fun c4 => ?_)
        · refine ⟨(hx1_.trans (hx2_.trans (hx3_.trans (hx4_.trans (hx5_.trans (hx6_.trans (hx7_.trans (hx8_.trans (hx9_.trans (hx10_.trans (hx11_.trans (hx12_.trans hx13_)))))))))))), ?_⟩
          first | rfl | contradiction | (exfalso; omega)
        · have hx14_ := ext_drew w13_
          have hs_hx14_ := hx14_.size
          refine rd_var hV8 (hx9_.trans (hx10_.trans (hx11_.trans (hx12_.trans (hx13_.trans hx14_))))) ?_
          refine rd_var hV2 (hx2_.trans (hx3_.trans (hx4_.trans (hx5_.trans (hx6_.trans (hx7_.trans (hx8_.trans (hx9_.trans (hx10_.trans (hx11_.trans (hx12_.trans (hx13_.trans hx14_)))))))))))) ?_
          refine (toCode_ok (h0.ext (e0.trans (hx1_.trans (hx2_.trans (hx3_.trans (hx4_.trans (hx5_.trans (hx6_.trans (hx7_.trans (hx8_.trans (hx9_.trans (hx10_.trans (hx11_.trans (hx12_.trans (hx13_.trans hx14_))))))))))))))) (by omega)).mono ?_
          rintro r55 w15_ ⟨hx15_, o55⟩
          have o55 := o55.toI
          have hs_hx15_ := hx15_.size
          refine ⟨hx15_, ?_⟩
          refine (eqCode_ok o34.is (hx8_.trans (hx9_.trans (hx10_.trans (hx11_.trans (hx12_.trans (hx13_.trans (hx14_.trans hx15_))))))) o55.is (Ext.refl w15_)).mono ?_
          rintro _ w16_ ⟨hx16_, rfl⟩
          have hs_hx16_ := hx16_.size
          refine rd_nodec ?_
          refine br (fun c5 => ?_) (fun c5 => ?_)
          · refine ⟨(hx1_.trans (hx2_.trans (hx3_.trans (hx4_.trans (hx5_.trans (hx6_.trans (hx7_.trans (hx8_.trans (hx9_.trans (hx10_.trans (hx11_.trans (hx12_.trans (hx13_.trans (hx14_.trans (hx15_.trans hx16_))))))))))))))), ?_⟩
            first | rfl | contradiction | (exfalso; omega)
          · refine (toIntS_ok (h1.ext (e1.trans (hx1_.trans (hx2_.trans (hx3_.trans (hx4_.trans (hx5_.trans (hx6_.trans (hx7_.trans (hx8_.trans (hx9_.trans (hx10_.trans (hx11_.trans (hx12_.trans (hx13_.trans (hx14_.trans (hx15_.trans hx16_))))))))))))))))) (by omega)).mono ?_
            rintro r60 w17_ ⟨hx17_, o60⟩
            have o60 := o60.toI
            have hs_hx17_ := hx17_.size
            refine (eqIntS_ok2 o36.is (hx10_.trans (hx11_.trans (hx12_.trans (hx13_.trans (hx14_.trans (hx15_.trans (hx16_.trans hx17_))))))) o60.is (Ext.refl w17_)).mono ?_
            rintro _ w18_ ⟨hx18_, rfl⟩
            have hs_hx18_ := hx18_.size
            refine rd_nodec ?_
            refine br (fun c6 => ?_) (fun c6 => ?_)
            · refine ⟨(hx1_.trans (hx2_.trans (hx3_.trans (hx4_.trans (hx5_.trans (hx6_.trans (hx7_.trans (hx8_.trans (hx9_.trans (hx10_.trans (hx11_.trans (hx12_.trans (hx13_.trans (hx14_.trans (hx15_.trans (hx16_.trans (hx17_.trans hx18_))))))))))))))))), ?_⟩
              first | rfl | contradiction | (exfalso; omega)
            · refine rd_var hV8 (hx9_.trans (hx10_.trans (hx11_.trans (hx12_.trans (hx13_.trans (hx14_.trans (hx15_.trans (hx16_.trans (hx17_.trans hx18_))))))))) ?_
              refine (markCode_ok (o34.ext (hx8_.trans (hx9_.trans (hx10_.trans (hx11_.trans (hx12_.trans (hx13_.trans (hx14_.trans (hx15_.trans (hx16_.trans (hx17_.trans hx18_))))))))))) (by omega) (by omega) (by omega)).mono ?_
              rintro _ w19_ ⟨n65, rfl, hn65, hc19_⟩
              have hs_hc19_ := hc19_.size
              have o27_c19 := (o27.ext (hx4_.trans (hx5_.trans (hx6_.trans (hx7_.trans (hx8_.trans (hx9_.trans (hx10_.trans (hx11_.trans (hx12_.trans (hx13_.trans (hx14_.trans (hx15_.trans (hx16_.trans (hx17_.trans hx18_))))))))))))))).chg hc19_ (by omega)
              have o29_c19 := (o29.ext (hx5_.trans (hx6_.trans (hx7_.trans (hx8_.trans (hx9_.trans (hx10_.trans (hx11_.trans (hx12_.trans (hx13_.trans (hx14_.trans (hx15_.trans (hx16_.trans (hx17_.trans hx18_)))))))))))))).chg hc19_ (by omega)
              have oa30_c19 := (oa30.ext (hx6_.trans (hx7_.trans (hx8_.trans (hx9_.trans (hx10_.trans (hx11_.trans (hx12_.trans (hx13_.trans (hx14_.trans (hx15_.trans (hx16_.trans (hx17_.trans hx18_))))))))))))).chg hc19_ (by omega)
              have ob30_c19 := (ob30.ext (hx6_.trans (hx7_.trans (hx8_.trans (hx9_.trans (hx10_.trans (hx11_.trans (hx12_.trans (hx13_.trans (hx14_.trans (hx15_.trans (hx16_.trans (hx17_.trans hx18_))))))))))))).chg hc19_ (by omega)
              have hV6_c19 := (hV6.ext (hx7_.trans (hx8_.trans (hx9_.trans (hx10_.trans (hx11_.trans (hx12_.trans (hx13_.trans (hx14_.trans (hx15_.trans (hx16_.trans (hx17_.trans hx18_)))))))))))).chgI hc19_ (by omega)
              have hV8_c19 := (hV8.ext (hx9_.trans (hx10_.trans (hx11_.trans (hx12_.trans (hx13_.trans (hx14_.trans (hx15_.trans (hx16_.trans (hx17_.trans hx18_)))))))))).chgI hc19_ (by omega)
              have o36_c19 := (o36.ext (hx10_.trans (hx11_.trans (hx12_.trans (hx13_.trans (hx14_.trans (hx15_.trans (hx16_.trans (hx17_.trans hx18_))))))))).chg hc19_ (by omega)
              have oa40_c19 := (oa40.ext (hx11_.trans (hx12_.trans (hx13_.trans (hx14_.trans (hx15_.trans (hx16_.trans (hx17_.trans hx18_)))))))).chg hc19_ (by omega)
              have ob40_c19 := (ob40.ext (hx11_.trans (hx12_.trans (hx13_.trans (hx14_.trans (hx15_.trans (hx16_.trans (hx17_.trans hx18_)))))))).chg hc19_ (by omega)
              have hV10_c19 := (hV10.ext (hx12_.trans (hx13_.trans (hx14_.trans (hx15_.trans (hx16_.trans (hx17_.trans hx18_))))))).chgI hc19_ (by omega)
              have o55_c19 := (o55.ext (hx16_.trans (hx17_.trans hx18_))).chg hc19_ (by omega)
              have o60_c19 := (o60.ext hx18_).chg hc19_ (by omega)
              refine (markIntS_I (o36_c19.ext (Ext.refl w19_)) (by omega) (by omega) (by omega)).mono ?_
              rintro _ w20_ ⟨rfl, hc20_, o36_c20⟩
              have hs_hc20_ := hc20_.size
              have o27_c20 := (o27_c19.ext (Ext.refl w19_)).chg hc20_ (by omega)
              have o29_c20 := (o29_c19.ext (Ext.refl w19_)).chg hc20_ (by omega)
              have oa30_c20 := (oa30_c19.ext (Ext.refl w19_)).chg hc20_ (by omega)
              have ob30_c20 := (ob30_c19.ext (Ext.refl w19_)).chg hc20_ (by omega)
              have hV6_c20 := (hV6_c19.ext (Ext.refl w19_)).chgI hc20_ (by omega)
              have oa40_c20 := (oa40_c19.ext (Ext.refl w19_)).chg hc20_ (by omega)
              have ob40_c20 := (ob40_c19.ext (Ext.refl w19_)).chg hc20_ (by omega)
              have hV10_c20 := (hV10_c19.ext (Ext.refl w19_)).chgI hc20_ (by omega)
              have o55_c20 := (o55_c19.ext (Ext.refl w19_)).chg hc20_ (by omega)
              have o60_c20 := (o60_c19.ext (Ext.refl w19_)).chg hc20_ (by omega)
              refine rd_lss ?_
              refine br (fun c7 => ?_) (fun c7 => ?_)
              · refine ⟨(Ext.chgI (Ext.chgI (((((((((((((((((hx1_.trans hx2_).trans hx3_).trans hx4_).trans hx5_).trans hx6_).trans hx7_).trans hx8_).trans hx9_).trans hx10_).trans hx11_).trans hx12_).trans hx13_).trans hx14_).trans hx15_).trans hx16_).trans hx17_).trans hx18_) hc19_ (by omega)) hc20_ (by omega)), ?_⟩
                first | rfl | contradiction | (exfalso; omega)
              · refine rd_var hV10_c20 (Ext.refl w20_) ?_
                refine rd_var hV6_c20 (Ext.refl w20_) ?_
                refine (eqState_ok oa40_c20.is (Ext.refl w20_) oa30_c20.is (Ext.refl w20_)).mono ?_
                rintro _ w21_ ⟨hx21_, rfl⟩
                have hs_hx21_ := hx21_.size
                refine rd_nodec ?_
                refine br (fun c8 => ?_) (fun c8 => ?_)
                · refine ⟨((Ext.chgI (Ext.chgI (((((((((((((((((hx1_.trans hx2_).trans hx3_).trans hx4_).trans hx5_).trans hx6_).trans hx7_).trans hx8_).trans hx9_).trans hx10_).trans hx11_).trans hx12_).trans hx13_).trans hx14_).trans hx15_).trans hx16_).trans hx17_).trans hx18_) hc19_ (by omega)) hc20_ (by omega)).trans hx21_), ?_⟩
                  first | rfl | contradiction | (exfalso; omega)
                · refine (eqIntS_ok2 ob40_c20.is hx21_ ob30_c20.is hx21_).mono ?_
                  rintro _ w22_ ⟨hx22_, rfl⟩
                  have hs_hx22_ := hx22_.size
                  refine rd_nodec ?_
                  refine br (fun c9 => ?_) (fun c9 => ?_)
                  · refine ⟨(((Ext.chgI (Ext.chgI (((((((((((((((((hx1_.trans hx2_).trans hx3_).trans hx4_).trans hx5_).trans hx6_).trans hx7_).trans hx8_).trans hx9_).trans hx10_).trans hx11_).trans hx12_).trans hx13_).trans hx14_).trans hx15_).trans hx16_).trans hx17_).trans hx18_) hc19_ (by omega)) hc20_ (by omega)).trans hx21_).trans hx22_), ?_⟩
                    first | rfl | contradiction | (exfalso; omega)
                  · refine rd_var hV10_c20 (hx21_.trans hx22_) ?_
                    refine (markState_ok (oa40_c20.ext (hx21_.trans hx22_)) (by omega) (by omega) (by omega)).mono ?_
                    rintro _ w23_ ⟨rfl, hc23_, oa40_c23⟩
                    have hs_hc23_ := hc23_.size
                    have o27_c23 := (o27_c20.ext (hx21_.trans hx22_)).chg hc23_ (by omega)
                    have o29_c23 := (o29_c20.ext (hx21_.trans hx22_)).chg hc23_ (by omega)
                    have oa30_c23 := (oa30_c20.ext (hx21_.trans hx22_)).chg hc23_ (by omega)
                    have ob30_c23 := (ob30_c20.ext (hx21_.trans hx22_)).chg hc23_ (by omega)
                    have hV6_c23 := (hV6_c20.ext (hx21_.trans hx22_)).chgI hc23_ (by omega)
                    have o36_c23 := (o36_c20.ext (hx21_.trans hx22_)).chg hc23_ (by omega)
                    have ob40_c23 := (ob40_c20.ext (hx21_.trans hx22_)).chg hc23_ (by omega)
                    have hV10_c23 := (hV10_c20.ext (hx21_.trans hx22_)).chgI hc23_ (by omega)
                    have o55_c23 := (o55_c20.ext (hx21_.trans hx22_)).chg hc23_ (by omega)
                    have o60_c23 := (o60_c20.ext (hx21_.trans hx22_)).chg hc23_ (by omega)
                    refine (markIntS_I (ob40_c23.ext (Ext.refl w23_)) (by omega) (by omega) (by omega)).mono ?_
                    rintro _ w24_ ⟨rfl, hc24_, ob40_c24⟩
                    have hs_hc24_ := hc24_.size
                    have o27_c24 := (o27_c23.ext (Ext.refl w23_)).chg hc24_ (by omega)
                    have o29_c24 := (o29_c23.ext (Ext.refl w23_)).chg hc24_ (by omega)
                    have oa30_c24 := (oa30_c23.ext (Ext.refl w23_)).chg hc24_ (by omega)
                    have ob30_c24 := (ob30_c23.ext (Ext.refl w23_)).chg hc24_ (by omega)
                    have hV6_c24 := (hV6_c23.ext (Ext.refl w23_)).chgI hc24_ (by omega)
                    have o36_c24 := (o36_c23.ext (Ext.refl w23_)).chg hc24_ (by omega)
                    have oa40_c24 := (oa40_c23.ext (Ext.refl w23_)).chg hc24_ (by omega)
                    have hV10_c24 := (hV10_c23.ext (Ext.refl w23_)).chgI hc24_ (by omega)
                    have o55_c24 := (o55_c23.ext (Ext.refl w23_)).chg hc24_ (by omega)
                    have o60_c24 := (o60_c23.ext (Ext.refl w23_)).chg hc24_ (by omega)
                    refine rd_var hV10_c24 (Ext.refl w24_) ?_
                    refine (heldState_ok oa40_c24.is (Ext.refl w24_) (by omega) (by omega) (by omega)).mono ?_
                    rintro _ w25_ ⟨hx25_, rfl⟩
                    have hs_hx25_ := hx25_.size
                    refine rd_lss ?_
                    refine br (fun c10 => ?_) (fun c10 => ?_)
                    · refine ⟨((Ext.chgI (Ext.chgI (((Ext.chgI (Ext.chgI (((((((((((((((((hx1_.trans hx2_).trans hx3_).trans hx4_).trans hx5_).trans hx6_).trans hx7_).trans hx8_).trans hx9_).trans hx10_).trans hx11_).trans hx12_).trans hx13_).trans hx14_).trans hx15_).trans hx16_).trans hx17_).trans hx18_) hc19_ (by omega)) hc20_ (by omega)).trans hx21_).trans hx22_) hc23_ (by omega)) hc24_ (by omega)).trans hx25_), ?_⟩
                      first | rfl | contradiction | (exfalso; omega)
                    · refine (heldIntS_is ob40_c24.is hx25_ (by omega) (by omega) (by omega)).mono ?_
                      rintro _ w26_ ⟨hx26_, rfl⟩
                      have hs_hx26_ := hx26_.size
                      refine rd_lss ?_
                      refine br (fun c11 => ?_) (fun c11 => ?_)
                      · refine ⟨(((Ext.chgI (Ext.chgI (((Ext.chgI (Ext.chgI (((((((((((((((((hx1_.trans hx2_).trans hx3_).trans hx4_).trans hx5_).trans hx6_).trans hx7_).trans hx8_).trans hx9_).trans hx10_).trans hx11_).trans hx12_).trans hx13_).trans hx14_).trans hx15_).trans hx16_).trans hx17_).trans hx18_) hc19_ (by omega)) hc20_ (by omega)).trans hx21_).trans hx22_) hc23_ (by omega)) hc24_ (by omega)).trans hx25_).trans hx26_), ?_⟩
                        first | rfl | contradiction | (exfalso; omega)
                      · refine rd_neq ?_
                        refine br (fun c12 => ?_) (fun c12 => ?_)
                        · refine ⟨(((Ext.chgI (Ext.chgI (((Ext.chgI (Ext.chgI (((((((((((((((((hx1_.trans hx2_).trans hx3_).trans hx4_).trans hx5_).trans hx6_).trans hx7_).trans hx8_).trans hx9_).trans hx10_).trans hx11_).trans hx12_).trans hx13_).trans hx14_).trans hx15_).trans hx16_).trans hx17_).trans hx18_) hc19_ (by omega)) hc20_ (by omega)).trans hx21_).trans hx22_) hc23_ (by omega)) hc24_ (by omega)).trans hx25_).trans hx26_), ?_⟩
                          first | rfl | contradiction | (exfalso; omega)
                        · refine rd_var hV2 (((Ext.chgI (Ext.chgI (((Ext.chgI (Ext.chgI ((((((((((((((((hx2_.trans hx3_).trans hx4_).trans hx5_).trans hx6_).trans hx7_).trans hx8_).trans hx9_).trans hx10_).trans hx11_).trans hx12_).trans hx13_).trans hx14_).trans hx15_).trans hx16_).trans hx17_).trans hx18_) hc19_ (by omega)) hc20_ (by omega)).trans hx21_).trans hx22_) hc23_ (by omega)) hc24_ (by omega)).trans hx25_).trans hx26_) ?_
                          refine (toCode_ok (h0.ext (((Ext.chgI (Ext.chgI (((Ext.chgI (Ext.chgI ((((((((((((((((((e0.trans hx1_).trans hx2_).trans hx3_).trans hx4_).trans hx5_).trans hx6_).trans hx7_).trans hx8_).trans hx9_).trans hx10_).trans hx11_).trans hx12_).trans hx13_).trans hx14_).trans hx15_).trans hx16_).trans hx17_).trans hx18_) hc19_ (by omega)) hc20_ (by omega)).trans hx21_).trans hx22_) hc23_ (by omega)) hc24_ (by omega)).trans hx25_).trans hx26_)) (by omega)).mono ?_
                          rintro r104 w27_ ⟨hx27_, o104⟩
                          have o104 := o104.toI
                          have hs_hx27_ := hx27_.size
                          refine (toIntS_ok (h1.ext ((((Ext.chgI (Ext.chgI (((Ext.chgI (Ext.chgI ((((((((((((((((((e1.trans hx1_).trans hx2_).trans hx3_).trans hx4_).trans hx5_).trans hx6_).trans hx7_).trans hx8_).trans hx9_).trans hx10_).trans hx11_).trans hx12_).trans hx13_).trans hx14_).trans hx15_).trans hx16_).trans hx17_).trans hx18_) hc19_ (by omega)) hc20_ (by omega)).trans hx21_).trans hx22_) hc23_ (by omega)) hc24_ (by omega)).trans hx25_).trans hx26_).trans hx27_)) (by omega)).mono ?_
                          rintro r106 w28_ ⟨hx28_, o106⟩
                          have o106 := o106.toI
                          have hs_hx28_ := hx28_.size
                          refine (implRunOf_ok o104.is hx28_ o106.is (Ext.refl w28_) (by omega)).mono ?_
                          rintro _ w29_ ⟨hx29_, a107, b107, lo107, hi107, lo107_, hi107_, rfl, oa107, ob107, bd107⟩
                          have hs_hx29_ := hx29_.size
                          refine rd_extract rfl ?_
                          refine rd_extract rfl ?_
                          refine op_var zl30 rfl ty30 rfl oa107.is (Ext.refl w29_) fun w30_ hx30_ hA15 hV15 => ?_
                          have hs_hx30_ := hx30_.size
                          have hg15 := hV15.lt
                          refine rd_var hV15 (Ext.refl w30_) ?_
                          refine rd_var hV6_c24 (hx25_.trans (hx26_.trans (hx27_.trans (hx28_.trans (hx29_.trans hx30_))))) ?_
                          refine (eqState_ok oa107.is hx30_ oa30_c24.is (hx25_.trans (hx26_.trans (hx27_.trans (hx28_.trans (hx29_.trans hx30_)))))).mono ?_
                          rintro _ w31_ ⟨hx31_, rfl⟩
                          have hs_hx31_ := hx31_.size
                          refine rd_nodec ?_
                          refine br (fun c13 => ?_) (fun c13 => ?_)
                          · refine ⟨((((((((Ext.chgI (Ext.chgI (((Ext.chgI (Ext.chgI (((((((((((((((((hx1_.trans hx2_).trans hx3_).trans hx4_).trans hx5_).trans hx6_).trans hx7_).trans hx8_).trans hx9_).trans hx10_).trans hx11_).trans hx12_).trans hx13_).trans hx14_).trans hx15_).trans hx16_).trans hx17_).trans hx18_) hc19_ (by omega)) hc20_ (by omega)).trans hx21_).trans hx22_) hc23_ (by omega)) hc24_ (by omega)).trans hx25_).trans hx26_).trans hx27_).trans hx28_).trans hx29_).trans hx30_).trans hx31_), ?_⟩
                            first | rfl | contradiction | (exfalso; omega)
                          · refine (eqIntS_ok2 ob107.is (hx30_.trans hx31_) ob30_c24.is (hx25_.trans (hx26_.trans (hx27_.trans (hx28_.trans (hx29_.trans (hx30_.trans hx31_))))))).mono ?_
                            rintro _ w32_ ⟨hx32_, rfl⟩
                            have hs_hx32_ := hx32_.size
                            refine rd_nodec ?_
                            refine br (fun c14 => ?_) (fun c14 => ?_)
                            · refine ⟨(((((((((Ext.chgI (Ext.chgI (((Ext.chgI (Ext.chgI (((((((((((((((((hx1_.trans hx2_).trans hx3_).trans hx4_).trans hx5_).trans hx6_).trans hx7_).trans hx8_).trans hx9_).trans hx10_).trans hx11_).trans hx12_).trans hx13_).trans hx14_).trans hx15_).trans hx16_).trans hx17_).trans hx18_) hc19_ (by omega)) hc20_ (by omega)).trans hx21_).trans hx22_) hc23_ (by omega)) hc24_ (by omega)).trans hx25_).trans hx26_).trans hx27_).trans hx28_).trans hx29_).trans hx30_).trans hx31_).trans hx32_), ?_⟩
                              first | rfl | contradiction | (exfalso; omega)
                            · refine rd_var hV10_c24 (hx25_.trans (hx26_.trans (hx27_.trans (hx28_.trans (hx29_.trans (hx30_.trans (hx31_.trans hx32_))))))) ?_
                              refine (heldState_ok oa40_c24.is (hx25_.trans (hx26_.trans (hx27_.trans (hx28_.trans (hx29_.trans (hx30_.trans (hx31_.trans hx32_))))))) (by omega) (by omega) (by omega)).mono ?_
                              rintro _ w33_ ⟨hx33_, rfl⟩
                              have hs_hx33_ := hx33_.size
                              refine rd_lss ?_
                              refine br (fun c15 => ?_) (fun c15 => ?_)
                              · refine ⟨((((((((((Ext.chgI (Ext.chgI (((Ext.chgI (Ext.chgI (((((((((((((((((hx1_.trans hx2_).trans hx3_).trans hx4_).trans hx5_).trans hx6_).trans hx7_).trans hx8_).trans hx9_).trans hx10_).trans hx11_).trans hx12_).trans hx13_).trans hx14_).trans hx15_).trans hx16_).trans hx17_).trans hx18_) hc19_ (by omega)) hc20_ (by omega)).trans hx21_).trans hx22_) hc23_ (by omega)) hc24_ (by omega)).trans hx25_).trans hx26_).trans hx27_).trans hx28_).trans hx29_).trans hx30_).trans hx31_).trans hx32_).trans hx33_), ?_⟩
                                first | rfl | contradiction | (exfalso; omega)
                              · refine (heldIntS_is ob40_c24.is (hx25_.trans (hx26_.trans (hx27_.trans (hx28_.trans (hx29_.trans (hx30_.trans (hx31_.trans (hx32_.trans hx33_)))))))) (by omega) (by omega) (by omega)).mono ?_
                                rintro _ w34_ ⟨hx34_, rfl⟩
                                have hs_hx34_ := hx34_.size
                                refine rd_lss ?_
                                refine br (fun c16 => ?_) (fun c16 => ?_)
                                · refine ⟨(((((((((((Ext.chgI (Ext.chgI (((Ext.chgI (Ext.chgI (((((((((((((((((hx1_.trans hx2_).trans hx3_).trans hx4_).trans hx5_).trans hx6_).trans hx7_).trans hx8_).trans hx9_).trans hx10_).trans hx11_).trans hx12_).trans hx13_).trans hx14_).trans hx15_).trans hx16_).trans hx17_).trans hx18_) hc19_ (by omega)) hc20_ (by omega)).trans hx21_).trans hx22_) hc23_ (by omega)) hc24_ (by omega)).trans hx25_).trans hx26_).trans hx27_).trans hx28_).trans hx29_).trans hx30_).trans hx31_).trans hx32_).trans hx33_).trans hx34_), ?_⟩
                                  first | rfl | contradiction | (exfalso; omega)
                                · refine rd_neq ?_
                                  refine br (fun c17 => ?_) (fun c17 => ?_)
                                  · refine ⟨(((((((((((Ext.chgI (Ext.chgI (((Ext.chgI (Ext.chgI (((((((((((((((((hx1_.trans hx2_).trans hx3_).trans hx4_).trans hx5_).trans hx6_).trans hx7_).trans hx8_).trans hx9_).trans hx10_).trans hx11_).trans hx12_).trans hx13_).trans hx14_).trans hx15_).trans hx16_).trans hx17_).trans hx18_) hc19_ (by omega)) hc20_ (by omega)).trans hx21_).trans hx22_) hc23_ (by omega)) hc24_ (by omega)).trans hx25_).trans hx26_).trans hx27_).trans hx28_).trans hx29_).trans hx30_).trans hx31_).trans hx32_).trans hx33_).trans hx34_), ?_⟩
                                    first | rfl | contradiction | (exfalso; omega)
                                  · refine ⟨(((((((((((Ext.chgI (Ext.chgI (((Ext.chgI (Ext.chgI (((((((((((((((((hx1_.trans hx2_).trans hx3_).trans hx4_).trans hx5_).trans hx6_).trans hx7_).trans hx8_).trans hx9_).trans hx10_).trans hx11_).trans hx12_).trans hx13_).trans hx14_).trans hx15_).trans hx16_).trans hx17_).trans hx18_) hc19_ (by omega)) hc20_ (by omega)).trans hx21_).trans hx22_) hc23_ (by omega)) hc24_ (by omega)).trans hx25_).trans hx26_).trans hx27_).trans hx28_).trans hx29_).trans hx30_).trans hx31_).trans hx32_).trans hx33_).trans hx34_), ?_⟩
                                    first | rfl | contradiction | (exfalso; omega)

end Go.Proofs.Yteephmhilnlkpaa
