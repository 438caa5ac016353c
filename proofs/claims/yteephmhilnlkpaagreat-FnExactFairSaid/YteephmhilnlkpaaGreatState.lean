/-
  States: the program's and the reference's tests.
-/
import Derived.Test.YteephmhilnlkpaaGreatCodeOk
namespace Go.Proofs.YteephmhilnlkpaaGreat
open Go Go.Sh Go.Proofs
set_option linter.unusedVariables false
set_option linter.unusedSimpArgs false

theorem CodeR.f {c : DCode} (h : CodeR c) : EntF c := h.2.1.f h.1.procs8.2
/-- impl.isPlace -/
def F124 (a0 a1 : Value) (w : World) (R : Value → World → Prop) : Prop :=
  OP Tryz.prog (Instr.box 37 a0) w fun x2 w =>
  RD Tryz.prog (bin .geq 3 (.tmp 0) (.const undef) a1 (Value.int .i64 0)) w fun x6 =>
  BR x6
  (RD Tryz.prog (Instr.fieldAt 37 x2 4) w fun x9 =>
  RD Tryz.prog (Instr.loadAt 35 x9) w fun x10 =>
  RD Tryz.prog (Builtin.len_ #[35] 3 [x10].toArray) w fun x11 =>
  RD Tryz.prog (bin .lss 3 (.tmp 0) (.tmp 0) a1 x11) w fun x12 =>
  R x12 w)
  (R (Value.bool false) w)
def cfg124 : Cfg := { ext := extL, joins := [], loops := [], draws := [], pars := [] }
theorem F124_eq (a0 a1 : Value) (w : World) (R : Value → World → Prop) : vcF Tryz.prog cfg124 Tryz.f124 [a0, a1] w R = F124 a0 a1 w R := by kernel_rfl
theorem F124_call {a0 a1 : Value} {w : World} {R : Value → World → Prop} (h : F124 a0 a1 w R) : CALL Tryz.prog 124 [a0, a1] w R :=
  call_of (g := cfg124) ent mixed Tryz.func124 (Nat.le_of_ble_eq_true (by kernel_rfl)) (by kernel_rfl) (F124_eq a0 a1 w R ▸ h)


theorem isPlace_ok {w : World} {v0 : Value} {W0 : World} {c : DCode} {a : Int}  (h0 : Is W0 v0 c) (e0 : Ext W0 w)  :
    CALL Tryz.prog 124 [v0, .int .i64 a] w fun r w' => Ext w w' ∧ (r = .bool (decide (0 ≤ a ∧ a < c.ins.length))) := by
  refine F124_call ?_
  unfold F124
  refine op_boxS ty37 rfl h0 e0 fun w1_ hx1_ hA2 hV2 => ?_
  refine rd_geq ?_
  refine br (fun c1 => ?_) (fun c1 => ?_)
  · refine rd_fld fd37_4 ?_
    refine rd_load ty35 (at_DCode_4 hA2) (Ext.refl w1_) fun v10 h10 => ?_
    have hln11 := is_len h10
    refine rd_len u35 h10 ?_
    refine rd_lss ?_
    refine ⟨hx1_, ?_⟩
    simp [c1]
  · refine ⟨hx1_, ?_⟩
    simp [c1]

/-- impl.procIn -/
def F227 (a0 a1 : Value) (w : World) (R : Value → World → Prop) : Prop :=
  OP Tryz.prog (Instr.box 37 a0) w fun x2 w =>
  LOOPI [5] [(Value.int .i64 0)] w fun u2 w next2 =>
   RD Tryz.prog (bin .add 3 (.tmp 0) (.const undef) (u2 5) (Value.int .i64 1)) w fun x7 =>
   RD Tryz.prog (Instr.fieldAt 37 x2 3) w fun x8 =>
   RD Tryz.prog (Instr.loadAt 23 x8) w fun x9 =>
   RD Tryz.prog (Builtin.len_ #[23] 3 [x9].toArray) w fun x10 =>
   RD Tryz.prog (bin .lss 3 (.tmp 0) (.tmp 0) x7 x10) w fun x11 =>
   BR x11
   (RD Tryz.prog (Instr.fieldAt 37 x2 3) w fun x13 =>
   RD Tryz.prog (Instr.loadAt 23 x13) w fun x14 =>
   RD Tryz.prog (bin .add 3 (.tmp 0) (.const undef) (u2 5) (Value.int .i64 1)) w fun x16 =>
   RD Tryz.prog (Instr.indexAt 23 x14 x16) w fun x17 =>
   RD Tryz.prog (Instr.loadAt 3 x17) w fun x18 =>
   RD Tryz.prog (bin .leq 3 (.tmp 0) (.tmp 0) x18 a1) w fun x20 =>
   BR x20
    (RD Tryz.prog (bin .add 3 (.tmp 0) (.const undef) (u2 5) (Value.int .i64 1)) w fun x23 =>
    next2 [x23] w)
    (R (u2 5) w))
   (R (u2 5) w)
def cfg227 : Cfg := { ext := extL, joins := [], loops := [(2, 16777184, [5])], draws := [], pars := [] }
theorem F227_eq (a0 a1 : Value) (w : World) (R : Value → World → Prop) : vcF Tryz.prog cfg227 Tryz.f227 [a0, a1] w R = F227 a0 a1 w R := by kernel_rfl
theorem F227_call {a0 a1 : Value} {w : World} {R : Value → World → Prop} (h : F227 a0 a1 w R) : CALL Tryz.prog 227 [a0, a1] w R :=
  call_of (g := cfg227) ent mixed Tryz.func227 (Nat.le_of_ble_eq_true (by kernel_rfl)) (by kernel_rfl) (F227_eq a0 a1 w R ▸ h)


theorem procIn_ok {w : World} {v0 : Value} {W0 : World} {c : DCode} {a : Int}  (h0 : Is W0 v0 c) (e0 : Ext W0 w) (hc : CodeR c) (ha : 0 ≤ a) (ha2 : a < c.ins.length) :
    CALL Tryz.prog 227 [v0, .int .i64 a] w fun r w' => Ext w w' ∧ (r = .int .i64 (procOf c a)) := by
  refine F227_call ?_
  unfold F227
  have hf := hc.f
  have h8 := hc.1.procs8
  have hl := hf.len
  refine op_boxS ty37 rfl h0 e0 fun w1_ hx1_ hA2 hV2 => ?_
  refine loopC (c.entry.length - 1) (fun k us w' => us = [.int .i64 (k : Int)] ∧ Ext w1_ w' ∧ (en c k ≤ a)) (0) (by omega) ⟨by simp, Ext.refl w1_, by rw [hf.zero]; exact ha⟩ ?_
  rintro k m2 uu2 w2_ hk2 ⟨hu, hx2_, hinv⟩
  simp only [List.map_cons, List.map_nil, List.cons.injEq, and_true] at hu
  try rw [hu]
  try clear hu
  refine rd_inc (by omega) ?_
  refine rd_fld fd37_3 ?_
  refine rd_load ty23 (at_DCode_3 hA2) hx2_ fun v9 h9 => ?_
  have hln10 := is_len h9
  refine rd_len u23 h9 ?_
  refine rd_lss ?_
  refine br (fun c1 => ?_) (fun c1 => ?_)
  · refine rd_fld fd37_3 ?_
    refine rd_load ty23 (at_DCode_3 hA2) hx2_ fun v14 h14 => ?_
    refine rd_inc (by omega) ?_
    refine rd_indexN u23 ty3 h14 (by omega) fun b17 o17 h17 => ?_
    refine rd_loadI ty3 h17 hx2_ fun hI18 => ?_
    refine rd_leq ?_
    refine br (fun c2 => ?_) (fun c2 => ?_)
    · refine rd_inc (by omega) ?_
      refine ⟨m2 - 1, by omega, k + 1, by omega, by simp, hx2_, ?_⟩
      rwa [en_get] at c2
    · refine ⟨(hx1_.trans hx2_), ?_⟩
      rw [en_get] at c2
      rw [hf.proc (i := k) (by omega) hinv (by rw [hf.step (by omega)]; omega)]
  · refine ⟨(hx1_.trans hx2_), ?_⟩
    rw [hf.proc (i := k) (by omega) hinv (by rw [hf.last (by omega)]; omega)]

/-- the i-th place of a stack -/
def st (l : List Int) (i : Nat) : Int := l.getD i 0
theorem st_get {l : List Int} {i : Nat} (h : i < l.length) : l[i] = st l i := by unfold st; rw [List.getD_eq_getElem?_getD, List.getElem?_eq_getElem h]; rfl
def StackR (c : DCode) (l : List Int) : Prop := l.length ≤ 8 ∧ (∀ i, i < l.length → 0 ≤ st l i ∧ st l i < c.ins.length) ∧
  ∀ i, i < l.length - 1 → (insAt c (st l i).toNat).op = 4 ∧ procOf c (st l (i + 1)) = (insAt c (st l i).toNat).arg
instance (c : DCode) (l : List Int) : Decidable (StackR c l) := by unfold StackR; infer_instance
/-- spec.l21Stack -/
def F217 (a0 a1 : Value) (w : World) (R : Value → World → Prop) : Prop :=
  OP Tryz.prog (Instr.box 37 a0) w fun x2 w =>
  RD Tryz.prog (Builtin.len_ #[23] 3 [a1].toArray) w fun x9 =>
  RD Tryz.prog (bin .gtr 3 (.tmp 0) (.const undef) x9 (Value.int .i64 8)) w fun x10 =>
  BR x10
   (R (Value.bool false) w)
   (LOOPI [5] [(Value.int .i64 0)] w fun u4 w next4 =>
    RD Tryz.prog (Builtin.len_ #[23] 3 [a1].toArray) w fun x13 =>
    RD Tryz.prog (bin .lss 3 (.tmp 0) (.tmp 0) (u4 5) x13) w fun x14 =>
    BR x14
     ((fun w => RD Tryz.prog (Instr.indexAt 23 a1 (u4 5)) w fun x19 =>
     RD Tryz.prog (Instr.loadAt 3 x19) w fun x20 =>
     RD Tryz.prog (Instr.fieldAt 37 x2 4) w fun x21 =>
     RD Tryz.prog (Instr.loadAt 35 x21) w fun x22 =>
     RD Tryz.prog (Builtin.len_ #[35] 3 [x22].toArray) w fun x23 =>
     RD Tryz.prog (bin .sub 3 (.tmp 0) (.const undef) x23 (Value.int .i64 1)) w fun x24 =>
     CALL Tryz.prog 156 [x20, (Value.int .i64 0), x24] w fun x25 w =>
     RD Tryz.prog (Op.unary .not x25) w fun x26 =>
     BR x26
      (R (Value.bool false) w)
      (RD Tryz.prog (bin .add 3 (.tmp 0) (.const undef) (u4 5) (Value.int .i64 1)) w fun x16 =>
      next4 [x16] w)) (World.drew1 w))
     (LOOPI [6] [(Value.int .i64 0)] w fun u9 w next9 =>
      RD Tryz.prog (bin .add 3 (.tmp 0) (.const undef) (u9 6) (Value.int .i64 1)) w fun x28 =>
      RD Tryz.prog (Builtin.len_ #[23] 3 [a1].toArray) w fun x30 =>
      RD Tryz.prog (bin .lss 3 (.tmp 0) (.tmp 0) x28 x30) w fun x31 =>
      BR x31
       ((fun w => RD Tryz.prog (Instr.fieldAt 37 x2 4) w fun x34 =>
       RD Tryz.prog (Instr.loadAt 35 x34) w fun x35 =>
       RD Tryz.prog (Instr.indexAt 23 a1 (u9 6)) w fun x38 =>
       RD Tryz.prog (Instr.loadAt 3 x38) w fun x39 =>
       RD Tryz.prog (Instr.indexAt 35 x35 x39) w fun x40 =>
       RD Tryz.prog (Instr.loadAt 135 x40) w fun x41 =>
       (fun w_ => OP Tryz.prog (Instr.alloc 135 true (.tuple #[])) w_ fun x7 w =>
       Ext w_ w ∧
       OPU Tryz.prog (Instr.storeAt 135 x7 x41) w fun w =>
       (fun w => RD Tryz.prog (Instr.fieldAt 135 x7 0) w fun x42 =>
       RD Tryz.prog (Instr.loadAt 3 x42) w fun x43 =>
       RD Tryz.prog (bin .neq 3 (.tmp 0) (.const undef) x43 (Value.int .i64 4)) w fun x44 =>
       BR x44
       (R (Value.bool false) w)
       (RD Tryz.prog (Instr.loadAt 37 x2) w fun x46 =>
       RD Tryz.prog (bin .add 3 (.tmp 0) (.const undef) (u9 6) (Value.int .i64 1)) w fun x49 =>
       RD Tryz.prog (Instr.indexAt 23 a1 x49) w fun x50 =>
       RD Tryz.prog (Instr.loadAt 3 x50) w fun x51 =>
       RD Tryz.prog (Instr.fieldAt 135 x7 1) w fun x53 =>
       RD Tryz.prog (Instr.loadAt 3 x53) w fun x54 =>
       (fun w_ => CALL Tryz.prog 202 [x46, x51] w_ fun x52 w =>
       Ext w_ w ∧
       RD Tryz.prog (bin .neq 3 (.tmp 0) (.tmp 0) x52 x54) w fun x55 =>
       BR x55
        (R (Value.bool false) w)
        (RD Tryz.prog (bin .add 3 (.tmp 0) (.const undef) (u9 6) (Value.int .i64 1)) w fun x33 =>
        next9 [x33] w)) w)) (World.drew1 w)) w) (World.drew1 w))
       (R (Value.bool true) w)))
def cfg217 : Cfg := { ext := extL, joins := [], loops := [(4, 134215728, [5]), (9, 144115187941638352, [6])], draws := [(6, [0, 1, 2, 3, 4, 5, 6, 7, 8, 9], 0), (11, [0, 1, 2, 3, 4, 5, 6, 7, 8, 9], 256), (12, [0, 1, 2, 3, 4, 5, 6, 7, 8, 9, 11, 12, 10, 13, 14], 1024)], pars := [] }
theorem F217_eq (a0 a1 : Value) (w : World) (R : Value → World → Prop) : vcF Tryz.prog cfg217 Tryz.f217 [a0, a1] w R = F217 a0 a1 w R := by kernel_rfl
theorem F217_call {a0 a1 : Value} {w : World} {R : Value → World → Prop} (h : F217 a0 a1 w R) : CALL Tryz.prog 217 [a0, a1] w R :=
  call_of (g := cfg217) ent mixed Tryz.func217 (Nat.le_of_ble_eq_true (by kernel_rfl)) (by kernel_rfl) (F217_eq a0 a1 w R ▸ h)


theorem l21Stack_ok {w : World} {v0 : Value} {W0 : World} {c : DCode} {v1 : Value} {W1 : World} {l : (List Int)}  (h0 : Is W0 v0 c) (e0 : Ext W0 w) (h1 : Is W1 v1 l) (e1 : Ext W1 w)  :
    CALL Tryz.prog 217 [v0, v1] w fun r w' => Ext w w' ∧ (r = .bool (decide (StackR c l))) := by
  refine F217_call ?_
  unfold F217
  have hln := is_len h1
  refine op_boxS ty37 rfl h0 e0 fun w1_ hx1_ hA2 hV2 => ?_
  have hln9 := is_len h1
  refine rd_len u23 h1 ?_
  refine rd_gtr ?_
  refine br (fun c1 => ?_) (fun c1 => ?_)
  · refine ⟨hx1_, ?_⟩
    have : ¬ StackR c l := fun h => by have := h.1; omega
    simp only [this, decide_false]
  · refine loopC (l.length) (fun k us w' => us = [.int .i64 (k : Int)] ∧ Ext w1_ w' ∧ (∀ i, i < k → 0 ≤ st l i ∧ st l i < c.ins.length)) (0) (by omega) ⟨by simp, Ext.refl w1_, fun i h => by omega⟩ ?_
    rintro k m4 uu4 w2_ hk4 ⟨hu, hx2_, hpl⟩
    simp only [List.map_cons, List.map_nil, List.cons.injEq, and_true] at hu
    try rw [hu]
    try clear hu
    have hln13 := is_len h1
    refine rd_len u23 h1 ?_
    refine rd_lss ?_
    refine br (fun c2 => ?_) (fun c2 => ?_)
    · have hx3_ := ext_drew w2_
      refine rd_indexN u23 ty3 h1 (by omega) fun b19 o19 h19 => ?_
      refine rd_loadI ty3 h19 (e1.trans (hx1_.trans (hx2_.trans hx3_))) fun hI20 => ?_
      refine rd_fld fd37_4 ?_
      refine rd_load ty35 (at_DCode_4 hA2) (hx2_.trans hx3_) fun v22 h22 => ?_
      have hln23 := is_len h22
      refine rd_len u35 h22 ?_
      refine rd_sub (by unfold I64; have := is_len h22; omega) ?_
      refine (l01In_ok ).mono ?_
      rintro _ w4_ ⟨hx4_, rfl⟩
      refine rd_nodec ?_
      refine br (fun c3 => ?_) (fun c3 => ?_)
      · refine ⟨(hx1_.trans (hx2_.trans (hx3_.trans hx4_))), ?_⟩
        rw [st_get] at c3
        have : ¬ StackR c l := fun h => c3 (by have := h.2.1 k (by omega); omega)
        simp only [this, decide_false]
      · refine rd_inc (by omega) ?_
        refine ⟨m4 - 1, by omega, k + 1, by omega, by simp, (hx2_.trans (hx3_.trans hx4_)), ?_⟩
        rw [st_get] at c3
        exact all_succ hpl (by omega)
    · refine loopC (l.length) (fun q us w' => us = [.int .i64 (q : Int)] ∧ Ext w2_ w' ∧ (∀ i, i < q → (insAt c (st l i).toNat).op = 4 ∧ procOf c (st l (i + 1)) = (insAt c (st l i).toNat).arg)) (0) (by omega) ⟨by simp, Ext.refl w2_, fun i h => by omega⟩ ?_
      rintro q m9 uu9 w5_ hk9 ⟨hu, hx5_, hinv⟩
      simp only [List.map_cons, List.map_nil, List.cons.injEq, and_true] at hu
      try rw [hu]
      try clear hu
      refine rd_inc (by omega) ?_
      have hln30 := is_len h1
      refine rd_len u23 h1 ?_
      refine rd_lss ?_
      refine br (fun c4 => ?_) (fun c4 => ?_)
      · have hx6_ := ext_drew w5_
        refine rd_fld fd37_4 ?_
        refine rd_load ty35 (at_DCode_4 hA2) (hx2_.trans (hx5_.trans hx6_)) fun v35 h35 => ?_
        refine rd_indexN u23 ty3 h1 (by omega) fun b38 o38 h38 => ?_
        refine rd_loadI ty3 h38 (e1.trans (hx1_.trans (hx2_.trans (hx5_.trans hx6_)))) fun hI39 => ?_
        rw [st_get]
        have hst := hpl q (by omega)
        refine rd_index u35 ty135 h35 (by omega) (by omega) fun b40 o40 h40 => ?_
        refine rd_load ty135 h40 (hx2_.trans (hx5_.trans hx6_)) fun v41 h41 => ?_
        rw [insAt_get] at h41
        refine op_varX zl135 rfl ty135 rfl h41 (hx2_.trans (hx5_.trans hx6_)) fun w7_ hx7_ hA7 hV7 => ?_
        have hx8_ := ext_drew w7_
        refine rd_fld fd135_0 ?_
        refine rd_loadI ty3 (at_DIns_0 hA7) hx8_ fun hI43 => ?_
        refine rd_neq ?_
        refine br (fun c5 => ?_) (fun c5 => ?_)
        · refine ⟨(hx1_.trans (hx2_.trans (hx5_.trans (hx6_.trans (hx7_.trans hx8_))))), ?_⟩
          have : ¬ StackR c l := fun h => c5 (h.2.2 q (by omega)).1
          simp only [this, decide_false]
        · refine rd_var hV2 (hx2_.trans (hx5_.trans (hx6_.trans (hx7_.trans hx8_)))) ?_
          refine rd_inc (by omega) ?_
          refine rd_indexN u23 ty3 h1 (by omega) fun b50 o50 h50 => ?_
          refine rd_loadI ty3 h50 (e1.trans (hx1_.trans (hx2_.trans (hx5_.trans (hx6_.trans (hx7_.trans hx8_)))))) fun hI51 => ?_
          refine rd_fld fd135_1 ?_
          refine rd_loadI ty3 (at_DIns_1 hA7) hx8_ fun hI54 => ?_
          refine (l08Proc_ok h0 (e0.trans (hx1_.trans (hx2_.trans (hx5_.trans (hx6_.trans (hx7_.trans hx8_))))))).mono ?_
          rintro _ w9_ ⟨hx9_, rfl⟩
          refine ⟨hx9_, ?_⟩
          refine rd_neq ?_
          refine br (fun c6 => ?_) (fun c6 => ?_)
          · refine ⟨(hx1_.trans (hx2_.trans (hx5_.trans (hx6_.trans (hx7_.trans (hx8_.trans hx9_)))))), ?_⟩
            rw [st_get] at c6
            have : ¬ StackR c l := fun h => c6 (h.2.2 q (by omega)).2
            simp only [this, decide_false]
          · refine rd_inc (by omega) ?_
            refine ⟨m9 - 1, by omega, q + 1, by omega, by simp, (hx5_.trans (hx6_.trans (hx7_.trans (hx8_.trans hx9_)))), ?_⟩
            rw [st_get] at c6
            exact all_succ hinv ⟨Decidable.not_not.1 c5, Decidable.not_not.1 c6⟩
      · refine ⟨(hx1_.trans (hx2_.trans hx5_)), ?_⟩
        have : StackR c l := ⟨by omega, fun i hi => hpl i (by omega), fun i hi => hinv i (by omega)⟩
        simp only [this, decide_true]

/-- impl.stackRight -/
def F161 (a0 a1 : Value) (w : World) (R : Value → World → Prop) : Prop :=
  OP Tryz.prog (Instr.box 37 a0) w fun x2 w =>
  RD Tryz.prog (Builtin.len_ #[23] 3 [a1].toArray) w fun x8 =>
  RD Tryz.prog (bin .gtr 3 (.tmp 0) (.const undef) x8 (Value.int .i64 8)) w fun x9 =>
  BR x9
   (R (Value.bool false) w)
   (RD Tryz.prog (Builtin.len_ #[23] 3 [a1].toArray) w fun x11 =>
   LOOPI [12] [(Value.int .i64 0)] w fun u4 w next4 =>
    RD Tryz.prog (bin .lss 3 (.tmp 0) (.tmp 0) (u4 12) x11) w fun x13 =>
    BR x13
     (RD Tryz.prog (Instr.indexAt 23 a1 (u4 12)) w fun x15 =>
     RD Tryz.prog (Instr.loadAt 3 x15) w fun x16 =>
     RD Tryz.prog (Instr.loadAt 37 x2) w fun x17 =>
     CALL Tryz.prog 124 [x17, x16] w fun x19 w =>
     RD Tryz.prog (Op.unary .not x19) w fun x20 =>
     BR x20
      (R (Value.bool false) w)
      (RD Tryz.prog (bin .add 3 (.tmp 0) (.const undef) (u4 12) (Value.int .i64 1)) w fun x22 =>
      RD Tryz.prog (Builtin.len_ #[23] 3 [a1].toArray) w fun x24 =>
      RD Tryz.prog (bin .eql 3 (.tmp 0) (.tmp 0) x22 x24) w fun x25 =>
      BR x25
       (R (Value.bool true) w)
       ((fun w => RD Tryz.prog (Instr.fieldAt 37 x2 4) w fun x26 =>
       RD Tryz.prog (Instr.loadAt 35 x26) w fun x27 =>
       RD Tryz.prog (Instr.indexAt 35 x27 x16) w fun x29 =>
       RD Tryz.prog (Instr.fieldAt 135 x29 0) w fun x30 =>
       RD Tryz.prog (Instr.loadAt 3 x30) w fun x31 =>
       RD Tryz.prog (bin .neq 3 (.tmp 0) (.const undef) x31 (Value.int .i64 4)) w fun x32 =>
       BR x32
       (R (Value.bool false) w)
       (RD Tryz.prog (Instr.loadAt 37 x2) w fun x34 =>
       RD Tryz.prog (bin .add 3 (.tmp 0) (.const undef) (u4 12) (Value.int .i64 1)) w fun x37 =>
       RD Tryz.prog (Instr.indexAt 23 a1 x37) w fun x38 =>
       RD Tryz.prog (Instr.loadAt 3 x38) w fun x39 =>
       CALL Tryz.prog 124 [x34, x39] w fun x40 w =>
       RD Tryz.prog (Op.unary .not x40) w fun x41 =>
       BR x41
       (R (Value.bool false) w)
       (RD Tryz.prog (Instr.loadAt 37 x2) w fun x44 =>
       RD Tryz.prog (bin .add 3 (.tmp 0) (.const undef) (u4 12) (Value.int .i64 1)) w fun x47 =>
       RD Tryz.prog (Instr.indexAt 23 a1 x47) w fun x48 =>
       RD Tryz.prog (Instr.loadAt 3 x48) w fun x49 =>
       RD Tryz.prog (Instr.fieldAt 37 x2 4) w fun x51 =>
       RD Tryz.prog (Instr.loadAt 35 x51) w fun x52 =>
       RD Tryz.prog (Instr.indexAt 35 x52 x16) w fun x54 =>
       RD Tryz.prog (Instr.fieldAt 135 x54 1) w fun x55 =>
       RD Tryz.prog (Instr.loadAt 3 x55) w fun x56 =>
       (fun w_ => CALL Tryz.prog 227 [x44, x49] w_ fun x50 w =>
       Ext w_ w ∧
       RD Tryz.prog (bin .neq 3 (.tmp 0) (.tmp 0) x50 x56) w fun x57 =>
       BR x57
        (R (Value.bool false) w)
        (RD Tryz.prog (bin .add 3 (.tmp 0) (.const undef) (u4 12) (Value.int .i64 1)) w fun x59 =>
        next4 [x59] w)) w))) (World.drew1 w))))
     (R (Value.bool true) w))
def cfg161 : Cfg := { ext := extL, joins := [], loops := [(4, 1152921504606842992, [12])], draws := [(9, [0, 1, 2, 3, 4, 5, 6, 7, 8, 9, 10, 11, 12, 13, 14, 15, 16, 17, 18, 19, 20, 21, 22, 23, 25, 26, 27, 28, 29, 30, 24, 31, 32], 16777216)], pars := [] }
theorem F161_eq (a0 a1 : Value) (w : World) (R : Value → World → Prop) : vcF Tryz.prog cfg161 Tryz.f161 [a0, a1] w R = F161 a0 a1 w R := by kernel_rfl
theorem F161_call {a0 a1 : Value} {w : World} {R : Value → World → Prop} (h : F161 a0 a1 w R) : CALL Tryz.prog 161 [a0, a1] w R :=
  call_of (g := cfg161) ent mixed Tryz.func161 (Nat.le_of_ble_eq_true (by kernel_rfl)) (by kernel_rfl) (F161_eq a0 a1 w R ▸ h)


theorem stackRight_ok {w : World} {v0 : Value} {W0 : World} {c : DCode} {v1 : Value} {W1 : World} {l : (List Int)}  (h0 : Is W0 v0 c) (e0 : Ext W0 w) (h1 : Is W1 v1 l) (e1 : Ext W1 w) (hc : CodeR c) :
    CALL Tryz.prog 161 [v0, v1] w fun r w' => Ext w w' ∧ (r = .bool (decide (StackR c l))) := by
  refine F161_call ?_
  unfold F161
  have hln := is_len h1
  refine op_boxS ty37 rfl h0 e0 fun w1_ hx1_ hA2 hV2 => ?_
  have hln8 := is_len h1
  refine rd_len u23 h1 ?_
  refine rd_gtr ?_
  refine br (fun c1 => ?_) (fun c1 => ?_)
  · refine ⟨hx1_, ?_⟩
    have : ¬ StackR c l := fun h => by have := h.1; omega
    simp only [this, decide_false]
  · have hln11 := is_len h1
    refine rd_len u23 h1 ?_
    refine loopC (l.length) (fun k us w' => us = [.int .i64 (k : Int)] ∧ Ext w1_ w' ∧ (k ≤ l.length - 1 ∧ (∀ i, i < k → 0 ≤ st l i ∧ st l i < c.ins.length) ∧ ∀ i, i < k → (insAt c (st l i).toNat).op = 4 ∧ procOf c (st l (i + 1)) = (insAt c (st l i).toNat).arg)) (0) (by omega) ⟨by simp, Ext.refl w1_, by omega, fun i h => by omega, fun i h => by omega⟩ ?_
    rintro k m4 uu4 w2_ hk4 ⟨hu, hx2_, hkl, hpl, hop⟩
    simp only [List.map_cons, List.map_nil, List.cons.injEq, and_true] at hu
    try rw [hu]
    try clear hu
    refine rd_lss ?_
    refine br (fun c2 => ?_) (fun c2 => ?_)
    · refine rd_indexN u23 ty3 h1 (by omega) fun b15 o15 h15 => ?_
      refine rd_loadI ty3 h15 (e1.trans (hx1_.trans hx2_)) fun hI16 => ?_
      rw [st_get]
      refine rd_var hV2 hx2_ ?_
      refine (isPlace_ok h0 (e0.trans (hx1_.trans hx2_))).mono ?_
      rintro _ w3_ ⟨hx3_, rfl⟩
      refine rd_nodec ?_
      refine br (fun c3 => ?_) (fun c3 => ?_)
      · refine ⟨(hx1_.trans (hx2_.trans hx3_)), ?_⟩
        have : ¬ StackR c l := fun h => c3 (by have := h.2.1 k (by omega); omega)
        simp only [this, decide_false]
      · refine rd_inc (by omega) ?_
        have hln24 := is_len h1
        refine rd_len u23 h1 ?_
        refine rd_eql ?_
        refine br (fun c4 => ?_) (fun c4 => ?_)
        · refine ⟨(hx1_.trans (hx2_.trans hx3_)), ?_⟩
          have : StackR c l := ⟨by omega, fun i hi => by
              by_cases e : i = k
              · subst e; omega
              · exact hpl i (by omega), fun i hi => hop i (by omega)⟩
          simp only [this, decide_true]
        · have hx4_ := ext_drew w3_
          refine rd_fld fd37_4 ?_
          refine rd_load ty35 (at_DCode_4 hA2) (hx2_.trans (hx3_.trans hx4_)) fun v27 h27 => ?_
          have hst1 : 0 ≤ st l k ∧ st l k < c.ins.length := by omega
          refine rd_index u35 ty135 h27 (by omega) (by omega) fun b29 o29 h29 => ?_
          refine rd_fld fd135_0 ?_
          refine rd_loadI ty3 (at_DIns_0 h29) (hx2_.trans (hx3_.trans hx4_)) fun hI31 => ?_
          refine rd_neq ?_
          refine br (fun c5 => ?_) (fun c5 => ?_)
          · refine ⟨(hx1_.trans (hx2_.trans (hx3_.trans hx4_))), ?_⟩
            rw [insAt_get] at c5
            have : ¬ StackR c l := fun h => c5 (h.2.2 k (by omega)).1
            simp only [this, decide_false]
          · refine rd_var hV2 (hx2_.trans (hx3_.trans hx4_)) ?_
            refine rd_inc (by omega) ?_
            refine rd_indexN u23 ty3 h1 (by omega) fun b38 o38 h38 => ?_
            refine rd_loadI ty3 h38 (e1.trans (hx1_.trans (hx2_.trans (hx3_.trans hx4_)))) fun hI39 => ?_
            refine (isPlace_ok h0 (e0.trans (hx1_.trans (hx2_.trans (hx3_.trans hx4_))))).mono ?_
            rintro _ w5_ ⟨hx5_, rfl⟩
            refine rd_nodec ?_
            refine br (fun c6 => ?_) (fun c6 => ?_)
            · refine ⟨(hx1_.trans (hx2_.trans (hx3_.trans (hx4_.trans hx5_)))), ?_⟩
              rw [st_get] at c6
              have : ¬ StackR c l := fun h => c6 (by have := h.2.1 (k + 1) (by omega); omega)
              simp only [this, decide_false]
            · refine rd_var hV2 (hx2_.trans (hx3_.trans (hx4_.trans hx5_))) ?_
              refine rd_inc (by omega) ?_
              refine rd_indexN u23 ty3 h1 (by omega) fun b48 o48 h48 => ?_
              refine rd_loadI ty3 h48 (e1.trans (hx1_.trans (hx2_.trans (hx3_.trans (hx4_.trans hx5_))))) fun hI49 => ?_
              refine rd_fld fd37_4 ?_
              refine rd_load ty35 (at_DCode_4 hA2) (hx2_.trans (hx3_.trans (hx4_.trans hx5_))) fun v52 h52 => ?_
              refine rd_index u35 ty135 h52 (by omega) (by omega) fun b54 o54 h54 => ?_
              refine rd_fld fd135_1 ?_
              refine rd_loadI ty3 (at_DIns_1 h54) (hx2_.trans (hx3_.trans (hx4_.trans hx5_))) fun hI56 => ?_
              rw [st_get] at c6
              rw [st_get]
              refine (procIn_ok h0 (e0.trans (hx1_.trans (hx2_.trans (hx3_.trans (hx4_.trans hx5_))))) (by assumption) (by omega) (by omega)).mono ?_
              rintro _ w6_ ⟨hx6_, rfl⟩
              refine ⟨hx6_, ?_⟩
              refine rd_neq ?_
              refine br (fun c7 => ?_) (fun c7 => ?_)
              · refine ⟨(hx1_.trans (hx2_.trans (hx3_.trans (hx4_.trans (hx5_.trans hx6_))))), ?_⟩
                rw [insAt_get] at c7
                have : ¬ StackR c l := fun h => c7 (h.2.2 k (by omega)).2
                simp only [this, decide_false]
              · refine rd_inc (by omega) ?_
                refine ⟨m4 - 1, by omega, k + 1, by omega, by simp, (hx2_.trans (hx3_.trans (hx4_.trans (hx5_.trans hx6_)))), ?_⟩
                rw [insAt_get] at c7 c5
                exact ⟨by omega, all_succ hpl hst1, all_succ hop ⟨Decidable.not_not.1 c5, Decidable.not_not.1 c7⟩⟩
    · refine ⟨(hx1_.trans hx2_), ?_⟩
      have : StackR c l := ⟨by omega, fun i hi => hpl i (by omega), fun i hi => hop i (by omega)⟩
      simp only [this, decide_true]

def StateR (c : DCode) (s : DState) : Prop := s.vars.length = c.globals.length ∧ s.owner.length = c.locks.length ∧ (1 ≤ s.stacks.length ∧ s.stacks.length ≤ 6) ∧ (∀ v ∈ s.vars, 0 ≤ v ∧ v ≤ 999) ∧
  (∀ o ∈ s.owner, -1 ≤ o ∧ o < s.stacks.length) ∧ ∀ l ∈ s.stacks, StackR c l
instance (c : DCode) (s : DState) : Decidable (StateR c s) := by unfold StateR; infer_instance
theorem mem_succ {α : Type} {P : α → Prop} {l : List α} {k : Nat} (hk : k < l.length) (h : ∀ x ∈ l.take k, P x) (hp : P l[k]) : ∀ x ∈ l.take (k + 1), P x := by
  intro x hx
  rw [List.take_succ_eq_append_getElem hk] at hx
  rcases List.mem_append.1 hx with hx | hx
  · exact h x hx
  · simp only [List.mem_cons, List.not_mem_nil, or_false] at hx
    subst hx; exact hp
theorem mem_all {α : Type} {P : α → Prop} {l : List α} {k : Nat} (hk : l.length ≤ k) (h : ∀ x ∈ l.take k, P x) : ∀ x ∈ l, P x := by
  rwa [List.take_of_length_le hk] at h
/-- spec.l21Right -/
def F145 (a0 a1 : Value) (w : World) (R : Value → World → Prop) : Prop :=
  OP Tryz.prog (Instr.box 37 a0) w fun x2 w =>
  OP Tryz.prog (Instr.box 32 a1) w fun x3 w =>
  RD Tryz.prog (Instr.fieldAt 32 x3 0) w fun x8 =>
  RD Tryz.prog (Instr.loadAt 23 x8) w fun x9 =>
  RD Tryz.prog (Builtin.len_ #[23] 3 [x9].toArray) w fun x10 =>
  RD Tryz.prog (Instr.fieldAt 37 x2 0) w fun x11 =>
  RD Tryz.prog (Instr.loadAt 22 x11) w fun x12 =>
  RD Tryz.prog (Builtin.len_ #[22] 3 [x12].toArray) w fun x13 =>
  RD Tryz.prog (bin .neq 3 (.tmp 0) (.tmp 0) x10 x13) w fun x14 =>
  BR x14
  (R (Value.bool false) w)
  (RD Tryz.prog (Instr.fieldAt 32 x3 1) w fun x16 =>
  RD Tryz.prog (Instr.loadAt 23 x16) w fun x17 =>
  RD Tryz.prog (Builtin.len_ #[23] 3 [x17].toArray) w fun x18 =>
  RD Tryz.prog (Instr.fieldAt 37 x2 1) w fun x19 =>
  RD Tryz.prog (Instr.loadAt 22 x19) w fun x20 =>
  RD Tryz.prog (Builtin.len_ #[22] 3 [x20].toArray) w fun x21 =>
  RD Tryz.prog (bin .neq 3 (.tmp 0) (.tmp 0) x18 x21) w fun x22 =>
  BR x22
  (R (Value.bool false) w)
  (RD Tryz.prog (Instr.fieldAt 32 x3 2) w fun x25 =>
  RD Tryz.prog (Instr.loadAt 27 x25) w fun x26 =>
  RD Tryz.prog (Builtin.len_ #[27] 3 [x26].toArray) w fun x27 =>
  CALL Tryz.prog 156 [x27, (Value.int .i64 1), (Value.int .i64 6)] w fun x28 w =>
  RD Tryz.prog (Op.unary .not x28) w fun x29 =>
  BR x29
   (R (Value.bool false) w)
   (LOOPI [5] [(Value.int .i64 0)] w fun u4 w next4 =>
    RD Tryz.prog (Instr.fieldAt 32 x3 0) w fun x32 =>
    RD Tryz.prog (Instr.loadAt 23 x32) w fun x33 =>
    RD Tryz.prog (Builtin.len_ #[23] 3 [x33].toArray) w fun x34 =>
    RD Tryz.prog (bin .lss 3 (.tmp 0) (.tmp 0) (u4 5) x34) w fun x35 =>
    BR x35
     (RD Tryz.prog (Instr.fieldAt 32 x3 0) w fun x38 =>
     RD Tryz.prog (Instr.loadAt 23 x38) w fun x39 =>
     RD Tryz.prog (Instr.indexAt 23 x39 (u4 5)) w fun x41 =>
     RD Tryz.prog (Instr.loadAt 3 x41) w fun x42 =>
     CALL Tryz.prog 156 [x42, (Value.int .i64 0), (Value.int .i64 999)] w fun x43 w =>
     RD Tryz.prog (Op.unary .not x43) w fun x44 =>
     BR x44
      (R (Value.bool false) w)
      (RD Tryz.prog (bin .add 3 (.tmp 0) (.const undef) (u4 5) (Value.int .i64 1)) w fun x37 =>
      next4 [x37] w))
     (LOOPI [6] [(Value.int .i64 0)] w fun u9 w next9 =>
      RD Tryz.prog (Instr.fieldAt 32 x3 1) w fun x46 =>
      RD Tryz.prog (Instr.loadAt 23 x46) w fun x47 =>
      RD Tryz.prog (Builtin.len_ #[23] 3 [x47].toArray) w fun x48 =>
      RD Tryz.prog (bin .lss 3 (.tmp 0) (.tmp 0) (u9 6) x48) w fun x49 =>
      BR x49
       ((fun w => RD Tryz.prog (Instr.fieldAt 32 x3 1) w fun x52 =>
       RD Tryz.prog (Instr.loadAt 23 x52) w fun x53 =>
       RD Tryz.prog (Instr.indexAt 23 x53 (u9 6)) w fun x55 =>
       RD Tryz.prog (Instr.loadAt 3 x55) w fun x56 =>
       RD Tryz.prog (Instr.fieldAt 32 x3 2) w fun x57 =>
       RD Tryz.prog (Instr.loadAt 27 x57) w fun x58 =>
       RD Tryz.prog (Builtin.len_ #[27] 3 [x58].toArray) w fun x59 =>
       RD Tryz.prog (bin .sub 3 (.tmp 0) (.const undef) x59 (Value.int .i64 1)) w fun x60 =>
       CALL Tryz.prog 156 [x56, (Value.int .i64 (-1)), x60] w fun x61 w =>
       RD Tryz.prog (Op.unary .not x61) w fun x62 =>
       BR x62
        (R (Value.bool false) w)
        (RD Tryz.prog (bin .add 3 (.tmp 0) (.const undef) (u9 6) (Value.int .i64 1)) w fun x51 =>
        next9 [x51] w)) (World.drew1 w))
       (LOOPI [7] [(Value.int .i64 0)] w fun u14 w next14 =>
        RD Tryz.prog (Instr.fieldAt 32 x3 2) w fun x64 =>
        RD Tryz.prog (Instr.loadAt 27 x64) w fun x65 =>
        RD Tryz.prog (Builtin.len_ #[27] 3 [x65].toArray) w fun x66 =>
        RD Tryz.prog (bin .lss 3 (.tmp 0) (.tmp 0) (u14 7) x66) w fun x67 =>
        BR x67
         ((fun w => RD Tryz.prog (Instr.loadAt 37 x2) w fun x70 =>
         RD Tryz.prog (Instr.fieldAt 32 x3 2) w fun x71 =>
         RD Tryz.prog (Instr.loadAt 27 x71) w fun x72 =>
         RD Tryz.prog (Instr.indexAt 27 x72 (u14 7)) w fun x74 =>
         RD Tryz.prog (Instr.loadAt 23 x74) w fun x75 =>
         CALL Tryz.prog 217 [x70, x75] w fun x76 w =>
         RD Tryz.prog (Op.unary .not x76) w fun x77 =>
         BR x77
          (R (Value.bool false) w)
          (RD Tryz.prog (bin .add 3 (.tmp 0) (.const undef) (u14 7) (Value.int .i64 1)) w fun x69 =>
          next14 [x69] w)) (World.drew1 w))
         (R (Value.bool true) w))))))
def cfg145 : Cfg := { ext := extL, joins := [], loops := [(4, 35182224605232, [5]), (9, 9223336852482687056, [6]), (14, 302222231531620438900880, [7])], draws := [(11, [0, 1, 2, 3, 4, 5, 6, 7, 8, 9, 10], 0), (16, [0, 1, 2, 3, 4, 5, 6, 7], 0)], pars := [] }
theorem F145_eq (a0 a1 : Value) (w : World) (R : Value → World → Prop) : vcF Tryz.prog cfg145 Tryz.f145 [a0, a1] w R = F145 a0 a1 w R := by kernel_rfl
theorem F145_call {a0 a1 : Value} {w : World} {R : Value → World → Prop} (h : F145 a0 a1 w R) : CALL Tryz.prog 145 [a0, a1] w R :=
  call_of (g := cfg145) ent mixed Tryz.func145 (Nat.le_of_ble_eq_true (by kernel_rfl)) (by kernel_rfl) (F145_eq a0 a1 w R ▸ h)


theorem l21Right_ok {w : World} {v0 : Value} {W0 : World} {c : DCode} {v1 : Value} {W1 : World} {s : DState}  (h0 : Is W0 v0 c) (e0 : Ext W0 w) (h1 : Is W1 v1 s) (e1 : Ext W1 w)  :
    CALL Tryz.prog 145 [v0, v1] w fun r w' => Ext w w' ∧ (r = .bool (decide (StateR c s))) := by
  refine F145_call ?_
  unfold F145
  refine op_boxS ty37 rfl h0 e0 fun w1_ hx1_ hA2 hV2 => ?_
  refine op_boxS ty32 rfl h1 (e1.trans hx1_) fun w2_ hx2_ hA3 hV3 => ?_
  refine rd_fld fd32_0 ?_
  refine rd_load ty23 (at_DState_0 hA3) (Ext.refl w2_) fun v9 h9 => ?_
  have hln10 := is_len h9
  refine rd_len u23 h9 ?_
  refine rd_fld fd37_0 ?_
  refine rd_load ty22 (at_DCode_0 hA2) hx2_ fun v12 h12 => ?_
  have hln13 := is_len h12
  refine rd_len u22 h12 ?_
  refine rd_neq ?_
  refine br (fun c1 => ?_) (fun c1 => ?_)
  · refine ⟨(hx1_.trans hx2_), ?_⟩
    have : ¬ StateR c s := fun h => by have := h.1; omega
    simp only [this, decide_false]
  · refine rd_fld fd32_1 ?_
    refine rd_load ty23 (at_DState_1 hA3) (Ext.refl w2_) fun v17 h17 => ?_
    have hln18 := is_len h17
    refine rd_len u23 h17 ?_
    refine rd_fld fd37_1 ?_
    refine rd_load ty22 (at_DCode_1 hA2) hx2_ fun v20 h20 => ?_
    have hln21 := is_len h20
    refine rd_len u22 h20 ?_
    refine rd_neq ?_
    refine br (fun c2 => ?_) (fun c2 => ?_)
    · refine ⟨(hx1_.trans hx2_), ?_⟩
      have : ¬ StateR c s := fun h => by have := h.2.1; omega
      simp only [this, decide_false]
    · refine rd_fld fd32_2 ?_
      refine rd_load ty27 (at_DState_2 hA3) (Ext.refl w2_) fun v26 h26 => ?_
      have hln27 := is_len h26
      refine rd_len u27 h26 ?_
      refine (l01In_ok ).mono ?_
      rintro _ w3_ ⟨hx3_, rfl⟩
      refine rd_nodec ?_
      refine br (fun c3 => ?_) (fun c3 => ?_)
      · refine ⟨(hx1_.trans (hx2_.trans hx3_)), ?_⟩
        have : ¬ StateR c s := fun h => by have := h.2.2.1; omega
        simp only [this, decide_false]
      · refine loopC (s.vars.length) (fun k us w' => us = [.int .i64 (k : Int)] ∧ Ext w3_ w' ∧ (∀ v ∈ s.vars.take k, 0 ≤ v ∧ v ≤ 999)) (0) (by omega) ⟨by simp, Ext.refl w3_, by simp⟩ ?_
        rintro k m4 uu4 w4_ hk4 ⟨hu, hx4_, hv1⟩
        simp only [List.map_cons, List.map_nil, List.cons.injEq, and_true] at hu
        try rw [hu]
        try clear hu
        refine rd_fld fd32_0 ?_
        refine rd_load ty23 (at_DState_0 hA3) (hx3_.trans hx4_) fun v33 h33 => ?_
        have hln34 := is_len h33
        refine rd_len u23 h33 ?_
        refine rd_lss ?_
        refine br (fun c4 => ?_) (fun c4 => ?_)
        · refine rd_fld fd32_0 ?_
          refine rd_load ty23 (at_DState_0 hA3) (hx3_.trans hx4_) fun v39 h39 => ?_
          refine rd_indexN u23 ty3 h39 (by omega) fun b41 o41 h41 => ?_
          refine rd_loadI ty3 h41 (hx3_.trans hx4_) fun hI42 => ?_
          refine (l01In_ok ).mono ?_
          rintro _ w5_ ⟨hx5_, rfl⟩
          refine rd_nodec ?_
          refine br (fun c5 => ?_) (fun c5 => ?_)
          · refine ⟨(hx1_.trans (hx2_.trans (hx3_.trans (hx4_.trans hx5_)))), ?_⟩
            have : ¬ StateR c s := fun h => c5 (h.2.2.2.1 _ (List.getElem_mem _))
            simp only [this, decide_false]
          · refine rd_inc (by omega) ?_
            refine ⟨m4 - 1, by omega, k + 1, by omega, by simp, (hx4_.trans hx5_), ?_⟩
            exact mem_succ (by omega) hv1 (Decidable.not_not.1 c5)
        · refine loopC (s.owner.length) (fun q us w' => us = [.int .i64 (q : Int)] ∧ Ext w4_ w' ∧ (∀ o ∈ s.owner.take q, -1 ≤ o ∧ o < s.stacks.length)) (0) (by omega) ⟨by simp, Ext.refl w4_, by simp⟩ ?_
          rintro q m9 uu9 w6_ hk9 ⟨hu, hx6_, hv2⟩
          simp only [List.map_cons, List.map_nil, List.cons.injEq, and_true] at hu
          try rw [hu]
          try clear hu
          refine rd_fld fd32_1 ?_
          refine rd_load ty23 (at_DState_1 hA3) (hx3_.trans (hx4_.trans hx6_)) fun v47 h47 => ?_
          have hln48 := is_len h47
          refine rd_len u23 h47 ?_
          refine rd_lss ?_
          refine br (fun c6 => ?_) (fun c6 => ?_)
          · have hx7_ := ext_drew w6_
            refine rd_fld fd32_1 ?_
            refine rd_load ty23 (at_DState_1 hA3) (hx3_.trans (hx4_.trans (hx6_.trans hx7_))) fun v53 h53 => ?_
            refine rd_indexN u23 ty3 h53 (by omega) fun b55 o55 h55 => ?_
            refine rd_loadI ty3 h55 (hx3_.trans (hx4_.trans (hx6_.trans hx7_))) fun hI56 => ?_
            refine rd_fld fd32_2 ?_
            refine rd_load ty27 (at_DState_2 hA3) (hx3_.trans (hx4_.trans (hx6_.trans hx7_))) fun v58 h58 => ?_
            have hln59 := is_len h58
            refine rd_len u27 h58 ?_
            refine rd_sub (by unfold I64; have := is_len h58; omega) ?_
            refine (l01In_ok ).mono ?_
            rintro _ w8_ ⟨hx8_, rfl⟩
            refine rd_nodec ?_
            refine br (fun c7 => ?_) (fun c7 => ?_)
            · refine ⟨(hx1_.trans (hx2_.trans (hx3_.trans (hx4_.trans (hx6_.trans (hx7_.trans hx8_)))))), ?_⟩
              have : ¬ StateR c s := fun h => c7 (by have := h.2.2.2.2.1 _ (List.getElem_mem (n := q) (by omega)); omega)
              simp only [this, decide_false]
            · refine rd_inc (by omega) ?_
              refine ⟨m9 - 1, by omega, q + 1, by omega, by simp, (hx6_.trans (hx7_.trans hx8_)), ?_⟩
              exact mem_succ (by omega) hv2 (by omega)
          · refine loopC (s.stacks.length) (fun p us w' => us = [.int .i64 (p : Int)] ∧ Ext w6_ w' ∧ (∀ l ∈ s.stacks.take p, StackR c l)) (0) (by omega) ⟨by simp, Ext.refl w6_, by simp⟩ ?_
            rintro p m14 uu14 w9_ hk14 ⟨hu, hx9_, hv3⟩
            simp only [List.map_cons, List.map_nil, List.cons.injEq, and_true] at hu
            try rw [hu]
            try clear hu
            refine rd_fld fd32_2 ?_
            refine rd_load ty27 (at_DState_2 hA3) (hx3_.trans (hx4_.trans (hx6_.trans hx9_))) fun v65 h65 => ?_
            have hln66 := is_len h65
            refine rd_len u27 h65 ?_
            refine rd_lss ?_
            refine br (fun c8 => ?_) (fun c8 => ?_)
            · have hx10_ := ext_drew w9_
              refine rd_var hV2 (hx2_.trans (hx3_.trans (hx4_.trans (hx6_.trans (hx9_.trans hx10_))))) ?_
              refine rd_fld fd32_2 ?_
              refine rd_load ty27 (at_DState_2 hA3) (hx3_.trans (hx4_.trans (hx6_.trans (hx9_.trans hx10_)))) fun v72 h72 => ?_
              refine rd_indexN u27 ty23 h72 (by omega) fun b74 o74 h74 => ?_
              refine rd_load ty23 h74 (hx3_.trans (hx4_.trans (hx6_.trans (hx9_.trans hx10_)))) fun v75 h75 => ?_
              refine (l21Stack_ok h0 (e0.trans (hx1_.trans (hx2_.trans (hx3_.trans (hx4_.trans (hx6_.trans (hx9_.trans hx10_))))))) h75 (hx3_.trans (hx4_.trans (hx6_.trans (hx9_.trans hx10_))))).mono ?_
              rintro _ w11_ ⟨hx11_, rfl⟩
              refine rd_nodec ?_
              refine br (fun c9 => ?_) (fun c9 => ?_)
              · refine ⟨(hx1_.trans (hx2_.trans (hx3_.trans (hx4_.trans (hx6_.trans (hx9_.trans (hx10_.trans hx11_))))))), ?_⟩
                have : ¬ StateR c s := fun h => c9 (h.2.2.2.2.2 _ (List.getElem_mem _))
                simp only [this, decide_false]
              · refine rd_inc (by omega) ?_
                refine ⟨m14 - 1, by omega, p + 1, by omega, by simp, (hx9_.trans (hx10_.trans hx11_)), ?_⟩
                exact mem_succ (by omega) hv3 (Decidable.not_not.1 c9)
            · refine ⟨(hx1_.trans (hx2_.trans (hx3_.trans (hx4_.trans (hx6_.trans hx9_))))), ?_⟩
              have : StateR c s := ⟨by omega, by omega, by omega, mem_all (by omega) hv1, mem_all (by omega) hv2, mem_all (by omega) hv3⟩
              simp only [this, decide_true]

/-- spec.StateOk -/
def F88 (a0 a1 : Value) (w : World) (R : Value → World → Prop) : Prop :=
  OP Tryz.prog (Instr.box 37 a0) w fun x2 w =>
  OP Tryz.prog (Instr.box 32 a1) w fun x3 w =>
  RD Tryz.prog (Instr.loadAt 37 x2) w fun x5 =>
  CALL Tryz.prog 79 [x5] w fun x6 w =>
  BR x6
  (RD Tryz.prog (Instr.loadAt 37 x2) w fun x8 =>
  RD Tryz.prog (Instr.loadAt 32 x3) w fun x9 =>
  CALL Tryz.prog 145 [x8, x9] w fun x10 w =>
  R x10 w)
  (R (Value.bool false) w)
def cfg88 : Cfg := { ext := extL, joins := [], loops := [], draws := [], pars := [] }
theorem F88_eq (a0 a1 : Value) (w : World) (R : Value → World → Prop) : vcF Tryz.prog cfg88 Tryz.f88 [a0, a1] w R = F88 a0 a1 w R := by kernel_rfl
theorem F88_call {a0 a1 : Value} {w : World} {R : Value → World → Prop} (h : F88 a0 a1 w R) : CALL Tryz.prog 88 [a0, a1] w R :=
  call_of (g := cfg88) ent mixed Tryz.func88 (Nat.le_of_ble_eq_true (by kernel_rfl)) (by kernel_rfl) (F88_eq a0 a1 w R ▸ h)


theorem specStateOk_ok {w : World} {v0 : Value} {W0 : World} {c : DCode} {v1 : Value} {W1 : World} {s : DState}  (h0 : Is W0 v0 c) (e0 : Ext W0 w) (h1 : Is W1 v1 s) (e1 : Ext W1 w)  :
    CALL Tryz.prog 88 [v0, v1] w fun r w' => Ext w w' ∧ (r = .bool (decide (CodeR c ∧ StateR c s))) := by
  refine F88_call ?_
  unfold F88
  refine op_boxS ty37 rfl h0 e0 fun w1_ hx1_ hA2 hV2 => ?_
  refine op_boxS ty32 rfl h1 (e1.trans hx1_) fun w2_ hx2_ hA3 hV3 => ?_
  refine rd_var hV2 hx2_ ?_
  refine (specCodeOk_ok h0 (e0.trans (hx1_.trans hx2_))).mono ?_
  rintro _ w3_ ⟨hx3_, rfl⟩
  refine br (fun c1 => ?_) (fun c1 => ?_)
  · refine rd_var hV2 (hx2_.trans hx3_) ?_
    refine rd_var hV3 hx3_ ?_
    refine (l21Right_ok h0 (e0.trans (hx1_.trans (hx2_.trans hx3_))) h1 (e1.trans (hx1_.trans (hx2_.trans hx3_)))).mono ?_
    rintro _ w4_ ⟨hx4_, rfl⟩
    refine ⟨(hx1_.trans (hx2_.trans (hx3_.trans hx4_))), ?_⟩
    simp [c1]
  · refine ⟨(hx1_.trans (hx2_.trans hx3_)), ?_⟩
    simp [c1]

/-- impl.stateRight -/
def F95 (a0 a1 : Value) (w : World) (R : Value → World → Prop) : Prop :=
  OP Tryz.prog (Instr.box 37 a0) w fun x2 w =>
  OP Tryz.prog (Instr.box 32 a1) w fun x3 w =>
  RD Tryz.prog (Instr.fieldAt 32 x3 2) w fun x12 =>
  RD Tryz.prog (Instr.loadAt 27 x12) w fun x13 =>
  RD Tryz.prog (Builtin.len_ #[27] 3 [x13].toArray) w fun x14 =>
  RD Tryz.prog (Instr.fieldAt 32 x3 0) w fun x15 =>
  RD Tryz.prog (Instr.loadAt 23 x15) w fun x16 =>
  RD Tryz.prog (Builtin.len_ #[23] 3 [x16].toArray) w fun x17 =>
  RD Tryz.prog (Instr.fieldAt 37 x2 0) w fun x18 =>
  RD Tryz.prog (Instr.loadAt 22 x18) w fun x19 =>
  RD Tryz.prog (Builtin.len_ #[22] 3 [x19].toArray) w fun x20 =>
  RD Tryz.prog (bin .neq 3 (.tmp 0) (.tmp 0) x17 x20) w fun x21 =>
  BR x21
  (R (Value.bool false) w)
  (RD Tryz.prog (Instr.fieldAt 32 x3 1) w fun x23 =>
  RD Tryz.prog (Instr.loadAt 23 x23) w fun x24 =>
  RD Tryz.prog (Builtin.len_ #[23] 3 [x24].toArray) w fun x25 =>
  RD Tryz.prog (Instr.fieldAt 37 x2 1) w fun x26 =>
  RD Tryz.prog (Instr.loadAt 22 x26) w fun x27 =>
  RD Tryz.prog (Builtin.len_ #[22] 3 [x27].toArray) w fun x28 =>
  RD Tryz.prog (bin .neq 3 (.tmp 0) (.tmp 0) x25 x28) w fun x29 =>
  BR x29
  (R (Value.bool false) w)
  (RD Tryz.prog (bin .lss 3 (.tmp 0) (.const undef) x14 (Value.int .i64 1)) w fun x33 =>
  BR x33
  (R (Value.bool false) w)
  (RD Tryz.prog (bin .gtr 3 (.tmp 0) (.const undef) x14 (Value.int .i64 6)) w fun x37 =>
  BR x37
   (R (Value.bool false) w)
   (RD Tryz.prog (Instr.fieldAt 32 x3 0) w fun x39 =>
   RD Tryz.prog (Instr.loadAt 23 x39) w fun x40 =>
   RD Tryz.prog (Builtin.len_ #[23] 3 [x40].toArray) w fun x41 =>
   LOOPI [42] [(Value.int .i64 0)] w fun u5 w next5 =>
    RD Tryz.prog (bin .lss 3 (.tmp 0) (.tmp 0) (u5 42) x41) w fun x43 =>
    BR x43
     (RD Tryz.prog (Instr.indexAt 23 x40 (u5 42)) w fun x44 =>
     RD Tryz.prog (Instr.loadAt 3 x44) w fun x45 =>
     RD Tryz.prog (bin .lss 3 (.tmp 0) (.const undef) x45 (Value.int .i64 0)) w fun x47 =>
     BR x47
     (R (Value.bool false) w)
     (RD Tryz.prog (bin .gtr 3 (.tmp 0) (.const undef) x45 (Value.int .i64 999)) w fun x50 =>
     BR x50
      (R (Value.bool false) w)
      (RD Tryz.prog (bin .add 3 (.tmp 0) (.const undef) (u5 42) (Value.int .i64 1)) w fun x52 =>
      next5 [x52] w)))
     (RD Tryz.prog (Instr.fieldAt 32 x3 1) w fun x53 =>
     RD Tryz.prog (Instr.loadAt 23 x53) w fun x54 =>
     RD Tryz.prog (Builtin.len_ #[23] 3 [x54].toArray) w fun x55 =>
     LOOPI [56] [(Value.int .i64 0)] w fun u11 w next11 =>
      RD Tryz.prog (bin .lss 3 (.tmp 0) (.tmp 0) (u11 56) x55) w fun x57 =>
      BR x57
       (RD Tryz.prog (Instr.indexAt 23 x54 (u11 56)) w fun x58 =>
       RD Tryz.prog (Instr.loadAt 3 x58) w fun x59 =>
       RD Tryz.prog (bin .lss 3 (.tmp 0) (.const undef) x59 (Value.int .i64 (-1))) w fun x61 =>
       BR x61
       (R (Value.bool false) w)
       (RD Tryz.prog (bin .geq 3 (.tmp 0) (.tmp 0) x59 x14) w fun x65 =>
       BR x65
        (R (Value.bool false) w)
        (RD Tryz.prog (bin .add 3 (.tmp 0) (.const undef) (u11 56) (Value.int .i64 1)) w fun x67 =>
        next11 [x67] w)))
       (RD Tryz.prog (Instr.fieldAt 32 x3 2) w fun x68 =>
       RD Tryz.prog (Instr.loadAt 27 x68) w fun x69 =>
       RD Tryz.prog (Builtin.len_ #[27] 3 [x69].toArray) w fun x70 =>
       LOOPI [71] [(Value.int .i64 0)] w fun u17 w next17 =>
        RD Tryz.prog (bin .lss 3 (.tmp 0) (.tmp 0) (u17 71) x70) w fun x72 =>
        BR x72
         (RD Tryz.prog (Instr.indexAt 27 x69 (u17 71)) w fun x73 =>
         RD Tryz.prog (Instr.loadAt 23 x73) w fun x74 =>
         RD Tryz.prog (Instr.loadAt 37 x2) w fun x75 =>
         CALL Tryz.prog 161 [x75, x74] w fun x77 w =>
         RD Tryz.prog (Op.unary .not x77) w fun x78 =>
         BR x78
          (R (Value.bool false) w)
          (RD Tryz.prog (bin .add 3 (.tmp 0) (.const undef) (u17 71) (Value.int .i64 1)) w fun x79 =>
          next17 [x79] w))
         (R (Value.bool true) w)))))))
def cfg95 : Cfg := { ext := extL, joins := [], loops := [(5, 9002801208230032, [42]), (11, 295075847585314898448, [56]), (17, 1206564636373194352101392, [71])], draws := [], pars := [] }
theorem F95_eq (a0 a1 : Value) (w : World) (R : Value → World → Prop) : vcF Tryz.prog cfg95 Tryz.f95 [a0, a1] w R = F95 a0 a1 w R := by kernel_rfl
theorem F95_call {a0 a1 : Value} {w : World} {R : Value → World → Prop} (h : F95 a0 a1 w R) : CALL Tryz.prog 95 [a0, a1] w R :=
  call_of (g := cfg95) ent mixed Tryz.func95 (Nat.le_of_ble_eq_true (by kernel_rfl)) (by kernel_rfl) (F95_eq a0 a1 w R ▸ h)


theorem stateRight_ok {w : World} {v0 : Value} {W0 : World} {c : DCode} {v1 : Value} {W1 : World} {s : DState}  (h0 : Is W0 v0 c) (e0 : Ext W0 w) (h1 : Is W1 v1 s) (e1 : Ext W1 w) (hc : CodeR c) :
    CALL Tryz.prog 95 [v0, v1] w fun r w' => Ext w w' ∧ (r = .bool (decide (StateR c s))) := by
  refine F95_call ?_
  unfold F95
  refine op_boxS ty37 rfl h0 e0 fun w1_ hx1_ hA2 hV2 => ?_
  refine op_boxS ty32 rfl h1 (e1.trans hx1_) fun w2_ hx2_ hA3 hV3 => ?_
  refine rd_fld fd32_2 ?_
  refine rd_load ty27 (at_DState_2 hA3) (Ext.refl w2_) fun v13 h13 => ?_
  have hln14 := is_len h13
  refine rd_len u27 h13 ?_
  refine rd_fld fd32_0 ?_
  refine rd_load ty23 (at_DState_0 hA3) (Ext.refl w2_) fun v16 h16 => ?_
  have hln17 := is_len h16
  refine rd_len u23 h16 ?_
  refine rd_fld fd37_0 ?_
  refine rd_load ty22 (at_DCode_0 hA2) hx2_ fun v19 h19 => ?_
  have hln20 := is_len h19
  refine rd_len u22 h19 ?_
  refine rd_neq ?_
  refine br (fun c1 => ?_) (fun c1 => ?_)
  · refine ⟨(hx1_.trans hx2_), ?_⟩
    have : ¬ StateR c s := fun h => by have := h.1; omega
    simp only [this, decide_false]
  · refine rd_fld fd32_1 ?_
    refine rd_load ty23 (at_DState_1 hA3) (Ext.refl w2_) fun v24 h24 => ?_
    have hln25 := is_len h24
    refine rd_len u23 h24 ?_
    refine rd_fld fd37_1 ?_
    refine rd_load ty22 (at_DCode_1 hA2) hx2_ fun v27 h27 => ?_
    have hln28 := is_len h27
    refine rd_len u22 h27 ?_
    refine rd_neq ?_
    refine br (fun c2 => ?_) (fun c2 => ?_)
    · refine ⟨(hx1_.trans hx2_), ?_⟩
      have : ¬ StateR c s := fun h => by have := h.2.1; omega
      simp only [this, decide_false]
    · refine rd_lss ?_
      refine br (fun c3 => ?_) (fun c3 => ?_)
      · refine ⟨(hx1_.trans hx2_), ?_⟩
        have : ¬ StateR c s := fun h => by have := h.2.2.1; omega
        simp only [this, decide_false]
      · refine rd_gtr ?_
        refine br (fun c4 => ?_) (fun c4 => ?_)
        · refine ⟨(hx1_.trans hx2_), ?_⟩
          have : ¬ StateR c s := fun h => by have := h.2.2.1; omega
          simp only [this, decide_false]
        · refine rd_fld fd32_0 ?_
          refine rd_load ty23 (at_DState_0 hA3) (Ext.refl w2_) fun v40 h40 => ?_
          have hln41 := is_len h40
          refine rd_len u23 h40 ?_
          refine loopC (s.vars.length) (fun k us w' => us = [.int .i64 (k : Int)] ∧ Ext w2_ w' ∧ (∀ v ∈ s.vars.take k, 0 ≤ v ∧ v ≤ 999)) (0) (by omega) ⟨by simp, Ext.refl w2_, by simp⟩ ?_
          rintro k m5 uu5 w3_ hk5 ⟨hu, hx3_, hv1⟩
          simp only [List.map_cons, List.map_nil, List.cons.injEq, and_true] at hu
          try rw [hu]
          try clear hu
          refine rd_lss ?_
          refine br (fun c5 => ?_) (fun c5 => ?_)
          · refine rd_indexN u23 ty3 h40 (by omega) fun b44 o44 h44 => ?_
            refine rd_loadI ty3 h44 hx3_ fun hI45 => ?_
            refine rd_lss ?_
            refine br (fun c6 => ?_) (fun c6 => ?_)
            · refine ⟨(hx1_.trans (hx2_.trans hx3_)), ?_⟩
              have : ¬ StateR c s := fun h => by have := h.2.2.2.1 _ (List.getElem_mem (n := k) (by omega)); omega
              simp only [this, decide_false]
            · refine rd_gtr ?_
              refine br (fun c7 => ?_) (fun c7 => ?_)
              · refine ⟨(hx1_.trans (hx2_.trans hx3_)), ?_⟩
                have : ¬ StateR c s := fun h => by have := h.2.2.2.1 _ (List.getElem_mem (n := k) (by omega)); omega
                simp only [this, decide_false]
              · refine rd_inc (by omega) ?_
                refine ⟨m5 - 1, by omega, k + 1, by omega, by simp, hx3_, ?_⟩
                exact mem_succ (by omega) hv1 (by omega)
          · refine rd_fld fd32_1 ?_
            refine rd_load ty23 (at_DState_1 hA3) hx3_ fun v54 h54 => ?_
            have hln55 := is_len h54
            refine rd_len u23 h54 ?_
            refine loopC (s.owner.length) (fun q us w' => us = [.int .i64 (q : Int)] ∧ Ext w3_ w' ∧ (∀ o ∈ s.owner.take q, -1 ≤ o ∧ o < s.stacks.length)) (0) (by omega) ⟨by simp, Ext.refl w3_, by simp⟩ ?_
            rintro q m11 uu11 w4_ hk11 ⟨hu, hx4_, hv2⟩
            simp only [List.map_cons, List.map_nil, List.cons.injEq, and_true] at hu
            try rw [hu]
            try clear hu
            refine rd_lss ?_
            refine br (fun c8 => ?_) (fun c8 => ?_)
            · refine rd_indexN u23 ty3 h54 (by omega) fun b58 o58 h58 => ?_
              refine rd_loadI ty3 h58 (hx3_.trans hx4_) fun hI59 => ?_
              refine rd_lss ?_
              refine br (fun c9 => ?_) (fun c9 => ?_)
              · refine ⟨(hx1_.trans (hx2_.trans (hx3_.trans hx4_))), ?_⟩
                have : ¬ StateR c s := fun h => by have := h.2.2.2.2.1 _ (List.getElem_mem (n := q) (by omega)); omega
                simp only [this, decide_false]
              · refine rd_geq ?_
                refine br (fun c10 => ?_) (fun c10 => ?_)
                · refine ⟨(hx1_.trans (hx2_.trans (hx3_.trans hx4_))), ?_⟩
                  have : ¬ StateR c s := fun h => by have := h.2.2.2.2.1 _ (List.getElem_mem (n := q) (by omega)); omega
                  simp only [this, decide_false]
                · refine rd_inc (by omega) ?_
                  refine ⟨m11 - 1, by omega, q + 1, by omega, by simp, hx4_, ?_⟩
                  exact mem_succ (by omega) hv2 (by omega)
            · refine rd_fld fd32_2 ?_
              refine rd_load ty27 (at_DState_2 hA3) (hx3_.trans hx4_) fun v69 h69 => ?_
              have hln70 := is_len h69
              refine rd_len u27 h69 ?_
              refine loopC (s.stacks.length) (fun p us w' => us = [.int .i64 (p : Int)] ∧ Ext w4_ w' ∧ (∀ l ∈ s.stacks.take p, StackR c l)) (0) (by omega) ⟨by simp, Ext.refl w4_, by simp⟩ ?_
              rintro p m17 uu17 w5_ hk17 ⟨hu, hx5_, hv3⟩
              simp only [List.map_cons, List.map_nil, List.cons.injEq, and_true] at hu
              try rw [hu]
              try clear hu
              refine rd_lss ?_
              refine br (fun c11 => ?_) (fun c11 => ?_)
              · refine rd_indexN u27 ty23 h69 (by omega) fun b73 o73 h73 => ?_
                refine rd_load ty23 h73 (hx3_.trans (hx4_.trans hx5_)) fun v74 h74 => ?_
                refine rd_var hV2 (hx2_.trans (hx3_.trans (hx4_.trans hx5_))) ?_
                refine (stackRight_ok h0 (e0.trans (hx1_.trans (hx2_.trans (hx3_.trans (hx4_.trans hx5_))))) h74 (hx3_.trans (hx4_.trans hx5_)) (by assumption)).mono ?_
                rintro _ w6_ ⟨hx6_, rfl⟩
                refine rd_nodec ?_
                refine br (fun c12 => ?_) (fun c12 => ?_)
                · refine ⟨(hx1_.trans (hx2_.trans (hx3_.trans (hx4_.trans (hx5_.trans hx6_))))), ?_⟩
                  have : ¬ StateR c s := fun h => c12 (h.2.2.2.2.2 _ (List.getElem_mem _))
                  simp only [this, decide_false]
                · refine rd_inc (by omega) ?_
                  refine ⟨m17 - 1, by omega, p + 1, by omega, by simp, (hx5_.trans hx6_), ?_⟩
                  exact mem_succ (by omega) hv3 (Decidable.not_not.1 c12)
              · refine ⟨(hx1_.trans (hx2_.trans (hx3_.trans (hx4_.trans hx5_)))), ?_⟩
                have : StateR c s := ⟨by omega, by omega, by omega, mem_all (by omega) hv1, mem_all (by omega) hv2, mem_all (by omega) hv3⟩
                simp only [this, decide_true]

/-- impl.StateOk -/
def F71 (a0 a1 : Value) (w : World) (R : Value → World → Prop) : Prop :=
  OP Tryz.prog (Instr.box 37 a0) w fun x2 w =>
  OP Tryz.prog (Instr.box 32 a1) w fun x3 w =>
  RD Tryz.prog (Instr.loadAt 37 x2) w fun x5 =>
  CALL Tryz.prog 81 [x5] w fun x6 w =>
  BR x6
  (RD Tryz.prog (Instr.loadAt 37 x2) w fun x8 =>
  RD Tryz.prog (Instr.loadAt 32 x3) w fun x9 =>
  CALL Tryz.prog 95 [x8, x9] w fun x10 w =>
  R x10 w)
  (R (Value.bool false) w)
def cfg71 : Cfg := { ext := extL, joins := [], loops := [], draws := [], pars := [] }
theorem F71_eq (a0 a1 : Value) (w : World) (R : Value → World → Prop) : vcF Tryz.prog cfg71 Tryz.f71 [a0, a1] w R = F71 a0 a1 w R := by kernel_rfl
theorem F71_call {a0 a1 : Value} {w : World} {R : Value → World → Prop} (h : F71 a0 a1 w R) : CALL Tryz.prog 71 [a0, a1] w R :=
  call_of (g := cfg71) ent mixed Tryz.func71 (Nat.le_of_ble_eq_true (by kernel_rfl)) (by kernel_rfl) (F71_eq a0 a1 w R ▸ h)


theorem implStateOk_ok {w : World} {v0 : Value} {W0 : World} {c : DCode} {v1 : Value} {W1 : World} {s : DState}  (h0 : Is W0 v0 c) (e0 : Ext W0 w) (h1 : Is W1 v1 s) (e1 : Ext W1 w)  :
    CALL Tryz.prog 71 [v0, v1] w fun r w' => Ext w w' ∧ (r = .bool (decide (CodeR c ∧ StateR c s))) := by
  refine F71_call ?_
  unfold F71
  refine op_boxS ty37 rfl h0 e0 fun w1_ hx1_ hA2 hV2 => ?_
  refine op_boxS ty32 rfl h1 (e1.trans hx1_) fun w2_ hx2_ hA3 hV3 => ?_
  refine rd_var hV2 hx2_ ?_
  refine (implCodeOk_ok h0 (e0.trans (hx1_.trans hx2_))).mono ?_
  rintro _ w3_ ⟨hx3_, rfl⟩
  refine br (fun c1 => ?_) (fun c1 => ?_)
  · refine rd_var hV2 (hx2_.trans hx3_) ?_
    refine rd_var hV3 hx3_ ?_
    refine (stateRight_ok h0 (e0.trans (hx1_.trans (hx2_.trans hx3_))) h1 (e1.trans (hx1_.trans (hx2_.trans hx3_))) (by assumption)).mono ?_
    rintro _ w4_ ⟨hx4_, rfl⟩
    refine ⟨(hx1_.trans (hx2_.trans (hx3_.trans hx4_))), ?_⟩
    simp [c1]
  · refine ⟨(hx1_.trans (hx2_.trans hx3_)), ?_⟩
    simp [c1]

end Go.Proofs.YteephmhilnlkpaaGreat
