/-
  Is all over; are two states the same.
-/
import Derived.Test.YteephmhilnlkpaaGreatConv
namespace Go.Proofs.YteephmhilnlkpaaGreat
open Go Go.Sh Go.Proofs
set_option linter.unusedVariables false

def overIn (s : DState) : Prop := ∀ x ∈ s.stacks, x = []
instance (s : DState) : Decidable (overIn s) := inferInstanceAs (Decidable (∀ x ∈ s.stacks, x = []))
theorem over_not {s : DState} {i : Nat} (h : i < s.stacks.length) (c : 0 < (s.stacks[i].length : Int)) : ¬ overIn s := fun ho => by
  have := ho _ (List.getElem_mem h)
  rw [this] at c; simp at c
theorem over_step {s : DState} {k : Nat} (hk : k < s.stacks.length) (hinv : ∀ x ∈ s.stacks.take k, x = []) (c : ¬ 0 < (s.stacks[k].length : Int)) : ∀ x ∈ s.stacks.take (k + 1), x = [] := by
  intro x hx
  rw [List.take_succ_eq_append_getElem hk] at hx
  rcases List.mem_append.1 hx with hx | hx
  · exact hinv x hx
  · simp only [List.mem_cons, List.not_mem_nil, or_false] at hx
    subst hx
    exact List.eq_nil_of_length_eq_zero (by omega)
theorem over_all {s : DState} {k : Nat} (hk : s.stacks.length ≤ k) (hinv : ∀ x ∈ s.stacks.take k, x = []) : overIn s := by
  rw [List.take_of_length_le hk] at hinv; exact hinv

/-- spec.l22Same -/
def F213 (a0 a1 : Value) (w : World) (R : Value → World → Prop) : Prop :=
  RD Tryz.prog (Builtin.len_ #[23] 3 [a0].toArray) w fun x7 =>
  RD Tryz.prog (Builtin.len_ #[23] 3 [a1].toArray) w fun x9 =>
  RD Tryz.prog (bin .neq 3 (.tmp 0) (.tmp 0) x7 x9) w fun x10 =>
  BR x10
   (R (Value.bool false) w)
   (LOOPI [5] [(Value.int .i64 0)] w fun u4 w next4 =>
    RD Tryz.prog (Builtin.len_ #[23] 3 [a0].toArray) w fun x13 =>
    RD Tryz.prog (bin .lss 3 (.tmp 0) (.tmp 0) (u4 5) x13) w fun x14 =>
    BR x14
     ((fun w => RD Tryz.prog (Instr.indexAt 23 a0 (u4 5)) w fun x19 =>
     RD Tryz.prog (Instr.loadAt 3 x19) w fun x20 =>
     RD Tryz.prog (Instr.indexAt 23 a1 (u4 5)) w fun x23 =>
     RD Tryz.prog (Instr.loadAt 3 x23) w fun x24 =>
     RD Tryz.prog (bin .neq 3 (.tmp 0) (.tmp 0) x20 x24) w fun x25 =>
     BR x25
      (R (Value.bool false) w)
      (RD Tryz.prog (bin .add 3 (.tmp 0) (.const undef) (u4 5) (Value.int .i64 1)) w fun x16 =>
      next4 [x16] w)) (World.drew1 w))
     (R (Value.bool true) w))
def cfg213 : Cfg := { ext := extL, joins := [], loops := [(4, 67106864, [5])], draws := [(6, [0, 1, 2, 3, 4, 5, 6, 7, 8], 0)], pars := [] }
theorem F213_eq (a0 a1 : Value) (w : World) (R : Value → World → Prop) : vcF Tryz.prog cfg213 Tryz.f213 [a0, a1] w R = F213 a0 a1 w R := by kernel_rfl
theorem F213_call {a0 a1 : Value} {w : World} {R : Value → World → Prop} (h : F213 a0 a1 w R) : CALL Tryz.prog 213 [a0, a1] w R :=
  call_of (g := cfg213) ent mixed Tryz.func213 (Nat.le_of_ble_eq_true (by kernel_rfl)) (by kernel_rfl) (F213_eq a0 a1 w R ▸ h)


theorem l22Same_ok {w : World} {v0 : Value} {W0 : World} {l1 : (List Int)} {v1 : Value} {W1 : World} {l2 : (List Int)}  (h0 : Is W0 v0 l1) (e0 : Ext W0 w) (h1 : Is W1 v1 l2) (e1 : Ext W1 w)  :
    CALL Tryz.prog 213 [v0, v1] w fun r w' => Ext w w' ∧ (r = .bool (decide (l1 = l2))) := by
  refine F213_call ?_
  unfold F213
  have hln7 := is_len h0
  refine rd_len u23 h0 ?_
  have hln9 := is_len h1
  refine rd_len u23 h1 ?_
  refine rd_neq ?_
  refine br (fun c1 => ?_) (fun c1 => ?_)
  · refine ⟨Ext.refl w, ?_⟩
    have : l1 ≠ l2 := fun e => c1 (by rw [e])
    simp [this]
  · refine loopC (l1.length) (fun k us w' => us = [.int .i64 (k : Int)] ∧ Ext w w' ∧ (l1.take k = l2.take k)) (0) (by omega) ⟨by simp, Ext.refl w, by simp⟩ ?_
    rintro k m4 uu4 w1_ hk4 ⟨hu, hx1_, hinv⟩
    simp only [List.map_cons, List.map_nil, List.cons.injEq, and_true] at hu
    try rw [hu]
    try clear hu
    have hln13 := is_len h0
    refine rd_len u23 h0 ?_
    refine rd_lss ?_
    refine br (fun c2 => ?_) (fun c2 => ?_)
    · have hx2_ := ext_drew w1_
      refine rd_indexN u23 ty3 h0 (by omega) fun b19 o19 h19 => ?_
      refine rd_loadI ty3 h19 (e0.trans (hx1_.trans hx2_)) fun hI20 => ?_
      refine rd_indexN u23 ty3 h1 (by omega) fun b23 o23 h23 => ?_
      refine rd_loadI ty3 h23 (e1.trans (hx1_.trans hx2_)) fun hI24 => ?_
      refine rd_neq ?_
      refine br (fun c3 => ?_) (fun c3 => ?_)
      · refine ⟨(hx1_.trans hx2_), ?_⟩
        have : l1 ≠ l2 := fun e => c3 (by subst e; rfl)
        simp [this]
      · refine rd_inc (by omega) ?_
        refine ⟨m4 - 1, by omega, k + 1, by omega, by simp, (hx1_.trans hx2_), ?_⟩
        rw [List.take_succ_eq_append_getElem (by omega), List.take_succ_eq_append_getElem (by omega), hinv, Decidable.not_not.1 c3]
    · refine ⟨hx1_, ?_⟩
      rw [List.take_of_length_le (by omega), List.take_of_length_le (by omega)] at hinv
      simp [hinv]

/-- slices.Equal[[]int,int] -/
def F214 (a0 a1 : Value) (w : World) (R : Value → World → Prop) : Prop :=
  RD Tryz.prog (Builtin.len_ #[23] 3 [a0].toArray) w fun x7 =>
  RD Tryz.prog (Builtin.len_ #[23] 3 [a1].toArray) w fun x9 =>
  RD Tryz.prog (bin .neq 3 (.tmp 0) (.tmp 0) x7 x9) w fun x10 =>
  BR x10
   (R (Value.bool false) w)
   (RD Tryz.prog (Builtin.len_ #[23] 3 [a0].toArray) w fun x12 =>
   LOOPI [13] [(Value.int .i64 0)] w fun u4 w next4 =>
    RD Tryz.prog (bin .lss 3 (.tmp 0) (.tmp 0) (u4 13) x12) w fun x14 =>
    BR x14
     ((fun w => RD Tryz.prog (Instr.indexAt 23 a0 (u4 13)) w fun x18 =>
     RD Tryz.prog (Instr.loadAt 3 x18) w fun x19 =>
     RD Tryz.prog (Instr.indexAt 23 a1 (u4 13)) w fun x22 =>
     RD Tryz.prog (Instr.loadAt 3 x22) w fun x23 =>
     RD Tryz.prog (bin .neq 3 (.tmp 0) (.tmp 0) x19 x23) w fun x24 =>
     BR x24
      (R (Value.bool false) w)
      (RD Tryz.prog (bin .add 3 (.tmp 0) (.const undef) (u4 13) (Value.int .i64 1)) w fun x25 =>
      next4 [x25] w)) (World.drew1 w))
     (R (Value.bool true) w))
def cfg214 : Cfg := { ext := extL, joins := [], loops := [(4, 67100720, [13])], draws := [(6, [0, 1, 2, 3, 4, 5, 6, 7, 8], 0)], pars := [] }
theorem F214_eq (a0 a1 : Value) (w : World) (R : Value → World → Prop) : vcF Tryz.prog cfg214 Tryz.f214 [a0, a1] w R = F214 a0 a1 w R := by kernel_rfl
theorem F214_call {a0 a1 : Value} {w : World} {R : Value → World → Prop} (h : F214 a0 a1 w R) : CALL Tryz.prog 214 [a0, a1] w R :=
  call_of (g := cfg214) ent mixed Tryz.func214 (Nat.le_of_ble_eq_true (by kernel_rfl)) (by kernel_rfl) (F214_eq a0 a1 w R ▸ h)


theorem equalInt_ok {w : World} {v0 : Value} {W0 : World} {l1 : (List Int)} {v1 : Value} {W1 : World} {l2 : (List Int)}  (h0 : Is W0 v0 l1) (e0 : Ext W0 w) (h1 : Is W1 v1 l2) (e1 : Ext W1 w)  :
    CALL Tryz.prog 214 [v0, v1] w fun r w' => Ext w w' ∧ (r = .bool (decide (l1 = l2))) := by
  refine F214_call ?_
  unfold F214
  have hln7 := is_len h0
  refine rd_len u23 h0 ?_
  have hln9 := is_len h1
  refine rd_len u23 h1 ?_
  refine rd_neq ?_
  refine br (fun c1 => ?_) (fun c1 => ?_)
  · refine ⟨Ext.refl w, ?_⟩
    have : l1 ≠ l2 := fun e => c1 (by rw [e])
    simp [this]
  · have hln12 := is_len h0
    refine rd_len u23 h0 ?_
    refine loopC (l1.length) (fun k us w' => us = [.int .i64 (k : Int)] ∧ Ext w w' ∧ (l1.take k = l2.take k)) (0) (by omega) ⟨by simp, Ext.refl w, by simp⟩ ?_
    rintro k m4 uu4 w1_ hk4 ⟨hu, hx1_, hinv⟩
    simp only [List.map_cons, List.map_nil, List.cons.injEq, and_true] at hu
    try rw [hu]
    try clear hu
    refine rd_lss ?_
    refine br (fun c2 => ?_) (fun c2 => ?_)
    · have hx2_ := ext_drew w1_
      refine rd_indexN u23 ty3 h0 (by omega) fun b18 o18 h18 => ?_
      refine rd_loadI ty3 h18 (e0.trans (hx1_.trans hx2_)) fun hI19 => ?_
      refine rd_indexN u23 ty3 h1 (by omega) fun b22 o22 h22 => ?_
      refine rd_loadI ty3 h22 (e1.trans (hx1_.trans hx2_)) fun hI23 => ?_
      refine rd_neq ?_
      refine br (fun c3 => ?_) (fun c3 => ?_)
      · refine ⟨(hx1_.trans hx2_), ?_⟩
        have : l1 ≠ l2 := fun e => c3 (by subst e; rfl)
        simp [this]
      · refine rd_inc (by omega) ?_
        refine ⟨m4 - 1, by omega, k + 1, by omega, by simp, (hx1_.trans hx2_), ?_⟩
        rw [List.take_succ_eq_append_getElem (by omega), List.take_succ_eq_append_getElem (by omega), hinv, Decidable.not_not.1 c3]
    · refine ⟨hx1_, ?_⟩
      rw [List.take_of_length_le (by omega), List.take_of_length_le (by omega)] at hinv
      simp [hinv]

/-- impl.SameState$1 -/
def F216 (a0 a1 : Value) (w : World) (R : Value → World → Prop) : Prop :=
  CALL Tryz.prog 214 [a0, a1] w fun x7 w =>
  R x7 w
def cfg216 : Cfg := { ext := extL, joins := [], loops := [], draws := [], pars := [] }
theorem F216_eq (a0 a1 : Value) (w : World) (R : Value → World → Prop) : vcF Tryz.prog cfg216 Tryz.f216 [a0, a1] w R = F216 a0 a1 w R := by kernel_rfl
theorem F216_call {a0 a1 : Value} {w : World} {R : Value → World → Prop} (h : F216 a0 a1 w R) : CALL Tryz.prog 216 [a0, a1] w R :=
  call_of (g := cfg216) ent mixed Tryz.func216 (Nat.le_of_ble_eq_true (by kernel_rfl)) (by kernel_rfl) (F216_eq a0 a1 w R ▸ h)


theorem sameState1_ok {w : World} {v0 : Value} {W0 : World} {l1 : (List Int)} {v1 : Value} {W1 : World} {l2 : (List Int)}  (h0 : Is W0 v0 l1) (e0 : Ext W0 w) (h1 : Is W1 v1 l2) (e1 : Ext W1 w)  :
    CALL Tryz.prog 216 [v0, v1] w fun r w' => Ext w w' ∧ (r = .bool (decide (l1 = l2))) := by
  refine F216_call ?_
  unfold F216
  refine (equalInt_ok h0 e0 h1 e1).mono ?_
  rintro _ w1_ ⟨hx1_, rfl⟩
  refine ⟨hx1_, ?_⟩
  rfl

theorem opn_func {P : Program} {f : Nat} {args : List Value} {w : World} {K : Value → World → Prop} (hE : enters P f = true) (h : CALL P f args w K) : OPN P (callV (.func (.func f) #[] #[]) args) w K := by
  obtain ⟨h⟩ := h
  refine .enter f args.toArray w ?_ h
  simp [callV, Deferred.ofValue, invoke, run_callFunc hE]
theorem ent53 : enters Tryz.prog 216 = true := by kernel_rfl
/-- slices.EqualFunc[[][]int,[][]int,[]int,[]int] -/
def F215 (a0 a1 a2 : Value) (w : World) (R : Value → World → Prop) : Prop :=
  RD Tryz.prog (Builtin.len_ #[27] 3 [a0].toArray) w fun x11 =>
  RD Tryz.prog (Builtin.len_ #[27] 3 [a1].toArray) w fun x13 =>
  RD Tryz.prog (bin .neq 3 (.tmp 0) (.tmp 0) x11 x13) w fun x14 =>
  BR x14
   (R (Value.bool false) w)
   (RD Tryz.prog (Builtin.len_ #[27] 3 [a0].toArray) w fun x16 =>
   LOOPI [17] [(Value.int .i64 0)] w fun u4 w next4 =>
    RD Tryz.prog (bin .lss 3 (.tmp 0) (.tmp 0) (u4 17) x16) w fun x18 =>
    BR x18
     (RD Tryz.prog (Instr.indexAt 27 a0 (u4 17)) w fun x20 =>
     RD Tryz.prog (Instr.loadAt 23 x20) w fun x21 =>
     RD Tryz.prog (Instr.indexAt 27 a1 (u4 17)) w fun x24 =>
     RD Tryz.prog (Instr.loadAt 23 x24) w fun x25 =>
     OPN Tryz.prog (callV a2 [x21, x25]) w fun x29 w =>
     RD Tryz.prog (Op.unary .not x29) w fun x30 =>
     BR x30
      (R (Value.bool false) w)
      (RD Tryz.prog (bin .add 3 (.tmp 0) (.const undef) (u4 17) (Value.int .i64 1)) w fun x31 =>
      next4 [x31] w))
     (R (Value.bool true) w))
def cfg215 : Cfg := { ext := extL, joins := [], loops := [(4, 4294837184, [17])], draws := [], pars := [] }
theorem F215_eq (a0 a1 a2 : Value) (w : World) (R : Value → World → Prop) : vcF Tryz.prog cfg215 Tryz.f215 [a0, a1, a2] w R = F215 a0 a1 a2 w R := by kernel_rfl
theorem F215_call {a0 a1 a2 : Value} {w : World} {R : Value → World → Prop} (h : F215 a0 a1 a2 w R) : CALL Tryz.prog 215 [a0, a1, a2] w R :=
  call_of (g := cfg215) ent mixed Tryz.func215 (Nat.le_of_ble_eq_true (by kernel_rfl)) (by kernel_rfl) (F215_eq a0 a1 a2 w R ▸ h)


theorem equalFunc_ok {w : World} {v0 : Value} {W0 : World} {l1 : (List (List Int))} {v1 : Value} {W1 : World} {l2 : (List (List Int))} {v2 : Value}  (h0 : Is W0 v0 l1) (e0 : Ext W0 w) (h1 : Is W1 v1 l2) (e1 : Ext W1 w) (hf : v2 = .func (.func 216) #[] #[]) :
    CALL Tryz.prog 215 [v0, v1, v2] w fun r w' => Ext w w' ∧ (r = .bool (decide (l1 = l2))) := by
  refine F215_call ?_
  unfold F215
  subst hf
  have hln11 := is_len h0
  refine rd_len u27 h0 ?_
  have hln13 := is_len h1
  refine rd_len u27 h1 ?_
  refine rd_neq ?_
  refine br (fun c1 => ?_) (fun c1 => ?_)
  · refine ⟨Ext.refl w, ?_⟩
    have : l1 ≠ l2 := fun e => c1 (by rw [e])
    simp [this]
  · have hln16 := is_len h0
    refine rd_len u27 h0 ?_
    refine loopC (l1.length) (fun k us w' => us = [.int .i64 (k : Int)] ∧ Ext w w' ∧ (l1.take k = l2.take k)) (0) (by omega) ⟨by simp, Ext.refl w, by simp⟩ ?_
    rintro k m4 uu4 w1_ hk4 ⟨hu, hx1_, hinv⟩
    simp only [List.map_cons, List.map_nil, List.cons.injEq, and_true] at hu
    try rw [hu]
    try clear hu
    refine rd_lss ?_
    refine br (fun c2 => ?_) (fun c2 => ?_)
    · refine rd_indexN u27 ty23 h0 (by omega) fun b20 o20 h20 => ?_
      refine rd_load ty23 h20 (e0.trans hx1_) fun v21 h21 => ?_
      refine rd_indexN u27 ty23 h1 (by omega) fun b24 o24 h24 => ?_
      refine rd_load ty23 h24 (e1.trans hx1_) fun v25 h25 => ?_
      refine opn_func ent53 ((sameState1_ok h21 (e0.trans hx1_) h25 (e1.trans hx1_)).mono ?_)
      rintro _ w9 ⟨hx9, rfl⟩
      refine rd_nodec ?_
      refine br (fun c3 => ?_) (fun c3 => ?_)
      · refine ⟨(hx1_.trans hx9), ?_⟩
        have : l1 ≠ l2 := fun e => c3 (by subst e; rfl)
        simp [this]
      · refine rd_inc (by omega) ?_
        refine ⟨m4 - 1, by omega, k + 1, by omega, by simp, (hx1_.trans hx9), ?_⟩
        rw [List.take_succ_eq_append_getElem (by omega), List.take_succ_eq_append_getElem (by omega), hinv, Decidable.not_not.1 c3]
    · refine ⟨hx1_, ?_⟩
      rw [List.take_of_length_le (by omega), List.take_of_length_le (by omega)] at hinv
      simp [hinv]

/-- impl.SameState -/
def F144 (a0 a1 : Value) (w : World) (R : Value → World → Prop) : Prop :=
  OP Tryz.prog (Instr.box 32 a0) w fun x2 w =>
  OP Tryz.prog (Instr.box 32 a1) w fun x3 w =>
  RD Tryz.prog (Instr.fieldAt 32 x2 0) w fun x5 =>
  RD Tryz.prog (Instr.loadAt 23 x5) w fun x6 =>
  RD Tryz.prog (Instr.fieldAt 32 x3 0) w fun x7 =>
  RD Tryz.prog (Instr.loadAt 23 x7) w fun x8 =>
  CALL Tryz.prog 214 [x6, x8] w fun x9 w =>
  RD Tryz.prog (Op.unary .not x9) w fun x10 =>
  BR x10
  (R (Value.bool false) w)
  (RD Tryz.prog (Instr.fieldAt 32 x2 1) w fun x12 =>
  RD Tryz.prog (Instr.loadAt 23 x12) w fun x13 =>
  RD Tryz.prog (Instr.fieldAt 32 x3 1) w fun x14 =>
  RD Tryz.prog (Instr.loadAt 23 x14) w fun x15 =>
  CALL Tryz.prog 214 [x13, x15] w fun x16 w =>
  RD Tryz.prog (Op.unary .not x16) w fun x17 =>
  BR x17
   (R (Value.bool false) w)
   (RD Tryz.prog (Instr.fieldAt 32 x2 2) w fun x19 =>
   RD Tryz.prog (Instr.loadAt 27 x19) w fun x20 =>
   RD Tryz.prog (Instr.fieldAt 32 x3 2) w fun x21 =>
   RD Tryz.prog (Instr.loadAt 27 x21) w fun x22 =>
   CALL Tryz.prog 215 [x20, x22, (Value.func (.func 216) #[] #[])] w fun x23 w =>
   R x23 w))
def cfg144 : Cfg := { ext := extL, joins := [], loops := [], draws := [], pars := [] }
theorem F144_eq (a0 a1 : Value) (w : World) (R : Value → World → Prop) : vcF Tryz.prog cfg144 Tryz.f144 [a0, a1] w R = F144 a0 a1 w R := by kernel_rfl
theorem F144_call {a0 a1 : Value} {w : World} {R : Value → World → Prop} (h : F144 a0 a1 w R) : CALL Tryz.prog 144 [a0, a1] w R :=
  call_of (g := cfg144) ent mixed Tryz.func144 (Nat.le_of_ble_eq_true (by kernel_rfl)) (by kernel_rfl) (F144_eq a0 a1 w R ▸ h)


theorem implSameState_ok {w : World} {v0 : Value} {W0 : World} {s1 : DState} {v1 : Value} {W1 : World} {s2 : DState}  (h0 : Is W0 v0 s1) (e0 : Ext W0 w) (h1 : Is W1 v1 s2) (e1 : Ext W1 w)  :
    CALL Tryz.prog 144 [v0, v1] w fun r w' => Ext w w' ∧ (r = .bool (decide (s1 = s2))) := by
  refine F144_call ?_
  unfold F144
  refine op_boxS ty32 rfl h0 e0 fun w1_ hx1_ hA2 hV2 => ?_
  refine op_boxS ty32 rfl h1 (e1.trans hx1_) fun w2_ hx2_ hA3 hV3 => ?_
  refine rd_fld fd32_0 ?_
  refine rd_load ty23 (at_DState_0 hA2) hx2_ fun v6 h6 => ?_
  refine rd_fld fd32_0 ?_
  refine rd_load ty23 (at_DState_0 hA3) (Ext.refl w2_) fun v8 h8 => ?_
  refine (equalInt_ok h6 hx2_ h8 (Ext.refl w2_)).mono ?_
  rintro _ w3_ ⟨hx3_, rfl⟩
  refine rd_nodec ?_
  refine br (fun c1 => ?_) (fun c1 => ?_)
  · refine ⟨(hx1_.trans (hx2_.trans hx3_)), ?_⟩
    have : s1 ≠ s2 := fun e => c1 (by rw [e])
    simp [this]
  · refine rd_fld fd32_1 ?_
    refine rd_load ty23 (at_DState_1 hA2) (hx2_.trans hx3_) fun v13 h13 => ?_
    refine rd_fld fd32_1 ?_
    refine rd_load ty23 (at_DState_1 hA3) hx3_ fun v15 h15 => ?_
    refine (equalInt_ok h13 (hx2_.trans hx3_) h15 hx3_).mono ?_
    rintro _ w4_ ⟨hx4_, rfl⟩
    refine rd_nodec ?_
    refine br (fun c2 => ?_) (fun c2 => ?_)
    · refine ⟨(hx1_.trans (hx2_.trans (hx3_.trans hx4_))), ?_⟩
      have : s1 ≠ s2 := fun e => c2 (by rw [e])
      simp [this]
    · refine rd_fld fd32_2 ?_
      refine rd_load ty27 (at_DState_2 hA2) (hx2_.trans (hx3_.trans hx4_)) fun v20 h20 => ?_
      refine rd_fld fd32_2 ?_
      refine rd_load ty27 (at_DState_2 hA3) (hx3_.trans hx4_) fun v22 h22 => ?_
      refine (equalFunc_ok h20 (hx2_.trans (hx3_.trans hx4_)) h22 (hx3_.trans hx4_) rfl).mono ?_
      rintro _ w5_ ⟨hx5_, rfl⟩
      refine ⟨(hx1_.trans (hx2_.trans (hx3_.trans (hx4_.trans hx5_)))), ?_⟩
      have : s1 = s2 ↔ s1.stacks = s2.stacks := by
        constructor
        · intro e; rw [e]
        · intro e
          cases s1; cases s2
          simp only [Decidable.not_not] at c1 c2 e
          rw [c1, c2, e]
      simp [this]

/-- spec.SameState -/
def F141 (a0 a1 : Value) (w : World) (R : Value → World → Prop) : Prop :=
  OP Tryz.prog (Instr.box 32 a0) w fun x2 w =>
  OP Tryz.prog (Instr.box 32 a1) w fun x3 w =>
  RD Tryz.prog (Instr.fieldAt 32 x2 0) w fun x6 =>
  RD Tryz.prog (Instr.loadAt 23 x6) w fun x7 =>
  RD Tryz.prog (Instr.fieldAt 32 x3 0) w fun x8 =>
  RD Tryz.prog (Instr.loadAt 23 x8) w fun x9 =>
  CALL Tryz.prog 213 [x7, x9] w fun x10 w =>
  RD Tryz.prog (Op.unary .not x10) w fun x11 =>
  BR x11
  (R (Value.bool false) w)
  (RD Tryz.prog (Instr.fieldAt 32 x2 1) w fun x13 =>
  RD Tryz.prog (Instr.loadAt 23 x13) w fun x14 =>
  RD Tryz.prog (Instr.fieldAt 32 x3 1) w fun x15 =>
  RD Tryz.prog (Instr.loadAt 23 x15) w fun x16 =>
  CALL Tryz.prog 213 [x14, x16] w fun x17 w =>
  RD Tryz.prog (Op.unary .not x17) w fun x18 =>
  BR x18
  (R (Value.bool false) w)
  (RD Tryz.prog (Instr.fieldAt 32 x2 2) w fun x21 =>
  RD Tryz.prog (Instr.loadAt 27 x21) w fun x22 =>
  RD Tryz.prog (Builtin.len_ #[27] 3 [x22].toArray) w fun x23 =>
  RD Tryz.prog (Instr.fieldAt 32 x3 2) w fun x24 =>
  RD Tryz.prog (Instr.loadAt 27 x24) w fun x25 =>
  RD Tryz.prog (Builtin.len_ #[27] 3 [x25].toArray) w fun x26 =>
  RD Tryz.prog (bin .neq 3 (.tmp 0) (.tmp 0) x23 x26) w fun x27 =>
  BR x27
   (R (Value.bool false) w)
   (LOOPI [5] [(Value.int .i64 0)] w fun u4 w next4 =>
    RD Tryz.prog (Instr.fieldAt 32 x2 2) w fun x30 =>
    RD Tryz.prog (Instr.loadAt 27 x30) w fun x31 =>
    RD Tryz.prog (Builtin.len_ #[27] 3 [x31].toArray) w fun x32 =>
    RD Tryz.prog (bin .lss 3 (.tmp 0) (.tmp 0) (u4 5) x32) w fun x33 =>
    BR x33
     ((fun w => RD Tryz.prog (Instr.fieldAt 32 x2 2) w fun x36 =>
     RD Tryz.prog (Instr.loadAt 27 x36) w fun x37 =>
     RD Tryz.prog (Instr.indexAt 27 x37 (u4 5)) w fun x39 =>
     RD Tryz.prog (Instr.loadAt 23 x39) w fun x40 =>
     RD Tryz.prog (Instr.fieldAt 32 x3 2) w fun x41 =>
     RD Tryz.prog (Instr.loadAt 27 x41) w fun x42 =>
     RD Tryz.prog (Instr.indexAt 27 x42 (u4 5)) w fun x44 =>
     RD Tryz.prog (Instr.loadAt 23 x44) w fun x45 =>
     CALL Tryz.prog 213 [x40, x45] w fun x46 w =>
     RD Tryz.prog (Op.unary .not x46) w fun x47 =>
     BR x47
      (R (Value.bool false) w)
      (RD Tryz.prog (bin .add 3 (.tmp 0) (.const undef) (u4 5) (Value.int .i64 1)) w fun x35 =>
      next4 [x35] w)) (World.drew1 w))
     (R (Value.bool true) w))))
def cfg141 : Cfg := { ext := extL, joins := [], loops := [(4, 281474439839792, [5])], draws := [(6, [0, 1, 2, 3, 4, 5, 6, 7, 8, 9, 10, 11], 0)], pars := [] }
theorem F141_eq (a0 a1 : Value) (w : World) (R : Value → World → Prop) : vcF Tryz.prog cfg141 Tryz.f141 [a0, a1] w R = F141 a0 a1 w R := by kernel_rfl
theorem F141_call {a0 a1 : Value} {w : World} {R : Value → World → Prop} (h : F141 a0 a1 w R) : CALL Tryz.prog 141 [a0, a1] w R :=
  call_of (g := cfg141) ent mixed Tryz.func141 (Nat.le_of_ble_eq_true (by kernel_rfl)) (by kernel_rfl) (F141_eq a0 a1 w R ▸ h)


theorem specSameState_ok {w : World} {v0 : Value} {W0 : World} {s1 : DState} {v1 : Value} {W1 : World} {s2 : DState}  (h0 : Is W0 v0 s1) (e0 : Ext W0 w) (h1 : Is W1 v1 s2) (e1 : Ext W1 w)  :
    CALL Tryz.prog 141 [v0, v1] w fun r w' => Ext w w' ∧ (r = .bool (decide (s1 = s2))) := by
  refine F141_call ?_
  unfold F141
  refine op_boxS ty32 rfl h0 e0 fun w1_ hx1_ hA2 hV2 => ?_
  refine op_boxS ty32 rfl h1 (e1.trans hx1_) fun w2_ hx2_ hA3 hV3 => ?_
  refine rd_fld fd32_0 ?_
  refine rd_load ty23 (at_DState_0 hA2) hx2_ fun v7 h7 => ?_
  refine rd_fld fd32_0 ?_
  refine rd_load ty23 (at_DState_0 hA3) (Ext.refl w2_) fun v9 h9 => ?_
  refine (l22Same_ok h7 hx2_ h9 (Ext.refl w2_)).mono ?_
  rintro _ w3_ ⟨hx3_, rfl⟩
  refine rd_nodec ?_
  refine br (fun c1 => ?_) (fun c1 => ?_)
  · refine ⟨(hx1_.trans (hx2_.trans hx3_)), ?_⟩
    have : s1 ≠ s2 := fun e => c1 (by rw [e])
    simp [this]
  · refine rd_fld fd32_1 ?_
    refine rd_load ty23 (at_DState_1 hA2) (hx2_.trans hx3_) fun v14 h14 => ?_
    refine rd_fld fd32_1 ?_
    refine rd_load ty23 (at_DState_1 hA3) hx3_ fun v16 h16 => ?_
    refine (l22Same_ok h14 (hx2_.trans hx3_) h16 hx3_).mono ?_
    rintro _ w4_ ⟨hx4_, rfl⟩
    refine rd_nodec ?_
    refine br (fun c2 => ?_) (fun c2 => ?_)
    · refine ⟨(hx1_.trans (hx2_.trans (hx3_.trans hx4_))), ?_⟩
      have : s1 ≠ s2 := fun e => c2 (by rw [e])
      simp [this]
    · refine rd_fld fd32_2 ?_
      refine rd_load ty27 (at_DState_2 hA2) (hx2_.trans (hx3_.trans hx4_)) fun v22 h22 => ?_
      have hln23 := is_len h22
      refine rd_len u27 h22 ?_
      refine rd_fld fd32_2 ?_
      refine rd_load ty27 (at_DState_2 hA3) (hx3_.trans hx4_) fun v25 h25 => ?_
      have hln26 := is_len h25
      refine rd_len u27 h25 ?_
      refine rd_neq ?_
      refine br (fun c3 => ?_) (fun c3 => ?_)
      · refine ⟨(hx1_.trans (hx2_.trans (hx3_.trans hx4_))), ?_⟩
        have : s1 ≠ s2 := fun e => c3 (by rw [e])
        simp [this]
      · refine loopC (s1.stacks.length) (fun k us w' => us = [.int .i64 (k : Int)] ∧ Ext w4_ w' ∧ (s1.stacks.take k = s2.stacks.take k)) (0) (by omega) ⟨by simp, Ext.refl w4_, by simp⟩ ?_
        rintro k m4 uu4 w5_ hk4 ⟨hu, hx5_, hinv⟩
        simp only [List.map_cons, List.map_nil, List.cons.injEq, and_true] at hu
        try rw [hu]
        try clear hu
        refine rd_fld fd32_2 ?_
        refine rd_load ty27 (at_DState_2 hA2) (hx2_.trans (hx3_.trans (hx4_.trans hx5_))) fun v31 h31 => ?_
        have hln32 := is_len h31
        refine rd_len u27 h31 ?_
        refine rd_lss ?_
        refine br (fun c4 => ?_) (fun c4 => ?_)
        · have hx6_ := ext_drew w5_
          refine rd_fld fd32_2 ?_
          refine rd_load ty27 (at_DState_2 hA2) (hx2_.trans (hx3_.trans (hx4_.trans (hx5_.trans hx6_)))) fun v37 h37 => ?_
          refine rd_indexN u27 ty23 h37 (by omega) fun b39 o39 h39 => ?_
          refine rd_load ty23 h39 (hx2_.trans (hx3_.trans (hx4_.trans (hx5_.trans hx6_)))) fun v40 h40 => ?_
          refine rd_fld fd32_2 ?_
          refine rd_load ty27 (at_DState_2 hA3) (hx3_.trans (hx4_.trans (hx5_.trans hx6_))) fun v42 h42 => ?_
          refine rd_indexN u27 ty23 h42 (by omega) fun b44 o44 h44 => ?_
          refine rd_load ty23 h44 (hx3_.trans (hx4_.trans (hx5_.trans hx6_))) fun v45 h45 => ?_
          refine (l22Same_ok h40 (hx2_.trans (hx3_.trans (hx4_.trans (hx5_.trans hx6_)))) h45 (hx3_.trans (hx4_.trans (hx5_.trans hx6_)))).mono ?_
          rintro _ w7_ ⟨hx7_, rfl⟩
          refine rd_nodec ?_
          refine br (fun c5 => ?_) (fun c5 => ?_)
          · refine ⟨(hx1_.trans (hx2_.trans (hx3_.trans (hx4_.trans (hx5_.trans (hx6_.trans hx7_)))))), ?_⟩
            have : s1 ≠ s2 := fun e => c5 (by subst e; rfl)
            simp [this]
          · refine rd_inc (by omega) ?_
            refine ⟨m4 - 1, by omega, k + 1, by omega, by simp, (hx5_.trans (hx6_.trans hx7_)), ?_⟩
            rw [List.take_succ_eq_append_getElem (by omega), List.take_succ_eq_append_getElem (by omega), hinv, Decidable.not_not.1 c5]
        · refine ⟨(hx1_.trans (hx2_.trans (hx3_.trans (hx4_.trans hx5_)))), ?_⟩
          rw [List.take_of_length_le (by omega), List.take_of_length_le (by omega)] at hinv
          have : s1 = s2 := by
            cases s1; cases s2
            simp only [Decidable.not_not] at c1 c2 hinv
            rw [c1, c2, hinv]
          simp [this]


end Go.Proofs.YteephmhilnlkpaaGreat
