/-
  Who can go, who waits: the program's and the reference's answers.
-/
import Derived.Test.YteephmhilnlkpaaGreatState
import Derived.Test.YteephmhilnlkpaaGreatMk
import Derived.Test.YteephmhilnlkpaaGreatOver
namespace Go.Proofs.YteephmhilnlkpaaGreat
open Go Go.Sh Go.Proofs
set_option linter.unusedVariables false
set_option linter.unusedSimpArgs false

/-- the owner of a lock -/
def ow (s : DState) (i : Int) : Int := s.owner.getD i.toNat 0
theorem ow_get {s : DState} {i : Nat} (h : i < s.owner.length) : s.owner[i] = ow s i := by unfold ow; rw [List.getD_eq_getElem?_getD, Int.toNat_natCast, List.getElem?_eq_getElem h]; rfl
theorem ow_get' {s : DState} {i : Int} (h0 : 0 ≤ i) (h : i.toNat < s.owner.length) : s.owner[i.toNat] = ow s i := by unfold ow; rw [List.getD_eq_getElem?_getD, List.getElem?_eq_getElem h]; rfl
/-- the stack of a thread -/
def stk (s : DState) (t : Int) : List Int := s.stacks.getD t.toNat []
theorem stk_get {s : DState} {t : Int} (h : t.toNat < s.stacks.length) : s.stacks[t.toNat] = stk s t := by unfold stk; rw [List.getD_eq_getElem?_getD, List.getElem?_eq_getElem h]; rfl
/-- the instruction that a thread is ahead of -/
def atI (c : DCode) (s : DState) (t : Int) : DIns := insAt c (atOf s t).toNat
theorem at_thread {s : DState} {t : Int} (h : 0 ≤ atOf s t) : 0 ≤ t ∧ t.toNat < s.stacks.length := by
  unfold atOf at h
  split at h
  · assumption
  · omega
theorem at_stack {s : DState} {t : Int} (h0 : 0 ≤ t) (h1 : t.toNat < s.stacks.length) : atOf s t = (stk s t).getLastD (-1) := by
  unfold atOf; rw [dif_pos ⟨h0, h1⟩, stk_get h1]
theorem last_st {l : List Int} (h : l ≠ []) : l.getLastD (-1) = st l (l.length - 1) := by
  unfold st
  rw [List.getLastD_eq_getLast?, List.getLast?_eq_getElem?, List.getD_eq_getElem?_getD]
  have : l.length - 1 < l.length := by have := List.length_pos_iff.2 h; omega
  rw [List.getElem?_eq_getElem this]; rfl
theorem at_lt {c : DCode} {s : DState} (hs : StateR c s) (t : Int) : -1 ≤ atOf s t ∧ atOf s t < c.ins.length := by
  by_cases h : 0 ≤ t ∧ t.toNat < s.stacks.length
  · rw [at_stack h.1 h.2]
    by_cases hn : stk s t = []
    · rw [hn]; simp [List.getLastD]; omega
    · have hl := List.length_pos_iff.2 hn
      have hm := hs.2.2.2.2.2 (stk s t) (by rw [← stk_get h.2]; exact List.getElem_mem _)
      rw [last_st hn]
      have := hm.2.1 ((stk s t).length - 1) (by omega)
      omega
  · unfold atOf; rw [dif_neg h]; omega
/-- what a right instruction's argument is -/
theorem ins_right {c : DCode} (hc : CodeR c) {j : Nat} (hj : j < c.ins.length) : InsR c (insAt c j) (en c (procOf c j).toNat) (endOf c (procOf c j) + 1) := hc.2.2 j hj
theorem lock_arg {c : DCode} (hc : CodeR c) {j : Nat} (hj : j < c.ins.length) (h : (insAt c j).op = 6 ∨ (insAt c j).op = 7) : 0 ≤ (insAt c j).arg ∧ (insAt c j).arg < c.locks.length := by
  have := (ins_right hc hj).2.1
  unfold argMost at this
  rwa [if_neg (by omega), if_neg (by omega), if_pos h] at this
theorem NamesR.locks6 {c : DCode} (h : NamesR c) : c.locks.length ≤ 6 := by
  have h1 := h.2.1
  simp only [Bool.and_eq_true, decide_eq_true_eq] at h1
  omega
theorem NamesR.globals6 {c : DCode} (h : NamesR c) : c.globals.length ≤ 6 := by
  have h1 := h.1
  simp only [Bool.and_eq_true, decide_eq_true_eq] at h1
  omega
theorem ow_range {c : DCode} {s : DState} (hs : StateR c s) {i : Int} (h0 : 0 ≤ i) (h : i.toNat < s.owner.length) : -1 ≤ ow s i ∧ ow s i < s.stacks.length := by
  rw [← ow_get' h0 h]; exact hs.2.2.2.2.1 _ (List.getElem_mem _)

/-- what is known of the place that a thread is ahead of -/
theorem atI_right {c : DCode} {s : DState} {t : Int} (hc : CodeR c) (hs : StateR c s) (h : 0 ≤ atOf s t) : InsR c (atI c s t) (en c (procOf c (atOf s t)).toNat) (endOf c (procOf c (atOf s t)) + 1) := by
  have := at_lt hs t
  have h1 := ins_right hc (j := (atOf s t).toNat) (by omega)
  rwa [Int.toNat_of_nonneg h] at h1
theorem atI_lock {c : DCode} {s : DState} {t : Int} (hc : CodeR c) (hs : StateR c s) (h : 0 ≤ atOf s t) (ho : (atI c s t).op = 6 ∨ (atI c s t).op = 7) : 0 ≤ (atI c s t).arg ∧ (atI c s t).arg.toNat < s.owner.length := by
  have := at_lt hs t
  have h1 := lock_arg hc (j := (atOf s t).toNat) (by omega) ho
  have h2 := hs.2.1
  unfold atI
  omega
/-- impl.holderOf -/
def F125 (a0 a1 : Value) (w : World) (R : Value → World → Prop) : Prop :=
  OP Tryz.prog (Instr.box 32 a0) w fun x2 w =>
  RD Tryz.prog (bin .lss 3 (.tmp 0) (.const undef) a1 (Value.int .i64 0)) w fun x6 =>
  BR x6
  (R (Value.int .i64 (-1)) w)
  (RD Tryz.prog (Instr.fieldAt 32 x2 1) w fun x9 =>
  RD Tryz.prog (Instr.loadAt 23 x9) w fun x10 =>
  RD Tryz.prog (Builtin.len_ #[23] 3 [x10].toArray) w fun x11 =>
  RD Tryz.prog (bin .geq 3 (.tmp 0) (.tmp 0) a1 x11) w fun x12 =>
  BR x12
   (R (Value.int .i64 (-1)) w)
   (RD Tryz.prog (Instr.fieldAt 32 x2 1) w fun x14 =>
   RD Tryz.prog (Instr.loadAt 23 x14) w fun x15 =>
   RD Tryz.prog (Instr.indexAt 23 x15 a1) w fun x17 =>
   RD Tryz.prog (Instr.loadAt 3 x17) w fun x18 =>
   RD Tryz.prog (Builtin.max_ #[3, 3] 3 [x18, (Value.int .i64 (-1))].toArray) w fun x19 =>
   R x19 w))
def cfg125 : Cfg := { ext := extL, joins := [], loops := [], draws := [], pars := [] }
theorem F125_eq (a0 a1 : Value) (w : World) (R : Value → World → Prop) : vcF Tryz.prog cfg125 Tryz.f125 [a0, a1] w R = F125 a0 a1 w R := by kernel_rfl
theorem F125_call {a0 a1 : Value} {w : World} {R : Value → World → Prop} (h : F125 a0 a1 w R) : CALL Tryz.prog 125 [a0, a1] w R :=
  call_of (g := cfg125) ent mixed Tryz.func125 (Nat.le_of_ble_eq_true (by kernel_rfl)) (by kernel_rfl) (F125_eq a0 a1 w R ▸ h)


theorem holderOf_ok {w : World} {v0 : Value} {W0 : World} {s : DState} {i : Int}  (h0 : Is W0 v0 s) (e0 : Ext W0 w) (hi0 : 0 ≤ i) (hi1 : i.toNat < s.owner.length) :
    CALL Tryz.prog 125 [v0, .int .i64 i] w fun r w' => Ext w w' ∧ (r = .int .i64 (max (ow s i) (-1))) := by
  refine F125_call ?_
  unfold F125
  refine op_boxS ty32 rfl h0 e0 fun w1_ hx1_ hA2 hV2 => ?_
  refine rd_lss ?_
  refine br (fun c1 => ?_) (fun c1 => ?_)
  · refine ⟨hx1_, ?_⟩
    exact absurd c1 (by omega)
  · refine rd_fld fd32_1 ?_
    refine rd_load ty23 (at_DState_1 hA2) (Ext.refl w1_) fun v10 h10 => ?_
    have hln11 := is_len h10
    refine rd_len u23 h10 ?_
    refine rd_geq ?_
    refine br (fun c2 => ?_) (fun c2 => ?_)
    · refine ⟨hx1_, ?_⟩
      exact absurd c2 (by omega)
    · refine rd_fld fd32_1 ?_
      refine rd_load ty23 (at_DState_1 hA2) (Ext.refl w1_) fun v15 h15 => ?_
      refine rd_index u23 ty3 h15 (by omega) (by omega) fun b17 o17 h17 => ?_
      refine rd_loadI ty3 h17 (Ext.refl w1_) fun hI18 => ?_
      refine rd_max ?_
      refine ⟨hx1_, ?_⟩
      rw [ow_get' hi0 hi1]

def GoR (c : DCode) (s : DState) (t : Int) : Prop := 0 ≤ atOf s t ∧ ((atI c s t).op = 6 → ow s (atI c s t).arg = -1) ∧ ((atI c s t).op = 4 → ((stk s t).length : Int) < 8)
instance (c : DCode) (s : DState) (t : Int) : Decidable (GoR c s t) := by unfold GoR; infer_instance
/-- spec.l21Go -/
def F121 (a0 a1 a2 : Value) (w : World) (R : Value → World → Prop) : Prop :=
  OP Tryz.prog (Instr.box 37 a0) w fun x3 w =>
  OP Tryz.prog (Instr.box 32 a1) w fun x4 w =>
  RD Tryz.prog (Instr.loadAt 32 x4) w fun x8 =>
  CALL Tryz.prog 91 [x8, a2] w fun x10 w =>
  RD Tryz.prog (bin .lss 3 (.tmp 0) (.const undef) x10 (Value.int .i64 0)) w fun x12 =>
  BR x12
   (R (Value.bool false) w)
   (RD Tryz.prog (Instr.fieldAt 37 x3 4) w fun x13 =>
   RD Tryz.prog (Instr.loadAt 35 x13) w fun x14 =>
   RD Tryz.prog (Instr.indexAt 35 x14 x10) w fun x16 =>
   RD Tryz.prog (Instr.fieldAt 135 x16 0) w fun x17 =>
   RD Tryz.prog (Instr.loadAt 3 x17) w fun x18 =>
   RD Tryz.prog (bin .eql 3 (.tmp 0) (.const undef) x18 (Value.int .i64 6)) w fun x20 =>
   BR x20
    ((fun w => RD Tryz.prog (Instr.fieldAt 32 x4 1) w fun x21 =>
    RD Tryz.prog (Instr.loadAt 23 x21) w fun x22 =>
    RD Tryz.prog (Instr.fieldAt 37 x3 4) w fun x23 =>
    RD Tryz.prog (Instr.loadAt 35 x23) w fun x24 =>
    RD Tryz.prog (Instr.indexAt 35 x24 x10) w fun x26 =>
    RD Tryz.prog (Instr.fieldAt 135 x26 1) w fun x27 =>
    RD Tryz.prog (Instr.loadAt 3 x27) w fun x28 =>
    RD Tryz.prog (Instr.indexAt 23 x22 x28) w fun x29 =>
    RD Tryz.prog (Instr.loadAt 3 x29) w fun x30 =>
    RD Tryz.prog (bin .eql 3 (.tmp 0) (.const undef) x30 (Value.int .i64 (-1))) w fun x31 =>
    R x31 w) (World.drew1 w))
    (RD Tryz.prog (bin .eql 3 (.tmp 0) (.const undef) x18 (Value.int .i64 4)) w fun x33 =>
    BR x33
     (RD Tryz.prog (Instr.fieldAt 32 x4 2) w fun x34 =>
     RD Tryz.prog (Instr.loadAt 27 x34) w fun x35 =>
     RD Tryz.prog (Instr.indexAt 27 x35 a2) w fun x37 =>
     RD Tryz.prog (Instr.loadAt 23 x37) w fun x38 =>
     RD Tryz.prog (Builtin.len_ #[23] 3 [x38].toArray) w fun x39 =>
     RD Tryz.prog (bin .lss 3 (.tmp 0) (.const undef) x39 (Value.int .i64 8)) w fun x40 =>
     R x40 w)
     (R (Value.bool true) w)))
def cfg121 : Cfg := { ext := extL, joins := [], loops := [], draws := [(6, [0, 1, 2, 3, 4, 5, 6, 7, 8, 9, 10, 11], 0)], pars := [] }
theorem F121_eq (a0 a1 a2 : Value) (w : World) (R : Value → World → Prop) : vcF Tryz.prog cfg121 Tryz.f121 [a0, a1, a2] w R = F121 a0 a1 a2 w R := by kernel_rfl
theorem F121_call {a0 a1 a2 : Value} {w : World} {R : Value → World → Prop} (h : F121 a0 a1 a2 w R) : CALL Tryz.prog 121 [a0, a1, a2] w R :=
  call_of (g := cfg121) ent mixed Tryz.func121 (Nat.le_of_ble_eq_true (by kernel_rfl)) (by kernel_rfl) (F121_eq a0 a1 a2 w R ▸ h)


theorem l21Go_ok {w : World} {v0 : Value} {W0 : World} {c : DCode} {v1 : Value} {W1 : World} {s : DState} {t : Int}  (h0 : Is W0 v0 c) (e0 : Ext W0 w) (h1 : Is W1 v1 s) (e1 : Ext W1 w) (hc : CodeR c) (hs : StateR c s) :
    CALL Tryz.prog 121 [v0, v1, .int .i64 t] w fun r w' => Ext w w' ∧ (r = .bool (decide (GoR c s t))) := by
  refine F121_call ?_
  unfold F121
  have hat := at_lt hs t
  refine op_boxS ty37 rfl h0 e0 fun w1_ hx1_ hA3 hV3 => ?_
  refine op_boxS ty32 rfl h1 (e1.trans hx1_) fun w2_ hx2_ hA4 hV4 => ?_
  refine rd_var hV4 (Ext.refl w2_) ?_
  refine (specAtOf_ok h1 (e1.trans (hx1_.trans hx2_))).mono ?_
  rintro _ w3_ ⟨hx3_, rfl⟩
  refine rd_lss ?_
  refine br (fun c1 => ?_) (fun c1 => ?_)
  · refine ⟨(hx1_.trans (hx2_.trans hx3_)), ?_⟩
    have : ¬ GoR c s t := fun h => by have := h.1; omega
    simp only [this, decide_false]
  · refine rd_fld fd37_4 ?_
    refine rd_load ty35 (at_DCode_4 hA3) (hx2_.trans hx3_) fun v14 h14 => ?_
    refine rd_index u35 ty135 h14 (by omega) (by omega) fun b16 o16 h16 => ?_
    rw [insAt_get] at h16
    change At _ _ _ (atI c s t) at h16
    have hat0 : 0 ≤ atOf s t := by omega
    have hth := at_thread hat0
    refine rd_fld fd135_0 ?_
    refine rd_loadI ty3 (at_DIns_0 h16) (hx2_.trans hx3_) fun hI18 => ?_
    refine rd_eql ?_
    refine br (fun c2 => ?_) (fun c2 => ?_)
    · have hx4_ := ext_drew w3_
      refine rd_fld fd32_1 ?_
      refine rd_load ty23 (at_DState_1 hA4) (hx3_.trans hx4_) fun v22 h22 => ?_
      refine rd_fld fd37_4 ?_
      refine rd_load ty35 (at_DCode_4 hA3) (hx2_.trans (hx3_.trans hx4_)) fun v24 h24 => ?_
      refine rd_index u35 ty135 h24 (by omega) (by omega) fun b26 o26 h26 => ?_
      rw [insAt_get] at h26
      change At _ _ _ (atI c s t) at h26
      have hlk := atI_lock hc hs hat0 (.inl c2)
      refine rd_fld fd135_1 ?_
      refine rd_loadI ty3 (at_DIns_1 h26) (hx2_.trans (hx3_.trans hx4_)) fun hI28 => ?_
      refine rd_index u23 ty3 h22 (by omega) (by omega) fun b29 o29 h29 => ?_
      refine rd_loadI ty3 h29 (hx3_.trans hx4_) fun hI30 => ?_
      refine rd_eql ?_
      refine ⟨(hx1_.trans (hx2_.trans (hx3_.trans hx4_))), ?_⟩
      congr 1
      rw [decide_eq_decide, ow_get' hlk.1 hlk.2]
      exact ⟨fun h => ⟨hat0, fun _ => h, fun h4 => by omega⟩, fun h => h.2.1 c2⟩
    · refine rd_eql ?_
      refine br (fun c3 => ?_) (fun c3 => ?_)
      · refine rd_fld fd32_2 ?_
        refine rd_load ty27 (at_DState_2 hA4) hx3_ fun v35 h35 => ?_
        refine rd_index u27 ty23 h35 (by omega) (by omega) fun b37 o37 h37 => ?_
        refine rd_load ty23 h37 hx3_ fun v38 h38 => ?_
        have hln39 := is_len h38
        refine rd_len u23 h38 ?_
        refine rd_lss ?_
        refine ⟨(hx1_.trans (hx2_.trans hx3_)), ?_⟩
        congr 1
        rw [decide_eq_decide, stk_get hth.2]
        exact ⟨fun h => ⟨hat0, fun h6 => by omega, fun _ => h⟩, fun h => h.2.2 c3⟩
      · refine ⟨(hx1_.trans (hx2_.trans hx3_)), ?_⟩
        have : GoR c s t := ⟨hat0, fun h6 => absurd h6 c2, fun h4 => absurd h4 c3⟩
        simp only [this, decide_true]

/-- impl.goes -/
def F72 (a0 a1 a2 : Value) (w : World) (R : Value → World → Prop) : Prop :=
  OP Tryz.prog (Instr.box 37 a0) w fun x3 w =>
  OP Tryz.prog (Instr.box 32 a1) w fun x4 w =>
  RD Tryz.prog (Instr.loadAt 32 x4) w fun x8 =>
  CALL Tryz.prog 99 [x8, a2] w fun x10 w =>
  RD Tryz.prog (Instr.loadAt 37 x3) w fun x11 =>
  CALL Tryz.prog 124 [x11, x10] w fun x13 w =>
  RD Tryz.prog (Op.unary .not x13) w fun x14 =>
  BR x14
   (R (Value.bool false) w)
   (RD Tryz.prog (Instr.fieldAt 37 x3 4) w fun x15 =>
   RD Tryz.prog (Instr.loadAt 35 x15) w fun x16 =>
   RD Tryz.prog (Instr.indexAt 35 x16 x10) w fun x18 =>
   RD Tryz.prog (Instr.fieldAt 135 x18 0) w fun x19 =>
   RD Tryz.prog (Instr.loadAt 3 x19) w fun x20 =>
   RD Tryz.prog (bin .eql 3 (.tmp 0) (.const undef) x20 (Value.int .i64 6)) w fun x22 =>
   BR x22
    ((fun w => RD Tryz.prog (Instr.loadAt 32 x4) w fun x23 =>
    RD Tryz.prog (Instr.fieldAt 37 x3 4) w fun x24 =>
    RD Tryz.prog (Instr.loadAt 35 x24) w fun x25 =>
    RD Tryz.prog (Instr.indexAt 35 x25 x10) w fun x27 =>
    RD Tryz.prog (Instr.fieldAt 135 x27 1) w fun x28 =>
    RD Tryz.prog (Instr.loadAt 3 x28) w fun x29 =>
    CALL Tryz.prog 125 [x23, x29] w fun x30 w =>
    RD Tryz.prog (bin .lss 3 (.tmp 0) (.const undef) x30 (Value.int .i64 0)) w fun x31 =>
    R x31 w) (World.drew1 w))
    (RD Tryz.prog (bin .eql 3 (.tmp 0) (.const undef) x20 (Value.int .i64 4)) w fun x33 =>
    BR x33
     (RD Tryz.prog (Instr.fieldAt 32 x4 2) w fun x34 =>
     RD Tryz.prog (Instr.loadAt 27 x34) w fun x35 =>
     RD Tryz.prog (Instr.indexAt 27 x35 a2) w fun x37 =>
     RD Tryz.prog (Instr.loadAt 23 x37) w fun x38 =>
     RD Tryz.prog (Builtin.len_ #[23] 3 [x38].toArray) w fun x39 =>
     RD Tryz.prog (bin .lss 3 (.tmp 0) (.const undef) x39 (Value.int .i64 8)) w fun x40 =>
     R x40 w)
     (R (Value.bool true) w)))
def cfg72 : Cfg := { ext := extL, joins := [], loops := [], draws := [(6, [0, 1, 2, 3, 4, 5, 6, 7, 8, 9], 0)], pars := [] }
theorem F72_eq (a0 a1 a2 : Value) (w : World) (R : Value → World → Prop) : vcF Tryz.prog cfg72 Tryz.f72 [a0, a1, a2] w R = F72 a0 a1 a2 w R := by kernel_rfl
theorem F72_call {a0 a1 a2 : Value} {w : World} {R : Value → World → Prop} (h : F72 a0 a1 a2 w R) : CALL Tryz.prog 72 [a0, a1, a2] w R :=
  call_of (g := cfg72) ent mixed Tryz.func72 (Nat.le_of_ble_eq_true (by kernel_rfl)) (by kernel_rfl) (F72_eq a0 a1 a2 w R ▸ h)


theorem goes_ok {w : World} {v0 : Value} {W0 : World} {c : DCode} {v1 : Value} {W1 : World} {s : DState} {t : Int}  (h0 : Is W0 v0 c) (e0 : Ext W0 w) (h1 : Is W1 v1 s) (e1 : Ext W1 w) (hc : CodeR c) (hs : StateR c s) :
    CALL Tryz.prog 72 [v0, v1, .int .i64 t] w fun r w' => Ext w w' ∧ (r = .bool (decide (GoR c s t))) := by
  refine F72_call ?_
  unfold F72
  have hat := at_lt hs t
  refine op_boxS ty37 rfl h0 e0 fun w1_ hx1_ hA3 hV3 => ?_
  refine op_boxS ty32 rfl h1 (e1.trans hx1_) fun w2_ hx2_ hA4 hV4 => ?_
  refine rd_var hV4 (Ext.refl w2_) ?_
  refine (implAtOf_ok h1 (e1.trans (hx1_.trans hx2_))).mono ?_
  rintro _ w3_ ⟨hx3_, rfl⟩
  refine rd_var hV3 (hx2_.trans hx3_) ?_
  refine (isPlace_ok h0 (e0.trans (hx1_.trans (hx2_.trans hx3_)))).mono ?_
  rintro _ w4_ ⟨hx4_, rfl⟩
  refine rd_nodec ?_
  refine br (fun c1 => ?_) (fun c1 => ?_)
  · refine ⟨(hx1_.trans (hx2_.trans (hx3_.trans hx4_))), ?_⟩
    have : ¬ GoR c s t := fun h => by have := h.1; omega
    simp only [this, decide_false]
  · refine rd_fld fd37_4 ?_
    refine rd_load ty35 (at_DCode_4 hA3) (hx2_.trans (hx3_.trans hx4_)) fun v16 h16 => ?_
    refine rd_index u35 ty135 h16 (by omega) (by omega) fun b18 o18 h18 => ?_
    rw [insAt_get] at h18
    change At _ _ _ (atI c s t) at h18
    have hat0 : 0 ≤ atOf s t := by omega
    have hth := at_thread hat0
    refine rd_fld fd135_0 ?_
    refine rd_loadI ty3 (at_DIns_0 h18) (hx2_.trans (hx3_.trans hx4_)) fun hI20 => ?_
    refine rd_eql ?_
    refine br (fun c2 => ?_) (fun c2 => ?_)
    · have hx5_ := ext_drew w4_
      refine rd_var hV4 (hx3_.trans (hx4_.trans hx5_)) ?_
      refine rd_fld fd37_4 ?_
      refine rd_load ty35 (at_DCode_4 hA3) (hx2_.trans (hx3_.trans (hx4_.trans hx5_))) fun v25 h25 => ?_
      refine rd_index u35 ty135 h25 (by omega) (by omega) fun b27 o27 h27 => ?_
      rw [insAt_get] at h27
      change At _ _ _ (atI c s t) at h27
      have hlk := atI_lock hc hs hat0 (.inl c2)
      have hor := ow_range hs hlk.1 hlk.2
      refine rd_fld fd135_1 ?_
      refine rd_loadI ty3 (at_DIns_1 h27) (hx2_.trans (hx3_.trans (hx4_.trans hx5_))) fun hI29 => ?_
      refine (holderOf_ok h1 (e1.trans (hx1_.trans (hx2_.trans (hx3_.trans (hx4_.trans hx5_))))) (by omega) (by omega)).mono ?_
      rintro _ w6_ ⟨hx6_, rfl⟩
      refine rd_lss ?_
      refine ⟨(hx1_.trans (hx2_.trans (hx3_.trans (hx4_.trans (hx5_.trans hx6_))))), ?_⟩
      congr 1
      rw [decide_eq_decide]
      exact ⟨fun h => ⟨hat0, fun _ => by omega, fun h4 => by omega⟩, fun h => by have := h.2.1 c2; omega⟩
    · refine rd_eql ?_
      refine br (fun c3 => ?_) (fun c3 => ?_)
      · refine rd_fld fd32_2 ?_
        refine rd_load ty27 (at_DState_2 hA4) (hx3_.trans hx4_) fun v35 h35 => ?_
        refine rd_index u27 ty23 h35 (by omega) (by omega) fun b37 o37 h37 => ?_
        refine rd_load ty23 h37 (hx3_.trans hx4_) fun v38 h38 => ?_
        have hln39 := is_len h38
        refine rd_len u23 h38 ?_
        refine rd_lss ?_
        refine ⟨(hx1_.trans (hx2_.trans (hx3_.trans hx4_))), ?_⟩
        congr 1
        rw [decide_eq_decide, stk_get hth.2]
        exact ⟨fun h => ⟨hat0, fun h6 => by omega, fun _ => h⟩, fun h => h.2.2 c3⟩
      · refine ⟨(hx1_.trans (hx2_.trans (hx3_.trans hx4_))), ?_⟩
        have : GoR c s t := ⟨hat0, fun h6 => absurd h6 c2, fun h4 => absurd h4 c3⟩
        simp only [this, decide_true]

/-- spec.CanGo -/
def F65 (a0 a1 a2 : Value) (w : World) (R : Value → World → Prop) : Prop :=
  OP Tryz.prog (Instr.box 37 a0) w fun x3 w =>
  OP Tryz.prog (Instr.box 32 a1) w fun x4 w =>
  RD Tryz.prog (Instr.loadAt 37 x3) w fun x7 =>
  RD Tryz.prog (Instr.loadAt 32 x4) w fun x8 =>
  CALL Tryz.prog 88 [x7, x8] w fun x9 w =>
  BR x9
  (RD Tryz.prog (Instr.loadAt 37 x3) w fun x11 =>
  RD Tryz.prog (Instr.loadAt 32 x4) w fun x12 =>
  CALL Tryz.prog 121 [x11, x12, a2] w fun x14 w =>
  R x14 w)
  (R (Value.bool false) w)
def cfg65 : Cfg := { ext := extL, joins := [], loops := [], draws := [], pars := [] }
theorem F65_eq (a0 a1 a2 : Value) (w : World) (R : Value → World → Prop) : vcF Tryz.prog cfg65 Tryz.f65 [a0, a1, a2] w R = F65 a0 a1 a2 w R := by kernel_rfl
theorem F65_call {a0 a1 a2 : Value} {w : World} {R : Value → World → Prop} (h : F65 a0 a1 a2 w R) : CALL Tryz.prog 65 [a0, a1, a2] w R :=
  call_of (g := cfg65) ent mixed Tryz.func65 (Nat.le_of_ble_eq_true (by kernel_rfl)) (by kernel_rfl) (F65_eq a0 a1 a2 w R ▸ h)


theorem specCanGo_ok {w : World} {v0 : Value} {W0 : World} {c : DCode} {v1 : Value} {W1 : World} {s : DState} {t : Int}  (h0 : Is W0 v0 c) (e0 : Ext W0 w) (h1 : Is W1 v1 s) (e1 : Ext W1 w)  :
    CALL Tryz.prog 65 [v0, v1, .int .i64 t] w fun r w' => Ext w w' ∧ (r = .bool (decide ((CodeR c ∧ StateR c s) ∧ GoR c s t))) := by
  refine F65_call ?_
  unfold F65
  refine op_boxS ty37 rfl h0 e0 fun w1_ hx1_ hA3 hV3 => ?_
  refine op_boxS ty32 rfl h1 (e1.trans hx1_) fun w2_ hx2_ hA4 hV4 => ?_
  refine rd_var hV3 hx2_ ?_
  refine rd_var hV4 (Ext.refl w2_) ?_
  refine (specStateOk_ok h0 (e0.trans (hx1_.trans hx2_)) h1 (e1.trans (hx1_.trans hx2_))).mono ?_
  rintro _ w3_ ⟨hx3_, rfl⟩
  refine br (fun c1 => ?_) (fun c1 => ?_)
  · refine rd_var hV3 (hx2_.trans hx3_) ?_
    refine rd_var hV4 hx3_ ?_
    refine (l21Go_ok h0 (e0.trans (hx1_.trans (hx2_.trans hx3_))) h1 (e1.trans (hx1_.trans (hx2_.trans hx3_))) c1.1 c1.2).mono ?_
    rintro _ w4_ ⟨hx4_, rfl⟩
    refine ⟨(hx1_.trans (hx2_.trans (hx3_.trans hx4_))), ?_⟩
    simp [c1]
  · refine ⟨(hx1_.trans (hx2_.trans hx3_)), ?_⟩
    simp [c1]

/-- the lock that a thread waits for -/
def waitsOf (c : DCode) (s : DState) (t : Int) : Int := if 0 ≤ atOf s t ∧ (atI c s t).op = 6 ∧ 0 ≤ ow s (atI c s t).arg then (atI c s t).arg else -1
/-- spec.l24Waits -/
def F171 (a0 a1 a2 : Value) (w : World) (R : Value → World → Prop) : Prop :=
  OP Tryz.prog (Instr.box 37 a0) w fun x3 w =>
  OP Tryz.prog (Instr.box 32 a1) w fun x4 w =>
  RD Tryz.prog (Instr.loadAt 32 x4) w fun x8 =>
  CALL Tryz.prog 91 [x8, a2] w fun x10 w =>
  (fun w => RD Tryz.prog (bin .lss 3 (.tmp 0) (.const undef) x10 (Value.int .i64 0)) w fun x12 =>
  BR x12
  (R (Value.int .i64 (-1)) w)
  (RD Tryz.prog (Instr.fieldAt 37 x3 4) w fun x14 =>
  RD Tryz.prog (Instr.loadAt 35 x14) w fun x15 =>
  RD Tryz.prog (Instr.indexAt 35 x15 x10) w fun x17 =>
  RD Tryz.prog (Instr.fieldAt 135 x17 0) w fun x18 =>
  RD Tryz.prog (Instr.loadAt 3 x18) w fun x19 =>
  RD Tryz.prog (bin .neq 3 (.tmp 0) (.const undef) x19 (Value.int .i64 6)) w fun x20 =>
  BR x20
  (R (Value.int .i64 (-1)) w)
  (RD Tryz.prog (Instr.fieldAt 32 x4 1) w fun x23 =>
  RD Tryz.prog (Instr.loadAt 23 x23) w fun x24 =>
  RD Tryz.prog (Instr.fieldAt 37 x3 4) w fun x25 =>
  RD Tryz.prog (Instr.loadAt 35 x25) w fun x26 =>
  RD Tryz.prog (Instr.indexAt 35 x26 x10) w fun x28 =>
  RD Tryz.prog (Instr.fieldAt 135 x28 1) w fun x29 =>
  RD Tryz.prog (Instr.loadAt 3 x29) w fun x30 =>
  RD Tryz.prog (Instr.indexAt 23 x24 x30) w fun x31 =>
  RD Tryz.prog (Instr.loadAt 3 x31) w fun x32 =>
  RD Tryz.prog (bin .lss 3 (.tmp 0) (.const undef) x32 (Value.int .i64 0)) w fun x33 =>
  BR x33
   (R (Value.int .i64 (-1)) w)
   (RD Tryz.prog (Instr.fieldAt 37 x3 4) w fun x35 =>
   RD Tryz.prog (Instr.loadAt 35 x35) w fun x36 =>
   RD Tryz.prog (Instr.indexAt 35 x36 x10) w fun x38 =>
   RD Tryz.prog (Instr.fieldAt 135 x38 1) w fun x39 =>
   RD Tryz.prog (Instr.loadAt 3 x39) w fun x40 =>
   R x40 w)))) (World.drew1 w)
def cfg171 : Cfg := { ext := extL, joins := [], loops := [], draws := [(2, [0, 1, 2, 3, 4, 5, 6, 7, 8, 9, 10, 11, 12, 13, 14, 15, 16, 17, 18, 19, 20, 21, 22, 23], 0)], pars := [] }
theorem F171_eq (a0 a1 a2 : Value) (w : World) (R : Value → World → Prop) : vcF Tryz.prog cfg171 Tryz.f171 [a0, a1, a2] w R = F171 a0 a1 a2 w R := by kernel_rfl
theorem F171_call {a0 a1 a2 : Value} {w : World} {R : Value → World → Prop} (h : F171 a0 a1 a2 w R) : CALL Tryz.prog 171 [a0, a1, a2] w R :=
  call_of (g := cfg171) ent mixed Tryz.func171 (Nat.le_of_ble_eq_true (by kernel_rfl)) (by kernel_rfl) (F171_eq a0 a1 a2 w R ▸ h)


theorem l24Waits_ok {w : World} {v0 : Value} {W0 : World} {c : DCode} {v1 : Value} {W1 : World} {s : DState} {t : Int}  (h0 : Is W0 v0 c) (e0 : Ext W0 w) (h1 : Is W1 v1 s) (e1 : Ext W1 w) (hc : CodeR c) (hs : StateR c s) :
    CALL Tryz.prog 171 [v0, v1, .int .i64 t] w fun r w' => Ext w w' ∧ (r = .int .i64 (waitsOf c s t)) := by
  refine F171_call ?_
  unfold F171
  have hat := at_lt hs t
  refine op_boxS ty37 rfl h0 e0 fun w1_ hx1_ hA3 hV3 => ?_
  refine op_boxS ty32 rfl h1 (e1.trans hx1_) fun w2_ hx2_ hA4 hV4 => ?_
  refine rd_var hV4 (Ext.refl w2_) ?_
  refine (specAtOf_ok h1 (e1.trans (hx1_.trans hx2_))).mono ?_
  rintro _ w3_ ⟨hx3_, rfl⟩
  have hx4_ := ext_drew w3_
  refine rd_lss ?_
  refine br (fun c1 => ?_) (fun c1 => ?_)
  · refine ⟨(hx1_.trans (hx2_.trans (hx3_.trans hx4_))), ?_⟩
    unfold waitsOf; rw [if_neg (by omega)]
  · refine rd_fld fd37_4 ?_
    refine rd_load ty35 (at_DCode_4 hA3) (hx2_.trans (hx3_.trans hx4_)) fun v15 h15 => ?_
    refine rd_index u35 ty135 h15 (by omega) (by omega) fun b17 o17 h17 => ?_
    rw [insAt_get] at h17
    change At _ _ _ (atI c s t) at h17
    have hat0 : 0 ≤ atOf s t := by omega
    refine rd_fld fd135_0 ?_
    refine rd_loadI ty3 (at_DIns_0 h17) (hx2_.trans (hx3_.trans hx4_)) fun hI19 => ?_
    refine rd_neq ?_
    refine br (fun c2 => ?_) (fun c2 => ?_)
    · refine ⟨(hx1_.trans (hx2_.trans (hx3_.trans hx4_))), ?_⟩
      unfold waitsOf; rw [if_neg (fun h => c2 h.2.1)]
    · refine rd_fld fd32_1 ?_
      refine rd_load ty23 (at_DState_1 hA4) (hx3_.trans hx4_) fun v24 h24 => ?_
      refine rd_fld fd37_4 ?_
      refine rd_load ty35 (at_DCode_4 hA3) (hx2_.trans (hx3_.trans hx4_)) fun v26 h26 => ?_
      refine rd_index u35 ty135 h26 (by omega) (by omega) fun b28 o28 h28 => ?_
      rw [insAt_get] at h28
      change At _ _ _ (atI c s t) at h28
      have hlk := atI_lock hc hs hat0 (.inl (Decidable.not_not.1 c2))
      refine rd_fld fd135_1 ?_
      refine rd_loadI ty3 (at_DIns_1 h28) (hx2_.trans (hx3_.trans hx4_)) fun hI30 => ?_
      refine rd_index u23 ty3 h24 (by omega) (by omega) fun b31 o31 h31 => ?_
      refine rd_loadI ty3 h31 (hx3_.trans hx4_) fun hI32 => ?_
      refine rd_lss ?_
      refine br (fun c3 => ?_) (fun c3 => ?_)
      · refine ⟨(hx1_.trans (hx2_.trans (hx3_.trans hx4_))), ?_⟩
        rw [ow_get' hlk.1 hlk.2] at c3
        unfold waitsOf; rw [if_neg (by omega)]
      · refine rd_fld fd37_4 ?_
        refine rd_load ty35 (at_DCode_4 hA3) (hx2_.trans (hx3_.trans hx4_)) fun v36 h36 => ?_
        refine rd_index u35 ty135 h36 (by omega) (by omega) fun b38 o38 h38 => ?_
        rw [insAt_get] at h38
        change At _ _ _ (atI c s t) at h38
        refine rd_fld fd135_1 ?_
        refine rd_loadI ty3 (at_DIns_1 h38) (hx2_.trans (hx3_.trans hx4_)) fun hI40 => ?_
        refine ⟨(hx1_.trans (hx2_.trans (hx3_.trans hx4_))), ?_⟩
        rw [ow_get' hlk.1 hlk.2] at c3
        unfold waitsOf; rw [if_pos ⟨hat0, by omega, by omega⟩]

/-- impl.waits -/
def F178 (a0 a1 a2 : Value) (w : World) (R : Value → World → Prop) : Prop :=
  OP Tryz.prog (Instr.box 37 a0) w fun x3 w =>
  OP Tryz.prog (Instr.box 32 a1) w fun x4 w =>
  RD Tryz.prog (Instr.loadAt 32 x4) w fun x8 =>
  CALL Tryz.prog 99 [x8, a2] w fun x10 w =>
  (fun w => RD Tryz.prog (Instr.loadAt 37 x3) w fun x11 =>
  CALL Tryz.prog 124 [x11, x10] w fun x13 w =>
  RD Tryz.prog (Op.unary .not x13) w fun x14 =>
  BR x14
  (R (Value.int .i64 (-1)) w)
  (RD Tryz.prog (Instr.fieldAt 37 x3 4) w fun x16 =>
  RD Tryz.prog (Instr.loadAt 35 x16) w fun x17 =>
  RD Tryz.prog (Instr.indexAt 35 x17 x10) w fun x19 =>
  RD Tryz.prog (Instr.fieldAt 135 x19 0) w fun x20 =>
  RD Tryz.prog (Instr.loadAt 3 x20) w fun x21 =>
  RD Tryz.prog (bin .neq 3 (.tmp 0) (.const undef) x21 (Value.int .i64 6)) w fun x22 =>
  BR x22
  (R (Value.int .i64 (-1)) w)
  (RD Tryz.prog (Instr.loadAt 32 x4) w fun x25 =>
  RD Tryz.prog (Instr.fieldAt 37 x3 4) w fun x26 =>
  RD Tryz.prog (Instr.loadAt 35 x26) w fun x27 =>
  RD Tryz.prog (Instr.indexAt 35 x27 x10) w fun x29 =>
  RD Tryz.prog (Instr.fieldAt 135 x29 1) w fun x30 =>
  RD Tryz.prog (Instr.loadAt 3 x30) w fun x31 =>
  CALL Tryz.prog 125 [x25, x31] w fun x32 w =>
  RD Tryz.prog (bin .lss 3 (.tmp 0) (.const undef) x32 (Value.int .i64 0)) w fun x33 =>
  BR x33
   (R (Value.int .i64 (-1)) w)
   (RD Tryz.prog (Instr.fieldAt 37 x3 4) w fun x35 =>
   RD Tryz.prog (Instr.loadAt 35 x35) w fun x36 =>
   RD Tryz.prog (Instr.indexAt 35 x36 x10) w fun x38 =>
   RD Tryz.prog (Instr.fieldAt 135 x38 1) w fun x39 =>
   RD Tryz.prog (Instr.loadAt 3 x39) w fun x40 =>
   R x40 w)))) (World.drew1 w)
def cfg178 : Cfg := { ext := extL, joins := [], loops := [], draws := [(2, [0, 1, 2, 3, 4, 5, 6, 7, 8, 9, 10, 11, 12, 13, 14, 15, 16, 17, 18, 19, 20, 21, 22, 23], 0)], pars := [] }
theorem F178_eq (a0 a1 a2 : Value) (w : World) (R : Value → World → Prop) : vcF Tryz.prog cfg178 Tryz.f178 [a0, a1, a2] w R = F178 a0 a1 a2 w R := by kernel_rfl
theorem F178_call {a0 a1 a2 : Value} {w : World} {R : Value → World → Prop} (h : F178 a0 a1 a2 w R) : CALL Tryz.prog 178 [a0, a1, a2] w R :=
  call_of (g := cfg178) ent mixed Tryz.func178 (Nat.le_of_ble_eq_true (by kernel_rfl)) (by kernel_rfl) (F178_eq a0 a1 a2 w R ▸ h)


theorem waits_ok {w : World} {v0 : Value} {W0 : World} {c : DCode} {v1 : Value} {W1 : World} {s : DState} {t : Int}  (h0 : Is W0 v0 c) (e0 : Ext W0 w) (h1 : Is W1 v1 s) (e1 : Ext W1 w) (hc : CodeR c) (hs : StateR c s) :
    CALL Tryz.prog 178 [v0, v1, .int .i64 t] w fun r w' => Ext w w' ∧ (r = .int .i64 (waitsOf c s t)) := by
  refine F178_call ?_
  unfold F178
  have hat := at_lt hs t
  refine op_boxS ty37 rfl h0 e0 fun w1_ hx1_ hA3 hV3 => ?_
  refine op_boxS ty32 rfl h1 (e1.trans hx1_) fun w2_ hx2_ hA4 hV4 => ?_
  refine rd_var hV4 (Ext.refl w2_) ?_
  refine (implAtOf_ok h1 (e1.trans (hx1_.trans hx2_))).mono ?_
  rintro _ w3_ ⟨hx3_, rfl⟩
  have hx4_ := ext_drew w3_
  refine rd_var hV3 (hx2_.trans (hx3_.trans hx4_)) ?_
  refine (isPlace_ok h0 (e0.trans (hx1_.trans (hx2_.trans (hx3_.trans hx4_))))).mono ?_
  rintro _ w5_ ⟨hx5_, rfl⟩
  refine rd_nodec ?_
  refine br (fun c1 => ?_) (fun c1 => ?_)
  · refine ⟨(hx1_.trans (hx2_.trans (hx3_.trans (hx4_.trans hx5_)))), ?_⟩
    unfold waitsOf; rw [if_neg (by omega)]
  · refine rd_fld fd37_4 ?_
    refine rd_load ty35 (at_DCode_4 hA3) (hx2_.trans (hx3_.trans (hx4_.trans hx5_))) fun v17 h17 => ?_
    refine rd_index u35 ty135 h17 (by omega) (by omega) fun b19 o19 h19 => ?_
    rw [insAt_get] at h19
    change At _ _ _ (atI c s t) at h19
    have hat0 : 0 ≤ atOf s t := by omega
    refine rd_fld fd135_0 ?_
    refine rd_loadI ty3 (at_DIns_0 h19) (hx2_.trans (hx3_.trans (hx4_.trans hx5_))) fun hI21 => ?_
    refine rd_neq ?_
    refine br (fun c2 => ?_) (fun c2 => ?_)
    · refine ⟨(hx1_.trans (hx2_.trans (hx3_.trans (hx4_.trans hx5_)))), ?_⟩
      unfold waitsOf; rw [if_neg (fun h => c2 h.2.1)]
    · refine rd_var hV4 (hx3_.trans (hx4_.trans hx5_)) ?_
      refine rd_fld fd37_4 ?_
      refine rd_load ty35 (at_DCode_4 hA3) (hx2_.trans (hx3_.trans (hx4_.trans hx5_))) fun v27 h27 => ?_
      refine rd_index u35 ty135 h27 (by omega) (by omega) fun b29 o29 h29 => ?_
      rw [insAt_get] at h29
      change At _ _ _ (atI c s t) at h29
      have hlk := atI_lock hc hs hat0 (.inl (Decidable.not_not.1 c2))
      refine rd_fld fd135_1 ?_
      refine rd_loadI ty3 (at_DIns_1 h29) (hx2_.trans (hx3_.trans (hx4_.trans hx5_))) fun hI31 => ?_
      refine (holderOf_ok h1 (e1.trans (hx1_.trans (hx2_.trans (hx3_.trans (hx4_.trans hx5_))))) (by omega) (by omega)).mono ?_
      rintro _ w6_ ⟨hx6_, rfl⟩
      refine rd_lss ?_
      refine br (fun c3 => ?_) (fun c3 => ?_)
      · refine ⟨(hx1_.trans (hx2_.trans (hx3_.trans (hx4_.trans (hx5_.trans hx6_))))), ?_⟩
        unfold waitsOf; rw [if_neg (by omega)]
      · refine rd_fld fd37_4 ?_
        refine rd_load ty35 (at_DCode_4 hA3) (hx2_.trans (hx3_.trans (hx4_.trans (hx5_.trans hx6_)))) fun v36 h36 => ?_
        refine rd_index u35 ty135 h36 (by omega) (by omega) fun b38 o38 h38 => ?_
        rw [insAt_get] at h38
        change At _ _ _ (atI c s t) at h38
        refine rd_fld fd135_1 ?_
        refine rd_loadI ty3 (at_DIns_1 h38) (hx2_.trans (hx3_.trans (hx4_.trans (hx5_.trans hx6_)))) fun hI40 => ?_
        refine ⟨(hx1_.trans (hx2_.trans (hx3_.trans (hx4_.trans (hx5_.trans hx6_))))), ?_⟩
        unfold waitsOf; rw [if_pos ⟨hat0, by omega, by omega⟩]

def waitsFor (c : DCode) (s : DState) (t : Int) : Int := if CodeR c ∧ StateR c s then waitsOf c s t else -1
/-- the first k threads that can go -/
def readyTo (c : DCode) (s : DState) : Nat → List Int
  | 0 => []
  | k + 1 => if GoR c s k then readyTo c s k ++ [(k : Int)] else readyTo c s k
theorem readyTo_len (c : DCode) (s : DState) : ∀ k, (readyTo c s k).length ≤ k
  | 0 => Nat.le_refl _
  | k + 1 => by
    have := readyTo_len c s k
    rw [readyTo]
    split
    · simp; omega
    · omega
def readyL (c : DCode) (s : DState) : List Int := readyTo c s s.stacks.length
/-- spec.l22Ready -/
def F86 (a0 a1 : Value) (w : World) (R : Value → World → Prop) : Prop :=
  OP Tryz.prog (Instr.box 37 a0) w fun x2 w =>
  OP Tryz.prog (Instr.box 32 a1) w fun x3 w =>
  OP Tryz.prog (Instr.buildSlice 23 0 #[]) w fun x7 w =>
  LOOPI [5, 6] [x7, (Value.int .i64 0)] w fun u3 w next3 =>
   RD Tryz.prog (Instr.fieldAt 32 x3 2) w fun x9 =>
   RD Tryz.prog (Instr.loadAt 27 x9) w fun x10 =>
   RD Tryz.prog (Builtin.len_ #[27] 3 [x10].toArray) w fun x11 =>
   RD Tryz.prog (bin .lss 3 (.tmp 0) (.tmp 0) (u3 6) x11) w fun x12 =>
   BR x12
    (RD Tryz.prog (Instr.loadAt 37 x2) w fun x15 =>
    RD Tryz.prog (Instr.loadAt 32 x3) w fun x16 =>
    CALL Tryz.prog 121 [x15, x16, (u3 6)] w fun x18 w =>
    BR x18
     (OP Tryz.prog (Instr.buildSlice 23 1 #[(0, (u3 6))]) w fun x21 w =>
     OP Tryz.prog (Builtin.append_ #[23, 23] 23 [(u3 5), x21].toArray) w fun x22 w =>
     RD Tryz.prog (bin .add 3 (.tmp 0) (.const undef) (u3 6) (Value.int .i64 1)) w fun x14 =>
     next3 [x22, x14] w)
     (RD Tryz.prog (bin .add 3 (.tmp 0) (.const undef) (u3 6) (Value.int .i64 1)) w fun x14 =>
     next3 [(u3 5), x14] w))
    (R (u3 5) w)
def cfg86 : Cfg := { ext := extL, joins := [], loops := [(3, 8388448, [5, 6])], draws := [], pars := [] }
theorem F86_eq (a0 a1 : Value) (w : World) (R : Value → World → Prop) : vcF Tryz.prog cfg86 Tryz.f86 [a0, a1] w R = F86 a0 a1 w R := by kernel_rfl
theorem F86_call {a0 a1 : Value} {w : World} {R : Value → World → Prop} (h : F86 a0 a1 w R) : CALL Tryz.prog 86 [a0, a1] w R :=
  call_of (g := cfg86) ent mixed Tryz.func86 (Nat.le_of_ble_eq_true (by kernel_rfl)) (by kernel_rfl) (F86_eq a0 a1 w R ▸ h)


theorem l22Ready_ok {w : World} {v0 : Value} {W0 : World} {c : DCode} {v1 : Value} {W1 : World} {s : DState}  (h0 : Is W0 v0 c) (e0 : Ext W0 w) (h1 : Is W1 v1 s) (e1 : Ext W1 w) (hc : CodeR c) (hs : StateR c s) :
    CALL Tryz.prog 86 [v0, v1] w fun r w' => Ext w w' ∧ (Own w.heap.size w' r (readyL c s)) := by
  refine F86_call ?_
  unfold F86
  have hmany := hs.2.2.1
  have hs_e0 := e0.size
  have hs_e1 := e1.size
  refine op_boxS ty37 rfl h0 e0 fun w1_ hx1_ hA2 hV2 => ?_
  have hs_hx1_ := hx1_.size
  refine op_boxS ty32 rfl h1 (e1.trans hx1_) fun w2_ hx2_ hA3 hV3 => ?_
  have hs_hx2_ := hx2_.size
  refine op_build0I (α := Int) u23 ty3 fun v7 w3_ hx3_ o7 => ?_
  have hs_hx3_ := hx3_.size
  refine loopC (s.stacks.length) (fun k us w' => ∃ v : Value, us = [v, .int .i64 (k : Int)] ∧ Ext w3_ w' ∧ (RowI w3_.heap.size w'.heap.size 3 w' v (readyTo c s k))) (0) (by omega) ⟨_, rfl, Ext.refl w3_, rowI_zcap _ _ _ _ _⟩ ?_
  rintro k m3 uu3 w4_ hk3 ⟨v5, hu, hx4_, hrow⟩
  have hs_hx4_ := hx4_.size
  simp only [List.map_cons, List.map_nil, List.cons.injEq, and_true] at hu
  obtain ⟨hu0, hu1⟩ := hu
  try rw [hu0]
  try rw [hu1]
  try clear hu0 hu1
  have hrl := readyTo_len c s k
  refine rd_fld fd32_2 ?_
  refine rd_load ty27 (at_DState_2 hA3) (hx3_.trans hx4_) fun v10 h10 => ?_
  have hln11 := is_len h10
  refine rd_len u27 h10 ?_
  refine rd_lss ?_
  refine br (fun c1 => ?_) (fun c1 => ?_)
  · refine rd_var hV2 (hx2_.trans (hx3_.trans hx4_)) ?_
    refine rd_var hV3 (hx3_.trans hx4_) ?_
    refine (l21Go_ok h0 (e0.trans (hx1_.trans (hx2_.trans (hx3_.trans hx4_)))) h1 (e1.trans (hx1_.trans (hx2_.trans (hx3_.trans hx4_)))) (by assumption) (by assumption)).mono ?_
    rintro _ w5_ ⟨hx5_, rfl⟩
    have hs_hx5_ := hx5_.size
    refine br (fun c2 => ?_) (fun c2 => ?_)
    · refine op_push (α := Int) u23 ty3 z3 zc3 (by decide) (hrow.ext hx5_) (by omega) (ownI_int (lo := w5_.heap.size) (hi := w5_.heap.size) (by first | assumption | (unfold I64 at *; omega))) (by omega) (by omega) (by rw [maxLen_eq]; omega) (by omega) fun v22 w6_ hc6_ o22 => ?_
      have hs_hc6_ := hc6_.size
      have o7_c6 := (o7.ext (hx4_.trans hx5_)).chg hc6_ (by omega)
      refine rd_inc (by omega) ?_
      refine ⟨m3 - 1, by omega, k + 1, by omega, _, rfl, (Ext.chgI (hx4_.trans hx5_) hc6_ (by omega)), ?_⟩
      rw [readyTo, if_pos c2]; exact o22
    · refine rd_inc (by omega) ?_
      refine ⟨m3 - 1, by omega, k + 1, by omega, _, rfl, (hx4_.trans hx5_), ?_⟩
      rw [readyTo, if_neg c2]; exact (hrow.ext hx5_).mono (by omega) (by omega)
  · refine ⟨(hx1_.trans (hx2_.trans (hx3_.trans hx4_))), ?_⟩
    have : k = s.stacks.length := by omega
    subst this
    exact hrow.own.own.mono (by omega)

/-- impl.readyIn -/
def F87 (a0 a1 : Value) (w : World) (R : Value → World → Prop) : Prop :=
  OP Tryz.prog (Instr.box 37 a0) w fun x2 w =>
  OP Tryz.prog (Instr.box 32 a1) w fun x3 w =>
  RD Tryz.prog (Instr.fieldAt 32 x3 2) w fun x7 =>
  RD Tryz.prog (Instr.loadAt 27 x7) w fun x8 =>
  RD Tryz.prog (Builtin.len_ #[27] 3 [x8].toArray) w fun x9 =>
  LOOPI [5, 10] [(Value.slice none 0 0), (Value.int .i64 0)] w fun u3 w next3 =>
   RD Tryz.prog (bin .lss 3 (.tmp 0) (.tmp 0) (u3 10) x9) w fun x11 =>
   BR x11
    (RD Tryz.prog (Instr.loadAt 37 x2) w fun x13 =>
    RD Tryz.prog (Instr.loadAt 32 x3) w fun x14 =>
    CALL Tryz.prog 72 [x13, x14, (u3 10)] w fun x16 w =>
    BR x16
     (OP Tryz.prog (Instr.buildSlice 23 1 #[(0, (u3 10))]) w fun x19 w =>
     OP Tryz.prog (Builtin.append_ #[23, 23] 23 [(u3 5), x19].toArray) w fun x20 w =>
     RD Tryz.prog (bin .add 3 (.tmp 0) (.const undef) (u3 10) (Value.int .i64 1)) w fun x21 =>
     next3 [x20, x21] w)
     (RD Tryz.prog (bin .add 3 (.tmp 0) (.const undef) (u3 10) (Value.int .i64 1)) w fun x21 =>
     next3 [(u3 5), x21] w))
    (R (u3 5) w)
def cfg87 : Cfg := { ext := extL, joins := [], loops := [(3, 4193376, [5, 10])], draws := [], pars := [] }
theorem F87_eq (a0 a1 : Value) (w : World) (R : Value → World → Prop) : vcF Tryz.prog cfg87 Tryz.f87 [a0, a1] w R = F87 a0 a1 w R := by kernel_rfl
theorem F87_call {a0 a1 : Value} {w : World} {R : Value → World → Prop} (h : F87 a0 a1 w R) : CALL Tryz.prog 87 [a0, a1] w R :=
  call_of (g := cfg87) ent mixed Tryz.func87 (Nat.le_of_ble_eq_true (by kernel_rfl)) (by kernel_rfl) (F87_eq a0 a1 w R ▸ h)


theorem readyIn_ok {w : World} {v0 : Value} {W0 : World} {c : DCode} {v1 : Value} {W1 : World} {s : DState}  (h0 : Is W0 v0 c) (e0 : Ext W0 w) (h1 : Is W1 v1 s) (e1 : Ext W1 w) (hc : CodeR c) (hs : StateR c s) :
    CALL Tryz.prog 87 [v0, v1] w fun r w' => Ext w w' ∧ (Own w.heap.size w' r (readyL c s)) := by
  refine F87_call ?_
  unfold F87
  have hmany := hs.2.2.1
  have hs_e0 := e0.size
  have hs_e1 := e1.size
  refine op_boxS ty37 rfl h0 e0 fun w1_ hx1_ hA2 hV2 => ?_
  have hs_hx1_ := hx1_.size
  refine op_boxS ty32 rfl h1 (e1.trans hx1_) fun w2_ hx2_ hA3 hV3 => ?_
  have hs_hx2_ := hx2_.size
  refine rd_fld fd32_2 ?_
  refine rd_load ty27 (at_DState_2 hA3) (Ext.refl w2_) fun v8 h8 => ?_
  have hln9 := is_len h8
  refine rd_len u27 h8 ?_
  refine loopC (s.stacks.length) (fun k us w' => ∃ v : Value, us = [v, .int .i64 (k : Int)] ∧ Ext w2_ w' ∧ (RowI w2_.heap.size w'.heap.size 3 w' v (readyTo c s k))) (0) (by omega) ⟨_, rfl, Ext.refl w2_, rowI_nil _ _ _ _⟩ ?_
  rintro k m3 uu3 w3_ hk3 ⟨v5, hu, hx3_, hrow⟩
  have hs_hx3_ := hx3_.size
  simp only [List.map_cons, List.map_nil, List.cons.injEq, and_true] at hu
  obtain ⟨hu0, hu1⟩ := hu
  try rw [hu0]
  try rw [hu1]
  try clear hu0 hu1
  have hrl := readyTo_len c s k
  refine rd_lss ?_
  refine br (fun c1 => ?_) (fun c1 => ?_)
  · refine rd_var hV2 (hx2_.trans hx3_) ?_
    refine rd_var hV3 hx3_ ?_
    refine (goes_ok h0 (e0.trans (hx1_.trans (hx2_.trans hx3_))) h1 (e1.trans (hx1_.trans (hx2_.trans hx3_))) (by assumption) (by assumption)).mono ?_
    rintro _ w4_ ⟨hx4_, rfl⟩
    have hs_hx4_ := hx4_.size
    refine br (fun c2 => ?_) (fun c2 => ?_)
    · refine op_push (α := Int) u23 ty3 z3 zc3 (by decide) (hrow.ext hx4_) (by omega) (ownI_int (lo := w4_.heap.size) (hi := w4_.heap.size) (by first | assumption | (unfold I64 at *; omega))) (by omega) (by omega) (by rw [maxLen_eq]; omega) (by omega) fun v20 w5_ hc5_ o20 => ?_
      have hs_hc5_ := hc5_.size
      refine rd_inc (by omega) ?_
      refine ⟨m3 - 1, by omega, k + 1, by omega, _, rfl, (Ext.chgI (hx3_.trans hx4_) hc5_ (by omega)), ?_⟩
      rw [readyTo, if_pos c2]; exact o20
    · refine rd_inc (by omega) ?_
      refine ⟨m3 - 1, by omega, k + 1, by omega, _, rfl, (hx3_.trans hx4_), ?_⟩
      rw [readyTo, if_neg c2]; exact (hrow.ext hx4_).mono (by omega) (by omega)
  · refine ⟨(hx1_.trans (hx2_.trans hx3_)), ?_⟩
    have : k = s.stacks.length := by omega
    subst this
    exact hrow.own.own.mono (by omega)

def readyIn (c : DCode) (s : DState) : List Int := if CodeR c ∧ StateR c s then readyL c s else []
def stoppedIn (c : DCode) (s : DState) : Prop := (CodeR c ∧ StateR c s) ∧ ¬ overIn s ∧ readyL c s = []
instance (c : DCode) (s : DState) : Decidable (stoppedIn c s) := by unfold stoppedIn; infer_instance
end Go.Proofs.YteephmhilnlkpaaGreat
