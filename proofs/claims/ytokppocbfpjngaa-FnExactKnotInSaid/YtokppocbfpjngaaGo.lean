/-
  Who can go, who waits: the program's and the reference's answers.
-/
import Derived.Test.YtokppocbfpjngaaState
import Derived.Test.YtokppocbfpjngaaMk
import Derived.Test.YtokppocbfpjngaaOver
namespace Go.Proofs.Ytokppocbfpjngaa
open Go Go.Sh Go.Proofs
set_option linter.unusedVariables false
set_option linter.unusedSimpArgs false

/-- the owner of a lock -/
def ow (s : DState) (i : Int) : Int := s.owner.getD i.toNat 0
theorem ow_get {s : DState} {i : Nat} (h : i < s.owner.length) : s.owner[i] = ow s i := by unfold ow; rw [List.getD_eq_getElem?_getD, Int.toNat_natCast, List.getElem?_eq_getElem h]; rfl
theorem ow_get' {s : DState} {i : Int} (h0 : 0 ≤ i) (h : i.toNat < s.owner.length) : s.owner[i.toNat] = ow s i := by unfold ow; rw [List.getD_eq_getElem?_getD, List.getElem?_eq_getElem h]; rfl
/-- the stack of a thread -/
def stk (s : DState) (t : Int) : List Int := s.stacks.getD t.toNat []
theorem stk_get {s : DState} {t : Int} (h : t.toNat < s.stacks.length) : s.stacks[t.toNat] = stk s t := by unfold stk; rw [List.getD_eq_getElem?_getD, List.getElem?_eq_getElem h]; rfl
/-- the instruction that a thread is ahead of -/
def atI (c : DCode) (s : DState) (t : Int) : DIns := insAt c (atOf s t).toNat
theorem at_thread {s : DState} {t : Int} (h : 0 ≤ atOf s t) : 0 ≤ t ∧ t.toNat < s.stacks.length := by
  unfold atOf at h
  split at h
  · assumption
  · omega
theorem at_stack {s : DState} {t : Int} (h0 : 0 ≤ t) (h1 : t.toNat < s.stacks.length) : atOf s t = (stk s t).getLastD (-1) := by
  unfold atOf; rw [dif_pos ⟨h0, h1⟩, stk_get h1]
theorem last_st {l : List Int} (h : l ≠ []) : l.getLastD (-1) = st l (l.length - 1) := by
  unfold st
  rw [List.getLastD_eq_getLast?, List.getLast?_eq_getElem?, List.getD_eq_getElem?_getD]
  have : l.length - 1 < l.length := by have := List.length_pos_iff.2 h; omega
  rw [List.getElem?_eq_getElem this]; rfl
theorem at_lt {c : DCode} {s : DState} (hs : StateR c s) (t : Int) : -1 ≤ atOf s t ∧ atOf s t < c.ins.length := by
  by_cases h : 0 ≤ t ∧ t.toNat < s.stacks.length
  · rw [at_stack h.1 h.2]
    by_cases hn : stk s t = []
    · rw [hn]; simp [List.getLastD]; omega
    · have hl := List.length_pos_iff.2 hn
      have hm := hs.2.2.2.2.2 (stk s t) (by rw [← stk_get h.2]; exact List.getElem_mem _)
      rw [last_st hn]
      have := hm.2.1 ((stk s t).length - 1) (by omega)
      omega
  · unfold atOf; rw [dif_neg h]; omega
/-- what a right instruction's argument is -/
theorem ins_right {c : DCode} (hc : CodeR c) {j : Nat} (hj : j < c.ins.length) : InsR c (insAt c j) (en c (procOf c j).toNat) (endOf c (procOf c j) + 1) := hc.2.2 j hj
theorem lock_arg {c : DCode} (hc : CodeR c) {j : Nat} (hj : j < c.ins.length) (h : (insAt c j).op = 6 ∨ (insAt c j).op = 7) : 0 ≤ (insAt c j).arg ∧ (insAt c j).arg < c.locks.length := by
  have := (ins_right hc hj).2.1
  unfold argMost at this
  rwa [if_neg (by omega), if_neg (by omega), if_pos h] at this
theorem NamesR.locks6 {c : DCode} (h : NamesR c) : c.locks.length ≤ 6 := by
  have h1 := h.2.1
  simp only [Bool.and_eq_true, decide_eq_true_eq] at h1
  omega
theorem NamesR.globals6 {c : DCode} (h : NamesR c) : c.globals.length ≤ 6 := by
  have h1 := h.1
  simp only [Bool.and_eq_true, decide_eq_true_eq] at h1
  omega
theorem ow_range {c : DCode} {s : DState} (hs : StateR c s) {i : Int} (h0 : 0 ≤ i) (h : i.toNat < s.owner.length) : -1 ≤ ow s i ∧ ow s i < s.stacks.length := by
  rw [← ow_get' h0 h]; exact hs.2.2.2.2.1 _ (List.getElem_mem _)

/-- what is known of the place that a thread is ahead of -/
theorem atI_right {c : DCode} {s : DState} {t : Int} (hc : CodeR c) (hs : StateR c s) (h : 0 ≤ atOf s t) : InsR c (atI c s t) (en c (procOf c (atOf s t)).toNat) (endOf c (procOf c (atOf s t)) + 1) := by
  have := at_lt hs t
  have h1 := ins_right hc (j := (atOf s t).toNat) (by omega)
  rwa [Int.toNat_of_nonneg h] at h1
theorem atI_lock {c : DCode} {s : DState} {t : Int} (hc : CodeR c) (hs : StateR c s) (h : 0 ≤ atOf s t) (ho : (atI c s t).op = 6 ∨ (atI c s t).op = 7) : 0 ≤ (atI c s t).arg ∧ (atI c s t).arg.toNat < s.owner.length := by
  have := at_lt hs t
  have h1 := lock_arg hc (j := (atOf s t).toNat) (by omega) ho
  have h2 := hs.2.1
  unfold atI
  omega
/-- impl.holderOf -/
def F114 (a0 a1 : Value) (w : World) (R : Value → World → Prop) : Prop :=
  OP Try.prog (Instr.box 42 a0) w fun x2 w =>
  RD Try.prog (bin .lss 3 (.tmp 0) (.const undef) a1 (Value.int .i64 0)) w fun x6 =>
  BR x6
  (R (Value.int .i64 (-1)) w)
  (RD Try.prog (Instr.fieldAt 42 x2 1) w fun x9 =>
  RD Try.prog (Instr.loadAt 23 x9) w fun x10 =>
  RD Try.prog (Builtin.len_ #[23] 3 [x10].toArray) w fun x11 =>
  RD Try.prog (bin .geq 3 (.tmp 0) (.tmp 0) a1 x11) w fun x12 =>
  BR x12
   (R (Value.int .i64 (-1)) w)
   (RD Try.prog (Instr.fieldAt 42 x2 1) w fun x14 =>
   RD Try.prog (Instr.loadAt 23 x14) w fun x15 =>
   RD Try.prog (Instr.indexAt 23 x15 a1) w fun x17 =>
   RD Try.prog (Instr.loadAt 3 x17) w fun x18 =>
   RD Try.prog (Builtin.max_ #[3, 3] 3 [x18, (Value.int .i64 (-1))].toArray) w fun x19 =>
   R x19 w))
def cfg114 : Cfg := { ext := extL, joins := [], loops := [], draws := [], pars := [] }
theorem F114_eq (a0 a1 : Value) (w : World) (R : Value → World → Prop) : vcF Try.prog cfg114 Try.f114 [a0, a1] w R = F114 a0 a1 w R := by kernel_rfl
theorem F114_call {a0 a1 : Value} {w : World} {R : Value → World → Prop} (h : F114 a0 a1 w R) : CALL Try.prog 114 [a0, a1] w R :=
  call_of (g := cfg114) ent mixed Try.func114 (Nat.le_of_ble_eq_true (by kernel_rfl)) (by kernel_rfl) (F114_eq a0 a1 w R ▸ h)


theorem holderOf_ok {w : World} {v0 : Value} {W0 : World} {s : DState} {i : Int}  (h0 : Is W0 v0 s) (e0 : Ext W0 w) (hi0 : 0 ≤ i) (hi1 : i.toNat < s.owner.length) :
    CALL Try.prog 114 [v0, .int .i64 i] w fun r w' => Ext w w' ∧ (r = .int .i64 (max (ow s i) (-1))) := by
  refine F114_call ?_
  unfold F114
  refine op_boxS ty42 rfl h0 e0 fun w1_ hx1_ hA2 hV2 => ?_
  refine rd_lss ?_
  refine br (fun c1 => ?_) (fun c1 => ?_)
  · refine ⟨hx1_, ?_⟩
    exact absurd c1 (by omega)
  · refine rd_fld fd42_1 ?_
    refine rd_load ty23 (at_DState_1 hA2) (Ext.refl w1_) fun v10 h10 => ?_
    have hln11 := is_len h10
    refine rd_len u23 h10 ?_
    refine rd_geq ?_
    refine br (fun c2 => ?_) (fun c2 => ?_)
    · refine ⟨hx1_, ?_⟩
      exact absurd c2 (by omega)
    · refine rd_fld fd42_1 ?_
      refine rd_load ty23 (at_DState_1 hA2) (Ext.refl w1_) fun v15 h15 => ?_
      refine rd_index u23 ty3 h15 (by omega) (by omega) fun b17 o17 h17 => ?_
      refine rd_loadI ty3 h17 (Ext.refl w1_) fun hI18 => ?_
      refine rd_max ?_
      refine ⟨hx1_, ?_⟩
      rw [ow_get' hi0 hi1]

def GoR (c : DCode) (s : DState) (t : Int) : Prop := 0 ≤ atOf s t ∧ ((atI c s t).op = 6 → ow s (atI c s t).arg = -1) ∧ ((atI c s t).op = 4 → ((stk s t).length : Int) < 8)
instance (c : DCode) (s : DState) (t : Int) : Decidable (GoR c s t) := by unfold GoR; infer_instance
/-- spec.l21Go -/
def F80 (a0 a1 a2 : Value) (w : World) (R : Value → World → Prop) : Prop :=
  OP Try.prog (Instr.box 31 a0) w fun x3 w =>
  OP Try.prog (Instr.box 42 a1) w fun x4 w =>
  RD Try.prog (Instr.loadAt 42 x4) w fun x8 =>
  CALL Try.prog 112 [x8, a2] w fun x10 w =>
  RD Try.prog (bin .lss 3 (.tmp 0) (.const undef) x10 (Value.int .i64 0)) w fun x12 =>
  BR x12
   (R (Value.bool false) w)
   (RD Try.prog (Instr.fieldAt 31 x3 4) w fun x13 =>
   RD Try.prog (Instr.loadAt 29 x13) w fun x14 =>
   RD Try.prog (Instr.indexAt 29 x14 x10) w fun x16 =>
   RD Try.prog (Instr.fieldAt 95 x16 0) w fun x17 =>
   RD Try.prog (Instr.loadAt 3 x17) w fun x18 =>
   RD Try.prog (bin .eql 3 (.tmp 0) (.const undef) x18 (Value.int .i64 6)) w fun x20 =>
   BR x20
    ((fun w => RD Try.prog (Instr.fieldAt 42 x4 1) w fun x21 =>
    RD Try.prog (Instr.loadAt 23 x21) w fun x22 =>
    RD Try.prog (Instr.fieldAt 31 x3 4) w fun x23 =>
    RD Try.prog (Instr.loadAt 29 x23) w fun x24 =>
    RD Try.prog (Instr.indexAt 29 x24 x10) w fun x26 =>
    RD Try.prog (Instr.fieldAt 95 x26 1) w fun x27 =>
    RD Try.prog (Instr.loadAt 3 x27) w fun x28 =>
    RD Try.prog (Instr.indexAt 23 x22 x28) w fun x29 =>
    RD Try.prog (Instr.loadAt 3 x29) w fun x30 =>
    RD Try.prog (bin .eql 3 (.tmp 0) (.const undef) x30 (Value.int .i64 (-1))) w fun x31 =>
    R x31 w) (World.drew1 w))
    (RD Try.prog (bin .eql 3 (.tmp 0) (.const undef) x18 (Value.int .i64 4)) w fun x33 =>
    BR x33
     (RD Try.prog (Instr.fieldAt 42 x4 2) w fun x34 =>
     RD Try.prog (Instr.loadAt 37 x34) w fun x35 =>
     RD Try.prog (Instr.indexAt 37 x35 a2) w fun x37 =>
     RD Try.prog (Instr.loadAt 23 x37) w fun x38 =>
     RD Try.prog (Builtin.len_ #[23] 3 [x38].toArray) w fun x39 =>
     RD Try.prog (bin .lss 3 (.tmp 0) (.const undef) x39 (Value.int .i64 8)) w fun x40 =>
     R x40 w)
     (R (Value.bool true) w)))
def cfg80 : Cfg := { ext := extL, joins := [], loops := [], draws := [(6, [0, 1, 2, 3, 4, 5, 6, 7, 8, 9, 10, 11], 0)], pars := [] }
theorem F80_eq (a0 a1 a2 : Value) (w : World) (R : Value → World → Prop) : vcF Try.prog cfg80 Try.f80 [a0, a1, a2] w R = F80 a0 a1 a2 w R := by kernel_rfl
theorem F80_call {a0 a1 a2 : Value} {w : World} {R : Value → World → Prop} (h : F80 a0 a1 a2 w R) : CALL Try.prog 80 [a0, a1, a2] w R :=
  call_of (g := cfg80) ent mixed Try.func80 (Nat.le_of_ble_eq_true (by kernel_rfl)) (by kernel_rfl) (F80_eq a0 a1 a2 w R ▸ h)


theorem l21Go_ok {w : World} {v0 : Value} {W0 : World} {c : DCode} {v1 : Value} {W1 : World} {s : DState} {t : Int}  (h0 : Is W0 v0 c) (e0 : Ext W0 w) (h1 : Is W1 v1 s) (e1 : Ext W1 w) (hc : CodeR c) (hs : StateR c s) :
    CALL Try.prog 80 [v0, v1, .int .i64 t] w fun r w' => Ext w w' ∧ (r = .bool (decide (GoR c s t))) := by
  refine F80_call ?_
  unfold F80
  have hat := at_lt hs t
  refine op_boxS ty31 rfl h0 e0 fun w1_ hx1_ hA3 hV3 => ?_
  refine op_boxS ty42 rfl h1 (e1.trans hx1_) fun w2_ hx2_ hA4 hV4 => ?_
  refine rd_var hV4 (Ext.refl w2_) ?_
  refine (specAtOf_ok h1 (e1.trans (hx1_.trans hx2_))).mono ?_
  rintro _ w3_ ⟨hx3_, rfl⟩
  refine rd_lss ?_
  refine br (fun c1 => ?_) (fun c1 => ?_)
  · refine ⟨(hx1_.trans (hx2_.trans hx3_)), ?_⟩
    have : ¬ GoR c s t := fun h => by have := h.1; omega
    simp only [this, decide_false]
  · refine rd_fld fd31_4 ?_
    refine rd_load ty29 (at_DCode_4 hA3) (hx2_.trans hx3_) fun v14 h14 => ?_
    refine rd_index u29 ty95 h14 (by omega) (by omega) fun b16 o16 h16 => ?_
    rw [insAt_get] at h16
    change At _ _ _ (atI c s t) at h16
    have hat0 : 0 ≤ atOf s t := by omega
    have hth := at_thread hat0
    refine rd_fld fd95_0 ?_
    refine rd_loadI ty3 (at_DIns_0 h16) (hx2_.trans hx3_) fun hI18 => ?_
    refine rd_eql ?_
    refine br (fun c2 => ?_) (fun c2 => ?_)
    · have hx4_ := ext_drew w3_
      refine rd_fld fd42_1 ?_
      refine rd_load ty23 (at_DState_1 hA4) (hx3_.trans hx4_) fun v22 h22 => ?_
      refine rd_fld fd31_4 ?_
      refine rd_load ty29 (at_DCode_4 hA3) (hx2_.trans (hx3_.trans hx4_)) fun v24 h24 => ?_
      refine rd_index u29 ty95 h24 (by omega) (by omega) fun b26 o26 h26 => ?_
      rw [insAt_get] at h26
      change At _ _ _ (atI c s t) at h26
      have hlk := atI_lock hc hs hat0 (.inl c2)
      refine rd_fld fd95_1 ?_
      refine rd_loadI ty3 (at_DIns_1 h26) (hx2_.trans (hx3_.trans hx4_)) fun hI28 => ?_
      refine rd_index u23 ty3 h22 (by omega) (by omega) fun b29 o29 h29 => ?_
      refine rd_loadI ty3 h29 (hx3_.trans hx4_) fun hI30 => ?_
      refine rd_eql ?_
      refine ⟨(hx1_.trans (hx2_.trans (hx3_.trans hx4_))), ?_⟩
      congr 1
      rw [decide_eq_decide, ow_get' hlk.1 hlk.2]
      exact ⟨fun h => ⟨hat0, fun _ => h, fun h4 => by omega⟩, fun h => h.2.1 c2⟩
    · refine rd_eql ?_
      refine br (fun c3 => ?_) (fun c3 => ?_)
      · refine rd_fld fd42_2 ?_
        refine rd_load ty37 (at_DState_2 hA4) hx3_ fun v35 h35 => ?_
        refine rd_index u37 ty23 h35 (by omega) (by omega) fun b37 o37 h37 => ?_
        refine rd_load ty23 h37 hx3_ fun v38 h38 => ?_
        have hln39 := is_len h38
        refine rd_len u23 h38 ?_
        refine rd_lss ?_
        refine ⟨(hx1_.trans (hx2_.trans hx3_)), ?_⟩
        congr 1
        rw [decide_eq_decide, stk_get hth.2]
        exact ⟨fun h => ⟨hat0, fun h6 => by omega, fun _ => h⟩, fun h => h.2.2 c3⟩
      · refine ⟨(hx1_.trans (hx2_.trans hx3_)), ?_⟩
        have : GoR c s t := ⟨hat0, fun h6 => absurd h6 c2, fun h4 => absurd h4 c3⟩
        simp only [this, decide_true]

/-- impl.goes -/
def F81 (a0 a1 a2 : Value) (w : World) (R : Value → World → Prop) : Prop :=
  OP Try.prog (Instr.box 31 a0) w fun x3 w =>
  OP Try.prog (Instr.box 42 a1) w fun x4 w =>
  RD Try.prog (Instr.loadAt 42 x4) w fun x8 =>
  CALL Try.prog 113 [x8, a2] w fun x10 w =>
  RD Try.prog (Instr.loadAt 31 x3) w fun x11 =>
  CALL Try.prog 75 [x11, x10] w fun x13 w =>
  RD Try.prog (Op.unary .not x13) w fun x14 =>
  BR x14
   (R (Value.bool false) w)
   (RD Try.prog (Instr.fieldAt 31 x3 4) w fun x15 =>
   RD Try.prog (Instr.loadAt 29 x15) w fun x16 =>
   RD Try.prog (Instr.indexAt 29 x16 x10) w fun x18 =>
   RD Try.prog (Instr.fieldAt 95 x18 0) w fun x19 =>
   RD Try.prog (Instr.loadAt 3 x19) w fun x20 =>
   RD Try.prog (bin .eql 3 (.tmp 0) (.const undef) x20 (Value.int .i64 6)) w fun x22 =>
   BR x22
    ((fun w => RD Try.prog (Instr.loadAt 42 x4) w fun x23 =>
    RD Try.prog (Instr.fieldAt 31 x3 4) w fun x24 =>
    RD Try.prog (Instr.loadAt 29 x24) w fun x25 =>
    RD Try.prog (Instr.indexAt 29 x25 x10) w fun x27 =>
    RD Try.prog (Instr.fieldAt 95 x27 1) w fun x28 =>
    RD Try.prog (Instr.loadAt 3 x28) w fun x29 =>
    CALL Try.prog 114 [x23, x29] w fun x30 w =>
    RD Try.prog (bin .lss 3 (.tmp 0) (.const undef) x30 (Value.int .i64 0)) w fun x31 =>
    R x31 w) (World.drew1 w))
    (RD Try.prog (bin .eql 3 (.tmp 0) (.const undef) x20 (Value.int .i64 4)) w fun x33 =>
    BR x33
     (RD Try.prog (Instr.fieldAt 42 x4 2) w fun x34 =>
     RD Try.prog (Instr.loadAt 37 x34) w fun x35 =>
     RD Try.prog (Instr.indexAt 37 x35 a2) w fun x37 =>
     RD Try.prog (Instr.loadAt 23 x37) w fun x38 =>
     RD Try.prog (Builtin.len_ #[23] 3 [x38].toArray) w fun x39 =>
     RD Try.prog (bin .lss 3 (.tmp 0) (.const undef) x39 (Value.int .i64 8)) w fun x40 =>
     R x40 w)
     (R (Value.bool true) w)))
def cfg81 : Cfg := { ext := extL, joins := [], loops := [], draws := [(6, [0, 1, 2, 3, 4, 5, 6, 7, 8, 9], 0)], pars := [] }
theorem F81_eq (a0 a1 a2 : Value) (w : World) (R : Value → World → Prop) : vcF Try.prog cfg81 Try.f81 [a0, a1, a2] w R = F81 a0 a1 a2 w R := by kernel_rfl
theorem F81_call {a0 a1 a2 : Value} {w : World} {R : Value → World → Prop} (h : F81 a0 a1 a2 w R) : CALL Try.prog 81 [a0, a1, a2] w R :=
  call_of (g := cfg81) ent mixed Try.func81 (Nat.le_of_ble_eq_true (by kernel_rfl)) (by kernel_rfl) (F81_eq a0 a1 a2 w R ▸ h)


theorem goes_ok {w : World} {v0 : Value} {W0 : World} {c : DCode} {v1 : Value} {W1 : World} {s : DState} {t : Int}  (h0 : Is W0 v0 c) (e0 : Ext W0 w) (h1 : Is W1 v1 s) (e1 : Ext W1 w) (hc : CodeR c) (hs : StateR c s) :
    CALL Try.prog 81 [v0, v1, .int .i64 t] w fun r w' => Ext w w' ∧ (r = .bool (decide (GoR c s t))) := by
  refine F81_call ?_
  unfold F81
  have hat := at_lt hs t
  refine op_boxS ty31 rfl h0 e0 fun w1_ hx1_ hA3 hV3 => ?_
  refine op_boxS ty42 rfl h1 (e1.trans hx1_) fun w2_ hx2_ hA4 hV4 => ?_
  refine rd_var hV4 (Ext.refl w2_) ?_
  refine (implAtOf_ok h1 (e1.trans (hx1_.trans hx2_))).mono ?_
  rintro _ w3_ ⟨hx3_, rfl⟩
  refine rd_var hV3 (hx2_.trans hx3_) ?_
  refine (isPlace_ok h0 (e0.trans (hx1_.trans (hx2_.trans hx3_)))).mono ?_
  rintro _ w4_ ⟨hx4_, rfl⟩
  refine rd_nodec ?_
  refine br (fun c1 => ?_) (fun c1 => ?_)
  · refine ⟨(hx1_.trans (hx2_.trans (hx3_.trans hx4_))), ?_⟩
    have : ¬ GoR c s t := fun h => by have := h.1; omega
    simp only [this, decide_false]
  · refine rd_fld fd31_4 ?_
    refine rd_load ty29 (at_DCode_4 hA3) (hx2_.trans (hx3_.trans hx4_)) fun v16 h16 => ?_
    refine rd_index u29 ty95 h16 (by omega) (by omega) fun b18 o18 h18 => ?_
    rw [insAt_get] at h18
    change At _ _ _ (atI c s t) at h18
    have hat0 : 0 ≤ atOf s t := by omega
    have hth := at_thread hat0
    refine rd_fld fd95_0 ?_
    refine rd_loadI ty3 (at_DIns_0 h18) (hx2_.trans (hx3_.trans hx4_)) fun hI20 => ?_
    refine rd_eql ?_
    refine br (fun c2 => ?_) (fun c2 => ?_)
    · have hx5_ := ext_drew w4_
      refine rd_var hV4 (hx3_.trans (hx4_.trans hx5_)) ?_
      refine rd_fld fd31_4 ?_
      refine rd_load ty29 (at_DCode_4 hA3) (hx2_.trans (hx3_.trans (hx4_.trans hx5_))) fun v25 h25 => ?_
      refine rd_index u29 ty95 h25 (by omega) (by omega) fun b27 o27 h27 => ?_
      rw [insAt_get] at h27
      change At _ _ _ (atI c s t) at h27
      have hlk := atI_lock hc hs hat0 (.inl c2)
      have hor := ow_range hs hlk.1 hlk.2
      refine rd_fld fd95_1 ?_
      refine rd_loadI ty3 (at_DIns_1 h27) (hx2_.trans (hx3_.trans (hx4_.trans hx5_))) fun hI29 => ?_
      refine (holderOf_ok h1 (e1.trans (hx1_.trans (hx2_.trans (hx3_.trans (hx4_.trans hx5_))))) (by omega) (by omega)).mono ?_
      rintro _ w6_ ⟨hx6_, rfl⟩
      refine rd_lss ?_
      refine ⟨(hx1_.trans (hx2_.trans (hx3_.trans (hx4_.trans (hx5_.trans hx6_))))), ?_⟩
      congr 1
      rw [decide_eq_decide]
      exact ⟨fun h => ⟨hat0, fun _ => by omega, fun h4 => by omega⟩, fun h => by have := h.2.1 c2; omega⟩
    · refine rd_eql ?_
      refine br (fun c3 => ?_) (fun c3 => ?_)
      · refine rd_fld fd42_2 ?_
        refine rd_load ty37 (at_DState_2 hA4) (hx3_.trans hx4_) fun v35 h35 => ?_
        refine rd_index u37 ty23 h35 (by omega) (by omega) fun b37 o37 h37 => ?_
        refine rd_load ty23 h37 (hx3_.trans hx4_) fun v38 h38 => ?_
        have hln39 := is_len h38
        refine rd_len u23 h38 ?_
        refine rd_lss ?_
        refine ⟨(hx1_.trans (hx2_.trans (hx3_.trans hx4_))), ?_⟩
        congr 1
        rw [decide_eq_decide, stk_get hth.2]
        exact ⟨fun h => ⟨hat0, fun h6 => by omega, fun _ => h⟩, fun h => h.2.2 c3⟩
      · refine ⟨(hx1_.trans (hx2_.trans (hx3_.trans hx4_))), ?_⟩
        have : GoR c s t := ⟨hat0, fun h6 => absurd h6 c2, fun h4 => absurd h4 c3⟩
        simp only [this, decide_true]

/-- spec.CanGo -/
def F38 (a0 a1 a2 : Value) (w : World) (R : Value → World → Prop) : Prop :=
  OP Try.prog (Instr.box 31 a0) w fun x3 w =>
  OP Try.prog (Instr.box 42 a1) w fun x4 w =>
  RD Try.prog (Instr.loadAt 31 x3) w fun x7 =>
  RD Try.prog (Instr.loadAt 42 x4) w fun x8 =>
  CALL Try.prog 22 [x7, x8] w fun x9 w =>
  BR x9
  (RD Try.prog (Instr.loadAt 31 x3) w fun x11 =>
  RD Try.prog (Instr.loadAt 42 x4) w fun x12 =>
  CALL Try.prog 80 [x11, x12, a2] w fun x14 w =>
  R x14 w)
  (R (Value.bool false) w)
def cfg38 : Cfg := { ext := extL, joins := [], loops := [], draws := [], pars := [] }
theorem F38_eq (a0 a1 a2 : Value) (w : World) (R : Value → World → Prop) : vcF Try.prog cfg38 Try.f38 [a0, a1, a2] w R = F38 a0 a1 a2 w R := by kernel_rfl
theorem F38_call {a0 a1 a2 : Value} {w : World} {R : Value → World → Prop} (h : F38 a0 a1 a2 w R) : CALL Try.prog 38 [a0, a1, a2] w R :=
  call_of (g := cfg38) ent mixed Try.func38 (Nat.le_of_ble_eq_true (by kernel_rfl)) (by kernel_rfl) (F38_eq a0 a1 a2 w R ▸ h)


theorem specCanGo_ok {w : World} {v0 : Value} {W0 : World} {c : DCode} {v1 : Value} {W1 : World} {s : DState} {t : Int}  (h0 : Is W0 v0 c) (e0 : Ext W0 w) (h1 : Is W1 v1 s) (e1 : Ext W1 w)  :
    CALL Try.prog 38 [v0, v1, .int .i64 t] w fun r w' => Ext w w' ∧ (r = .bool (decide ((CodeR c ∧ StateR c s) ∧ GoR c s t))) := by
  refine F38_call ?_
  unfold F38
  refine op_boxS ty31 rfl h0 e0 fun w1_ hx1_ hA3 hV3 => ?_
  refine op_boxS ty42 rfl h1 (e1.trans hx1_) fun w2_ hx2_ hA4 hV4 => ?_
  refine rd_var hV3 hx2_ ?_
  refine rd_var hV4 (Ext.refl w2_) ?_
  refine (specStateOk_ok h0 (e0.trans (hx1_.trans hx2_)) h1 (e1.trans (hx1_.trans hx2_))).mono ?_
  rintro _ w3_ ⟨hx3_, rfl⟩
  refine br (fun c1 => ?_) (fun c1 => ?_)
  · refine rd_var hV3 (hx2_.trans hx3_) ?_
    refine rd_var hV4 hx3_ ?_
    refine (l21Go_ok h0 (e0.trans (hx1_.trans (hx2_.trans hx3_))) h1 (e1.trans (hx1_.trans (hx2_.trans hx3_))) c1.1 c1.2).mono ?_
    rintro _ w4_ ⟨hx4_, rfl⟩
    refine ⟨(hx1_.trans (hx2_.trans (hx3_.trans hx4_))), ?_⟩
    simp [c1]
  · refine ⟨(hx1_.trans (hx2_.trans hx3_)), ?_⟩
    simp [c1]

/-- impl.CanGo -/
def F39 (a0 a1 a2 : Value) (w : World) (R : Value → World → Prop) : Prop :=
  OP Try.prog (Instr.box 31 a0) w fun x3 w =>
  OP Try.prog (Instr.box 42 a1) w fun x4 w =>
  RD Try.prog (Instr.loadAt 31 x3) w fun x7 =>
  RD Try.prog (Instr.loadAt 42 x4) w fun x8 =>
  CALL Try.prog 24 [x7, x8] w fun x9 w =>
  BR x9
  (RD Try.prog (Instr.loadAt 31 x3) w fun x11 =>
  RD Try.prog (Instr.loadAt 42 x4) w fun x12 =>
  CALL Try.prog 81 [x11, x12, a2] w fun x14 w =>
  R x14 w)
  (R (Value.bool false) w)
def cfg39 : Cfg := { ext := extL, joins := [], loops := [], draws := [], pars := [] }
theorem F39_eq (a0 a1 a2 : Value) (w : World) (R : Value → World → Prop) : vcF Try.prog cfg39 Try.f39 [a0, a1, a2] w R = F39 a0 a1 a2 w R := by kernel_rfl
theorem F39_call {a0 a1 a2 : Value} {w : World} {R : Value → World → Prop} (h : F39 a0 a1 a2 w R) : CALL Try.prog 39 [a0, a1, a2] w R :=
  call_of (g := cfg39) ent mixed Try.func39 (Nat.le_of_ble_eq_true (by kernel_rfl)) (by kernel_rfl) (F39_eq a0 a1 a2 w R ▸ h)


theorem implCanGo_ok {w : World} {v0 : Value} {W0 : World} {c : DCode} {v1 : Value} {W1 : World} {s : DState} {t : Int}  (h0 : Is W0 v0 c) (e0 : Ext W0 w) (h1 : Is W1 v1 s) (e1 : Ext W1 w)  :
    CALL Try.prog 39 [v0, v1, .int .i64 t] w fun r w' => Ext w w' ∧ (r = .bool (decide ((CodeR c ∧ StateR c s) ∧ GoR c s t))) := by
  refine F39_call ?_
  unfold F39
  refine op_boxS ty31 rfl h0 e0 fun w1_ hx1_ hA3 hV3 => ?_
  refine op_boxS ty42 rfl h1 (e1.trans hx1_) fun w2_ hx2_ hA4 hV4 => ?_
  refine rd_var hV3 hx2_ ?_
  refine rd_var hV4 (Ext.refl w2_) ?_
  refine (implStateOk_ok h0 (e0.trans (hx1_.trans hx2_)) h1 (e1.trans (hx1_.trans hx2_))).mono ?_
  rintro _ w3_ ⟨hx3_, rfl⟩
  refine br (fun c1 => ?_) (fun c1 => ?_)
  · refine rd_var hV3 (hx2_.trans hx3_) ?_
    refine rd_var hV4 hx3_ ?_
    refine (goes_ok h0 (e0.trans (hx1_.trans (hx2_.trans hx3_))) h1 (e1.trans (hx1_.trans (hx2_.trans hx3_))) c1.1 c1.2).mono ?_
    rintro _ w4_ ⟨hx4_, rfl⟩
    refine ⟨(hx1_.trans (hx2_.trans (hx3_.trans hx4_))), ?_⟩
    simp [c1]
  · refine ⟨(hx1_.trans (hx2_.trans hx3_)), ?_⟩
    simp [c1]

/-- the lock that a thread waits for -/
def waitsOf (c : DCode) (s : DState) (t : Int) : Int := if 0 ≤ atOf s t ∧ (atI c s t).op = 6 ∧ 0 ≤ ow s (atI c s t).arg then (atI c s t).arg else -1
/-- spec.l24Waits -/
def F78 (a0 a1 a2 : Value) (w : World) (R : Value → World → Prop) : Prop :=
  OP Try.prog (Instr.box 31 a0) w fun x3 w =>
  OP Try.prog (Instr.box 42 a1) w fun x4 w =>
  RD Try.prog (Instr.loadAt 42 x4) w fun x8 =>
  CALL Try.prog 112 [x8, a2] w fun x10 w =>
  (fun w => RD Try.prog (bin .lss 3 (.tmp 0) (.const undef) x10 (Value.int .i64 0)) w fun x12 =>
  BR x12
  (R (Value.int .i64 (-1)) w)
  (RD Try.prog (Instr.fieldAt 31 x3 4) w fun x14 =>
  RD Try.prog (Instr.loadAt 29 x14) w fun x15 =>
  RD Try.prog (Instr.indexAt 29 x15 x10) w fun x17 =>
  RD Try.prog (Instr.fieldAt 95 x17 0) w fun x18 =>
  RD Try.prog (Instr.loadAt 3 x18) w fun x19 =>
  RD Try.prog (bin .neq 3 (.tmp 0) (.const undef) x19 (Value.int .i64 6)) w fun x20 =>
  BR x20
  (R (Value.int .i64 (-1)) w)
  (RD Try.prog (Instr.fieldAt 42 x4 1) w fun x23 =>
  RD Try.prog (Instr.loadAt 23 x23) w fun x24 =>
  RD Try.prog (Instr.fieldAt 31 x3 4) w fun x25 =>
  RD Try.prog (Instr.loadAt 29 x25) w fun x26 =>
  RD Try.prog (Instr.indexAt 29 x26 x10) w fun x28 =>
  RD Try.prog (Instr.fieldAt 95 x28 1) w fun x29 =>
  RD Try.prog (Instr.loadAt 3 x29) w fun x30 =>
  RD Try.prog (Instr.indexAt 23 x24 x30) w fun x31 =>
  RD Try.prog (Instr.loadAt 3 x31) w fun x32 =>
  RD Try.prog (bin .lss 3 (.tmp 0) (.const undef) x32 (Value.int .i64 0)) w fun x33 =>
  BR x33
   (R (Value.int .i64 (-1)) w)
   (RD Try.prog (Instr.fieldAt 31 x3 4) w fun x35 =>
   RD Try.prog (Instr.loadAt 29 x35) w fun x36 =>
   RD Try.prog (Instr.indexAt 29 x36 x10) w fun x38 =>
   RD Try.prog (Instr.fieldAt 95 x38 1) w fun x39 =>
   RD Try.prog (Instr.loadAt 3 x39) w fun x40 =>
   R x40 w)))) (World.drew1 w)
def cfg78 : Cfg := { ext := extL, joins := [], loops := [], draws := [(2, [0, 1, 2, 3, 4, 5, 6, 7, 8, 9, 10, 11, 12, 13, 14, 15, 16, 17, 18, 19, 20, 21, 22, 23], 0)], pars := [] }
theorem F78_eq (a0 a1 a2 : Value) (w : World) (R : Value → World → Prop) : vcF Try.prog cfg78 Try.f78 [a0, a1, a2] w R = F78 a0 a1 a2 w R := by kernel_rfl
theorem F78_call {a0 a1 a2 : Value} {w : World} {R : Value → World → Prop} (h : F78 a0 a1 a2 w R) : CALL Try.prog 78 [a0, a1, a2] w R :=
  call_of (g := cfg78) ent mixed Try.func78 (Nat.le_of_ble_eq_true (by kernel_rfl)) (by kernel_rfl) (F78_eq a0 a1 a2 w R ▸ h)


theorem l24Waits_ok {w : World} {v0 : Value} {W0 : World} {c : DCode} {v1 : Value} {W1 : World} {s : DState} {t : Int}  (h0 : Is W0 v0 c) (e0 : Ext W0 w) (h1 : Is W1 v1 s) (e1 : Ext W1 w) (hc : CodeR c) (hs : StateR c s) :
    CALL Try.prog 78 [v0, v1, .int .i64 t] w fun r w' => Ext w w' ∧ (r = .int .i64 (waitsOf c s t)) := by
  refine F78_call ?_
  unfold F78
  have hat := at_lt hs t
  refine op_boxS ty31 rfl h0 e0 fun w1_ hx1_ hA3 hV3 => ?_
  refine op_boxS ty42 rfl h1 (e1.trans hx1_) fun w2_ hx2_ hA4 hV4 => ?_
  refine rd_var hV4 (Ext.refl w2_) ?_
  refine (specAtOf_ok h1 (e1.trans (hx1_.trans hx2_))).mono ?_
  rintro _ w3_ ⟨hx3_, rfl⟩
  have hx4_ := ext_drew w3_
  refine rd_lss ?_
  refine br (fun c1 => ?_) (fun c1 => ?_)
  · refine ⟨(hx1_.trans (hx2_.trans (hx3_.trans hx4_))), ?_⟩
    unfold waitsOf; rw [if_neg (by omega)]
  · refine rd_fld fd31_4 ?_
    refine rd_load ty29 (at_DCode_4 hA3) (hx2_.trans (hx3_.trans hx4_)) fun v15 h15 => ?_
    refine rd_index u29 ty95 h15 (by omega) (by omega) fun b17 o17 h17 => ?_
    rw [insAt_get] at h17
    change At _ _ _ (atI c s t) at h17
    have hat0 : 0 ≤ atOf s t := by omega
    refine rd_fld fd95_0 ?_
    refine rd_loadI ty3 (at_DIns_0 h17) (hx2_.trans (hx3_.trans hx4_)) fun hI19 => ?_
    refine rd_neq ?_
    refine br (fun c2 => ?_) (fun c2 => ?_)
    · refine ⟨(hx1_.trans (hx2_.trans (hx3_.trans hx4_))), ?_⟩
      unfold waitsOf; rw [if_neg (fun h => c2 h.2.1)]
    · refine rd_fld fd42_1 ?_
      refine rd_load ty23 (at_DState_1 hA4) (hx3_.trans hx4_) fun v24 h24 => ?_
      refine rd_fld fd31_4 ?_
      refine rd_load ty29 (at_DCode_4 hA3) (hx2_.trans (hx3_.trans hx4_)) fun v26 h26 => ?_
      refine rd_index u29 ty95 h26 (by omega) (by omega) fun b28 o28 h28 => ?_
      rw [insAt_get] at h28
      change At _ _ _ (atI c s t) at h28
      have hlk := atI_lock hc hs hat0 (.inl (Decidable.not_not.1 c2))
      refine rd_fld fd95_1 ?_
      refine rd_loadI ty3 (at_DIns_1 h28) (hx2_.trans (hx3_.trans hx4_)) fun hI30 => ?_
      refine rd_index u23 ty3 h24 (by omega) (by omega) fun b31 o31 h31 => ?_
      refine rd_loadI ty3 h31 (hx3_.trans hx4_) fun hI32 => ?_
      refine rd_lss ?_
      refine br (fun c3 => ?_) (fun c3 => ?_)
      · refine ⟨(hx1_.trans (hx2_.trans (hx3_.trans hx4_))), ?_⟩
        rw [ow_get' hlk.1 hlk.2] at c3
        unfold waitsOf; rw [if_neg (by omega)]
      · refine rd_fld fd31_4 ?_
        refine rd_load ty29 (at_DCode_4 hA3) (hx2_.trans (hx3_.trans hx4_)) fun v36 h36 => ?_
        refine rd_index u29 ty95 h36 (by omega) (by omega) fun b38 o38 h38 => ?_
        rw [insAt_get] at h38
        change At _ _ _ (atI c s t) at h38
        refine rd_fld fd95_1 ?_
        refine rd_loadI ty3 (at_DIns_1 h38) (hx2_.trans (hx3_.trans hx4_)) fun hI40 => ?_
        refine ⟨(hx1_.trans (hx2_.trans (hx3_.trans hx4_))), ?_⟩
        rw [ow_get' hlk.1 hlk.2] at c3
        unfold waitsOf; rw [if_pos ⟨hat0, by omega, by omega⟩]

/-- impl.waits -/
def F79 (a0 a1 a2 : Value) (w : World) (R : Value → World → Prop) : Prop :=
  OP Try.prog (Instr.box 31 a0) w fun x3 w =>
  OP Try.prog (Instr.box 42 a1) w fun x4 w =>
  RD Try.prog (Instr.loadAt 42 x4) w fun x8 =>
  CALL Try.prog 113 [x8, a2] w fun x10 w =>
  (fun w => RD Try.prog (Instr.loadAt 31 x3) w fun x11 =>
  CALL Try.prog 75 [x11, x10] w fun x13 w =>
  RD Try.prog (Op.unary .not x13) w fun x14 =>
  BR x14
  (R (Value.int .i64 (-1)) w)
  (RD Try.prog (Instr.fieldAt 31 x3 4) w fun x16 =>
  RD Try.prog (Instr.loadAt 29 x16) w fun x17 =>
  RD Try.prog (Instr.indexAt 29 x17 x10) w fun x19 =>
  RD Try.prog (Instr.fieldAt 95 x19 0) w fun x20 =>
  RD Try.prog (Instr.loadAt 3 x20) w fun x21 =>
  RD Try.prog (bin .neq 3 (.tmp 0) (.const undef) x21 (Value.int .i64 6)) w fun x22 =>
  BR x22
  (R (Value.int .i64 (-1)) w)
  (RD Try.prog (Instr.loadAt 42 x4) w fun x25 =>
  RD Try.prog (Instr.fieldAt 31 x3 4) w fun x26 =>
  RD Try.prog (Instr.loadAt 29 x26) w fun x27 =>
  RD Try.prog (Instr.indexAt 29 x27 x10) w fun x29 =>
  RD Try.prog (Instr.fieldAt 95 x29 1) w fun x30 =>
  RD Try.prog (Instr.loadAt 3 x30) w fun x31 =>
  CALL Try.prog 114 [x25, x31] w fun x32 w =>
  RD Try.prog (bin .lss 3 (.tmp 0) (.const undef) x32 (Value.int .i64 0)) w fun x33 =>
  BR x33
   (R (Value.int .i64 (-1)) w)
   (RD Try.prog (Instr.fieldAt 31 x3 4) w fun x35 =>
   RD Try.prog (Instr.loadAt 29 x35) w fun x36 =>
   RD Try.prog (Instr.indexAt 29 x36 x10) w fun x38 =>
   RD Try.prog (Instr.fieldAt 95 x38 1) w fun x39 =>
   RD Try.prog (Instr.loadAt 3 x39) w fun x40 =>
   R x40 w)))) (World.drew1 w)
def cfg79 : Cfg := { ext := extL, joins := [], loops := [], draws := [(2, [0, 1, 2, 3, 4, 5, 6, 7, 8, 9, 10, 11, 12, 13, 14, 15, 16, 17, 18, 19, 20, 21, 22, 23], 0)], pars := [] }
theorem F79_eq (a0 a1 a2 : Value) (w : World) (R : Value → World → Prop) : vcF Try.prog cfg79 Try.f79 [a0, a1, a2] w R = F79 a0 a1 a2 w R := by kernel_rfl
theorem F79_call {a0 a1 a2 : Value} {w : World} {R : Value → World → Prop} (h : F79 a0 a1 a2 w R) : CALL Try.prog 79 [a0, a1, a2] w R :=
  call_of (g := cfg79) ent mixed Try.func79 (Nat.le_of_ble_eq_true (by kernel_rfl)) (by kernel_rfl) (F79_eq a0 a1 a2 w R ▸ h)


theorem waits_ok {w : World} {v0 : Value} {W0 : World} {c : DCode} {v1 : Value} {W1 : World} {s : DState} {t : Int}  (h0 : Is W0 v0 c) (e0 : Ext W0 w) (h1 : Is W1 v1 s) (e1 : Ext W1 w) (hc : CodeR c) (hs : StateR c s) :
    CALL Try.prog 79 [v0, v1, .int .i64 t] w fun r w' => Ext w w' ∧ (r = .int .i64 (waitsOf c s t)) := by
  refine F79_call ?_
  unfold F79
  have hat := at_lt hs t
  refine op_boxS ty31 rfl h0 e0 fun w1_ hx1_ hA3 hV3 => ?_
  refine op_boxS ty42 rfl h1 (e1.trans hx1_) fun w2_ hx2_ hA4 hV4 => ?_
  refine rd_var hV4 (Ext.refl w2_) ?_
  refine (implAtOf_ok h1 (e1.trans (hx1_.trans hx2_))).mono ?_
  rintro _ w3_ ⟨hx3_, rfl⟩
  have hx4_ := ext_drew w3_
  refine rd_var hV3 (hx2_.trans (hx3_.trans hx4_)) ?_
  refine (isPlace_ok h0 (e0.trans (hx1_.trans (hx2_.trans (hx3_.trans hx4_))))).mono ?_
  rintro _ w5_ ⟨hx5_, rfl⟩
  refine rd_nodec ?_
  refine br (fun c1 => ?_) (fun c1 => ?_)
  · refine ⟨(hx1_.trans (hx2_.trans (hx3_.trans (hx4_.trans hx5_)))), ?_⟩
    unfold waitsOf; rw [if_neg (by omega)]
  · refine rd_fld fd31_4 ?_
    refine rd_load ty29 (at_DCode_4 hA3) (hx2_.trans (hx3_.trans (hx4_.trans hx5_))) fun v17 h17 => ?_
    refine rd_index u29 ty95 h17 (by omega) (by omega) fun b19 o19 h19 => ?_
    rw [insAt_get] at h19
    change At _ _ _ (atI c s t) at h19
    have hat0 : 0 ≤ atOf s t := by omega
    refine rd_fld fd95_0 ?_
    refine rd_loadI ty3 (at_DIns_0 h19) (hx2_.trans (hx3_.trans (hx4_.trans hx5_))) fun hI21 => ?_
    refine rd_neq ?_
    refine br (fun c2 => ?_) (fun c2 => ?_)
    · refine ⟨(hx1_.trans (hx2_.trans (hx3_.trans (hx4_.trans hx5_)))), ?_⟩
      unfold waitsOf; rw [if_neg (fun h => c2 h.2.1)]
    · refine rd_var hV4 (hx3_.trans (hx4_.trans hx5_)) ?_
      refine rd_fld fd31_4 ?_
      refine rd_load ty29 (at_DCode_4 hA3) (hx2_.trans (hx3_.trans (hx4_.trans hx5_))) fun v27 h27 => ?_
      refine rd_index u29 ty95 h27 (by omega) (by omega) fun b29 o29 h29 => ?_
      rw [insAt_get] at h29
      change At _ _ _ (atI c s t) at h29
      have hlk := atI_lock hc hs hat0 (.inl (Decidable.not_not.1 c2))
      refine rd_fld fd95_1 ?_
      refine rd_loadI ty3 (at_DIns_1 h29) (hx2_.trans (hx3_.trans (hx4_.trans hx5_))) fun hI31 => ?_
      refine (holderOf_ok h1 (e1.trans (hx1_.trans (hx2_.trans (hx3_.trans (hx4_.trans hx5_))))) (by omega) (by omega)).mono ?_
      rintro _ w6_ ⟨hx6_, rfl⟩
      refine rd_lss ?_
      refine br (fun c3 => ?_) (fun c3 => ?_)
      · refine ⟨(hx1_.trans (hx2_.trans (hx3_.trans (hx4_.trans (hx5_.trans hx6_))))), ?_⟩
        unfold waitsOf; rw [if_neg (by omega)]
      · refine rd_fld fd31_4 ?_
        refine rd_load ty29 (at_DCode_4 hA3) (hx2_.trans (hx3_.trans (hx4_.trans (hx5_.trans hx6_)))) fun v36 h36 => ?_
        refine rd_index u29 ty95 h36 (by omega) (by omega) fun b38 o38 h38 => ?_
        rw [insAt_get] at h38
        change At _ _ _ (atI c s t) at h38
        refine rd_fld fd95_1 ?_
        refine rd_loadI ty3 (at_DIns_1 h38) (hx2_.trans (hx3_.trans (hx4_.trans (hx5_.trans hx6_)))) fun hI40 => ?_
        refine ⟨(hx1_.trans (hx2_.trans (hx3_.trans (hx4_.trans (hx5_.trans hx6_))))), ?_⟩
        unfold waitsOf; rw [if_pos ⟨hat0, by omega, by omega⟩]

def waitsFor (c : DCode) (s : DState) (t : Int) : Int := if CodeR c ∧ StateR c s then waitsOf c s t else -1
/-- spec.WaitsFor -/
def F36 (a0 a1 a2 : Value) (w : World) (R : Value → World → Prop) : Prop :=
  OP Try.prog (Instr.box 31 a0) w fun x3 w =>
  OP Try.prog (Instr.box 42 a1) w fun x4 w =>
  RD Try.prog (Instr.loadAt 31 x3) w fun x7 =>
  RD Try.prog (Instr.loadAt 42 x4) w fun x8 =>
  CALL Try.prog 22 [x7, x8] w fun x9 w =>
  RD Try.prog (Op.unary .not x9) w fun x10 =>
  BR x10
   (R (Value.int .i64 (-1)) w)
   (RD Try.prog (Instr.loadAt 31 x3) w fun x11 =>
   RD Try.prog (Instr.loadAt 42 x4) w fun x12 =>
   CALL Try.prog 78 [x11, x12, a2] w fun x14 w =>
   R x14 w)
def cfg36 : Cfg := { ext := extL, joins := [], loops := [], draws := [], pars := [] }
theorem F36_eq (a0 a1 a2 : Value) (w : World) (R : Value → World → Prop) : vcF Try.prog cfg36 Try.f36 [a0, a1, a2] w R = F36 a0 a1 a2 w R := by kernel_rfl
theorem F36_call {a0 a1 a2 : Value} {w : World} {R : Value → World → Prop} (h : F36 a0 a1 a2 w R) : CALL Try.prog 36 [a0, a1, a2] w R :=
  call_of (g := cfg36) ent mixed Try.func36 (Nat.le_of_ble_eq_true (by kernel_rfl)) (by kernel_rfl) (F36_eq a0 a1 a2 w R ▸ h)


theorem specWaitsFor_ok {w : World} {v0 : Value} {W0 : World} {c : DCode} {v1 : Value} {W1 : World} {s : DState} {t : Int}  (h0 : Is W0 v0 c) (e0 : Ext W0 w) (h1 : Is W1 v1 s) (e1 : Ext W1 w)  :
    CALL Try.prog 36 [v0, v1, .int .i64 t] w fun r w' => Ext w w' ∧ (r = .int .i64 (waitsFor c s t)) := by
  refine F36_call ?_
  unfold F36
  refine op_boxS ty31 rfl h0 e0 fun w1_ hx1_ hA3 hV3 => ?_
  refine op_boxS ty42 rfl h1 (e1.trans hx1_) fun w2_ hx2_ hA4 hV4 => ?_
  refine rd_var hV3 hx2_ ?_
  refine rd_var hV4 (Ext.refl w2_) ?_
  refine (specStateOk_ok h0 (e0.trans (hx1_.trans hx2_)) h1 (e1.trans (hx1_.trans hx2_))).mono ?_
  rintro _ w3_ ⟨hx3_, rfl⟩
  refine rd_nodec ?_
  refine br (fun c1 => ?_) (fun c1 => ?_)
  · refine ⟨(hx1_.trans (hx2_.trans hx3_)), ?_⟩
    unfold waitsFor; rw [if_neg c1]
  · refine rd_var hV3 (hx2_.trans hx3_) ?_
    refine rd_var hV4 hx3_ ?_
    refine (l24Waits_ok h0 (e0.trans (hx1_.trans (hx2_.trans hx3_))) h1 (e1.trans (hx1_.trans (hx2_.trans hx3_))) (Decidable.not_not.1 c1).1 (Decidable.not_not.1 c1).2).mono ?_
    rintro _ w4_ ⟨hx4_, rfl⟩
    refine ⟨(hx1_.trans (hx2_.trans (hx3_.trans hx4_))), ?_⟩
    unfold waitsFor; rw [if_pos (Decidable.not_not.1 c1)]

/-- impl.WaitsFor -/
def F37 (a0 a1 a2 : Value) (w : World) (R : Value → World → Prop) : Prop :=
  OP Try.prog (Instr.box 31 a0) w fun x3 w =>
  OP Try.prog (Instr.box 42 a1) w fun x4 w =>
  RD Try.prog (Instr.loadAt 31 x3) w fun x7 =>
  RD Try.prog (Instr.loadAt 42 x4) w fun x8 =>
  CALL Try.prog 24 [x7, x8] w fun x9 w =>
  RD Try.prog (Op.unary .not x9) w fun x10 =>
  BR x10
   (R (Value.int .i64 (-1)) w)
   (RD Try.prog (Instr.loadAt 31 x3) w fun x11 =>
   RD Try.prog (Instr.loadAt 42 x4) w fun x12 =>
   CALL Try.prog 79 [x11, x12, a2] w fun x14 w =>
   R x14 w)
def cfg37 : Cfg := { ext := extL, joins := [], loops := [], draws := [], pars := [] }
theorem F37_eq (a0 a1 a2 : Value) (w : World) (R : Value → World → Prop) : vcF Try.prog cfg37 Try.f37 [a0, a1, a2] w R = F37 a0 a1 a2 w R := by kernel_rfl
theorem F37_call {a0 a1 a2 : Value} {w : World} {R : Value → World → Prop} (h : F37 a0 a1 a2 w R) : CALL Try.prog 37 [a0, a1, a2] w R :=
  call_of (g := cfg37) ent mixed Try.func37 (Nat.le_of_ble_eq_true (by kernel_rfl)) (by kernel_rfl) (F37_eq a0 a1 a2 w R ▸ h)


theorem implWaitsFor_ok {w : World} {v0 : Value} {W0 : World} {c : DCode} {v1 : Value} {W1 : World} {s : DState} {t : Int}  (h0 : Is W0 v0 c) (e0 : Ext W0 w) (h1 : Is W1 v1 s) (e1 : Ext W1 w)  :
    CALL Try.prog 37 [v0, v1, .int .i64 t] w fun r w' => Ext w w' ∧ (r = .int .i64 (waitsFor c s t)) := by
  refine F37_call ?_
  unfold F37
  refine op_boxS ty31 rfl h0 e0 fun w1_ hx1_ hA3 hV3 => ?_
  refine op_boxS ty42 rfl h1 (e1.trans hx1_) fun w2_ hx2_ hA4 hV4 => ?_
  refine rd_var hV3 hx2_ ?_
  refine rd_var hV4 (Ext.refl w2_) ?_
  refine (implStateOk_ok h0 (e0.trans (hx1_.trans hx2_)) h1 (e1.trans (hx1_.trans hx2_))).mono ?_
  rintro _ w3_ ⟨hx3_, rfl⟩
  refine rd_nodec ?_
  refine br (fun c1 => ?_) (fun c1 => ?_)
  · refine ⟨(hx1_.trans (hx2_.trans hx3_)), ?_⟩
    unfold waitsFor; rw [if_neg c1]
  · refine rd_var hV3 (hx2_.trans hx3_) ?_
    refine rd_var hV4 hx3_ ?_
    refine (waits_ok h0 (e0.trans (hx1_.trans (hx2_.trans hx3_))) h1 (e1.trans (hx1_.trans (hx2_.trans hx3_))) (Decidable.not_not.1 c1).1 (Decidable.not_not.1 c1).2).mono ?_
    rintro _ w4_ ⟨hx4_, rfl⟩
    refine ⟨(hx1_.trans (hx2_.trans (hx3_.trans hx4_))), ?_⟩
    unfold waitsFor; rw [if_pos (Decidable.not_not.1 c1)]

/-- the first k threads that can go -/
def readyTo (c : DCode) (s : DState) : Nat → List Int
  | 0 => []
  | k + 1 => if GoR c s k then readyTo c s k ++ [(k : Int)] else readyTo c s k
theorem readyTo_len (c : DCode) (s : DState) : ∀ k, (readyTo c s k).length ≤ k
  | 0 => Nat.le_refl _
  | k + 1 => by
    have := readyTo_len c s k
    rw [readyTo]
    split
    · simp; omega
    · omega
def readyL (c : DCode) (s : DState) : List Int := readyTo c s s.stacks.length
/-- spec.l22Ready -/
def F83 (a0 a1 : Value) (w : World) (R : Value → World → Prop) : Prop :=
  OP Try.prog (Instr.box 31 a0) w fun x2 w =>
  OP Try.prog (Instr.box 42 a1) w fun x3 w =>
  OP Try.prog (Instr.buildSlice 23 0 #[]) w fun x7 w =>
  LOOPI [5, 6] [x7, (Value.int .i64 0)] w fun u3 w next3 =>
   RD Try.prog (Instr.fieldAt 42 x3 2) w fun x9 =>
   RD Try.prog (Instr.loadAt 37 x9) w fun x10 =>
   RD Try.prog (Builtin.len_ #[37] 3 [x10].toArray) w fun x11 =>
   RD Try.prog (bin .lss 3 (.tmp 0) (.tmp 0) (u3 6) x11) w fun x12 =>
   BR x12
    (RD Try.prog (Instr.loadAt 31 x2) w fun x15 =>
    RD Try.prog (Instr.loadAt 42 x3) w fun x16 =>
    CALL Try.prog 80 [x15, x16, (u3 6)] w fun x18 w =>
    BR x18
     (OP Try.prog (Instr.buildSlice 23 1 #[(0, (u3 6))]) w fun x21 w =>
     OP Try.prog (Builtin.append_ #[23, 23] 23 [(u3 5), x21].toArray) w fun x22 w =>
     RD Try.prog (bin .add 3 (.tmp 0) (.const undef) (u3 6) (Value.int .i64 1)) w fun x14 =>
     next3 [x22, x14] w)
     (RD Try.prog (bin .add 3 (.tmp 0) (.const undef) (u3 6) (Value.int .i64 1)) w fun x14 =>
     next3 [(u3 5), x14] w))
    (R (u3 5) w)
def cfg83 : Cfg := { ext := extL, joins := [], loops := [(3, 8388448, [5, 6])], draws := [], pars := [] }
theorem F83_eq (a0 a1 : Value) (w : World) (R : Value → World → Prop) : vcF Try.prog cfg83 Try.f83 [a0, a1] w R = F83 a0 a1 w R := by kernel_rfl
theorem F83_call {a0 a1 : Value} {w : World} {R : Value → World → Prop} (h : F83 a0 a1 w R) : CALL Try.prog 83 [a0, a1] w R :=
  call_of (g := cfg83) ent mixed Try.func83 (Nat.le_of_ble_eq_true (by kernel_rfl)) (by kernel_rfl) (F83_eq a0 a1 w R ▸ h)


theorem l22Ready_ok {w : World} {v0 : Value} {W0 : World} {c : DCode} {v1 : Value} {W1 : World} {s : DState}  (h0 : Is W0 v0 c) (e0 : Ext W0 w) (h1 : Is W1 v1 s) (e1 : Ext W1 w) (hc : CodeR c) (hs : StateR c s) :
    CALL Try.prog 83 [v0, v1] w fun r w' => Ext w w' ∧ (Own w.heap.size w' r (readyL c s)) := by
  refine F83_call ?_
  unfold F83
  have hmany := hs.2.2.1
  have hs_e0 := e0.size
  have hs_e1 := e1.size
  refine op_boxS ty31 rfl h0 e0 fun w1_ hx1_ hA2 hV2 => ?_
  have hs_hx1_ := hx1_.size
  refine op_boxS ty42 rfl h1 (e1.trans hx1_) fun w2_ hx2_ hA3 hV3 => ?_
  have hs_hx2_ := hx2_.size
  refine op_build0I (α := Int) u23 ty3 fun v7 w3_ hx3_ o7 => ?_
  have hs_hx3_ := hx3_.size
  refine loopC (s.stacks.length) (fun k us w' => ∃ v : Value, us = [v, .int .i64 (k : Int)] ∧ Ext w2_ w' ∧ (RowI w2_.heap.size w'.heap.size 3 w' v (readyTo c s k))) (0) (by omega) ⟨_, rfl, hx3_, o7⟩ ?_
  rintro k m3 uu3 w4_ hk3 ⟨v5, hu, hx4_, hrow⟩
  have hs_hx4_ := hx4_.size
  simp only [List.map_cons, List.map_nil, List.cons.injEq, and_true] at hu
  obtain ⟨hu0, hu1⟩ := hu
  try rw [hu0]
  try rw [hu1]
  try clear hu0 hu1
  have hrl := readyTo_len c s k
  refine rd_fld fd42_2 ?_
  refine rd_load ty37 (at_DState_2 hA3) hx4_ fun v10 h10 => ?_
  have hln11 := is_len h10
  refine rd_len u37 h10 ?_
  refine rd_lss ?_
  refine br (fun c1 => ?_) (fun c1 => ?_)
  · refine rd_var hV2 (hx2_.trans hx4_) ?_
    refine rd_var hV3 hx4_ ?_
    refine (l21Go_ok h0 (e0.trans (hx1_.trans (hx2_.trans hx4_))) h1 (e1.trans (hx1_.trans (hx2_.trans hx4_))) (by assumption) (by assumption)).mono ?_
    rintro _ w5_ ⟨hx5_, rfl⟩
    have hs_hx5_ := hx5_.size
    refine br (fun c2 => ?_) (fun c2 => ?_)
    · refine op_push (α := Int) u23 ty3 z3 zc3 (by decide) (hrow.ext hx5_) (by omega) (ownI_int (lo := w5_.heap.size) (hi := w5_.heap.size) (by first | assumption | (unfold I64 at *; omega))) (by omega) (by omega) (by rw [maxLen_eq]; omega) (by omega) fun v22 w6_ hc6_ o22 => ?_
      have hs_hc6_ := hc6_.size
      refine rd_inc (by omega) ?_
      refine ⟨m3 - 1, by omega, k + 1, by omega, _, rfl, (Ext.chgI (hx4_.trans hx5_) hc6_ (by omega)), ?_⟩
      rw [readyTo, if_pos c2]; exact o22
    · refine rd_inc (by omega) ?_
      refine ⟨m3 - 1, by omega, k + 1, by omega, _, rfl, (hx4_.trans hx5_), ?_⟩
      rw [readyTo, if_neg c2]; exact (hrow.ext hx5_).mono (by omega) (by omega)
  · refine ⟨(hx1_.trans (hx2_.trans hx4_)), ?_⟩
    have : k = s.stacks.length := by omega
    subst this
    exact hrow.own.own.mono (by omega)

/-- impl.readyIn -/
def F84 (a0 a1 : Value) (w : World) (R : Value → World → Prop) : Prop :=
  OP Try.prog (Instr.box 31 a0) w fun x2 w =>
  OP Try.prog (Instr.box 42 a1) w fun x3 w =>
  RD Try.prog (Instr.fieldAt 42 x3 2) w fun x7 =>
  RD Try.prog (Instr.loadAt 37 x7) w fun x8 =>
  RD Try.prog (Builtin.len_ #[37] 3 [x8].toArray) w fun x9 =>
  LOOPI [5, 10] [(Value.slice none 0 0), (Value.int .i64 0)] w fun u3 w next3 =>
   RD Try.prog (bin .lss 3 (.tmp 0) (.tmp 0) (u3 10) x9) w fun x11 =>
   BR x11
    (RD Try.prog (Instr.loadAt 31 x2) w fun x13 =>
    RD Try.prog (Instr.loadAt 42 x3) w fun x14 =>
    CALL Try.prog 81 [x13, x14, (u3 10)] w fun x16 w =>
    BR x16
     (OP Try.prog (Instr.buildSlice 23 1 #[(0, (u3 10))]) w fun x19 w =>
     OP Try.prog (Builtin.append_ #[23, 23] 23 [(u3 5), x19].toArray) w fun x20 w =>
     RD Try.prog (bin .add 3 (.tmp 0) (.const undef) (u3 10) (Value.int .i64 1)) w fun x21 =>
     next3 [x20, x21] w)
     (RD Try.prog (bin .add 3 (.tmp 0) (.const undef) (u3 10) (Value.int .i64 1)) w fun x21 =>
     next3 [(u3 5), x21] w))
    (R (u3 5) w)
def cfg84 : Cfg := { ext := extL, joins := [], loops := [(3, 4193376, [5, 10])], draws := [], pars := [] }
theorem F84_eq (a0 a1 : Value) (w : World) (R : Value → World → Prop) : vcF Try.prog cfg84 Try.f84 [a0, a1] w R = F84 a0 a1 w R := by kernel_rfl
theorem F84_call {a0 a1 : Value} {w : World} {R : Value → World → Prop} (h : F84 a0 a1 w R) : CALL Try.prog 84 [a0, a1] w R :=
  call_of (g := cfg84) ent mixed Try.func84 (Nat.le_of_ble_eq_true (by kernel_rfl)) (by kernel_rfl) (F84_eq a0 a1 w R ▸ h)


theorem readyIn_ok {w : World} {v0 : Value} {W0 : World} {c : DCode} {v1 : Value} {W1 : World} {s : DState}  (h0 : Is W0 v0 c) (e0 : Ext W0 w) (h1 : Is W1 v1 s) (e1 : Ext W1 w) (hc : CodeR c) (hs : StateR c s) :
    CALL Try.prog 84 [v0, v1] w fun r w' => Ext w w' ∧ (Own w.heap.size w' r (readyL c s)) := by
  refine F84_call ?_
  unfold F84
  have hmany := hs.2.2.1
  have hs_e0 := e0.size
  have hs_e1 := e1.size
  refine op_boxS ty31 rfl h0 e0 fun w1_ hx1_ hA2 hV2 => ?_
  have hs_hx1_ := hx1_.size
  refine op_boxS ty42 rfl h1 (e1.trans hx1_) fun w2_ hx2_ hA3 hV3 => ?_
  have hs_hx2_ := hx2_.size
  refine rd_fld fd42_2 ?_
  refine rd_load ty37 (at_DState_2 hA3) (Ext.refl w2_) fun v8 h8 => ?_
  have hln9 := is_len h8
  refine rd_len u37 h8 ?_
  refine loopC (s.stacks.length) (fun k us w' => ∃ v : Value, us = [v, .int .i64 (k : Int)] ∧ Ext w2_ w' ∧ (RowI w2_.heap.size w'.heap.size 3 w' v (readyTo c s k))) (0) (by omega) ⟨_, rfl, Ext.refl w2_, rowI_nil _ _ _ _⟩ ?_
  rintro k m3 uu3 w3_ hk3 ⟨v5, hu, hx3_, hrow⟩
  have hs_hx3_ := hx3_.size
  simp only [List.map_cons, List.map_nil, List.cons.injEq, and_true] at hu
  obtain ⟨hu0, hu1⟩ := hu
  try rw [hu0]
  try rw [hu1]
  try clear hu0 hu1
  have hrl := readyTo_len c s k
  refine rd_lss ?_
  refine br (fun c1 => ?_) (fun c1 => ?_)
  · refine rd_var hV2 (hx2_.trans hx3_) ?_
    refine rd_var hV3 hx3_ ?_
    refine (goes_ok h0 (e0.trans (hx1_.trans (hx2_.trans hx3_))) h1 (e1.trans (hx1_.trans (hx2_.trans hx3_))) (by assumption) (by assumption)).mono ?_
    rintro _ w4_ ⟨hx4_, rfl⟩
    have hs_hx4_ := hx4_.size
    refine br (fun c2 => ?_) (fun c2 => ?_)
    · refine op_push (α := Int) u23 ty3 z3 zc3 (by decide) (hrow.ext hx4_) (by omega) (ownI_int (lo := w4_.heap.size) (hi := w4_.heap.size) (by first | assumption | (unfold I64 at *; omega))) (by omega) (by omega) (by rw [maxLen_eq]; omega) (by omega) fun v20 w5_ hc5_ o20 => ?_
      have hs_hc5_ := hc5_.size
      refine rd_inc (by omega) ?_
      refine ⟨m3 - 1, by omega, k + 1, by omega, _, rfl, (Ext.chgI (hx3_.trans hx4_) hc5_ (by omega)), ?_⟩
      rw [readyTo, if_pos c2]; exact o20
    · refine rd_inc (by omega) ?_
      refine ⟨m3 - 1, by omega, k + 1, by omega, _, rfl, (hx3_.trans hx4_), ?_⟩
      rw [readyTo, if_neg c2]; exact (hrow.ext hx4_).mono (by omega) (by omega)
  · refine ⟨(hx1_.trans (hx2_.trans hx3_)), ?_⟩
    have : k = s.stacks.length := by omega
    subst this
    exact hrow.own.own.mono (by omega)

def readyIn (c : DCode) (s : DState) : List Int := if CodeR c ∧ StateR c s then readyL c s else []
/-- spec.ReadyIn -/
def F42 (a0 a1 : Value) (w : World) (R : Value → World → Prop) : Prop :=
  OP Try.prog (Instr.box 31 a0) w fun x2 w =>
  OP Try.prog (Instr.box 42 a1) w fun x3 w =>
  RD Try.prog (Instr.loadAt 31 x2) w fun x5 =>
  RD Try.prog (Instr.loadAt 42 x3) w fun x6 =>
  CALL Try.prog 22 [x5, x6] w fun x7 w =>
  RD Try.prog (Op.unary .not x7) w fun x8 =>
  BR x8
   (OP Try.prog (Instr.buildSlice 23 0 #[]) w fun x9 w =>
   R x9 w)
   (RD Try.prog (Instr.loadAt 31 x2) w fun x10 =>
   RD Try.prog (Instr.loadAt 42 x3) w fun x11 =>
   CALL Try.prog 83 [x10, x11] w fun x12 w =>
   R x12 w)
def cfg42 : Cfg := { ext := extL, joins := [], loops := [], draws := [], pars := [] }
theorem F42_eq (a0 a1 : Value) (w : World) (R : Value → World → Prop) : vcF Try.prog cfg42 Try.f42 [a0, a1] w R = F42 a0 a1 w R := by kernel_rfl
theorem F42_call {a0 a1 : Value} {w : World} {R : Value → World → Prop} (h : F42 a0 a1 w R) : CALL Try.prog 42 [a0, a1] w R :=
  call_of (g := cfg42) ent mixed Try.func42 (Nat.le_of_ble_eq_true (by kernel_rfl)) (by kernel_rfl) (F42_eq a0 a1 w R ▸ h)


theorem specReadyIn_ok {w : World} {v0 : Value} {W0 : World} {c : DCode} {v1 : Value} {W1 : World} {s : DState}  (h0 : Is W0 v0 c) (e0 : Ext W0 w) (h1 : Is W1 v1 s) (e1 : Ext W1 w)  :
    CALL Try.prog 42 [v0, v1] w fun r w' => Ext w w' ∧ (Own w.heap.size w' r (readyIn c s)) := by
  refine F42_call ?_
  unfold F42
  have hs_e0 := e0.size
  have hs_e1 := e1.size
  refine op_boxS ty31 rfl h0 e0 fun w1_ hx1_ hA2 hV2 => ?_
  have hs_hx1_ := hx1_.size
  refine op_boxS ty42 rfl h1 (e1.trans hx1_) fun w2_ hx2_ hA3 hV3 => ?_
  have hs_hx2_ := hx2_.size
  refine rd_var hV2 hx2_ ?_
  refine rd_var hV3 (Ext.refl w2_) ?_
  refine (specStateOk_ok h0 (e0.trans (hx1_.trans hx2_)) h1 (e1.trans (hx1_.trans hx2_))).mono ?_
  rintro _ w3_ ⟨hx3_, rfl⟩
  have hs_hx3_ := hx3_.size
  refine rd_nodec ?_
  refine br (fun c1 => ?_) (fun c1 => ?_)
  · refine op_build0I (α := Int) u23 ty3 fun v9 w4_ hx4_ o9 => ?_
    have hs_hx4_ := hx4_.size
    refine ⟨(hx1_.trans (hx2_.trans (hx3_.trans hx4_))), ?_⟩
    unfold readyIn; rw [if_neg c1]; exact o9.own.own.mono (by omega)
  · refine rd_var hV2 (hx2_.trans hx3_) ?_
    refine rd_var hV3 hx3_ ?_
    refine (l22Ready_ok h0 (e0.trans (hx1_.trans (hx2_.trans hx3_))) h1 (e1.trans (hx1_.trans (hx2_.trans hx3_))) (Decidable.not_not.1 c1).1 (Decidable.not_not.1 c1).2).mono ?_
    rintro r12 w5_ ⟨hx5_, o12⟩
    have o12 := o12.toI
    have hs_hx5_ := hx5_.size
    refine ⟨(hx1_.trans (hx2_.trans (hx3_.trans hx5_))), ?_⟩
    unfold readyIn; rw [if_pos (Decidable.not_not.1 c1)]; exact o12.own.mono (by omega)

/-- impl.ReadyIn -/
def F43 (a0 a1 : Value) (w : World) (R : Value → World → Prop) : Prop :=
  OP Try.prog (Instr.box 31 a0) w fun x2 w =>
  OP Try.prog (Instr.box 42 a1) w fun x3 w =>
  RD Try.prog (Instr.loadAt 31 x2) w fun x5 =>
  RD Try.prog (Instr.loadAt 42 x3) w fun x6 =>
  CALL Try.prog 24 [x5, x6] w fun x7 w =>
  RD Try.prog (Op.unary .not x7) w fun x8 =>
  BR x8
   (R (Value.slice none 0 0) w)
   (RD Try.prog (Instr.loadAt 31 x2) w fun x9 =>
   RD Try.prog (Instr.loadAt 42 x3) w fun x10 =>
   CALL Try.prog 84 [x9, x10] w fun x11 w =>
   R x11 w)
def cfg43 : Cfg := { ext := extL, joins := [], loops := [], draws := [], pars := [] }
theorem F43_eq (a0 a1 : Value) (w : World) (R : Value → World → Prop) : vcF Try.prog cfg43 Try.f43 [a0, a1] w R = F43 a0 a1 w R := by kernel_rfl
theorem F43_call {a0 a1 : Value} {w : World} {R : Value → World → Prop} (h : F43 a0 a1 w R) : CALL Try.prog 43 [a0, a1] w R :=
  call_of (g := cfg43) ent mixed Try.func43 (Nat.le_of_ble_eq_true (by kernel_rfl)) (by kernel_rfl) (F43_eq a0 a1 w R ▸ h)


theorem implReadyIn_ok {w : World} {v0 : Value} {W0 : World} {c : DCode} {v1 : Value} {W1 : World} {s : DState}  (h0 : Is W0 v0 c) (e0 : Ext W0 w) (h1 : Is W1 v1 s) (e1 : Ext W1 w)  :
    CALL Try.prog 43 [v0, v1] w fun r w' => Ext w w' ∧ (Own w.heap.size w' r (readyIn c s)) := by
  refine F43_call ?_
  unfold F43
  have hs_e0 := e0.size
  have hs_e1 := e1.size
  refine op_boxS ty31 rfl h0 e0 fun w1_ hx1_ hA2 hV2 => ?_
  have hs_hx1_ := hx1_.size
  refine op_boxS ty42 rfl h1 (e1.trans hx1_) fun w2_ hx2_ hA3 hV3 => ?_
  have hs_hx2_ := hx2_.size
  refine rd_var hV2 hx2_ ?_
  refine rd_var hV3 (Ext.refl w2_) ?_
  refine (implStateOk_ok h0 (e0.trans (hx1_.trans hx2_)) h1 (e1.trans (hx1_.trans hx2_))).mono ?_
  rintro _ w3_ ⟨hx3_, rfl⟩
  have hs_hx3_ := hx3_.size
  refine rd_nodec ?_
  refine br (fun c1 => ?_) (fun c1 => ?_)
  · refine ⟨(hx1_.trans (hx2_.trans hx3_)), ?_⟩
    unfold readyIn; rw [if_neg c1]; exact own_nil rfl
  · refine rd_var hV2 (hx2_.trans hx3_) ?_
    refine rd_var hV3 hx3_ ?_
    refine (readyIn_ok h0 (e0.trans (hx1_.trans (hx2_.trans hx3_))) h1 (e1.trans (hx1_.trans (hx2_.trans hx3_))) (Decidable.not_not.1 c1).1 (Decidable.not_not.1 c1).2).mono ?_
    rintro r11 w4_ ⟨hx4_, o11⟩
    have o11 := o11.toI
    have hs_hx4_ := hx4_.size
    refine ⟨(hx1_.trans (hx2_.trans (hx3_.trans hx4_))), ?_⟩
    unfold readyIn; rw [if_pos (Decidable.not_not.1 c1)]; exact o11.own.mono (by omega)

def stoppedIn (c : DCode) (s : DState) : Prop := (CodeR c ∧ StateR c s) ∧ ¬ overIn s ∧ readyL c s = []
instance (c : DCode) (s : DState) : Decidable (stoppedIn c s) := by unfold stoppedIn; infer_instance
/-- spec.StoppedIn -/
def F40 (a0 a1 : Value) (w : World) (R : Value → World → Prop) : Prop :=
  OP Try.prog (Instr.box 31 a0) w fun x2 w =>
  OP Try.prog (Instr.box 42 a1) w fun x3 w =>
  RD Try.prog (Instr.loadAt 31 x2) w fun x5 =>
  RD Try.prog (Instr.loadAt 42 x3) w fun x6 =>
  CALL Try.prog 22 [x5, x6] w fun x7 w =>
  BR x7
  (RD Try.prog (Instr.loadAt 42 x3) w fun x9 =>
  CALL Try.prog 82 [x9] w fun x10 w =>
  RD Try.prog (Op.unary .not x10) w fun x11 =>
  BR x11
  (RD Try.prog (Instr.loadAt 31 x2) w fun x14 =>
  RD Try.prog (Instr.loadAt 42 x3) w fun x15 =>
  CALL Try.prog 83 [x14, x15] w fun x16 w =>
  RD Try.prog (Builtin.len_ #[23] 3 [x16].toArray) w fun x17 =>
  RD Try.prog (bin .eql 3 (.tmp 0) (.const undef) x17 (Value.int .i64 0)) w fun x18 =>
  R x18 w)
  (R (Value.bool false) w))
  (R (Value.bool false) w)
def cfg40 : Cfg := { ext := extL, joins := [], loops := [], draws := [], pars := [] }
theorem F40_eq (a0 a1 : Value) (w : World) (R : Value → World → Prop) : vcF Try.prog cfg40 Try.f40 [a0, a1] w R = F40 a0 a1 w R := by kernel_rfl
theorem F40_call {a0 a1 : Value} {w : World} {R : Value → World → Prop} (h : F40 a0 a1 w R) : CALL Try.prog 40 [a0, a1] w R :=
  call_of (g := cfg40) ent mixed Try.func40 (Nat.le_of_ble_eq_true (by kernel_rfl)) (by kernel_rfl) (F40_eq a0 a1 w R ▸ h)


theorem specStoppedIn_ok {w : World} {v0 : Value} {W0 : World} {c : DCode} {v1 : Value} {W1 : World} {s : DState}  (h0 : Is W0 v0 c) (e0 : Ext W0 w) (h1 : Is W1 v1 s) (e1 : Ext W1 w)  :
    CALL Try.prog 40 [v0, v1] w fun r w' => Ext w w' ∧ (r = .bool (decide (stoppedIn c s))) := by
  refine F40_call ?_
  unfold F40
  refine op_boxS ty31 rfl h0 e0 fun w1_ hx1_ hA2 hV2 => ?_
  refine op_boxS ty42 rfl h1 (e1.trans hx1_) fun w2_ hx2_ hA3 hV3 => ?_
  refine rd_var hV2 hx2_ ?_
  refine rd_var hV3 (Ext.refl w2_) ?_
  refine (specStateOk_ok h0 (e0.trans (hx1_.trans hx2_)) h1 (e1.trans (hx1_.trans hx2_))).mono ?_
  rintro _ w3_ ⟨hx3_, rfl⟩
  refine br (fun c1 => ?_) (fun c1 => ?_)
  · refine rd_var hV3 hx3_ ?_
    refine (specOverIn_ok h1 (e1.trans (hx1_.trans (hx2_.trans hx3_)))).mono ?_
    rintro _ w4_ ⟨hx4_, rfl⟩
    refine rd_nodec ?_
    refine br (fun c2 => ?_) (fun c2 => ?_)
    · refine rd_var hV2 (hx2_.trans (hx3_.trans hx4_)) ?_
      refine rd_var hV3 (hx3_.trans hx4_) ?_
      refine (l22Ready_ok h0 (e0.trans (hx1_.trans (hx2_.trans (hx3_.trans hx4_)))) h1 (e1.trans (hx1_.trans (hx2_.trans (hx3_.trans hx4_)))) c1.1 c1.2).mono ?_
      rintro r16 w5_ ⟨hx5_, o16⟩
      have hln17 := is_len o16.is
      refine rd_len u23 o16.is ?_
      refine rd_eql ?_
      refine ⟨(hx1_.trans (hx2_.trans (hx3_.trans (hx4_.trans hx5_)))), ?_⟩
      congr 1
      rw [decide_eq_decide]
      exact ⟨fun h => ⟨c1, c2, List.eq_nil_of_length_eq_zero (by omega)⟩, fun h => by rw [h.2.2]; rfl⟩
    · refine ⟨(hx1_.trans (hx2_.trans (hx3_.trans hx4_))), ?_⟩
      have : ¬ stoppedIn c s := fun h => c2 h.2.1
      simp only [this, decide_false]
  · refine ⟨(hx1_.trans (hx2_.trans hx3_)), ?_⟩
    have : ¬ stoppedIn c s := fun h => c1 h.1
    simp only [this, decide_false]

/-- impl.StoppedIn -/
def F41 (a0 a1 : Value) (w : World) (R : Value → World → Prop) : Prop :=
  OP Try.prog (Instr.box 31 a0) w fun x2 w =>
  OP Try.prog (Instr.box 42 a1) w fun x3 w =>
  RD Try.prog (Instr.loadAt 31 x2) w fun x5 =>
  RD Try.prog (Instr.loadAt 42 x3) w fun x6 =>
  CALL Try.prog 24 [x5, x6] w fun x7 w =>
  BR x7
  (RD Try.prog (Instr.loadAt 31 x2) w fun x9 =>
  RD Try.prog (Instr.loadAt 42 x3) w fun x10 =>
  CALL Try.prog 84 [x9, x10] w fun x11 w =>
  RD Try.prog (Builtin.len_ #[23] 3 [x11].toArray) w fun x12 =>
  RD Try.prog (bin .eql 3 (.tmp 0) (.const undef) x12 (Value.int .i64 0)) w fun x13 =>
  BR x13
  (RD Try.prog (Instr.loadAt 42 x3) w fun x16 =>
  CALL Try.prog 85 [x16] w fun x17 w =>
  RD Try.prog (Op.unary .not x17) w fun x18 =>
  R x18 w)
  (R (Value.bool false) w))
  (R (Value.bool false) w)
def cfg41 : Cfg := { ext := extL, joins := [], loops := [], draws := [], pars := [] }
theorem F41_eq (a0 a1 : Value) (w : World) (R : Value → World → Prop) : vcF Try.prog cfg41 Try.f41 [a0, a1] w R = F41 a0 a1 w R := by kernel_rfl
theorem F41_call {a0 a1 : Value} {w : World} {R : Value → World → Prop} (h : F41 a0 a1 w R) : CALL Try.prog 41 [a0, a1] w R :=
  call_of (g := cfg41) ent mixed Try.func41 (Nat.le_of_ble_eq_true (by kernel_rfl)) (by kernel_rfl) (F41_eq a0 a1 w R ▸ h)


theorem implStoppedIn_ok {w : World} {v0 : Value} {W0 : World} {c : DCode} {v1 : Value} {W1 : World} {s : DState}  (h0 : Is W0 v0 c) (e0 : Ext W0 w) (h1 : Is W1 v1 s) (e1 : Ext W1 w)  :
    CALL Try.prog 41 [v0, v1] w fun r w' => Ext w w' ∧ (r = .bool (decide (stoppedIn c s))) := by
  refine F41_call ?_
  unfold F41
  refine op_boxS ty31 rfl h0 e0 fun w1_ hx1_ hA2 hV2 => ?_
  refine op_boxS ty42 rfl h1 (e1.trans hx1_) fun w2_ hx2_ hA3 hV3 => ?_
  refine rd_var hV2 hx2_ ?_
  refine rd_var hV3 (Ext.refl w2_) ?_
  refine (implStateOk_ok h0 (e0.trans (hx1_.trans hx2_)) h1 (e1.trans (hx1_.trans hx2_))).mono ?_
  rintro _ w3_ ⟨hx3_, rfl⟩
  refine br (fun c1 => ?_) (fun c1 => ?_)
  · refine rd_var hV2 (hx2_.trans hx3_) ?_
    refine rd_var hV3 hx3_ ?_
    refine (readyIn_ok h0 (e0.trans (hx1_.trans (hx2_.trans hx3_))) h1 (e1.trans (hx1_.trans (hx2_.trans hx3_))) c1.1 c1.2).mono ?_
    rintro r11 w4_ ⟨hx4_, o11⟩
    have hln12 := is_len o11.is
    refine rd_len u23 o11.is ?_
    refine rd_eql ?_
    refine br (fun c2 => ?_) (fun c2 => ?_)
    · refine rd_var hV3 (hx3_.trans hx4_) ?_
      refine (implOverIn_ok h1 (e1.trans (hx1_.trans (hx2_.trans (hx3_.trans hx4_))))).mono ?_
      rintro _ w5_ ⟨hx5_, rfl⟩
      refine rd_nodec ?_
      refine ⟨(hx1_.trans (hx2_.trans (hx3_.trans (hx4_.trans hx5_)))), ?_⟩
      congr 1
      rw [decide_eq_decide]
      exact ⟨fun h => ⟨c1, h, List.eq_nil_of_length_eq_zero (by omega)⟩, fun h => h.2.1⟩
    · refine ⟨(hx1_.trans (hx2_.trans (hx3_.trans hx4_))), ?_⟩
      have : ¬ stoppedIn c s := fun h => c2 (by rw [h.2.2]; rfl)
      simp only [this, decide_false]
  · refine ⟨(hx1_.trans (hx2_.trans hx3_)), ?_⟩
    have : ¬ stoppedIn c s := fun h => c1 h.1
    simp only [this, decide_false]

end Go.Proofs.Ytokppocbfpjngaa
