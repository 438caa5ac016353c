/-
  Parts of the proof, put together by program.
-/
import Derived.Test.YtjgfldfbljmhhaaGreatPSeenAll4
namespace Go.Proofs.YtjgfldfbljmhhaaGreat
open Go Go.Sh Go.Proofs
set_option linter.unusedVariables false
set_option linter.unusedSimpArgs false
def ow (s : DState) (i : Int) : Int := s.owner.getD i.toNat 0
theorem ow_get {s : DState} {i : Nat} (h : i < s.owner.length) : s.owner[i] = ow s i := by unfold ow; rw [List.getD_eq_getElem?_getD, Int.toNat_natCast, List.getElem?_eq_getElem h]; rfl
theorem ow_get' {s : DState} {i : Int} (h0 : 0 ≤ i) (h : i.toNat < s.owner.length) : s.owner[i.toNat] = ow s i := by unfold ow; rw [List.getD_eq_getElem?_getD, List.getElem?_eq_getElem h]; rfl
def stk (s : DState) (t : Int) : List Int := s.stacks.getD t.toNat []
theorem stk_get {s : DState} {t : Int} (h : t.toNat < s.stacks.length) : s.stacks[t.toNat] = stk s t := by unfold stk; rw [List.getD_eq_getElem?_getD, List.getElem?_eq_getElem h]; rfl
def atI (c : DCode) (s : DState) (t : Int) : DIns := insAt c (atOf s t).toNat
theorem at_thread {s : DState} {t : Int} (h : 0 ≤ atOf s t) : 0 ≤ t ∧ t.toNat < s.stacks.length := by
  unfold atOf at h
  split at h
  · assumption
  · omega
theorem at_stack {s : DState} {t : Int} (h0 : 0 ≤ t) (h1 : t.toNat < s.stacks.length) : atOf s t = (stk s t).getLastD (-1) := by
  unfold atOf; rw [dif_pos ⟨h0, h1⟩, stk_get h1]
theorem last_st {l : List Int} (h : l ≠ []) : l.getLastD (-1) = st l (l.length - 1) := by
  unfold st
  rw [List.getLastD_eq_getLast?, List.getLast?_eq_getElem?, List.getD_eq_getElem?_getD]
  have : l.length - 1 < l.length := by have := List.length_pos_iff.2 h; omega
  rw [List.getElem?_eq_getElem this]; rfl
theorem at_lt {c : DCode} {s : DState} (hs : StateR c s) (t : Int) : -1 ≤ atOf s t ∧ atOf s t < c.ins.length := by
  by_cases h : 0 ≤ t ∧ t.toNat < s.stacks.length
  · rw [at_stack h.1 h.2]
    by_cases hn : stk s t = []
    · rw [hn]; simp [List.getLastD]; omega
    · have hl := List.length_pos_iff.2 hn
      have hm := hs.2.2.2.2.2 (stk s t) (by rw [← stk_get h.2]; exact List.getElem_mem _)
      rw [last_st hn]
      have := hm.2.1 ((stk s t).length - 1) (by omega)
      omega
  · unfold atOf; rw [dif_neg h]; omega
theorem ins_right {c : DCode} (hc : CodeR c) {j : Nat} (hj : j < c.ins.length) : InsR c (insAt c j) (en c (procOf c j).toNat) (endOf c (procOf c j) + 1) := hc.2.2 j hj
theorem lock_arg {c : DCode} (hc : CodeR c) {j : Nat} (hj : j < c.ins.length) (h : (insAt c j).op = 6 ∨ (insAt c j).op = 7) : 0 ≤ (insAt c j).arg ∧ (insAt c j).arg < c.locks.length := by
  have := (ins_right hc hj).2.1
  unfold argMost at this
  rwa [if_neg (by omega), if_neg (by omega), if_pos h] at this
theorem NamesR.locks6 {c : DCode} (h : NamesR c) : c.locks.length ≤ 6 := by
  have h1 := h.2.1
  simp only [Bool.and_eq_true, decide_eq_true_eq] at h1
  omega
theorem NamesR.globals6 {c : DCode} (h : NamesR c) : c.globals.length ≤ 6 := by
  have h1 := h.1
  simp only [Bool.and_eq_true, decide_eq_true_eq] at h1
  omega
theorem ow_range {c : DCode} {s : DState} (hs : StateR c s) {i : Int} (h0 : 0 ≤ i) (h : i.toNat < s.owner.length) : -1 ≤ ow s i ∧ ow s i < s.stacks.length := by
  rw [← ow_get' h0 h]; exact hs.2.2.2.2.1 _ (List.getElem_mem _)
theorem atI_right {c : DCode} {s : DState} {t : Int} (hc : CodeR c) (hs : StateR c s) (h : 0 ≤ atOf s t) : InsR c (atI c s t) (en c (procOf c (atOf s t)).toNat) (endOf c (procOf c (atOf s t)) + 1) := by
  have := at_lt hs t
  have h1 := ins_right hc (j := (atOf s t).toNat) (by omega)
  rwa [Int.toNat_of_nonneg h] at h1
theorem atI_lock {c : DCode} {s : DState} {t : Int} (hc : CodeR c) (hs : StateR c s) (h : 0 ≤ atOf s t) (ho : (atI c s t).op = 6 ∨ (atI c s t).op = 7) : 0 ≤ (atI c s t).arg ∧ (atI c s t).arg.toNat < s.owner.length := by
  have := at_lt hs t
  have h1 := lock_arg hc (j := (atOf s t).toNat) (by omega) ho
  have h2 := hs.2.1
  unfold atI
  omega
def F166 (a0 a1 : Value) (w : World) (R : Value → World → Prop) : Prop :=
 OP Tryz.prog (Instr.box 37 a0) w fun x2 w =>
 RD Tryz.prog (bin .lss 3 (.tmp 0) (.const undef) a1 (Value.int .i64 0)) w fun x6 =>
 BR x6
 (R (Value.int .i64 (-1)) w)
 (RD Tryz.prog (Instr.fieldAt 37 x2 1) w fun x9 =>
 RD Tryz.prog (Instr.loadAt 23 x9) w fun x10 =>
 RD Tryz.prog (Builtin.len_ #[23] 3 [x10].toArray) w fun x11 =>
 RD Tryz.prog (bin .geq 3 (.tmp 0) (.tmp 0) a1 x11) w fun x12 =>
 BR x12
 (R (Value.int .i64 (-1)) w)
 (RD Tryz.prog (Instr.fieldAt 37 x2 1) w fun x14 =>
 RD Tryz.prog (Instr.loadAt 23 x14) w fun x15 =>
 RD Tryz.prog (Instr.indexAt 23 x15 a1) w fun x17 =>
 RD Tryz.prog (Instr.loadAt 3 x17) w fun x18 =>
 RD Tryz.prog (Builtin.max_ #[3, 3] 3 [x18, (Value.int .i64 (-1))].toArray) w fun x19 =>
 R x19 w))
def cfg166 : Cfg := { ext := extL, joins := [], loops := [], draws := [], pars := [] }
theorem F166_eq (a0 a1 : Value) (w : World) (R : Value → World → Prop) : vcF Tryz.prog cfg166 Tryz.f166 [a0, a1] w R = F166 a0 a1 w R := by kernel_rfl
theorem F166_call {a0 a1 : Value} {w : World} {R : Value → World → Prop} (h : F166 a0 a1 w R) : CALL Tryz.prog 166 [a0, a1] w R :=
  call_of (g := cfg166) ent mixed Tryz.func166 (Nat.le_of_ble_eq_true (by kernel_rfl)) (by kernel_rfl) (F166_eq a0 a1 w R ▸ h)
theorem holderOf_ok {w : World} {v0 : Value} {W0 : World} {s : DState} {i : Int}  (h0 : Is W0 v0 s) (e0 : Ext W0 w) (hi0 : 0 ≤ i) (hi1 : i.toNat < s.owner.length) :
    CALL Tryz.prog 166 [v0, .int .i64 i] w fun r w' => Ext w w' ∧ (r = .int .i64 (max (ow s i) (-1))) := by
  refine F166_call ?_
  unfold F166
  refine op_boxS ty37 rfl h0 e0 fun w1_ hx1_ hA2 hV2 => ?_
  refine rd_lss ?_
  refine br (fun c1 => ?_) (fun c1 => ?_)
  · refine ⟨hx1_, ?_⟩
    exact absurd c1 (by omega)
  · refine rd_fld fd37_1 ?_
    refine rd_load ty23 (at_DState_1 hA2) (Ext.refl w1_) fun v10 h10 => ?_
    have hln11 := is_len h10
    refine rd_len u23 h10 ?_
    refine rd_geq ?_
    refine br (fun c2 => ?_) (fun c2 => ?_)
    · refine ⟨hx1_, ?_⟩
      exact absurd c2 (by omega)
    · refine rd_fld fd37_1 ?_
      refine rd_load ty23 (at_DState_1 hA2) (Ext.refl w1_) fun v15 h15 => ?_
      refine rd_index u23 ty3 h15 (by omega) (by omega) fun b17 o17 h17 => ?_
      refine rd_loadI ty3 h17 (Ext.refl w1_) fun hI18 => ?_
      refine rd_max ?_
      refine ⟨hx1_, ?_⟩
      rw [ow_get' hi0 hi1]
def GoR (c : DCode) (s : DState) (t : Int) : Prop := 0 ≤ atOf s t ∧ ((atI c s t).op = 6 → ow s (atI c s t).arg = -1) ∧ ((atI c s t).op = 4 → ((stk s t).length : Int) < 8)
instance (c : DCode) (s : DState) (t : Int) : Decidable (GoR c s t) := by unfold GoR; infer_instance
def F216 (a0 a1 a2 : Value) (w : World) (R : Value → World → Prop) : Prop :=
 OP Tryz.prog (Instr.box 35 a0) w fun x3 w =>
 OP Tryz.prog (Instr.box 37 a1) w fun x4 w =>
 RD Tryz.prog (Instr.loadAt 37 x4) w fun x8 =>
 CALL Tryz.prog 58 [x8, a2] w fun x10 w =>
 RD Tryz.prog (bin .lss 3 (.tmp 0) (.const undef) x10 (Value.int .i64 0)) w fun x12 =>
 BR x12
 (R (Value.bool false) w)
 (RD Tryz.prog (Instr.fieldAt 35 x3 4) w fun x13 =>
 RD Tryz.prog (Instr.loadAt 33 x13) w fun x14 =>
 RD Tryz.prog (Instr.indexAt 33 x14 x10) w fun x16 =>
 RD Tryz.prog (Instr.fieldAt 136 x16 0) w fun x17 =>
 RD Tryz.prog (Instr.loadAt 3 x17) w fun x18 =>
 RD Tryz.prog (bin .eql 3 (.tmp 0) (.const undef) x18 (Value.int .i64 6)) w fun x20 =>
 BR x20
 ((fun w => RD Tryz.prog (Instr.fieldAt 37 x4 1) w fun x21 =>
 RD Tryz.prog (Instr.loadAt 23 x21) w fun x22 =>
 RD Tryz.prog (Instr.fieldAt 35 x3 4) w fun x23 =>
 RD Tryz.prog (Instr.loadAt 33 x23) w fun x24 =>
 RD Tryz.prog (Instr.indexAt 33 x24 x10) w fun x26 =>
 RD Tryz.prog (Instr.fieldAt 136 x26 1) w fun x27 =>
 RD Tryz.prog (Instr.loadAt 3 x27) w fun x28 =>
 RD Tryz.prog (Instr.indexAt 23 x22 x28) w fun x29 =>
 RD Tryz.prog (Instr.loadAt 3 x29) w fun x30 =>
 RD Tryz.prog (bin .eql 3 (.tmp 0) (.const undef) x30 (Value.int .i64 (-1))) w fun x31 =>
 R x31 w) (World.drew1 w))
 (RD Tryz.prog (bin .eql 3 (.tmp 0) (.const undef) x18 (Value.int .i64 4)) w fun x33 =>
 BR x33
 (RD Tryz.prog (Instr.fieldAt 37 x4 2) w fun x34 =>
 RD Tryz.prog (Instr.loadAt 27 x34) w fun x35 =>
 RD Tryz.prog (Instr.indexAt 27 x35 a2) w fun x37 =>
 RD Tryz.prog (Instr.loadAt 23 x37) w fun x38 =>
 RD Tryz.prog (Builtin.len_ #[23] 3 [x38].toArray) w fun x39 =>
 RD Tryz.prog (bin .lss 3 (.tmp 0) (.const undef) x39 (Value.int .i64 8)) w fun x40 =>
 R x40 w)
 (R (Value.bool true) w)))
def cfg216 : Cfg := { ext := extL, joins := [], loops := [], draws := [(6, [0, 1, 2, 3, 4, 5, 6, 7, 8, 9, 10, 11], 0)], pars := [] }
theorem F216_eq (a0 a1 a2 : Value) (w : World) (R : Value → World → Prop) : vcF Tryz.prog cfg216 Tryz.f216 [a0, a1, a2] w R = F216 a0 a1 a2 w R := by kernel_rfl
theorem F216_call {a0 a1 a2 : Value} {w : World} {R : Value → World → Prop} (h : F216 a0 a1 a2 w R) : CALL Tryz.prog 216 [a0, a1, a2] w R :=
  call_of (g := cfg216) ent mixed Tryz.func216 (Nat.le_of_ble_eq_true (by kernel_rfl)) (by kernel_rfl) (F216_eq a0 a1 a2 w R ▸ h)
theorem l21Go_ok {w : World} {v0 : Value} {W0 : World} {c : DCode} {v1 : Value} {W1 : World} {s : DState} {t : Int}  (h0 : Is W0 v0 c) (e0 : Ext W0 w) (h1 : Is W1 v1 s) (e1 : Ext W1 w) (hc : CodeR c) (hs : StateR c s) :
    CALL Tryz.prog 216 [v0, v1, .int .i64 t] w fun r w' => Ext w w' ∧ (r = .bool (decide (GoR c s t))) := by
  refine F216_call ?_
  unfold F216
  have hat := at_lt hs t
  refine op_boxS ty35 rfl h0 e0 fun w1_ hx1_ hA3 hV3 => ?_
  refine op_boxS ty37 rfl h1 (e1.trans hx1_) fun w2_ hx2_ hA4 hV4 => ?_
  refine rd_var hV4 (Ext.refl w2_) ?_
  refine (specAtOf_ok h1 (e1.trans (hx1_.trans hx2_))).mono ?_
  rintro _ w3_ ⟨hx3_, rfl⟩
  refine rd_lss ?_
  refine br (fun c1 => ?_) (fun c1 => ?_)
  · refine ⟨(hx1_.trans (hx2_.trans hx3_)), ?_⟩
    have : ¬ GoR c s t := fun h => by have := h.1; omega
    simp only [this, decide_false]
  · refine rd_fld fd35_4 ?_
    refine rd_load ty33 (at_DCode_4 hA3) (hx2_.trans hx3_) fun v14 h14 => ?_
    refine rd_index u33 ty136 h14 (by omega) (by omega) fun b16 o16 h16 => ?_
    rw [insAt_get] at h16
    change At _ _ _ (atI c s t) at h16
    have hat0 : 0 ≤ atOf s t := by omega
    have hth := at_thread hat0
    refine rd_fld fd136_0 ?_
    refine rd_loadI ty3 (at_DIns_0 h16) (hx2_.trans hx3_) fun hI18 => ?_
    refine rd_eql ?_
    refine br (fun c2 => ?_) (fun c2 => ?_)
    · have hx4_ := ext_drew w3_
      refine rd_fld fd37_1 ?_
      refine rd_load ty23 (at_DState_1 hA4) (hx3_.trans hx4_) fun v22 h22 => ?_
      refine rd_fld fd35_4 ?_
      refine rd_load ty33 (at_DCode_4 hA3) (hx2_.trans (hx3_.trans hx4_)) fun v24 h24 => ?_
      refine rd_index u33 ty136 h24 (by omega) (by omega) fun b26 o26 h26 => ?_
      rw [insAt_get] at h26
      change At _ _ _ (atI c s t) at h26
      have hlk := atI_lock hc hs hat0 (.inl c2)
      refine rd_fld fd136_1 ?_
      refine rd_loadI ty3 (at_DIns_1 h26) (hx2_.trans (hx3_.trans hx4_)) fun hI28 => ?_
      refine rd_index u23 ty3 h22 (by omega) (by omega) fun b29 o29 h29 => ?_
      refine rd_loadI ty3 h29 (hx3_.trans hx4_) fun hI30 => ?_
      refine rd_eql ?_
      refine ⟨(hx1_.trans (hx2_.trans (hx3_.trans hx4_))), ?_⟩
      congr 1
      rw [decide_eq_decide, ow_get' hlk.1 hlk.2]
      exact ⟨fun h => ⟨hat0, fun _ => h, fun h4 => by omega⟩, fun h => h.2.1 c2⟩
    · refine rd_eql ?_
      refine br (fun c3 => ?_) (fun c3 => ?_)
      · refine rd_fld fd37_2 ?_
        refine rd_load ty27 (at_DState_2 hA4) hx3_ fun v35 h35 => ?_
        refine rd_index u27 ty23 h35 (by omega) (by omega) fun b37 o37 h37 => ?_
        refine rd_load ty23 h37 hx3_ fun v38 h38 => ?_
        have hln39 := is_len h38
        refine rd_len u23 h38 ?_
        refine rd_lss ?_
        refine ⟨(hx1_.trans (hx2_.trans hx3_)), ?_⟩
        congr 1
        rw [decide_eq_decide, stk_get hth.2]
        exact ⟨fun h => ⟨hat0, fun h6 => by omega, fun _ => h⟩, fun h => h.2.2 c3⟩
      · refine ⟨(hx1_.trans (hx2_.trans hx3_)), ?_⟩
        have : GoR c s t := ⟨hat0, fun h6 => absurd h6 c2, fun h4 => absurd h4 c3⟩
        simp only [this, decide_true]
def F222 (a0 a1 a2 : Value) (w : World) (R : Value → World → Prop) : Prop :=
 OP Tryz.prog (Instr.box 35 a0) w fun x3 w =>
 OP Tryz.prog (Instr.box 37 a1) w fun x4 w =>
 RD Tryz.prog (Instr.loadAt 37 x4) w fun x8 =>
 CALL Tryz.prog 69 [x8, a2] w fun x10 w =>
 RD Tryz.prog (Instr.loadAt 35 x3) w fun x11 =>
 CALL Tryz.prog 160 [x11, x10] w fun x13 w =>
 RD Tryz.prog (Op.unary .not x13) w fun x14 =>
 BR x14
 (R (Value.bool false) w)
 (RD Tryz.prog (Instr.fieldAt 35 x3 4) w fun x15 =>
 RD Tryz.prog (Instr.loadAt 33 x15) w fun x16 =>
 RD Tryz.prog (Instr.indexAt 33 x16 x10) w fun x18 =>
 RD Tryz.prog (Instr.fieldAt 136 x18 0) w fun x19 =>
 RD Tryz.prog (Instr.loadAt 3 x19) w fun x20 =>
 RD Tryz.prog (bin .eql 3 (.tmp 0) (.const undef) x20 (Value.int .i64 6)) w fun x22 =>
 BR x22
 ((fun w => RD Tryz.prog (Instr.loadAt 37 x4) w fun x23 =>
 RD Tryz.prog (Instr.fieldAt 35 x3 4) w fun x24 =>
 RD Tryz.prog (Instr.loadAt 33 x24) w fun x25 =>
 RD Tryz.prog (Instr.indexAt 33 x25 x10) w fun x27 =>
 RD Tryz.prog (Instr.fieldAt 136 x27 1) w fun x28 =>
 RD Tryz.prog (Instr.loadAt 3 x28) w fun x29 =>
 CALL Tryz.prog 166 [x23, x29] w fun x30 w =>
 RD Tryz.prog (bin .lss 3 (.tmp 0) (.const undef) x30 (Value.int .i64 0)) w fun x31 =>
 R x31 w) (World.drew1 w))
 (RD Tryz.prog (bin .eql 3 (.tmp 0) (.const undef) x20 (Value.int .i64 4)) w fun x33 =>
 BR x33
 (RD Tryz.prog (Instr.fieldAt 37 x4 2) w fun x34 =>
 RD Tryz.prog (Instr.loadAt 27 x34) w fun x35 =>
 RD Tryz.prog (Instr.indexAt 27 x35 a2) w fun x37 =>
 RD Tryz.prog (Instr.loadAt 23 x37) w fun x38 =>
 RD Tryz.prog (Builtin.len_ #[23] 3 [x38].toArray) w fun x39 =>
 RD Tryz.prog (bin .lss 3 (.tmp 0) (.const undef) x39 (Value.int .i64 8)) w fun x40 =>
 R x40 w)
 (R (Value.bool true) w)))
def cfg222 : Cfg := { ext := extL, joins := [], loops := [], draws := [(6, [0, 1, 2, 3, 4, 5, 6, 7, 8, 9], 0)], pars := [] }
theorem F222_eq (a0 a1 a2 : Value) (w : World) (R : Value → World → Prop) : vcF Tryz.prog cfg222 Tryz.f222 [a0, a1, a2] w R = F222 a0 a1 a2 w R := by kernel_rfl
theorem F222_call {a0 a1 a2 : Value} {w : World} {R : Value → World → Prop} (h : F222 a0 a1 a2 w R) : CALL Tryz.prog 222 [a0, a1, a2] w R :=
  call_of (g := cfg222) ent mixed Tryz.func222 (Nat.le_of_ble_eq_true (by kernel_rfl)) (by kernel_rfl) (F222_eq a0 a1 a2 w R ▸ h)
theorem goes_ok {w : World} {v0 : Value} {W0 : World} {c : DCode} {v1 : Value} {W1 : World} {s : DState} {t : Int}  (h0 : Is W0 v0 c) (e0 : Ext W0 w) (h1 : Is W1 v1 s) (e1 : Ext W1 w) (hc : CodeR c) (hs : StateR c s) :
    CALL Tryz.prog 222 [v0, v1, .int .i64 t] w fun r w' => Ext w w' ∧ (r = .bool (decide (GoR c s t))) := by
  refine F222_call ?_
  unfold F222
  have hat := at_lt hs t
  refine op_boxS ty35 rfl h0 e0 fun w1_ hx1_ hA3 hV3 => ?_
  refine op_boxS ty37 rfl h1 (e1.trans hx1_) fun w2_ hx2_ hA4 hV4 => ?_
  refine rd_var hV4 (Ext.refl w2_) ?_
  refine (implAtOf_ok h1 (e1.trans (hx1_.trans hx2_))).mono ?_
  rintro _ w3_ ⟨hx3_, rfl⟩
  refine rd_var hV3 (hx2_.trans hx3_) ?_
  refine (isPlace_ok h0 (e0.trans (hx1_.trans (hx2_.trans hx3_)))).mono ?_
  rintro _ w4_ ⟨hx4_, rfl⟩
  refine rd_nodec ?_
  refine br (fun c1 => ?_) (fun c1 => ?_)
  · refine ⟨(hx1_.trans (hx2_.trans (hx3_.trans hx4_))), ?_⟩
    have : ¬ GoR c s t := fun h => by have := h.1; omega
    simp only [this, decide_false]
  · refine rd_fld fd35_4 ?_
    refine rd_load ty33 (at_DCode_4 hA3) (hx2_.trans (hx3_.trans hx4_)) fun v16 h16 => ?_
    refine rd_index u33 ty136 h16 (by omega) (by omega) fun b18 o18 h18 => ?_
    rw [insAt_get] at h18
    change At _ _ _ (atI c s t) at h18
    have hat0 : 0 ≤ atOf s t := by omega
    have hth := at_thread hat0
    refine rd_fld fd136_0 ?_
    refine rd_loadI ty3 (at_DIns_0 h18) (hx2_.trans (hx3_.trans hx4_)) fun hI20 => ?_
    refine rd_eql ?_
    refine br (fun c2 => ?_) (fun c2 => ?_)
    · have hx5_ := ext_drew w4_
      refine rd_var hV4 (hx3_.trans (hx4_.trans hx5_)) ?_
      refine rd_fld fd35_4 ?_
      refine rd_load ty33 (at_DCode_4 hA3) (hx2_.trans (hx3_.trans (hx4_.trans hx5_))) fun v25 h25 => ?_
      refine rd_index u33 ty136 h25 (by omega) (by omega) fun b27 o27 h27 => ?_
      rw [insAt_get] at h27
      change At _ _ _ (atI c s t) at h27
      have hlk := atI_lock hc hs hat0 (.inl c2)
      have hor := ow_range hs hlk.1 hlk.2
      refine rd_fld fd136_1 ?_
      refine rd_loadI ty3 (at_DIns_1 h27) (hx2_.trans (hx3_.trans (hx4_.trans hx5_))) fun hI29 => ?_
      refine (holderOf_ok h1 (e1.trans (hx1_.trans (hx2_.trans (hx3_.trans (hx4_.trans hx5_))))) (by omega) (by omega)).mono ?_
      rintro _ w6_ ⟨hx6_, rfl⟩
      refine rd_lss ?_
      refine ⟨(hx1_.trans (hx2_.trans (hx3_.trans (hx4_.trans (hx5_.trans hx6_))))), ?_⟩
      congr 1
      rw [decide_eq_decide]
      exact ⟨fun h => ⟨hat0, fun _ => by omega, fun h4 => by omega⟩, fun h => by have := h.2.1 c2; omega⟩
    · refine rd_eql ?_
      refine br (fun c3 => ?_) (fun c3 => ?_)
      · refine rd_fld fd37_2 ?_
        refine rd_load ty27 (at_DState_2 hA4) (hx3_.trans hx4_) fun v35 h35 => ?_
        refine rd_index u27 ty23 h35 (by omega) (by omega) fun b37 o37 h37 => ?_
        refine rd_load ty23 h37 (hx3_.trans hx4_) fun v38 h38 => ?_
        have hln39 := is_len h38
        refine rd_len u23 h38 ?_
        refine rd_lss ?_
        refine ⟨(hx1_.trans (hx2_.trans (hx3_.trans hx4_))), ?_⟩
        congr 1
        rw [decide_eq_decide, stk_get hth.2]
        exact ⟨fun h => ⟨hat0, fun h6 => by omega, fun _ => h⟩, fun h => h.2.2 c3⟩
      · refine ⟨(hx1_.trans (hx2_.trans (hx3_.trans hx4_))), ?_⟩
        have : GoR c s t := ⟨hat0, fun h6 => absurd h6 c2, fun h4 => absurd h4 c3⟩
        simp only [this, decide_true]
def waitsOf (c : DCode) (s : DState) (t : Int) : Int := if 0 ≤ atOf s t ∧ (atI c s t).op = 6 ∧ 0 ≤ ow s (atI c s t).arg then (atI c s t).arg else -1
def F157 (a0 a1 a2 : Value) (w : World) (R : Value → World → Prop) : Prop :=
 OP Tryz.prog (Instr.box 35 a0) w fun x3 w =>
 OP Tryz.prog (Instr.box 37 a1) w fun x4 w =>
 RD Tryz.prog (Instr.loadAt 37 x4) w fun x8 =>
 CALL Tryz.prog 58 [x8, a2] w fun x10 w =>
 (fun w => RD Tryz.prog (bin .lss 3 (.tmp 0) (.const undef) x10 (Value.int .i64 0)) w fun x12 =>
 BR x12
 (R (Value.int .i64 (-1)) w)
 (RD Tryz.prog (Instr.fieldAt 35 x3 4) w fun x14 =>
 RD Tryz.prog (Instr.loadAt 33 x14) w fun x15 =>
 RD Tryz.prog (Instr.indexAt 33 x15 x10) w fun x17 =>
 RD Tryz.prog (Instr.fieldAt 136 x17 0) w fun x18 =>
 RD Tryz.prog (Instr.loadAt 3 x18) w fun x19 =>
 RD Tryz.prog (bin .neq 3 (.tmp 0) (.const undef) x19 (Value.int .i64 6)) w fun x20 =>
 BR x20
 (R (Value.int .i64 (-1)) w)
 (RD Tryz.prog (Instr.fieldAt 37 x4 1) w fun x23 =>
 RD Tryz.prog (Instr.loadAt 23 x23) w fun x24 =>
 RD Tryz.prog (Instr.fieldAt 35 x3 4) w fun x25 =>
 RD Tryz.prog (Instr.loadAt 33 x25) w fun x26 =>
 RD Tryz.prog (Instr.indexAt 33 x26 x10) w fun x28 =>
 RD Tryz.prog (Instr.fieldAt 136 x28 1) w fun x29 =>
 RD Tryz.prog (Instr.loadAt 3 x29) w fun x30 =>
 RD Tryz.prog (Instr.indexAt 23 x24 x30) w fun x31 =>
 RD Tryz.prog (Instr.loadAt 3 x31) w fun x32 =>
 RD Tryz.prog (bin .lss 3 (.tmp 0) (.const undef) x32 (Value.int .i64 0)) w fun x33 =>
 BR x33
 (R (Value.int .i64 (-1)) w)
 (RD Tryz.prog (Instr.fieldAt 35 x3 4) w fun x35 =>
 RD Tryz.prog (Instr.loadAt 33 x35) w fun x36 =>
 RD Tryz.prog (Instr.indexAt 33 x36 x10) w fun x38 =>
 RD Tryz.prog (Instr.fieldAt 136 x38 1) w fun x39 =>
 RD Tryz.prog (Instr.loadAt 3 x39) w fun x40 =>
 R x40 w)))) (World.drew1 w)
def cfg157 : Cfg := { ext := extL, joins := [], loops := [], draws := [(2, [0, 1, 2, 3, 4, 5, 6, 7, 8, 9, 10, 11, 12, 13, 14, 15, 16, 17, 18, 19, 20, 21, 22, 23], 0)], pars := [] }
theorem F157_eq (a0 a1 a2 : Value) (w : World) (R : Value → World → Prop) : vcF Tryz.prog cfg157 Tryz.f157 [a0, a1, a2] w R = F157 a0 a1 a2 w R := by kernel_rfl
theorem F157_call {a0 a1 a2 : Value} {w : World} {R : Value → World → Prop} (h : F157 a0 a1 a2 w R) : CALL Tryz.prog 157 [a0, a1, a2] w R :=
  call_of (g := cfg157) ent mixed Tryz.func157 (Nat.le_of_ble_eq_true (by kernel_rfl)) (by kernel_rfl) (F157_eq a0 a1 a2 w R ▸ h)
theorem l24Waits_ok {w : World} {v0 : Value} {W0 : World} {c : DCode} {v1 : Value} {W1 : World} {s : DState} {t : Int}  (h0 : Is W0 v0 c) (e0 : Ext W0 w) (h1 : Is W1 v1 s) (e1 : Ext W1 w) (hc : CodeR c) (hs : StateR c s) :
    CALL Tryz.prog 157 [v0, v1, .int .i64 t] w fun r w' => Ext w w' ∧ (r = .int .i64 (waitsOf c s t)) := by
  refine F157_call ?_
  unfold F157
  have hat := at_lt hs t
  refine op_boxS ty35 rfl h0 e0 fun w1_ hx1_ hA3 hV3 => ?_
  refine op_boxS ty37 rfl h1 (e1.trans hx1_) fun w2_ hx2_ hA4 hV4 => ?_
  refine rd_var hV4 (Ext.refl w2_) ?_
  refine (specAtOf_ok h1 (e1.trans (hx1_.trans hx2_))).mono ?_
  rintro _ w3_ ⟨hx3_, rfl⟩
  have hx4_ := ext_drew w3_
  refine rd_lss ?_
  refine br (fun c1 => ?_) (fun c1 => ?_)
  · refine ⟨(hx1_.trans (hx2_.trans (hx3_.trans hx4_))), ?_⟩
    unfold waitsOf; rw [if_neg (by omega)]
  · refine rd_fld fd35_4 ?_
    refine rd_load ty33 (at_DCode_4 hA3) (hx2_.trans (hx3_.trans hx4_)) fun v15 h15 => ?_
    refine rd_index u33 ty136 h15 (by omega) (by omega) fun b17 o17 h17 => ?_
    rw [insAt_get] at h17
    change At _ _ _ (atI c s t) at h17
    have hat0 : 0 ≤ atOf s t := by omega
    refine rd_fld fd136_0 ?_
    refine rd_loadI ty3 (at_DIns_0 h17) (hx2_.trans (hx3_.trans hx4_)) fun hI19 => ?_
    refine rd_neq ?_
    refine br (fun c2 => ?_) (fun c2 => ?_)
    · refine ⟨(hx1_.trans (hx2_.trans (hx3_.trans hx4_))), ?_⟩
      unfold waitsOf; rw [if_neg (fun h => c2 h.2.1)]
    · refine rd_fld fd37_1 ?_
      refine rd_load ty23 (at_DState_1 hA4) (hx3_.trans hx4_) fun v24 h24 => ?_
      refine rd_fld fd35_4 ?_
      refine rd_load ty33 (at_DCode_4 hA3) (hx2_.trans (hx3_.trans hx4_)) fun v26 h26 => ?_
      refine rd_index u33 ty136 h26 (by omega) (by omega) fun b28 o28 h28 => ?_
      rw [insAt_get] at h28
      change At _ _ _ (atI c s t) at h28
      have hlk := atI_lock hc hs hat0 (.inl (Decidable.not_not.1 c2))
      refine rd_fld fd136_1 ?_
      refine rd_loadI ty3 (at_DIns_1 h28) (hx2_.trans (hx3_.trans hx4_)) fun hI30 => ?_
      refine rd_index u23 ty3 h24 (by omega) (by omega) fun b31 o31 h31 => ?_
      refine rd_loadI ty3 h31 (hx3_.trans hx4_) fun hI32 => ?_
      refine rd_lss ?_
      refine br (fun c3 => ?_) (fun c3 => ?_)
      · refine ⟨(hx1_.trans (hx2_.trans (hx3_.trans hx4_))), ?_⟩
        rw [ow_get' hlk.1 hlk.2] at c3
        unfold waitsOf; rw [if_neg (by omega)]
      · refine rd_fld fd35_4 ?_
        refine rd_load ty33 (at_DCode_4 hA3) (hx2_.trans (hx3_.trans hx4_)) fun v36 h36 => ?_
        refine rd_index u33 ty136 h36 (by omega) (by omega) fun b38 o38 h38 => ?_
        rw [insAt_get] at h38
        change At _ _ _ (atI c s t) at h38
        refine rd_fld fd136_1 ?_
        refine rd_loadI ty3 (at_DIns_1 h38) (hx2_.trans (hx3_.trans hx4_)) fun hI40 => ?_
        refine ⟨(hx1_.trans (hx2_.trans (hx3_.trans hx4_))), ?_⟩
        rw [ow_get' hlk.1 hlk.2] at c3
        unfold waitsOf; rw [if_pos ⟨hat0, by omega, by omega⟩]
def F165 (a0 a1 a2 : Value) (w : World) (R : Value → World → Prop) : Prop :=
 OP Tryz.prog (Instr.box 35 a0) w fun x3 w =>
 OP Tryz.prog (Instr.box 37 a1) w fun x4 w =>
 RD Tryz.prog (Instr.loadAt 37 x4) w fun x8 =>
 CALL Tryz.prog 69 [x8, a2] w fun x10 w =>
 (fun w => RD Tryz.prog (Instr.loadAt 35 x3) w fun x11 =>
 CALL Tryz.prog 160 [x11, x10] w fun x13 w =>
 RD Tryz.prog (Op.unary .not x13) w fun x14 =>
 BR x14
 (R (Value.int .i64 (-1)) w)
 (RD Tryz.prog (Instr.fieldAt 35 x3 4) w fun x16 =>
 RD Tryz.prog (Instr.loadAt 33 x16) w fun x17 =>
 RD Tryz.prog (Instr.indexAt 33 x17 x10) w fun x19 =>
 RD Tryz.prog (Instr.fieldAt 136 x19 0) w fun x20 =>
 RD Tryz.prog (Instr.loadAt 3 x20) w fun x21 =>
 RD Tryz.prog (bin .neq 3 (.tmp 0) (.const undef) x21 (Value.int .i64 6)) w fun x22 =>
 BR x22
 (R (Value.int .i64 (-1)) w)
 (RD Tryz.prog (Instr.loadAt 37 x4) w fun x25 =>
 RD Tryz.prog (Instr.fieldAt 35 x3 4) w fun x26 =>
 RD Tryz.prog (Instr.loadAt 33 x26) w fun x27 =>
 RD Tryz.prog (Instr.indexAt 33 x27 x10) w fun x29 =>
 RD Tryz.prog (Instr.fieldAt 136 x29 1) w fun x30 =>
 RD Tryz.prog (Instr.loadAt 3 x30) w fun x31 =>
 CALL Tryz.prog 166 [x25, x31] w fun x32 w =>
 RD Tryz.prog (bin .lss 3 (.tmp 0) (.const undef) x32 (Value.int .i64 0)) w fun x33 =>
 BR x33
 (R (Value.int .i64 (-1)) w)
 (RD Tryz.prog (Instr.fieldAt 35 x3 4) w fun x35 =>
 RD Tryz.prog (Instr.loadAt 33 x35) w fun x36 =>
 RD Tryz.prog (Instr.indexAt 33 x36 x10) w fun x38 =>
 RD Tryz.prog (Instr.fieldAt 136 x38 1) w fun x39 =>
 RD Tryz.prog (Instr.loadAt 3 x39) w fun x40 =>
 R x40 w)))) (World.drew1 w)
def cfg165 : Cfg := { ext := extL, joins := [], loops := [], draws := [(2, [0, 1, 2, 3, 4, 5, 6, 7, 8, 9, 10, 11, 12, 13, 14, 15, 16, 17, 18, 19, 20, 21, 22, 23], 0)], pars := [] }
theorem F165_eq (a0 a1 a2 : Value) (w : World) (R : Value → World → Prop) : vcF Tryz.prog cfg165 Tryz.f165 [a0, a1, a2] w R = F165 a0 a1 a2 w R := by kernel_rfl
theorem F165_call {a0 a1 a2 : Value} {w : World} {R : Value → World → Prop} (h : F165 a0 a1 a2 w R) : CALL Tryz.prog 165 [a0, a1, a2] w R :=
  call_of (g := cfg165) ent mixed Tryz.func165 (Nat.le_of_ble_eq_true (by kernel_rfl)) (by kernel_rfl) (F165_eq a0 a1 a2 w R ▸ h)
theorem waits_ok {w : World} {v0 : Value} {W0 : World} {c : DCode} {v1 : Value} {W1 : World} {s : DState} {t : Int}  (h0 : Is W0 v0 c) (e0 : Ext W0 w) (h1 : Is W1 v1 s) (e1 : Ext W1 w) (hc : CodeR c) (hs : StateR c s) :
    CALL Tryz.prog 165 [v0, v1, .int .i64 t] w fun r w' => Ext w w' ∧ (r = .int .i64 (waitsOf c s t)) := by
  refine F165_call ?_
  unfold F165
  have hat := at_lt hs t
  refine op_boxS ty35 rfl h0 e0 fun w1_ hx1_ hA3 hV3 => ?_
  refine op_boxS ty37 rfl h1 (e1.trans hx1_) fun w2_ hx2_ hA4 hV4 => ?_
  refine rd_var hV4 (Ext.refl w2_) ?_
  refine (implAtOf_ok h1 (e1.trans (hx1_.trans hx2_))).mono ?_
  rintro _ w3_ ⟨hx3_, rfl⟩
  have hx4_ := ext_drew w3_
  refine rd_var hV3 (hx2_.trans (hx3_.trans hx4_)) ?_
  refine (isPlace_ok h0 (e0.trans (hx1_.trans (hx2_.trans (hx3_.trans hx4_))))).mono ?_
  rintro _ w5_ ⟨hx5_, rfl⟩
  refine rd_nodec ?_
  refine br (fun c1 => ?_) (fun c1 => ?_)
  · refine ⟨(hx1_.trans (hx2_.trans (hx3_.trans (hx4_.trans hx5_)))), ?_⟩
    unfold waitsOf; rw [if_neg (by omega)]
  · refine rd_fld fd35_4 ?_
    refine rd_load ty33 (at_DCode_4 hA3) (hx2_.trans (hx3_.trans (hx4_.trans hx5_))) fun v17 h17 => ?_
    refine rd_index u33 ty136 h17 (by omega) (by omega) fun b19 o19 h19 => ?_
    rw [insAt_get] at h19
    change At _ _ _ (atI c s t) at h19
    have hat0 : 0 ≤ atOf s t := by omega
    refine rd_fld fd136_0 ?_
    refine rd_loadI ty3 (at_DIns_0 h19) (hx2_.trans (hx3_.trans (hx4_.trans hx5_))) fun hI21 => ?_
    refine rd_neq ?_
    refine br (fun c2 => ?_) (fun c2 => ?_)
    · refine ⟨(hx1_.trans (hx2_.trans (hx3_.trans (hx4_.trans hx5_)))), ?_⟩
      unfold waitsOf; rw [if_neg (fun h => c2 h.2.1)]
    · refine rd_var hV4 (hx3_.trans (hx4_.trans hx5_)) ?_
      refine rd_fld fd35_4 ?_
      refine rd_load ty33 (at_DCode_4 hA3) (hx2_.trans (hx3_.trans (hx4_.trans hx5_))) fun v27 h27 => ?_
      refine rd_index u33 ty136 h27 (by omega) (by omega) fun b29 o29 h29 => ?_
      rw [insAt_get] at h29
      change At _ _ _ (atI c s t) at h29
      have hlk := atI_lock hc hs hat0 (.inl (Decidable.not_not.1 c2))
      refine rd_fld fd136_1 ?_
      refine rd_loadI ty3 (at_DIns_1 h29) (hx2_.trans (hx3_.trans (hx4_.trans hx5_))) fun hI31 => ?_
      refine (holderOf_ok h1 (e1.trans (hx1_.trans (hx2_.trans (hx3_.trans (hx4_.trans hx5_))))) (by omega) (by omega)).mono ?_
      rintro _ w6_ ⟨hx6_, rfl⟩
      refine rd_lss ?_
      refine br (fun c3 => ?_) (fun c3 => ?_)
      · refine ⟨(hx1_.trans (hx2_.trans (hx3_.trans (hx4_.trans (hx5_.trans hx6_))))), ?_⟩
        unfold waitsOf; rw [if_neg (by omega)]
      · refine rd_fld fd35_4 ?_
        refine rd_load ty33 (at_DCode_4 hA3) (hx2_.trans (hx3_.trans (hx4_.trans (hx5_.trans hx6_)))) fun v36 h36 => ?_
        refine rd_index u33 ty136 h36 (by omega) (by omega) fun b38 o38 h38 => ?_
        rw [insAt_get] at h38
        change At _ _ _ (atI c s t) at h38
        refine rd_fld fd136_1 ?_
        refine rd_loadI ty3 (at_DIns_1 h38) (hx2_.trans (hx3_.trans (hx4_.trans (hx5_.trans hx6_)))) fun hI40 => ?_
        refine ⟨(hx1_.trans (hx2_.trans (hx3_.trans (hx4_.trans (hx5_.trans hx6_))))), ?_⟩
        unfold waitsOf; rw [if_pos ⟨hat0, by omega, by omega⟩]
def readyTo (c : DCode) (s : DState) : Nat → List Int
  | 0 => []
  | k + 1 => if GoR c s k then readyTo c s k ++ [(k : Int)] else readyTo c s k
def readyL (c : DCode) (s : DState) : List Int := readyTo c s s.stacks.length
def stoppedIn (c : DCode) (s : DState) : Prop := (CodeR c ∧ StateR c s) ∧ ¬ overIn s ∧ readyL c s = []
instance (c : DCode) (s : DState) : Decidable (stoppedIn c s) := by unfold stoppedIn; infer_instance
end Go.Proofs.YtjgfldfbljmhhaaGreat
namespace Go.Proofs.YtjgfldfbljmhhaaGreat
open Go Go.Sh Go.Proofs
set_option linter.unusedVariables false
def F102 (a0 : Value) (w : World) (R : Value → World → Prop) : Prop :=
 CALL Tryz.prog 168 [a0] w fun x5 w =>
 CALL Tryz.prog 169 [x5, (Value.func (.func 170) #[] #[])] w fun x7 w =>
 CALL Tryz.prog 172 [x5] w fun x9 w =>
 CALL Tryz.prog 171 [x9] w fun x10 w =>
 R x10 w
def cfg102 : Cfg := { ext := extL, joins := [], loops := [], draws := [], pars := [] }
theorem F102_eq (a0 : Value) (w : World) (R : Value → World → Prop) : vcF Tryz.prog cfg102 Tryz.f102 [a0] w R = F102 a0 w R := by kernel_rfl
theorem F102_call {a0 : Value} {w : World} {R : Value → World → Prop} (h : F102 a0 w R) : CALL Tryz.prog 102 [a0] w R :=
  call_of (g := cfg102) ent mixed Tryz.func102 (Nat.le_of_ble_eq_true (by kernel_rfl)) (by kernel_rfl) (F102_eq a0 w R ▸ h)
set_option linter.unusedVariables false
set_option linter.unusedSimpArgs false
theorem ddg_mem {z : DRace} : ∀ {l : List DRace} {x : DRace}, z ∈ x :: ddg x l ↔ z ∈ x :: l
  | [], x => Iff.rfl
  | y :: l, x => by
    rw [ddg]
    split
    · rename_i h
      subst h
      rw [ddg_mem (l := l)]
      simp
    · rw [List.mem_cons, ddg_mem (l := l), List.mem_cons (a := z) (b := x)]
theorem ddg_pw : ∀ {l : List DRace} {x : DRace}, (x :: l).Pairwise (fun a b => ¬ ltR b a) → (x :: ddg x l).Pairwise ltR
  | [], x, _ => by simp [ddg]
  | y :: l, x, h => by
    rw [ddg]
    rw [List.pairwise_cons] at h
    have hy := h.2
    rw [List.pairwise_cons] at hy
    split
    · rename_i e
      subst e
      exact ddg_pw h.2
    · rename_i hne
      have ih := ddg_pw h.2
      have hxy : ltR x y := Decidable.byContradiction fun hc => hne (ltR_total (h.1 y (by simp)) hc)
      refine List.pairwise_cons.2 ⟨fun z hz => ?_, ih⟩
      rcases List.mem_cons.1 hz with rfl | hz
      · exact hxy
      · exact ltR_trans hxy ((List.pairwise_cons.1 ih).1 z hz)
theorem ddp_mem {l : List DRace} {z : DRace} : z ∈ ddp l ↔ z ∈ l := by
  cases l with
  | nil => exact Iff.rfl
  | cons x l => exact ddg_mem
theorem ddp_pw {l : List DRace} (h : l.Pairwise (fun a b => ¬ ltR b a)) : (ddp l).Pairwise ltR := by
  cases l with
  | nil => exact List.Pairwise.nil
  | cons x l => exact ddg_pw h
def canon (l : List DRace) : List DRace := l.foldl (fun acc r => putR r acc) []
theorem canon_snoc (l : List DRace) (r : DRace) : canon (l ++ [r]) = putR r (canon l) := by simp [canon]
theorem canonF_mem {x : DRace} : ∀ {l acc : List DRace}, x ∈ l.foldl (fun acc r => putR r acc) acc ↔ x ∈ acc ∨ x ∈ l
  | [], acc => by simp
  | y :: l, acc => by
    rw [List.foldl_cons, canonF_mem, putR_mem, List.mem_cons]
    constructor
    · rintro ((h | h) | h) <;> simp [h]
    · rintro (h | h | h) <;> simp [h]
theorem canon_mem {x : DRace} {l : List DRace} : x ∈ canon l ↔ x ∈ l := by unfold canon; rw [canonF_mem]; simp
theorem canonF_pw : ∀ {l acc : List DRace}, acc.Pairwise ltR → (l.foldl (fun acc r => putR r acc) acc).Pairwise ltR
  | [], acc, h => h
  | y :: l, acc, h => by
    rw [List.foldl_cons]
    exact canonF_pw (putR_sorted h)
theorem canon_pw (l : List DRace) : (canon l).Pairwise ltR := canonF_pw List.Pairwise.nil
theorem putR_len (r : DRace) : ∀ l : List DRace, (putR r l).length ≤ l.length + 1
  | [] => by simp [putR]
  | x :: l => by
    have := putR_len r l
    rw [putR]
    split
    · simpa using this
    · split <;> simp
theorem canonF_len : ∀ (l acc : List DRace), (l.foldl (fun acc r => putR r acc) acc).length ≤ acc.length + l.length
  | [], acc => by simp
  | y :: l, acc => by
    have h1 := canonF_len l (putR y acc)
    have h2 := putR_len y acc
    rw [List.foldl_cons, List.length_cons]; omega
theorem canon_len (l : List DRace) : (canon l).length ≤ l.length := by have := canonF_len l []; simpa [canon] using this
theorem canon_congr {l m : List DRace} (h : ∀ x, x ∈ l ↔ x ∈ m) : canon l = canon m := sorted_ext (canon_pw l) (canon_pw m) fun x => by rw [canon_mem, canon_mem, h]
theorem ddp_srt (l : List DRace) : ddp (srt l) = canon l := sorted_ext (ddp_pw (srt_pw l)) (canon_pw l) fun x => by rw [ddp_mem, canon_mem, (srt_perm l).mem_iff]
def clR (a b : DTouch) : List DRace := if clashP a b then [raceOf a b] else []
def gB (a : DTouch) (bs : List DTouch) : List DRace := bs.flatMap (clR a)
def gL (Ls : List (List DTouch)) (a : DTouch) : List DRace := Ls.flatMap (gB a)
def gA (Ls : List (List DTouch)) (xs : List DTouch) : List DRace := xs.flatMap (gL Ls)
def upTo (T : Nat → List DTouch) (t : Nat) : List (List DTouch) := (List.range t).map T
def gT (T : Nat → List DTouch) (n : Nat) : List DRace := (List.range n).flatMap fun t => gA (upTo T t) (T t)
def hA (bs xs : List DTouch) : List DRace := xs.flatMap fun a => gB a bs
def hU (T : Nat → List DTouch) (xs : List DTouch) (t : Nat) : List DRace := (List.range t).flatMap fun u => hA (T u) xs
def hT (T : Nat → List DTouch) (n : Nat) : List DRace := (List.range n).flatMap fun t => hU T (T t) t
theorem canon_gh (T : Nat → List DTouch) (n : Nat) : canon (gT T n) = canon (hT T n) := by
  refine canon_congr fun x => ?_
  simp only [gT, hT, gA, hU, gL, hA, upTo, List.mem_flatMap, List.mem_range, List.mem_map]
  constructor
  · rintro ⟨t, ht, a, ha, L, ⟨u, hu, rfl⟩, hx⟩
    exact ⟨t, ht, u, hu, a, ha, hx⟩
  · rintro ⟨t, ht, u, hu, a, ha, hx⟩
    exact ⟨t, ht, a, ha, T u, ⟨u, hu, rfl⟩, hx⟩
theorem flatMap_le {α β : Type} {f : α → List β} {k : Nat} : ∀ {l : List α}, (∀ x ∈ l, (f x).length ≤ k) → (l.flatMap f).length ≤ l.length * k
  | [], _ => by simp
  | x :: l, h => by
    have h1 := h x (by simp)
    have h2 := flatMap_le (l := l) fun y hy => h y (by simp [hy])
    rw [List.flatMap_cons, List.length_append, List.length_cons, Nat.add_mul]; omega
theorem flatMap_take {α β : Type} {f : α → List β} {l : List α} {k : Nat} (h : k < l.length) : (l.take (k + 1)).flatMap f = (l.take k).flatMap f ++ f l[k] := by
  rw [List.take_succ_eq_append_getElem h, List.flatMap_append]; simp
theorem range_flat {β : Type} {f : Nat → List β} (n : Nat) : (List.range (n + 1)).flatMap f = (List.range n).flatMap f ++ f n := by
  rw [List.range_succ, List.flatMap_append]; simp
theorem clR_len (a b : DTouch) : (clR a b).length ≤ 1 := by unfold clR; split <;> simp
theorem gB_len (a : DTouch) {bs : List DTouch} (h : bs.length ≤ 12) : (gB a bs).length ≤ 12 := by
  have := flatMap_le (f := clR a) (l := bs) (k := 1) fun x _ => clR_len a x
  unfold gB; omega
theorem gL_len {Ls : List (List DTouch)} (a : DTouch) (h : Ls.length ≤ 6) (h2 : ∀ L ∈ Ls, L.length ≤ 12) : (gL Ls a).length ≤ 72 := by
  have := flatMap_le (f := gB a) (l := Ls) (k := 12) fun x hx => gB_len a (h2 x hx)
  unfold gL; omega
theorem gA_len {Ls : List (List DTouch)} {xs : List DTouch} (h : Ls.length ≤ 6) (h2 : ∀ L ∈ Ls, L.length ≤ 12) (h3 : xs.length ≤ 12) : (gA Ls xs).length ≤ 864 := by
  have := flatMap_le (f := gL Ls) (l := xs) (k := 72) fun x hx => gL_len x h h2
  unfold gA; omega
theorem gT_len {T : Nat → List DTouch} (h : ∀ t, (T t).length ≤ 12) {n : Nat} (hn : n ≤ 6) : (gT T n).length ≤ 5184 := by
  have := flatMap_le (f := fun t => gA (upTo T t) (T t)) (l := List.range n) (k := 864) fun t ht => by
    have ht' := List.mem_range.1 ht
    exact gA_len (by simp [upTo]; omega) (fun L hL => by
      simp only [upTo, List.mem_map] at hL
      obtain ⟨u, _, rfl⟩ := hL
      exact h u) (h t)
  unfold gT
  rw [List.length_range] at this; omega
theorem hA_len {bs xs : List DTouch} (h : bs.length ≤ 12) (h2 : xs.length ≤ 12) : (hA bs xs).length ≤ 144 := by
  have := flatMap_le (f := fun a => gB a bs) (l := xs) (k := 12) fun x hx => gB_len x h
  unfold hA; omega
theorem hU_len {T : Nat → List DTouch} (h : ∀ t, (T t).length ≤ 12) {xs : List DTouch} (h2 : xs.length ≤ 12) {t : Nat} (ht : t ≤ 6) : (hU T xs t).length ≤ 864 := by
  have := flatMap_le (f := fun u => hA (T u) xs) (l := List.range t) (k := 144) fun u _ => hA_len (h u) h2
  rw [List.length_range] at this
  unfold hU; omega
theorem hT_len {T : Nat → List DTouch} (h : ∀ t, (T t).length ≤ 12) {n : Nat} (hn : n ≤ 6) : (hT T n).length ≤ 5184 := by
  have := flatMap_le (f := fun t => hU T (T t) t) (l := List.range n) (k := 864) fun t ht => hU_len h (h t) (by have := List.mem_range.1 ht; omega)
  rw [List.length_range] at this
  unfold hT; omega
def tA (c : DCode) (s : DState) (t : Nat) : List DTouch := if 0 ≤ atOf s t then touchAt c (atOf s t) 0 else []
theorem touchTo_at {c : DCode} {a held : Int} {i : DIns} {x : DTouch} : ∀ {k : Nat}, x ∈ touchTo c a held i k → x.at_ = a ∧ x.held = held
  | 0, h => by simp [touchTo] at h
  | k + 1, h => by
    rw [touchTo, List.mem_append, List.mem_append] at h
    rcases h with (h | h) | h
    · exact touchTo_at h
    · split at h
      · simp only [List.mem_cons, List.not_mem_nil, or_false] at h; subst h; exact ⟨rfl, rfl⟩
      · simp at h
    · split at h
      · simp only [List.mem_cons, List.not_mem_nil, or_false] at h; subst h; exact ⟨rfl, rfl⟩
      · simp at h
theorem touchAt_at {c : DCode} {a held : Int} {x : DTouch} (h : x ∈ touchAt c a held) : x.at_ = a ∧ x.held = held := by
  unfold touchAt at h
  split at h
  · exact touchTo_at h
  · simp at h
theorem tA_at {c : DCode} {s : DState} {t : Nat} {x : DTouch} (h : x ∈ tA c s t) : x.at_ = atOf s t ∧ x.held = 0 := by
  unfold tA at h
  split at h
  · exact touchAt_at h
  · simp at h
theorem tA_len {c : DCode} (s : DState) (hc : CodeR c) (t : Nat) : (tA c s t).length ≤ 12 := by
  unfold tA
  split
  · have h1 := touchAt_len c (atOf s t) 0
    have h2 := hc.1.1
    simp only [Bool.and_eq_true, decide_eq_true_eq] at h2
    omega
  · simp
def meets (c : DCode) (s : DState) : List DRace := canon (gT (tA c s) s.stacks.length)
theorem meets_h (c : DCode) (s : DState) : canon (hT (tA c s) s.stacks.length) = meets c s := (canon_gh _ _).symm
theorem meets_len {c : DCode} (s : DState) (hc : CodeR c) (hs : StateR c s) : (meets c s).length ≤ 5184 :=
  Nat.le_trans (canon_len _) (gT_len (tA_len s hc) hs.2.2.1.2)
theorem inOrder_ok {w w0 : World} {v : Value} {l : List DRace} (h : Is w0 v l) (hx : Ext w0 w) (hn : l.length ≤ 1000000) :
    CALL Tryz.prog 102 [v] w fun r w' => Ext w w' ∧ Own w.heap.size w' r (canon l) := by
  refine F102_call ?_
  unfold F102
  refine (cloneR_ok h hx (by omega)).mono ?_
  rintro v1 w1 ⟨hx1, ho1⟩
  refine (sortR_ok ho1.toI (by omega)).mono ?_
  rintro _ w2 ⟨hc2, ho2⟩
  refine (compact_ok ho2 (by rw [srt_len]; omega)).mono ?_
  rintro v3 w3 ⟨hc3, ho3⟩
  refine (clipR_ok ho3).mono ?_
  rintro v4 w4 ⟨hx4, ho4⟩
  rw [ddp_srt] at ho4
  exact ⟨((hx1.chgI hc2 (Nat.le_refl _)).chgI hc3 (Nat.le_refl _)).trans hx4, ho4.own⟩
end Go.Proofs.YtjgfldfbljmhhaaGreat
namespace Go.Proofs.YtjgfldfbljmhhaaGreat
open Go Go.Sh Go.Proofs
set_option linter.unusedVariables false
def F96 (a0 a1 : Value) (w : World) (R : Value → World → Prop) : Prop :=
 OP Tryz.prog (Instr.box 35 a0) w fun x2 w =>
 OP Tryz.prog (Instr.box 37 a1) w fun x3 w =>
 RD Tryz.prog (Instr.fieldAt 37 x3 2) w fun x15 =>
 RD Tryz.prog (Instr.loadAt 27 x15) w fun x16 =>
 RD Tryz.prog (Builtin.len_ #[27] 3 [x16].toArray) w fun x17 =>
 OP Tryz.prog (Instr.makeSlice 181 x17 x17) w fun x18 w =>
 RD Tryz.prog (Instr.fieldAt 37 x3 2) w fun x19 =>
 RD Tryz.prog (Instr.loadAt 27 x19) w fun x20 =>
 RD Tryz.prog (Builtin.len_ #[27] 3 [x20].toArray) w fun x21 =>
 LOOPI [6, 22] [(Value.slice none 0 0), (Value.int .i64 0)] w fun u4 w next4 =>
 RD Tryz.prog (bin .lss 3 (.tmp 0) (.tmp 0) (u4 22) x21) w fun x23 =>
 BR x23
 (JOIN [] (fun J9 =>
 RD Tryz.prog (Instr.loadAt 37 x3) w fun x25 =>
 CALL Tryz.prog 69 [x25, (u4 22)] w fun x27 w =>
 RD Tryz.prog (Instr.loadAt 35 x2) w fun x28 =>
 CALL Tryz.prog 160 [x28, x27] w fun x30 w =>
 BR x30
 (RD Tryz.prog (Instr.loadAt 35 x2) w fun x33 =>
 CALL Tryz.prog 161 [x33, x27, (Value.int .i64 0)] w fun x35 w =>
 RD Tryz.prog (Instr.indexAt 181 x18 (u4 22)) w fun x36 =>
 OPU Tryz.prog (Instr.storeAt 174 x36 x35) w fun w =>
 J9 [] w)
 (J9 [] w)) (fun u9 w =>
 RD Tryz.prog (Instr.indexAt 181 x18 (u4 22)) w fun x39 =>
 RD Tryz.prog (Instr.loadAt 174 x39) w fun x40 =>
 RD Tryz.prog (Builtin.len_ #[174] 3 [x40].toArray) w fun x41 =>
 LOOPI [6, 42] [(u4 6), (Value.int .i64 0)] w fun u10 w next10 =>
 RD Tryz.prog (bin .lss 3 (.tmp 0) (.tmp 0) (u10 42) x41) w fun x43 =>
 BR x43
 (RD Tryz.prog (Instr.indexAt 174 x40 (u10 42)) w fun x44 =>
 RD Tryz.prog (Instr.loadAt 177 x44) w fun x45 =>
 OP Tryz.prog (Instr.alloc 177 true (.tuple #[])) w fun x10 w =>
 OPU Tryz.prog (Instr.storeAt 177 x10 x45) w fun w =>
 RD Tryz.prog (Instr.sliceAt 181 x18 none (some (u4 22)) none) w fun x48 =>
 RD Tryz.prog (Builtin.len_ #[181] 3 [x48].toArray) w fun x49 =>
 LOOPI [6, 50] [(u10 6), (Value.int .i64 0)] w fun u13 w next13 =>
 RD Tryz.prog (bin .lss 3 (.tmp 0) (.tmp 0) (u13 50) x49) w fun x51 =>
 BR x51
 (RD Tryz.prog (Instr.indexAt 181 x48 (u13 50)) w fun x52 =>
 RD Tryz.prog (Instr.loadAt 174 x52) w fun x53 =>
 RD Tryz.prog (Builtin.len_ #[174] 3 [x53].toArray) w fun x55 =>
 LOOPI [6, 56] [(u13 6), (Value.int .i64 0)] w fun u16 w next16 =>
 RD Tryz.prog (bin .lss 3 (.tmp 0) (.tmp 0) (u16 56) x55) w fun x57 =>
 BR x57
 (RD Tryz.prog (Instr.indexAt 174 x53 (u16 56)) w fun x58 =>
 RD Tryz.prog (Instr.loadAt 177 x58) w fun x59 =>
 OP Tryz.prog (Instr.alloc 177 true (.tuple #[])) w fun x14 w =>
 OPU Tryz.prog (Instr.storeAt 177 x14 x59) w fun w =>
 RD Tryz.prog (Instr.loadAt 177 x10) w fun x60 =>
 RD Tryz.prog (Instr.loadAt 177 x14) w fun x61 =>
 CALL Tryz.prog 162 [x60, x61] w fun x62 w =>
 BR x62
 (RD Tryz.prog (Instr.loadAt 177 x10) w fun x64 =>
 RD Tryz.prog (Instr.loadAt 177 x14) w fun x65 =>
 CALL Tryz.prog 163 [x64, x65] w fun x66 w =>
 OP Tryz.prog (Instr.buildSlice 58 1 #[(0, x66)]) w fun x67 w =>
 OP Tryz.prog (Builtin.append_ #[58, 58] 58 [(u16 6), x67].toArray) w fun x68 w =>
 RD Tryz.prog (bin .add 3 (.tmp 0) (.const undef) (u16 56) (Value.int .i64 1)) w fun x69 =>
 next16 [x68, x69] w)
 (RD Tryz.prog (bin .add 3 (.tmp 0) (.const undef) (u16 56) (Value.int .i64 1)) w fun x69 =>
 next16 [(u16 6), x69] w))
 (RD Tryz.prog (bin .add 3 (.tmp 0) (.const undef) (u13 50) (Value.int .i64 1)) w fun x70 =>
 next13 [(u16 6), x70] w))
 (RD Tryz.prog (bin .add 3 (.tmp 0) (.const undef) (u10 42) (Value.int .i64 1)) w fun x71 =>
 next10 [(u13 6), x71] w))
 (RD Tryz.prog (bin .add 3 (.tmp 0) (.const undef) (u4 22) (Value.int .i64 1)) w fun x72 =>
 next4 [(u10 6), x72] w)))
 (CALL Tryz.prog 102 [(u4 6)] w fun x74 w =>
 R x74 w)
def cfg96 : Cfg := { ext := extL, joins := [(9, 137405399296, [])], loops := [(4, 9444732965739286255040, [6, 22]), (10, 4722366478471598724160, [6, 42]), (13, 2361182115534915784768, [6, 50]), (16, 1180519563123373391936, [6, 56])], draws := [], pars := [] }
theorem F96_eq (a0 a1 : Value) (w : World) (R : Value → World → Prop) : vcF Tryz.prog cfg96 Tryz.f96 [a0, a1] w R = F96 a0 a1 w R := by kernel_rfl
theorem F96_call {a0 a1 : Value} {w : World} {R : Value → World → Prop} (h : F96 a0 a1 w R) : CALL Tryz.prog 96 [a0, a1] w R :=
  call_of (g := cfg96) ent mixed Tryz.func96 (Nat.le_of_ble_eq_true (by kernel_rfl)) (by kernel_rfl) (F96_eq a0 a1 w R ▸ h)
set_option linter.unusedVariables false
set_option linter.unusedSimpArgs false
instance flatRawM : Flat Raw := ⟨fun h => h.1⟩
theorem ownI_cap {α : Type} [Rep α] {w : World} {lo hi : Nat} {v : Value} {x : α} (h : OwnI lo hi w v x) : OwnI lo (min hi w.heap.size) w v x := by
  obtain ⟨F, hm, hl⟩ := h
  exact ⟨F, hm, fun b hb => by have := hl b hb; have := hm.lt b hb; omega⟩
structure MI (w0 w : World) (lo hi g n : Nat) (out : Value) (L : List DRace) (vs : List Raw) (T : Nat → List DTouch) : Prop where
  ext : Ext w0 w
  row : RowI lo hi 109 w out L
  h1 : w0.heap.size ≤ lo
  h2 : lo ≤ hi
  h3 : hi ≤ w.heap.size
  seen : Mine [g] w (.slice (some ⟨g, 0, none⟩) n n) vs
  g0 : w0.heap.size ≤ g
  g1 : g < lo ∨ hi ≤ g
  len : vs.length = n
  el : ∀ k (h : k < vs.length), ∃ a b, OwnI a b w vs[k].v (T k) ∧ (b ≤ lo ∨ hi ≤ a) ∧ (b ≤ g ∨ g < a) ∧ b ≤ w.heap.size
section
variable {w0 w w' : World} {lo hi g n : Nat} {out : Value} {L : List DRace} {vs : List Raw} {T : Nat → List DTouch}
theorem MI.glt (h : MI w0 w lo hi g n out L vs T) : g < w.heap.size := h.seen.lt g (by simp)
theorem MI.step (h : MI w0 w lo hi g n out L vs T) (hx : Ext w w') : MI w0 w' lo hi g n out L vs T :=
  ⟨h.ext.trans hx, h.row.ext hx, h.h1, h.h2, Nat.le_trans h.h3 hx.size, h.seen.ext hx, h.g0, h.g1, h.len, fun k hk => by
    obtain ⟨a, b, ho, h1, h2, h3⟩ := h.el k hk
    exact ⟨a, b, ho.ext hx, h1, h2, Nat.le_trans h3 hx.size⟩⟩
theorem MI.push {out' : Value} {x : DRace} {lo' hi' : Nat} (h : MI w0 w lo hi g n out L vs T) (hc : ChgI lo hi w w') (hr : RowI lo' hi' 109 w' out' (L ++ [x])) (hd : lo' = lo ∧ hi' = hi ∨ lo' = w.heap.size ∧ hi' = w'.heap.size) :
    MI w0 w' lo' hi' g n out' (L ++ [x]) vs T := by
  have hg := h.glt
  have hs := hc.size
  have h1 := h.h1
  have h2 := h.h2
  have h3 := h.h3
  have h4 := h.ext.size
  have h5 := h.g1
  refine ⟨h.ext.chgI hc h1, hr, by omega, by omega, by omega, h.seen.keep fun b hb => ?_, h.g0, by omega, h.len, fun k hk => ?_⟩
  · simp only [List.mem_cons, List.not_mem_nil, or_false] at hb
    subst hb
    exact hc.block b hg h5
  · obtain ⟨a, b, ho, e1, e2, e3⟩ := h.el k hk
    exact ⟨a, b, ho.chg hc e1, by omega, e2, by omega⟩
theorem MI.row_at (h : MI w0 w lo hi g n out L vs T) {t : Nat} (ht : t ≤ n) (hn : 0 < n) : Is w (.slice (some ⟨g, 0, none⟩) t n) (vs.take t) := by
  have := is_take (a := some ⟨g, 0, none⟩) (cap := n) (l := vs) (by rw [h.len]; exact h.seen.is) t (by rw [h.len]; exact ht)
  exact this
theorem MI.store {t : Nat} {u : Value} {T' : Nat → List DTouch} {a b : Nat} (h : MI w0 w lo hi g n out L vs T) (ht : t < n) (hc : Chg [g] w w') (hm : Mine [g] w' (.slice (some ⟨g, 0, none⟩) n n) (vs.set t ⟨u⟩))
    (hu : OwnI a b w u (T' t)) (ha : hi ≤ a) (hg : g < a) (hT : ∀ k, k ≠ t → T' k = T k) : MI w0 w' lo hi g n out L (vs.set t ⟨u⟩) T' := by
  have hc' : ChgI g (g + 1) w w' := hc.toI fun b hb => by simp only [List.mem_cons, List.not_mem_nil, or_false] at hb; omega
  have h1 := h.h1
  have h2 := h.h2
  have h3 := h.h3
  have h4 := h.ext.size
  have h5 := h.g1
  have hs := hc'.size
  have hg0 := h.g0
  refine ⟨h.ext.chgI hc' hg0, h.row.chg hc' (by omega), h1, h2, by omega, hm, hg0, h5, by simp [h.len], fun k hk => ?_⟩
  by_cases hkt : k = t
  · subst hkt
    refine ⟨a, min b w.heap.size, ?_, by omega, .inr hg, by omega⟩
    have := (ownI_cap hu).chg hc' (by omega)
    simpa using this
  · have hk' : k < vs.length := by simpa using hk
    obtain ⟨a', b', ho, e1, e2, e3⟩ := h.el k hk'
    refine ⟨a', b', ?_, e1, e2, by omega⟩
    have := ho.chg hc' (by omega)
    rw [hT k hkt]
    rw [List.getElem_set_ne (by omega)]
    exact this
end
abbrev rawN : RepZ Raw := ⟨⟨.slice none 0 0⟩, [.slice none 0 0], fun _ => ⟨rfl, rfl, rfl⟩⟩
theorem zlTouches : zeroL Tryz.prog 174 = some [.slice none 0 0] := by kernel_rfl
def upT (T : Nat → List DTouch) (k u : Nat) : List DTouch := if u < k then T u else []
theorem meetings_ok {w W0 W1 : World} {v0 v1 : Value} {c : DCode} {s : DState} (h0 : Is W0 v0 c) (e0 : Ext W0 w) (h1 : Is W1 v1 s) (e1 : Ext W1 w) (hc : CodeR c) (hs : StateR c s) :
    CALL Tryz.prog 96 [v0, v1] w fun r w' => Ext w w' ∧ Own w.heap.size w' r (meets c s) := by
  have hn6 := hs.2.2.1
  have hTl := tA_len s hc
  have hTa := @tA_at c s
  have hatl := at_lt hs
  have hTd : ∀ t, tA c s t = if 0 ≤ atOf s t then touchAt c (atOf s t) 0 else [] := fun t => rfl
  have hfin : meets c s = canon (gT (tA c s) s.stacks.length) := rfl
  rw [hfin]
  generalize tA c s = T at *
  refine F96_call ?_
  unfold F96
  refine op_box h0 e0 fun w1 hx1 hA => ?_
  refine op_box h1 (e1.trans hx1) fun w2 hx2 hB => ?_
  refine rd_fld fd37_2 ?_
  refine rd_load ty27 (at_DState_2 hB) (Ext.refl _) fun v16 h16 => ?_
  refine rd_len u27 h16 ?_
  generalize hn : s.stacks.length = n at *
  refine @op_makeZ Tryz.prog w2 Raw _ rawN _ _ _ (.slice none 0 0) _ n u181 ty174 rfl rfl zlTouches (by omega) (by omega) fun w3 hx3 hr3 => ?_
  have hs3 := hx3.size
  refine rd_fld fd37_2 ?_
  refine rd_load ty27 (at_DState_2 hB) hx3 fun v20 h20 => ?_
  refine rd_len u27 h20 ?_
  rw [hn]
  have hM0 : MI w2 w3 w2.heap.size w2.heap.size w2.heap.size n (.slice none 0 0) [] (List.replicate n ⟨.slice none 0 0⟩) (upT T 0) := by
    obtain ⟨F, hM, hF⟩ := hr3.own
    obtain ⟨b, o, cap, xs, hv, hF2, _⟩ := mine_parts hM (by intro e; have := congrArg List.length e; simp at this; omega)
    simp only [Value.slice.injEq, Option.some.injEq, Addr.mk.injEq, List.cons.injEq, and_true] at hv
    obtain ⟨⟨hb, ho⟩, _⟩ := hv
    rw [← hb] at hF2
    rw [hF2] at hM
    exact ⟨hx3, rowI_nil _ _ _ _, Nat.le_refl _, Nat.le_refl _, hs3, hM, Nat.le_refl _, .inr (Nat.le_refl _), by simp, fun k hk => ⟨0, 0, by
      have : upT T 0 k = [] := by unfold upT; rw [if_neg (by omega)]
      rw [this, List.getElem_replicate]
      exact ownI_zcap none, by omega, by omega, by omega⟩⟩
  generalize hg : w2.heap.size = g at hM0 ⊢
  refine loopC n (fun k us w' => ∃ (out : Value) (lo hi : Nat) (vs : List Raw), us = [out, .int .i64 (k : Int)] ∧ k ≤ n ∧ MI w2 w' lo hi g n out (gT T k) vs (upT T k)) 0 (Nat.zero_le _) ⟨_, _, _, _, rfl, Nat.zero_le _, hM0⟩ ?_
  rintro t mk u w4 hkm ⟨out, lo, hi, vs, hu, htn, hMI⟩
  simp only [List.map_cons, List.map_nil, List.cons.injEq, and_true] at hu
  obtain ⟨hu1, hu2⟩ := hu
  rw [hu1, hu2]
  refine rd_lss ?_
  refine br (fun hlt => ?_) (fun hge => ?_)
  case refine_2 =>
    have : t = n := by omega
    subst this
    have hgl : (gT T t).length ≤ 5184 := gT_len hTl (by omega)
    refine (inOrder_ok hMI.row.is (Ext.refl _) (by omega)).mono ?_
    rintro r w' ⟨hx5, ho⟩
    have := hMI.ext
    have hs4 := this.size
    have hs2 := hx1.size
    have hs22 := hx2.size
    exact ⟨(hx1.trans hx2).trans (this.trans hx5), ho.mono (by omega)⟩
  have htn' : t < n := by omega
  refine JOIN.mk (fun us w' => ∃ (vs : List Raw), MI w2 w' lo hi g n out (gT T t) vs (upT T (t + 1))) ?_ ?_
  · have hx24 := hMI.ext
    refine rd_load ty37 hB hx24 fun v25 h25 => ?_
    refine (implAtOf_ok h25 hx24).mono ?_
    rintro _ w5 ⟨hx5, rfl⟩
    have hx25 := hx24.trans hx5
    have hx15 := hx2.trans hx25
    refine rd_load ty35 hA hx15 fun v28 h28 => ?_
    refine (isPlace_ok h28 hx15).mono ?_
    rintro _ w6 ⟨hx6, rfl⟩
    have hx16 := hx15.trans hx6
    have hM6 := (hMI.step hx5).step hx6
    refine br_b (fun hpl => ?_) (fun hpl => ?_)
    · have hpl' := of_decide_eq_true hpl
      have hTt : T t = touchAt c (atOf s t) 0 := by rw [hTd, if_pos hpl'.1]
      refine rd_load ty35 hA hx16 fun v33 h33 => ?_
      refine (touchesIn_ok h33 hx16 hc hpl'.1 (by omega) (by unfold I64; omega)).mono ?_
      rintro v35 w7 ⟨hx7, ho7⟩
      rw [← hTt] at ho7
      have hM7 := hM6.step hx7
      have hg6 := hM6.glt
      have hi6 := hM6.h3
      refine rd_indexG u181 ty174 htn' ?_
      obtain ⟨b, a, cap, G, hv, hL⟩ := focus hM7.seen (k := t) (by rw [hM7.len]; exact htn')
      simp only [Value.slice.injEq, Option.some.injEq, Addr.mk.injEq, and_true] at hv
      obtain ⟨⟨rfl, rfl⟩, _⟩ := hv
      have e1 : 0 + t * Rep.size Raw = t * 1 := by rw [Nat.zero_add]; rfl
      rw [e1] at hL
      have hone : v35.oneCell' = true := by
        obtain ⟨aa, cc, FF, xx, hh, _⟩ := is_list ho7.is
        rw [hh]; rfl
      refine opu_lensF (y' := (⟨v35⟩ : Raw)) ty174 hL ⟨⟨[v35], ⟨rfl, rfl, hone⟩, rfl⟩, List.nodup_nil, Wr.nil _⟩ fun w8 F' hc8 hm8 hF8 => ?_
      have hF9 : F' = [g] := by
        obtain ⟨b, o, cap, xs, hv, hF2, _⟩ := mine_parts hm8 (by intro e; have h := congrArg List.length e; rw [List.length_set, hM7.len] at h; simp only [List.length_nil] at h; omega)
        subst hF2
        have := hF8 b (by simp)
        simpa using this
      subst hF9
      refine ⟨_, hM7.store htn' hc8 hm8 (T' := upT T (t + 1)) (a := w6.heap.size) (b := w7.heap.size) ?_ hi6 hg6 ?_⟩
      · have : upT T (t + 1) t = T t := by unfold upT; rw [if_pos (by omega)]
        rw [this]; exact ho7.toI
      · intro k hk
        unfold upT
        by_cases h : k < t
        · rw [if_pos h, if_pos (by omega)]
        · rw [if_neg h, if_neg (by omega)]
    · have hpl' := of_decide_eq_false hpl
      have hTt : T t = [] := by
        rw [hTd, if_neg fun h => hpl' ⟨h, (hatl t).2⟩]
      have : upT T (t + 1) = upT T t := by
        funext k
        unfold upT
        by_cases h : k = t
        · subst h; rw [if_pos (by omega), if_neg (by omega), hTt]
        · by_cases h2 : k < t
          · rw [if_pos h2, if_pos (by omega)]
          · rw [if_neg h2, if_neg (by omega)]
      exact ⟨vs, by rw [this]; exact hM6⟩
  rintro u9 w9 ⟨vs, hM9⟩
  have hupt : ∀ u, u ≤ t → upT T (t + 1) u = T u := fun u hu => by unfold upT; rw [if_pos (by omega)]
  generalize hT' : upT T (t + 1) = T' at *
  refine rd_indexN u181 ty174 (α := Raw) (i := t) hM9.seen.is (by rw [hM9.len]; exact htn') fun b1 o1 hA1 => ?_
  refine rd_load ty174 hA1 (Ext.refl _) fun v40 h40 => ?_
  have hv40 : v40 = (vs[t]'(by rw [hM9.len]; exact htn')).v := by
    obtain ⟨F, cs, ⟨_, rfl, _⟩, hv⟩ := h40
    exact hv
  have hel : ∀ {w : World} {lo hi : Nat} {out : Value} {L : List DRace} (hM : MI w2 w lo hi g n out L vs T') (u : Nat) (hu : u ≤ t), Is w (vs[u]'(by rw [hM9.len]; omega)).v (T u) := fun hM u hu => by
    obtain ⟨_, _, ho, _⟩ := hM.el u (by rw [hM.len]; omega)
    have := ho.is
    rwa [hupt u hu] at this
  refine rd_len (l := T t) u174 (by rw [hv40]; exact hel hM9 t (Nat.le_refl _)) ?_
  have hsn : (T t).length ≤ 12 := hTl t
  refine loopC (T t).length (fun k us w' => ∃ (out : Value) (lo hi : Nat), us = [out, .int .i64 (k : Int)] ∧ k ≤ (T t).length ∧ MI w2 w' lo hi g n out (gT T t ++ gA (upTo T t) ((T t).take k)) vs T') 0 (Nat.zero_le _) ⟨out, lo, hi, rfl, Nat.zero_le _, by simpa [gA] using hM9⟩ ?_
  rintro i mk10 u10 w10 hkm10 ⟨out10, lo10, hi10, hu10, hi10l, hM10⟩
  simp only [List.map_cons, List.map_nil, List.cons.injEq, and_true] at hu10
  obtain ⟨hu101, hu102⟩ := hu10
  rw [hu101, hu102]
  refine rd_lss ?_
  refine br (fun hlt10 => ?_) (fun hge10 => ?_)
  case refine_2 =>
    have hil : i = (T t).length := by omega
    subst hil
    refine rd_inc (by omega) ?_
    refine ⟨mk - 1, by omega, t + 1, by omega, out10, lo10, hi10, vs, rfl, by omega, ?_⟩
    rw [hT']
    have e : gT T (t + 1) = gT T t ++ gA (upTo T t) (T t) := range_flat t
    rw [e]
    rw [List.take_length] at hM10
    exact hM10
  have hi' : i < (T t).length := by omega
  refine rd_indexN u174 ty177 (i := i) (by rw [hv40]; exact hel hM10 t (Nat.le_refl _)) hi' fun b2 o2 hA2 => ?_
  refine rd_load ty177 hA2 (Ext.refl _) fun v45 h45 => ?_
  refine op_varZ (α := DTouch) zl177 fun w11 hx11 hv11 => ?_
  have hlt11 := hv11.lt
  refine opu_varA (lo := 0) (hi := 0) ty177 hv11 (flat_own (h45.ext hx11)) (.inr (Nat.zero_le _)) fun w12 hc12 hv12 => ?_
  have hx12 : Ext w10 w12 := hx11.chgI hc12 (Nat.le_refl _)
  have hM12 := hM10.step hx12
  generalize hag : (T t)[i] = a at *
  have hx10h : lo10 ≤ w10.heap.size ∧ hi10 ≤ w10.heap.size := ⟨by have := hM10.h2; have := hM10.h3; omega, hM10.h3⟩
  generalize w10.heap.size = g10 at *
  refine rd_cutF (α := Raw) u181 ty174 (b := g) (o := 0) (k := t) (n := n) (cap := n) (by omega) (Nat.le_refl _) ?_
  refine rd_lenV u181 ?_
  refine loopC t (fun k us w' => ∃ (out : Value) (lo hi : Nat), us = [out, .int .i64 (k : Int)] ∧ k ≤ t ∧ MI w2 w' lo hi g n out (gT T t ++ gA (upTo T t) ((T t).take i) ++ ((upTo T t).take k).flatMap (gB a)) vs T' ∧ VarI 0 0 w' g10 a ∧ (g10 < lo ∨ hi ≤ g10)) 0 (Nat.zero_le _) ⟨out10, lo10, hi10, rfl, Nat.zero_le _, by simpa using hM12, hv12, .inr hx10h.2⟩ ?_
  rintro u mk13 u13 w13 hkm13 ⟨out13, lo13, hi13, hu13, hul, hM13, hv13, hg13⟩
  simp only [List.map_cons, List.map_nil, List.cons.injEq, and_true] at hu13
  obtain ⟨hu131, hu132⟩ := hu13
  rw [hu131, hu132]
  have hupl : (upTo T t).length = t := by simp [upTo]
  refine rd_lss ?_
  refine br (fun hlt13 => ?_) (fun hge13 => ?_)
  case refine_2 =>
    have hul : u = t := by omega
    refine rd_inc (by omega) ?_
    refine ⟨mk10 - 1, by omega, i + 1, by omega, out13, lo13, hi13, rfl, by omega, ?_⟩
    have e : gA (upTo T t) ((T t).take (i + 1)) = gA (upTo T t) ((T t).take i) ++ (upTo T t).flatMap (gB a) := by
      unfold gA
      rw [flatMap_take hi', hag]
      rfl
    rw [e, ← List.append_assoc]
    rw [show (upTo T t).take u = upTo T t from List.take_of_length_le (by omega)] at hM13
    exact hM13
  have hu' : u < t := by omega
  have hgetu : (upTo T t)[u]'(by rw [hupl]; exact hu') = T u := by simp [upTo]
  refine rd_indexN u181 ty174 (α := Raw) (i := u) (hM13.row_at (by omega) (by omega)) (by rw [List.length_take, hM13.len]; omega) fun b3 o3 hA3 => ?_
  refine rd_load ty174 hA3 (Ext.refl _) fun v53 h53 => ?_
  have hv53 : v53 = (vs[u]'(by rw [hM9.len]; omega)).v := by
    obtain ⟨F, cs, ⟨_, rfl, _⟩, hv⟩ := h53
    simpa [mkv, Rep.agg] using hv
  refine rd_len (l := T u) u174 (by rw [hv53]; exact hel hM13 u (by omega)) ?_
  refine loopC (T u).length (fun k us w' => ∃ (out : Value) (lo hi : Nat), us = [out, .int .i64 (k : Int)] ∧ k ≤ (T u).length ∧ MI w2 w' lo hi g n out (gT T t ++ gA (upTo T t) ((T t).take i) ++ ((upTo T t).take u).flatMap (gB a) ++ ((T u).take k).flatMap (clR a)) vs T' ∧ VarI 0 0 w' g10 a ∧ (g10 < lo ∨ hi ≤ g10)) 0 (Nat.zero_le _) ⟨out13, lo13, hi13, rfl, Nat.zero_le _, by simpa using hM13, hv13, hg13⟩ ?_
  rintro j mk16 u16 w16 hkm16 ⟨out16, lo16, hi16, hu16, hjl, hM16, hv16, hg16⟩
  simp only [List.map_cons, List.map_nil, List.cons.injEq, and_true] at hu16
  obtain ⟨hu161, hu162⟩ := hu16
  rw [hu161, hu162]
  have hsu : (T u).length ≤ 12 := hTl u
  refine rd_lss ?_
  refine br (fun hlt16 => ?_) (fun hge16 => ?_)
  case refine_2 =>
    have hjl : j = (T u).length := by omega
    subst hjl
    refine rd_inc (by omega) ?_
    refine ⟨mk13 - 1, by omega, u + 1, by omega, out16, lo16, hi16, rfl, by omega, ?_, hv16, hg16⟩
    rw [flatMap_take (by rw [hupl]; exact hu'), hgetu, ← List.append_assoc]
    rw [List.take_length] at hM16
    exact hM16
  have hj' : j < (T u).length := by omega
  refine rd_indexN u174 ty177 (i := j) (by rw [hv53]; exact hel hM16 u (by omega)) hj' fun b4 o4 hA4 => ?_
  refine rd_load ty177 hA4 (Ext.refl _) fun v59 h59 => ?_
  refine op_varZ (α := DTouch) zl177 fun w17 hx17 hv17 => ?_
  have hlt17 := hv17.lt
  refine opu_varA (lo := 0) (hi := 0) ty177 hv17 (flat_own (h59.ext hx17)) (.inr (Nat.zero_le _)) fun w18 hc18 hv18 => ?_
  have hx18 : Ext w16 w18 := hx17.chgI hc18 (Nat.le_refl _)
  have hM18 := hM16.step hx18
  have hvb : VarI 0 0 w18 g10 a := hv16.ext hx18
  generalize hbg : (T u)[j] = b at *
  refine rd_varI ty177 hvb (Ext.refl _) fun v60 h60 => ?_
  refine rd_varI ty177 hv18 (Ext.refl _) fun v61 h61 => ?_
  refine (clash_ok h60.is (Ext.refl _) h61.is (Ext.refl _)).mono ?_
  rintro _ w19 ⟨hx19, rfl⟩
  have hM19 := hM18.step hx19
  refine br_b (fun hcl => ?_) (fun hcl => ?_)
  · have hcl' := of_decide_eq_true hcl
    refine rd_varI ty177 hvb hx19 fun v64 h64 => ?_
    refine rd_varI ty177 hv18 hx19 fun v65 h65 => ?_
    refine (raceOf_ok h64.is hx19 h65.is hx19).mono ?_
    rintro v66 w20 ⟨hx20, ho20⟩
    have hM20 := hM19.step hx20
    have hlen : (gT T t ++ gA (upTo T t) ((T t).take i) ++ ((upTo T t).take u).flatMap (gB a) ++ ((T u).take j).flatMap (clR a)).length ≤ 10000 := by
      have q1 := gT_len hTl (n := t) (by omega)
      have hup : ∀ L ∈ upTo T t, L.length ≤ 12 := fun L hL => by
        simp only [upTo, List.mem_map] at hL
        obtain ⟨u, _, rfl⟩ := hL
        exact hTl u
      have q2 := gA_len (Ls := upTo T t) (xs := (T t).take i) (by omega) hup (by rw [List.length_take]; omega)
      have q3 := gL_len (Ls := (upTo T t).take u) a (by rw [List.length_take]; omega) fun L hL => hup L (List.mem_of_mem_take hL)
      have q4 := gB_len a (bs := (T u).take j) (by rw [List.length_take]; omega)
      unfold gL at q3
      unfold gB at q4
      simp only [List.length_append]
      unfold gB at *
      omega
    refine op_pushD1 u58 ty109 z109 zc109 (by decide) hM20.row (ho20 0 0) (by rw [maxLen_eq]; omega) (by omega) fun v68 w21 lo21 hi21 hc21 hr21 hd21 => ?_
    have hM21 := hM20.push hc21 hr21 hd21
    refine rd_inc (by omega) ?_
    have hgs : g10 < w20.heap.size := by have := hvb.lt; have := hx19.size; have := hx20.size; omega
    refine ⟨mk16 - 1, by omega, j + 1, by omega, v68, lo21, hi21, rfl, by omega, ?_, (((hvb.ext hx19).ext hx20).chg hc21 (.inl (Nat.zero_le _)) hg16), by omega⟩
    rw [flatMap_take hj', ← List.append_assoc]
    have : clR a (T u)[j] = [raceOf a b] := by rw [hbg]; unfold clR; rw [if_pos hcl']
    rw [this]
    exact hM21
  · have hcl' := of_decide_eq_false hcl
    refine rd_inc (by omega) ?_
    refine ⟨mk16 - 1, by omega, j + 1, by omega, out16, lo16, hi16, rfl, by omega, ?_, hvb.ext hx19, hg16⟩
    rw [flatMap_take hj']
    have : clR a (T u)[j] = [] := by rw [hbg]; unfold clR; rw [if_neg hcl']
    rw [this, List.append_nil]
    exact hM19
end Go.Proofs.YtjgfldfbljmhhaaGreat
namespace Go.Proofs.YtjgfldfbljmhhaaGreat
open Go Go.Sh Go.Proofs
set_option linter.unusedVariables false
def F91 (a0 a1 : Value) (w : World) (R : Value → World → Prop) : Prop :=
 OP Tryz.prog (Instr.box 35 a0) w fun x2 w =>
 OP Tryz.prog (Instr.box 37 a1) w fun x3 w =>
 OP Tryz.prog (Instr.buildSlice 58 0 #[]) w fun x15 w =>
 LOOPI [5, 6] [x15, (Value.int .i64 0)] w fun u3 w next3 =>
 RD Tryz.prog (Instr.fieldAt 37 x3 2) w fun x17 =>
 RD Tryz.prog (Instr.loadAt 27 x17) w fun x18 =>
 RD Tryz.prog (Builtin.len_ #[27] 3 [x18].toArray) w fun x19 =>
 RD Tryz.prog (bin .lss 3 (.tmp 0) (.tmp 0) (u3 6) x19) w fun x20 =>
 BR x20
 (LOOPI [5, 7] [(u3 5), (Value.int .i64 0)] w fun u6 w next6 =>
 RD Tryz.prog (bin .lss 3 (.tmp 0) (.tmp 0) (u6 7) (u3 6)) w fun x25 =>
 BR x25
 (RD Tryz.prog (Instr.loadAt 37 x3) w fun x28 =>
 CALL Tryz.prog 58 [x28, (u3 6)] w fun x30 w =>
 RD Tryz.prog (Instr.loadAt 37 x3) w fun x31 =>
 CALL Tryz.prog 58 [x31, (u6 7)] w fun x33 w =>
 RD Tryz.prog (bin .lss 3 (.tmp 0) (.const undef) x30 (Value.int .i64 0)) w fun x35 =>
 BR x35
 (RD Tryz.prog (bin .add 3 (.tmp 0) (.const undef) (u6 7) (Value.int .i64 1)) w fun x27 =>
 next6 [(u6 5), x27] w)
 (RD Tryz.prog (bin .lss 3 (.tmp 0) (.const undef) x33 (Value.int .i64 0)) w fun x38 =>
 BR x38
 (RD Tryz.prog (bin .add 3 (.tmp 0) (.const undef) (u6 7) (Value.int .i64 1)) w fun x27 =>
 next6 [(u6 5), x27] w)
 (RD Tryz.prog (Instr.loadAt 35 x2) w fun x40 =>
 CALL Tryz.prog 155 [x40, x30, (Value.int .i64 0)] w fun x42 w =>
 RD Tryz.prog (Instr.loadAt 35 x2) w fun x43 =>
 CALL Tryz.prog 155 [x43, x33, (Value.int .i64 0)] w fun x45 w =>
 LOOPI [5, 12] [(u6 5), (Value.int .i64 0)] w fun u14 w next14 =>
 RD Tryz.prog (Builtin.len_ #[174] 3 [x42].toArray) w fun x48 =>
 RD Tryz.prog (bin .lss 3 (.tmp 0) (.tmp 0) (u14 12) x48) w fun x49 =>
 BR x49
 (LOOPI [5, 13] [(u14 5), (Value.int .i64 0)] w fun u17 w next17 =>
 RD Tryz.prog (Builtin.len_ #[174] 3 [x45].toArray) w fun x54 =>
 RD Tryz.prog (bin .lss 3 (.tmp 0) (.tmp 0) (u17 13) x54) w fun x55 =>
 BR x55
 (JOIN [] (fun J20 =>
 (fun w => RD Tryz.prog (Instr.indexAt 174 x42 (u14 12)) w fun x60 =>
 RD Tryz.prog (Instr.fieldAt 177 x60 1) w fun x61 =>
 RD Tryz.prog (Instr.loadAt 3 x61) w fun x62 =>
 RD Tryz.prog (Instr.indexAt 174 x45 (u17 13)) w fun x65 =>
 RD Tryz.prog (Instr.fieldAt 177 x65 1) w fun x66 =>
 RD Tryz.prog (Instr.loadAt 3 x66) w fun x67 =>
 RD Tryz.prog (bin .neq 3 (.tmp 0) (.tmp 0) x62 x67) w fun x68 =>
 BR x68
 (RD Tryz.prog (bin .add 3 (.tmp 0) (.const undef) (u17 13) (Value.int .i64 1)) w fun x57 =>
 next17 [(u17 5), x57] w)
 (RD Tryz.prog (Instr.indexAt 174 x42 (u14 12)) w fun x72 =>
 RD Tryz.prog (Instr.fieldAt 177 x72 2) w fun x73 =>
 RD Tryz.prog (Instr.loadAt 4 x73) w fun x74 =>
 RD Tryz.prog (Op.unary .not x74) w fun x75 =>
 GBR x75
 (RD Tryz.prog (Instr.indexAt 174 x45 (u17 13)) w fun x79 =>
 RD Tryz.prog (Instr.fieldAt 177 x79 2) w fun x80 =>
 RD Tryz.prog (Instr.loadAt 4 x80) w fun x81 =>
 RD Tryz.prog (Op.unary .not x81) w fun x82 =>
 BR x82
 (RD Tryz.prog (bin .add 3 (.tmp 0) (.const undef) (u17 13) (Value.int .i64 1)) w fun x57 =>
 next17 [(u17 5), x57] w)
 (J20 [] w))
 (J20 [] w)
 (BR undef
 (BR undef
 (RD Tryz.prog (bin .add 3 (.tmp 0) (.const undef) (u17 13) (Value.int .i64 1)) w fun x57 =>
 next17 [(u17 5), x57] w)
 (J20 [] w))
 (J20 [] w)))) (World.drew1 w)) (fun u20 w =>
 RD Tryz.prog (Instr.indexAt 174 x42 (u14 12)) w fun x87 =>
 RD Tryz.prog (Instr.fieldAt 177 x87 1) w fun x88 =>
 RD Tryz.prog (Instr.loadAt 3 x88) w fun x89 =>
 RD Tryz.prog (Instr.build 109 #[(0, x89), (1, x30), (2, x33)]) w fun x92 =>
 OP Tryz.prog (Instr.alloc 109 true (.tuple #[])) w fun x14 w =>
 OPU Tryz.prog (Instr.storeAt 109 x14 x92) w fun w =>
 RD Tryz.prog (bin .gtr 3 (.tmp 0) (.tmp 0) x30 x33) w fun x95 =>
 BR x95
 (RD Tryz.prog (Instr.fieldAt 109 x14 1) w fun x97 =>
 OPU Tryz.prog (Instr.storeAt 3 x97 x33) w fun w =>
 RD Tryz.prog (Instr.fieldAt 109 x14 2) w fun x99 =>
 OPU Tryz.prog (Instr.storeAt 3 x99 x30) w fun w =>
 RD Tryz.prog (Instr.loadAt 109 x14) w fun x101 =>
 CALL Tryz.prog 92 [(u17 5), x101] w fun x102 w =>
 RD Tryz.prog (bin .add 3 (.tmp 0) (.const undef) (u17 13) (Value.int .i64 1)) w fun x57 =>
 next17 [x102, x57] w)
 (RD Tryz.prog (Instr.loadAt 109 x14) w fun x101 =>
 CALL Tryz.prog 92 [(u17 5), x101] w fun x102 w =>
 RD Tryz.prog (bin .add 3 (.tmp 0) (.const undef) (u17 13) (Value.int .i64 1)) w fun x57 =>
 next17 [x102, x57] w)))
 (RD Tryz.prog (bin .add 3 (.tmp 0) (.const undef) (u14 12) (Value.int .i64 1)) w fun x51 =>
 next14 [(u17 5), x51] w))
 (RD Tryz.prog (bin .add 3 (.tmp 0) (.const undef) (u6 7) (Value.int .i64 1)) w fun x27 =>
 next6 [(u14 5), x27] w))))
 (RD Tryz.prog (bin .add 3 (.tmp 0) (.const undef) (u3 6) (Value.int .i64 1)) w fun x22 =>
 next3 [(u6 5), x22] w))
 (R (u3 5) w)
def cfg91 : Cfg := { ext := extL, joins := [(20, 38685625939437757438885888, [])], loops := [(3, 10141204801825835211973625610208, [5, 6]), (6, 10141204801825835211973617287072, [5, 7]), (14, 10141204801825835141604881494048, [5, 12]), (17, 10141204801825830708373998297120, [5, 13])], draws := [(19, [0, 1, 2, 3, 4, 5, 6, 7, 8, 9, 10, 11, 12, 13, 14, 15, 16, 17, 18, 19, 20, 21, 22, 23, 24, 25, 26], 0)], pars := [] }
theorem F91_eq (a0 a1 : Value) (w : World) (R : Value → World → Prop) : vcF Tryz.prog cfg91 Tryz.f91 [a0, a1] w R = F91 a0 a1 w R := by kernel_rfl
theorem F91_call {a0 a1 : Value} {w : World} {R : Value → World → Prop} (h : F91 a0 a1 w R) : CALL Tryz.prog 91 [a0, a1] w R :=
  call_of (g := cfg91) ent mixed Tryz.func91 (Nat.le_of_ble_eq_true (by kernel_rfl)) (by kernel_rfl) (F91_eq a0 a1 w R ▸ h)
set_option linter.unusedVariables false
set_option linter.unusedSimpArgs false
theorem clashP0 {a b : DTouch} (ha : a.held = 0) (hb : b.held = 0) : clashP a b ↔ a.global = b.global ∧ (a.write = true ∨ b.write = true) := by
  unfold clashP
  rw [ha, hb]
  constructor
  · exact fun h => ⟨h.1, h.2.1⟩
  · exact fun h => ⟨h.1, h.2, by omega, by omega, by decide⟩
theorem l24Meet_ok {w W0 W1 : World} {v0 v1 : Value} {c : DCode} {s : DState} (h0 : Is W0 v0 c) (e0 : Ext W0 w) (h1 : Is W1 v1 s) (e1 : Ext W1 w) (hc : CodeR c) (hs : StateR c s) :
    CALL Tryz.prog 91 [v0, v1] w fun r w' => Ext w w' ∧ Own w.heap.size w' r (meets c s) := by
  have hn6 := hs.2.2.1
  have hTl := tA_len s hc
  have hTa := @tA_at c s
  have hatl := at_lt hs
  have hins := hc.2.1.2.1
  have hTd : ∀ t, tA c s t = if 0 ≤ atOf s t then touchAt c (atOf s t) 0 else [] := fun t => rfl
  rw [← meets_h]
  generalize tA c s = T at *
  refine F91_call ?_
  unfold F91
  refine op_box h0 e0 fun w1 hx1 hAc => ?_
  refine op_box h1 (e1.trans hx1) fun w2 hx2 hB => ?_
  refine op_build0I (α := DRace) u58 ty109 fun a0 w3 hx3 hr3 => ?_
  have hs1 := hx1.size
  have hs2 := hx2.size
  have hs3 := hx3.size
  generalize hn : s.stacks.length = n at *
  refine loopC n (fun k us w' => ∃ (out : Value), us = [out, .int .i64 (k : Int)] ∧ k ≤ n ∧ Ext w2 w' ∧ Own w2.heap.size w' out (canon (hT T k))) 0 (Nat.zero_le _) ⟨_, rfl, Nat.zero_le _, hx3, (hr3.own.mono (lo' := w2.heap.size) hs3 (Nat.le_refl _)).own⟩ ?_
  rintro t mk u3 w4 hkm ⟨out, hu, htn, hx4, ho4⟩
  simp only [List.map_cons, List.map_nil, List.cons.injEq, and_true] at hu
  obtain ⟨hu1, hu2⟩ := hu
  rw [hu1, hu2]
  refine rd_fld fd37_2 ?_
  refine rd_load ty27 (at_DState_2 hB) hx4 fun v18 h18 => ?_
  refine rd_len u27 h18 ?_
  rw [hn]
  refine rd_lss ?_
  refine br (fun hlt => ?_) (fun hge => ?_)
  case refine_2 =>
    have htn2 : t = n := by omega
    rw [htn2] at ho4
    exact ⟨(hx1.trans hx2).trans hx4, ho4.mono (by omega)⟩
  have htn' : t < n := by omega
  have hLt : (hT T t).length ≤ 5184 := hT_len hTl (by omega)
  refine loopC t (fun k us w' => ∃ (out : Value), us = [out, .int .i64 (k : Int)] ∧ k ≤ t ∧ Ext w2 w' ∧ Own w2.heap.size w' out (canon (hT T t ++ hU T (T t) k))) 0 (Nat.zero_le _) ⟨out, rfl, Nat.zero_le _, hx4, by simpa [hU] using ho4⟩ ?_
  rintro u mk6 u6 w6 hkm6 ⟨out6, hu6, hut, hx6, ho6⟩
  simp only [List.map_cons, List.map_nil, List.cons.injEq, and_true] at hu6
  obtain ⟨hu61, hu62⟩ := hu6
  rw [hu61, hu62]
  refine rd_lss ?_
  refine br (fun hlt6 => ?_) (fun hge6 => ?_)
  case refine_2 =>
    have hut2 : u = t := by omega
    rw [hut2] at ho6
    refine rd_inc (by omega) ?_
    refine ⟨mk - 1, by omega, t + 1, by omega, out6, rfl, by omega, hx6, ?_⟩
    have e : hT T (t + 1) = hT T t ++ hU T (T t) t := range_flat t
    rw [e]; exact ho6
  have hut' : u < t := by omega
  have hLu : (hU T (T t) u).length ≤ 864 := hU_len hTl (hTl t) (by omega)
  have hUs : hU T (T t) (u + 1) = hU T (T t) u ++ hA (T u) (T t) := range_flat u
  refine rd_load ty37 hB hx6 fun v28 h28 => ?_
  refine (specAtOf_ok h28 hx6).mono ?_
  rintro _ w7 ⟨hx7, rfl⟩
  have hx27 := hx6.trans hx7
  refine rd_load ty37 hB hx27 fun v31 h31 => ?_
  refine (specAtOf_ok h31 hx27).mono ?_
  rintro _ w8 ⟨hx8, rfl⟩
  have hx28 := hx27.trans hx8
  have ho8 := (ho6.ext hx7).ext hx8
  refine rd_lss ?_
  refine br (fun ha0 => ?_) (fun ha0 => ?_)
  · refine rd_inc (by omega) ?_
    refine ⟨mk6 - 1, by omega, u + 1, by omega, out6, rfl, by omega, hx28, ?_⟩
    have e : T t = [] := by rw [hTd, if_neg (by omega)]
    have : hA (T u) (T t) = [] := by rw [e]; rfl
    rw [hUs, this, List.append_nil]; exact ho8
  refine rd_lss ?_
  refine br (fun hb0 => ?_) (fun hb0 => ?_)
  · refine rd_inc (by omega) ?_
    refine ⟨mk6 - 1, by omega, u + 1, by omega, out6, rfl, by omega, hx28, ?_⟩
    have e : T u = [] := by rw [hTd, if_neg (by omega)]
    have : hA (T u) (T t) = [] := by
      rw [e]; unfold hA gB
      simp
    rw [hUs, this, List.append_nil]; exact ho8
  have hTt : T t = touchAt c (atOf s t) 0 := by rw [hTd, if_pos (by omega)]
  have hTu : T u = touchAt c (atOf s u) 0 := by rw [hTd, if_pos (by omega)]
  have ha9 := hatl t
  have hb9 := hatl u
  have hx18 := hx2.trans hx28
  refine rd_load ty35 hAc hx18 fun v40 h40 => ?_
  refine (l17At_ok h40 hx18 hc (by omega) (by omega) (by unfold I64; omega)).mono ?_
  rintro v42 w9 ⟨hx9, ho9⟩
  have hx19 := hx18.trans hx9
  refine rd_load ty35 hAc hx19 fun v43 h43 => ?_
  refine (l17At_ok h43 hx19 hc (by omega) (by omega) (by unfold I64; omega)).mono ?_
  rintro v45 w10 ⟨hx10, ho10⟩
  rw [← hTt] at ho9
  rw [← hTu] at ho10
  have hI42 : Is w10 v42 (T t) := ho9.is.ext hx10
  have hI45 : Is w10 v45 (T u) := ho10.is
  have hx210 := (hx28.trans hx9).trans hx10
  have hsn : (T t).length ≤ 12 := hTl t
  have hsu : (T u).length ≤ 12 := hTl u
  refine loopC (T t).length (fun k us w' => ∃ (out : Value), us = [out, .int .i64 (k : Int)] ∧ k ≤ (T t).length ∧ Ext w10 w' ∧ Own w2.heap.size w' out (canon (hT T t ++ hU T (T t) u ++ hA (T u) ((T t).take k)))) 0 (Nat.zero_le _) ⟨out6, rfl, Nat.zero_le _, Ext.refl _, by simpa [hA] using (ho8.ext hx9).ext hx10⟩ ?_
  rintro i mk14 u14 w14 hkm14 ⟨out14, hu14, hil, hx14, ho14⟩
  simp only [List.map_cons, List.map_nil, List.cons.injEq, and_true] at hu14
  obtain ⟨hu141, hu142⟩ := hu14
  rw [hu141, hu142]
  refine rd_len u174 hI42 ?_
  refine rd_lss ?_
  refine br (fun hlt14 => ?_) (fun hge14 => ?_)
  case refine_2 =>
    have hil2 : i = (T t).length := by omega
    rw [hil2, List.take_length] at ho14
    refine rd_inc (by omega) ?_
    refine ⟨mk6 - 1, by omega, u + 1, by omega, out14, rfl, by omega, hx210.trans hx14, ?_⟩
    rw [hUs, ← List.append_assoc]; exact ho14
  have hi' : i < (T t).length := by omega
  have hLi : (hA (T u) ((T t).take i)).length ≤ 144 := hA_len hsu (by rw [List.length_take]; omega)
  generalize hag : (T t)[i] = a at *
  have hata := hTa (t := t) (x := a) (by rw [← hag]; exact List.getElem_mem _)
  refine loopC (T u).length (fun k us w' => ∃ (out : Value), us = [out, .int .i64 (k : Int)] ∧ k ≤ (T u).length ∧ Ext w10 w' ∧ Own w2.heap.size w' out (canon (hT T t ++ hU T (T t) u ++ hA (T u) ((T t).take i) ++ ((T u).take k).flatMap (clR a)))) 0 (Nat.zero_le _) ⟨out14, rfl, Nat.zero_le _, hx14, by simpa using ho14⟩ ?_
  rintro j mk17 u17 w17 hkm17 ⟨out17, hu17, hjl, hx17, ho17⟩
  simp only [List.map_cons, List.map_nil, List.cons.injEq, and_true] at hu17
  obtain ⟨hu171, hu172⟩ := hu17
  rw [hu171, hu172]
  refine rd_len u174 hI45 ?_
  refine rd_lss ?_
  refine br (fun hlt17 => ?_) (fun hge17 => ?_)
  case refine_2 =>
    have hjl2 : j = (T u).length := by omega
    rw [hjl2, List.take_length] at ho17
    refine rd_inc (by omega) ?_
    refine ⟨mk14 - 1, by omega, i + 1, by omega, out17, rfl, by omega, hx17, ?_⟩
    have e : hA (T u) ((T t).take (i + 1)) = hA (T u) ((T t).take i) ++ (T u).flatMap (clR a) := by
      unfold hA
      rw [flatMap_take hi', hag]
      rfl
    rw [e, ← List.append_assoc]; exact ho17
  have hj' : j < (T u).length := by omega
  have hLj : (((T u).take j).flatMap (clR a)).length ≤ 12 := gB_len a (bs := (T u).take j) (by rw [List.length_take]; omega)
  generalize hbg : (T u)[j] = b at *
  have hatb := hTa (t := u) (x := b) (by rw [← hbg]; exact List.getElem_mem _)
  have hcl0 := clashP0 hata.2 hatb.2
  have hno : ∀ w', Ext w17 w' → ¬ clashP a b → ∃ (out : Value), [out17, Value.int .i64 ((j + 1 : Nat) : Int)] = [out, .int .i64 ((j + 1 : Nat) : Int)] ∧ j + 1 ≤ (T u).length ∧ Ext w10 w' ∧ Own w2.heap.size w' out (canon (hT T t ++ hU T (T t) u ++ hA (T u) ((T t).take i) ++ ((T u).take (j + 1)).flatMap (clR a))) := fun w' hx hn => by
    refine ⟨out17, rfl, by omega, hx17.trans hx, ?_⟩
    have : clR a b = [] := by unfold clR; rw [if_neg hn]
    rw [flatMap_take hj', hbg, this, List.append_nil]
    exact ho17.ext hx
  refine JOIN.mk (fun us w' => Ext w17 w' ∧ clashP a b) ?_ ?_
  · have hx18 := ext_drew w17
    generalize World.drew1 w17 = w18 at *
    have hx1018 := hx17.trans hx18
    refine rd_indexN u174 ty177 (i := i) hI42 hi' fun b2 o2 hA2 => ?_
    refine rd_fld fd177_1 ?_
    rw [hag] at hA2
    refine rd_loadI ty3 (at_DTouch_1 hA2) hx1018 fun hI62 => ?_
    refine rd_indexN u174 ty177 (i := j) hI45 hj' fun b3 o3 hA3 => ?_
    refine rd_fld fd177_1 ?_
    rw [hbg] at hA3
    refine rd_loadI ty3 (at_DTouch_1 hA3) hx1018 fun hI67 => ?_
    refine rd_neq ?_
    refine br (fun hne => ?_) (fun heq => ?_)
    · refine rd_inc (by omega) ?_
      exact ⟨mk17 - 1, by omega, j + 1, by omega, hno w18 hx18 fun h => hne (hcl0.1 h).1⟩
    have heq' := Decidable.not_not.1 heq
    refine rd_indexN u174 ty177 (i := i) hI42 hi' fun b4 o4 hA4 => ?_
    refine rd_fld fd177_2 ?_
    rw [hag] at hA4
    refine rd_loadB ty4 (at_DTouch_2 hA4) hx1018 ?_
    refine rd_not ?_
    refine gbr_b (fun hwa => ?_) (fun hwa => ?_)
    · refine rd_indexN u174 ty177 (i := j) hI45 hj' fun b5 o5 hA5 => ?_
      refine rd_fld fd177_2 ?_
      rw [hbg] at hA5
      refine rd_loadB ty4 (at_DTouch_2 hA5) hx1018 ?_
      refine rd_not ?_
      refine br_b (fun hwb => ?_) (fun hwb => ?_)
      · refine rd_inc (by omega) ?_
        refine ⟨mk17 - 1, by omega, j + 1, by omega, hno w18 hx18 fun h => ?_⟩
        rcases (hcl0.1 h).2 with h | h <;> simp [h] at hwa hwb
      · exact ⟨hx18, hcl0.2 ⟨heq', .inr (by simpa using hwb)⟩⟩
    · exact ⟨hx18, hcl0.2 ⟨heq', .inl (by simpa using hwa)⟩⟩
  rintro u20 w20 ⟨hx20, hcl⟩
  have hx1020 := hx17.trans hx20
  have ho20 := ho17.ext hx20
  refine rd_indexN u174 ty177 (i := i) hI42 hi' fun b2 o2 hA2 => ?_
  refine rd_fld fd177_1 ?_
  rw [hag] at hA2
  refine rd_loadI ty3 (at_DTouch_1 hA2) hx1020 fun hI89 => ?_
  refine rd_build (cells := #[.int .i64 a.global, .int .i64 (atOf s t), .int .i64 (atOf s u)]) (by kernel_rfl) ?_
  refine op_varZ (α := DRace) zl109 fun w21 hx21 hv21 => ?_
  have hlt21 := hv21.lt
  have hm : ∀ (w : World) lo hi, OwnI lo hi w (.agg #[.int .i64 a.global, .int .i64 (atOf s t), .int .i64 (atOf s u)]) (⟨a.global, atOf s t, atOf s u⟩ : DRace) := fun w lo hi => ⟨[], mine_race (x := ⟨a.global, atOf s t, atOf s u⟩) hI89 (by unfold I64; simp only; omega) (by unfold I64; simp only; omega), by simp⟩
  refine opu_varA (lo := w20.heap.size) (hi := w20.heap.size) ty109 hv21 (hm w21 _ _) (.inr (Nat.le_refl _)) fun w22 hc22 hv22 => ?_
  have hx22 : Ext w20 w22 := hx21.chgI hc22 (Nat.le_refl _)
  have hrace : raceOf a b = if atOf s u < atOf s t then ⟨a.global, atOf s u, atOf s t⟩ else ⟨a.global, atOf s t, atOf s u⟩ := by
    unfold raceOf
    rw [hata.1, hatb.1]
    split
    · rw [Int.min_eq_right (by omega), Int.max_eq_left (by omega)]
    · rw [Int.min_eq_left (by omega), Int.max_eq_right (by omega)]
  have hclr : clR a b = [raceOf a b] := by unfold clR; rw [if_pos hcl]
  have hlen : (canon (hT T t ++ hU T (T t) u ++ hA (T u) ((T t).take i) ++ ((T u).take j).flatMap (clR a))).length ≤ 10000 := by
    refine Nat.le_trans (canon_len _) ?_
    simp only [List.length_append]
    omega
  have hsz2 := hx210.size
  have hsz3 := hx1020.size
  have hyes : ∀ (r : Value) (w' w'' : World), Ext w20 w' → Ext w' w'' → OwnI w2.heap.size w''.heap.size w'' r (putR (raceOf a b) (canon (hT T t ++ hU T (T t) u ++ hA (T u) ((T t).take i) ++ ((T u).take j).flatMap (clR a)))) →
      ∃ (out : Value), [r, Value.int .i64 ((j + 1 : Nat) : Int)] = [out, .int .i64 ((j + 1 : Nat) : Int)] ∧ j + 1 ≤ (T u).length ∧ Ext w10 w'' ∧ Own w2.heap.size w'' out (canon (hT T t ++ hU T (T t) u ++ hA (T u) ((T t).take i) ++ ((T u).take (j + 1)).flatMap (clR a))) := fun r w' w'' hx hy ho => by
    refine ⟨r, rfl, by omega, (hx1020.trans hx).trans hy, ?_⟩
    rw [flatMap_take hj', hbg, hclr, ← List.append_assoc, canon_snoc]
    exact ho.own
  refine rd_gtr ?_
  refine br (fun hgt => ?_) (fun hle => ?_)
  · rw [if_pos hgt] at hrace
    obtain ⟨F, hO, hF⟩ := hv22
    refine rd_fld fd109_1 ?_
    obtain ⟨G1, hL1⟩ := lens_DRace_1 (Lens.var hO)
    refine opu_varL ty3 hL1 hF (Nat.le_refl _) (Nat.le_refl _) (mine_int (x := atOf s u) (by unfold I64; omega)) fun w23 hc23 hv23 => ?_
    obtain ⟨F2, hO2, hF2⟩ := hv23
    refine rd_fld fd109_2 ?_
    obtain ⟨G2, hL2⟩ := lens_DRace_2 (Lens.var hO2)
    refine opu_varL ty3 hL2 hF2 (Nat.le_refl _) (Nat.le_refl _) (mine_int (x := atOf s t) (by unfold I64; omega)) fun w24 hc24 hv24 => ?_
    have hx24 : Ext w20 w24 := (hx22.chgI hc23 (Nat.le_refl _)).chgI hc24 (Nat.le_refl _)
    refine rd_varI ty109 hv24 (Ext.refl _) fun v101 h101 => ?_
    have ho24 := ho20.ext hx24
    refine (l18Put_ok ho24.toI (by have := hx24.size; omega) h101.is (Ext.refl _) (by omega)).mono ?_
    rintro v102 w25 ⟨hx25, ho25⟩
    rw [← hrace] at ho25
    refine rd_inc (by omega) ?_
    exact ⟨mk17 - 1, by omega, j + 1, by omega, hyes v102 w24 w25 hx24 hx25 ho25⟩
  · rw [if_neg hle] at hrace
    refine rd_varI ty109 hv22 (Ext.refl _) fun v101 h101 => ?_
    have ho22 := ho20.ext hx22
    refine (l18Put_ok ho22.toI (by have := hx22.size; omega) h101.is (Ext.refl _) (by omega)).mono ?_
    rintro v102 w23 ⟨hx23, ho23⟩
    rw [← hrace] at ho23
    refine rd_inc (by omega) ?_
    exact ⟨mk17 - 1, by omega, j + 1, by omega, hyes v102 w22 w23 hx22 hx23 ho23⟩
end Go.Proofs.YtjgfldfbljmhhaaGreat
namespace Go.Proofs.YtjgfldfbljmhhaaGreat
open Go Go.Sh Go.Proofs
set_option linter.unusedVariables false
set_option linter.unusedSimpArgs false
def F164 (a0 a1 : Value) (w : World) (R : Value → World → Prop) : Prop :=
 RD Tryz.prog (convert 3 77 a1) w fun x7 =>
 RD Tryz.prog (bin .shr 3 (.tmp 0) (.tmp 0) a0 x7) w fun x8 =>
 RD Tryz.prog (bin .and 3 (.tmp 0) (.const undef) x8 (Value.int .i64 1)) w fun x9 =>
 RD Tryz.prog (bin .eql 3 (.tmp 0) (.const undef) x9 (Value.int .i64 1)) w fun x10 =>
 R x10 w
def cfg164 : Cfg := { ext := extL, joins := [], loops := [], draws := [], pars := [] }
theorem F164_eq (a0 a1 : Value) (w : World) (R : Value → World → Prop) : vcF Tryz.prog cfg164 Tryz.f164 [a0, a1] w R = F164 a0 a1 w R := by kernel_rfl
theorem F164_call {a0 a1 : Value} {w : World} {R : Value → World → Prop} (h : F164 a0 a1 w R) : CALL Tryz.prog 164 [a0, a1] w R :=
  call_of (g := cfg164) ent mixed Tryz.func164 (Nat.le_of_ble_eq_true (by kernel_rfl)) (by kernel_rfl) (F164_eq a0 a1 w R ▸ h)
theorem hasBit_ok {w : World} {m : Nat} {i : Nat}   (hm : m < 4611686018427387904) (hi : i < 4611686018427387904) :
    CALL Tryz.prog 164 [.int .i64 (m : Int), .int .i64 (i : Int)] w fun r w' => Ext w w' ∧ (r = .bool (m.testBit i)) := by
  refine F164_call ?_
  unfold F164
  refine rd_uint (by kernel_rfl) u77 (by omega) ?_
  refine rd_shr (by omega) ?_
  refine rd_and (n := 1) (Nat.lt_of_le_of_lt (Nat.shiftRight_le m i) hm) (by omega) ?_
  refine rd_eql ?_
  refine ⟨Ext.refl w, ?_⟩
  rw [bit_and]
def F97 (a0 : Value) (w : World) (R : Value → World → Prop) : Prop :=
 LOOPI [3, 4] [(Value.slice none 0 0), (Value.int .i64 0)] w fun u3 w next3 =>
 RD Tryz.prog (convert 3 77 (u3 4)) w fun x7 =>
 RD Tryz.prog (bin .shr 3 (.tmp 0) (.tmp 0) a0 x7) w fun x8 =>
 RD Tryz.prog (bin .neq 3 (.tmp 0) (.const undef) x8 (Value.int .i64 0)) w fun x9 =>
 BR x9
 (CALL Tryz.prog 164 [a0, (u3 4)] w fun x14 w =>
 BR x14
 (OP Tryz.prog (Instr.buildSlice 23 1 #[(0, (u3 4))]) w fun x17 w =>
 OP Tryz.prog (Builtin.append_ #[23, 23] 23 [(u3 3), x17].toArray) w fun x18 w =>
 RD Tryz.prog (bin .add 3 (.tmp 0) (.const undef) (u3 4) (Value.int .i64 1)) w fun x11 =>
 next3 [x18, x11] w)
 (RD Tryz.prog (bin .add 3 (.tmp 0) (.const undef) (u3 4) (Value.int .i64 1)) w fun x11 =>
 next3 [(u3 3), x11] w))
 (R (u3 3) w)
def cfg97 : Cfg := { ext := extL, joins := [], loops := [(3, 524280, [3, 4])], draws := [], pars := [] }
theorem F97_eq (a0 : Value) (w : World) (R : Value → World → Prop) : vcF Tryz.prog cfg97 Tryz.f97 [a0] w R = F97 a0 w R := by kernel_rfl
theorem F97_call {a0 : Value} {w : World} {R : Value → World → Prop} (h : F97 a0 w R) : CALL Tryz.prog 97 [a0] w R :=
  call_of (g := cfg97) ent mixed Tryz.func97 (Nat.le_of_ble_eq_true (by kernel_rfl)) (by kernel_rfl) (F97_eq a0 w R ▸ h)
theorem bitsOf_ok {w : World} {m : Nat}   (hm : m < 4611686018427387904) :
    CALL Tryz.prog 97 [.int .i64 (m : Int)] w fun r w' => Ext w w' ∧ (Own w.heap.size w' r (bitsL m)) := by
  refine F97_call ?_
  unfold F97
  refine loopC (62) (fun k us w' => ∃ v : Value, us = [v, .int .i64 (k : Int)] ∧ Ext w w' ∧ (RowI w.heap.size w'.heap.size 3 w' v (bitsTo m k))) (0) (by omega) ⟨_, rfl, Ext.refl w, rowI_nil _ _ _ _⟩ ?_
  rintro k m3 uu3 w1_ hk3 ⟨v3, hu, hx1_, hrow⟩
  have hs_hx1_ := hx1_.size
  simp only [List.map_cons, List.map_nil, List.cons.injEq, and_true] at hu
  obtain ⟨hu0, hu1⟩ := hu
  try rw [hu0]
  try rw [hu1]
  try clear hu0 hu1
  have hrl := bitsTo_len m k
  refine rd_uint (by kernel_rfl) u77 (by omega) ?_
  refine rd_shr (by omega) ?_
  refine rd_neq ?_
  refine br (fun c1 => ?_) (fun c1 => ?_)
  · have hk62 : k < 62 := by
      rcases Nat.lt_or_ge k 62 with h | h
      · exact h
      · have h1 : m < 2 ^ k := Nat.lt_of_lt_of_le (show m < 2 ^ 62 by omega) (Nat.pow_le_pow_right (by omega) h)
        exact absurd (by rw [shr_zero.2 h1]; rfl) c1
    refine (hasBit_ok (by omega) (by omega)).mono ?_
    rintro _ w2_ ⟨hx2_, rfl⟩
    have hs_hx2_ := hx2_.size
    refine br_b (fun c2 => ?_) (fun c2 => ?_)
    · refine op_push (α := Int) u23 ty3 z3 zc3 (by decide) (hrow.ext hx2_) (by omega) (ownI_int (lo := w2_.heap.size) (hi := w2_.heap.size) (by first | assumption | (unfold I64 at *; omega))) (by omega) (by omega) (by rw [maxLen_eq]; omega) (by omega) fun v18 w3_ hc3_ o18 => ?_
      have hs_hc3_ := hc3_.size
      refine rd_inc (by omega) ?_
      refine ⟨m3 - 1, by omega, k + 1, by omega, _, rfl, (Ext.chgI (hx1_.trans hx2_) hc3_ (by omega)), ?_⟩
      rw [bitsTo, if_pos c2]; exact o18
    · refine rd_inc (by omega) ?_
      refine ⟨m3 - 1, by omega, k + 1, by omega, _, rfl, (hx1_.trans hx2_), ?_⟩
      rw [bitsTo, if_neg (by simp [c2])]; exact (hrow.ext hx2_).mono (by omega) (by omega)
  · refine ⟨hx1_, ?_⟩
    have h1 : m >>> k = 0 := by have := Decidable.not_not.1 c1; omega
    rw [bitsL_eq (shr_zero.1 h1) (by omega)]
    exact hrow.own.own
def F119 (a0 : Value) (w : World) (R : Value → World → Prop) : Prop :=
 RD Tryz.prog (convert 3 77 a0) w fun x4 =>
 RD Tryz.prog (bin .shl 3 (.const undef) (.tmp 0) (Value.int .i64 1) x4) w fun x5 =>
 R x5 w
def cfg119 : Cfg := { ext := extL, joins := [], loops := [], draws := [], pars := [] }
theorem F119_eq (a0 : Value) (w : World) (R : Value → World → Prop) : vcF Tryz.prog cfg119 Tryz.f119 [a0] w R = F119 a0 w R := by kernel_rfl
theorem F119_call {a0 : Value} {w : World} {R : Value → World → Prop} (h : F119 a0 w R) : CALL Tryz.prog 119 [a0] w R :=
  call_of (g := cfg119) ent mixed Tryz.func119 (Nat.le_of_ble_eq_true (by kernel_rfl)) (by kernel_rfl) (F119_eq a0 w R ▸ h)
theorem l12Bit_ok {w : World} {i : Nat}   (hi : i < 62) :
    CALL Tryz.prog 119 [.int .i64 (i : Int)] w fun r w' => Ext w w' ∧ (r = .int .i64 ((2 ^ i : Nat) : Int)) := by
  refine F119_call ?_
  unfold F119
  refine rd_uint (by kernel_rfl) u77 (by omega) ?_
  refine rd_shl1 (by omega) ?_
  refine ⟨Ext.refl w, ?_⟩
  rfl
def F76 (a0 a1 : Value) (w : World) (R : Value → World → Prop) : Prop :=
 CALL Tryz.prog 119 [a1] w fun x7 w =>
 RD Tryz.prog (bin .and 3 (.tmp 0) (.tmp 0) a0 x7) w fun x8 =>
 RD Tryz.prog (bin .neq 3 (.tmp 0) (.const undef) x8 (Value.int .i64 0)) w fun x9 =>
 R x9 w
def cfg76 : Cfg := { ext := extL, joins := [], loops := [], draws := [], pars := [] }
theorem F76_eq (a0 a1 : Value) (w : World) (R : Value → World → Prop) : vcF Tryz.prog cfg76 Tryz.f76 [a0, a1] w R = F76 a0 a1 w R := by kernel_rfl
theorem F76_call {a0 a1 : Value} {w : World} {R : Value → World → Prop} (h : F76 a0 a1 w R) : CALL Tryz.prog 76 [a0, a1] w R :=
  call_of (g := cfg76) ent mixed Tryz.func76 (Nat.le_of_ble_eq_true (by kernel_rfl)) (by kernel_rfl) (F76_eq a0 a1 w R ▸ h)
theorem l12In_ok {w : World} {m : Nat} {i : Nat}   (hm : m < 4611686018427387904) (hi : i < 62) :
    CALL Tryz.prog 76 [.int .i64 (m : Int), .int .i64 (i : Int)] w fun r w' => Ext w w' ∧ (r = .bool (m.testBit i)) := by
  refine F76_call ?_
  unfold F76
  refine (l12Bit_ok (by omega)).mono ?_
  rintro _ w1_ ⟨hx1_, rfl⟩
  have hp : 2 ^ i < 4611686018427387904 := Nat.lt_of_lt_of_le (Nat.pow_lt_pow_right (by omega) hi) (by omega : 2 ^ 62 ≤ 4611686018427387904)
  refine rd_and (by omega) (by omega) ?_
  refine rd_neq ?_
  refine ⟨hx1_, ?_⟩
  rw [bit_and2]
def F123 (a0 : Value) (w : World) (R : Value → World → Prop) : Prop :=
 CALL Tryz.prog 122 [a0, (Value.int .i64 0), (Value.int .i64 63)] w fun x4 w =>
 R x4 w
def cfg123 : Cfg := { ext := extL, joins := [], loops := [], draws := [], pars := [] }
theorem F123_eq (a0 : Value) (w : World) (R : Value → World → Prop) : vcF Tryz.prog cfg123 Tryz.f123 [a0] w R = F123 a0 w R := by kernel_rfl
theorem F123_call {a0 : Value} {w : World} {R : Value → World → Prop} (h : F123 a0 w R) : CALL Tryz.prog 123 [a0] w R :=
  call_of (g := cfg123) ent mixed Tryz.func123 (Nat.le_of_ble_eq_true (by kernel_rfl)) (by kernel_rfl) (F123_eq a0 w R ▸ h)
theorem l12Ok_ok {w : World} {a : Int}    :
    CALL Tryz.prog 123 [.int .i64 a] w fun r w' => Ext w w' ∧ (r = .bool (decide (0 ≤ a ∧ a ≤ 63))) := by
  refine F123_call ?_
  unfold F123
  refine (l01In_ok ).mono ?_
  rintro _ w1_ ⟨hx1_, rfl⟩
  refine ⟨hx1_, ?_⟩
  rfl
def F158 (a0 : Value) (w : World) (R : Value → World → Prop) : Prop :=
 OP Tryz.prog (Instr.buildSlice 23 0 #[]) w fun x5 w =>
 LOOPI [3, 4] [x5, (Value.int .i64 0)] w fun u3 w next3 =>
 CALL Tryz.prog 123 [a0] w fun x7 w =>
 BR x7
 (RD Tryz.prog (bin .lss 3 (.tmp 0) (.const undef) (u3 4) (Value.int .i64 6)) w fun x10 =>
 BR x10
 (CALL Tryz.prog 76 [a0, (u3 4)] w fun x16 w =>
 BR x16
 (OP Tryz.prog (Instr.buildSlice 23 1 #[(0, (u3 4))]) w fun x19 w =>
 OP Tryz.prog (Builtin.append_ #[23, 23] 23 [(u3 3), x19].toArray) w fun x20 w =>
 RD Tryz.prog (bin .add 3 (.tmp 0) (.const undef) (u3 4) (Value.int .i64 1)) w fun x13 =>
 next3 [x20, x13] w)
 (RD Tryz.prog (bin .add 3 (.tmp 0) (.const undef) (u3 4) (Value.int .i64 1)) w fun x13 =>
 next3 [(u3 3), x13] w))
 (R (u3 3) w))
 (R (u3 3) w)
def cfg158 : Cfg := { ext := extL, joins := [], loops := [(3, 2097112, [3, 4])], draws := [], pars := [] }
theorem F158_eq (a0 : Value) (w : World) (R : Value → World → Prop) : vcF Tryz.prog cfg158 Tryz.f158 [a0] w R = F158 a0 w R := by kernel_rfl
theorem F158_call {a0 : Value} {w : World} {R : Value → World → Prop} (h : F158 a0 w R) : CALL Tryz.prog 158 [a0] w R :=
  call_of (g := cfg158) ent mixed Tryz.func158 (Nat.le_of_ble_eq_true (by kernel_rfl)) (by kernel_rfl) (F158_eq a0 w R ▸ h)
theorem listOf_ok {w : World} {m : Nat}   (hm : m < 64) :
    CALL Tryz.prog 158 [.int .i64 (m : Int)] w fun r w' => Ext w w' ∧ (Own w.heap.size w' r (bitsL m)) := by
  refine F158_call ?_
  unfold F158
  refine op_build0I (α := Int) u23 ty3 fun v5 w1_ hx1_ o5 => ?_
  have hs_hx1_ := hx1_.size
  refine loopC (6) (fun k us w' => ∃ v : Value, us = [v, .int .i64 (k : Int)] ∧ Ext w1_ w' ∧ (RowI w1_.heap.size w'.heap.size 3 w' v (bitsTo m k))) (0) (by omega) ⟨_, rfl, Ext.refl w1_, rowI_zcap _ _ _ _ _⟩ ?_
  rintro k m3 uu3 w2_ hk3 ⟨v3, hu, hx2_, hrow⟩
  have hs_hx2_ := hx2_.size
  simp only [List.map_cons, List.map_nil, List.cons.injEq, and_true] at hu
  obtain ⟨hu0, hu1⟩ := hu
  try rw [hu0]
  try rw [hu1]
  try clear hu0 hu1
  have hrl := bitsTo_len m k
  refine (l12Ok_ok ).mono ?_
  rintro _ w3_ ⟨hx3_, rfl⟩
  have hs_hx3_ := hx3_.size
  refine br (fun c1 => ?_) (fun c1 => ?_)
  · refine rd_lss ?_
    refine br (fun c2 => ?_) (fun c2 => ?_)
    · refine (l12In_ok (by omega) (by omega)).mono ?_
      rintro _ w4_ ⟨hx4_, rfl⟩
      have hs_hx4_ := hx4_.size
      refine br_b (fun c3 => ?_) (fun c3 => ?_)
      · refine op_push (α := Int) u23 ty3 z3 zc3 (by decide) (hrow.ext (hx3_.trans hx4_)) (by omega) (ownI_int (lo := w4_.heap.size) (hi := w4_.heap.size) (by first | assumption | (unfold I64 at *; omega))) (by omega) (by omega) (by rw [maxLen_eq]; omega) (by omega) fun v20 w5_ hc5_ o20 => ?_
        have hs_hc5_ := hc5_.size
        have o5_c5 := (o5.ext (hx2_.trans (hx3_.trans hx4_))).chg hc5_ (by omega)
        refine rd_inc (by omega) ?_
        refine ⟨m3 - 1, by omega, k + 1, by omega, _, rfl, (Ext.chgI ((hx2_.trans hx3_).trans hx4_) hc5_ (by omega)), ?_⟩
        rw [bitsTo, if_pos c3]; exact o20
      · refine rd_inc (by omega) ?_
        refine ⟨m3 - 1, by omega, k + 1, by omega, _, rfl, (hx2_.trans (hx3_.trans hx4_)), ?_⟩
        rw [bitsTo, if_neg (by simp [c3])]; exact (hrow.ext (hx3_.trans hx4_)).mono (by omega) (by omega)
    · refine ⟨(hx1_.trans (hx2_.trans hx3_)), ?_⟩
      rw [bitsL_eq (k := 6) (by omega) (by omega)]
      have : k = 6 := by omega
      subst this
      exact (hrow.own.ext hx3_).own.mono (by omega)
  · refine ⟨(hx1_.trans (hx2_.trans hx3_)), ?_⟩
    exact absurd c1 (by omega)
theorem waits_lt {c : DCode} {s : DState} (hc : CodeR c) (hs : StateR c s) (t : Int) : -1 ≤ waitsOf c s t ∧ waitsOf c s t < c.locks.length ∧ (0 ≤ waitsOf c s t → (waitsOf c s t).toNat < s.owner.length ∧ 0 ≤ ow s (waitsOf c s t) ∧ ow s (waitsOf c s t) < s.stacks.length) := by
  unfold waitsOf
  split
  · rename_i h
    have h1 := atI_lock hc hs h.1 (.inl h.2.1)
    have h2 := ow_range hs h1.1 h1.2
    have h3 := hs.2.1
    refine ⟨by omega, by omega, fun _ => ⟨h1.2, h.2.2, h2.2⟩⟩
  · exact ⟨by omega, by omega, fun h => by omega⟩
def knotG (c : DCode) (s : DState) (t : Int) : Nat → Nat → Int → Nat
  | 0, _, _ => 0
  | n + 1, m, u => if waitsOf c s u < 0 then 0 else if ow s (waitsOf c s u) = t then m ||| 2 ^ (waitsOf c s u).toNat else knotG c s t n (m ||| 2 ^ (waitsOf c s u).toNat) (ow s (waitsOf c s u))
def knotOf (c : DCode) (s : DState) (t : Int) : Nat := knotG c s t s.stacks.length 0 t
theorem or_lt6 {m i : Nat} (hm : m < 64) (hi : i < 6) : m ||| 2 ^ i < 64 := Nat.or_lt_two_pow (n := 6) hm (Nat.pow_lt_pow_right (by omega) hi)
theorem knotG_lt {c : DCode} {s : DState} (hc : CodeR c) (hs : StateR c s) (t : Int) : ∀ n m u, m < 64 → knotG c s t n m u < 64
  | 0, _, _, _ => by rw [knotG]; omega
  | n + 1, m, u, hm => by
    have h1 := waits_lt hc hs u
    have h2 := hc.1.locks6
    rw [knotG]
    split
    · omega
    · have h3 := or_lt6 hm (i := (waitsOf c s u).toNat) (by omega)
      split
      · exact h3
      · exact knotG_lt hc hs t n _ _ h3
theorem knotOf_lt {c : DCode} {s : DState} (hc : CodeR c) (hs : StateR c s) (t : Int) : knotOf c s t < 64 := knotG_lt hc hs t _ _ _ (by omega)
def F98 (a0 a1 a2 : Value) (w : World) (R : Value → World → Prop) : Prop :=
 OP Tryz.prog (Instr.box 35 a0) w fun x3 w =>
 OP Tryz.prog (Instr.box 37 a1) w fun x4 w =>
 RD Tryz.prog (Instr.fieldAt 37 x4 2) w fun x11 =>
 RD Tryz.prog (Instr.loadAt 27 x11) w fun x12 =>
 RD Tryz.prog (Builtin.len_ #[27] 3 [x12].toArray) w fun x13 =>
 LOOPI [7, 8, 14] [(Value.int .i64 0), a2, (Value.int .i64 0)] w fun u3 w next3 =>
 RD Tryz.prog (bin .lss 3 (.tmp 0) (.tmp 0) (u3 14) x13) w fun x15 =>
 BR x15
 (RD Tryz.prog (Instr.loadAt 35 x3) w fun x16 =>
 RD Tryz.prog (Instr.loadAt 37 x4) w fun x17 =>
 CALL Tryz.prog 165 [x16, x17, (u3 8)] w fun x19 w =>
 RD Tryz.prog (bin .lss 3 (.tmp 0) (.const undef) x19 (Value.int .i64 0)) w fun x21 =>
 BR x21
 (R (Value.int .i64 0) w)
 (RD Tryz.prog (convert 3 77 x19) w fun x24 =>
 RD Tryz.prog (bin .shl 3 (.const undef) (.tmp 0) (Value.int .i64 1) x24) w fun x25 =>
 RD Tryz.prog (bin .or 3 (.tmp 0) (.tmp 0) (u3 7) x25) w fun x26 =>
 RD Tryz.prog (Instr.loadAt 37 x4) w fun x27 =>
 CALL Tryz.prog 166 [x27, x19] w fun x29 w =>
 RD Tryz.prog (bin .eql 3 (.tmp 0) (.tmp 0) x29 a2) w fun x32 =>
 BR x32
 (R x26 w)
 (RD Tryz.prog (bin .add 3 (.tmp 0) (.const undef) (u3 14) (Value.int .i64 1)) w fun x34 =>
 next3 [x26, x29, x34] w)))
 (R (Value.int .i64 0) w)
def cfg98 : Cfg := { ext := extL, joins := [], loops := [(3, 34359722944, [7, 8, 14])], draws := [], pars := [] }
theorem F98_eq (a0 a1 a2 : Value) (w : World) (R : Value → World → Prop) : vcF Tryz.prog cfg98 Tryz.f98 [a0, a1, a2] w R = F98 a0 a1 a2 w R := by kernel_rfl
theorem F98_call {a0 a1 a2 : Value} {w : World} {R : Value → World → Prop} (h : F98 a0 a1 a2 w R) : CALL Tryz.prog 98 [a0, a1, a2] w R :=
  call_of (g := cfg98) ent mixed Tryz.func98 (Nat.le_of_ble_eq_true (by kernel_rfl)) (by kernel_rfl) (F98_eq a0 a1 a2 w R ▸ h)
theorem knot_ok {w : World} {v0 : Value} {W0 : World} {c : DCode} {v1 : Value} {W1 : World} {s : DState} {t : Int}  (h0 : Is W0 v0 c) (e0 : Ext W0 w) (h1 : Is W1 v1 s) (e1 : Ext W1 w) (hc : CodeR c) (hs : StateR c s) :
    CALL Tryz.prog 98 [v0, v1, .int .i64 t] w fun r w' => Ext w w' ∧ (r = .int .i64 (knotOf c s t : Int)) := by
  refine F98_call ?_
  unfold F98
  refine op_boxS ty35 rfl h0 e0 fun w1_ hx1_ hA3 hV3 => ?_
  refine op_boxS ty37 rfl h1 (e1.trans hx1_) fun w2_ hx2_ hA4 hV4 => ?_
  refine rd_fld fd37_2 ?_
  refine rd_load ty27 (at_DState_2 hA4) (Ext.refl w2_) fun v12 h12 => ?_
  have hln13 := is_len h12
  refine rd_len u27 h12 ?_
  refine loopC (s.stacks.length) (fun k us w' => ∃ q : Nat × Int, us = [.int .i64 (q.1 : Int), .int .i64 q.2, .int .i64 (k : Int)] ∧ Ext w2_ w' ∧ (q.1 < 64 ∧ knotG c s t (s.stacks.length - k) q.1 q.2 = knotOf c s t)) (0) (by omega) ⟨(0, t), rfl, Ext.refl w2_, by simp, rfl⟩ ?_
  rintro k m3 uu3 w3_ hk3 ⟨q, hu, hx3_, hq1, hq2⟩
  simp only [List.map_cons, List.map_nil, List.cons.injEq, and_true] at hu
  obtain ⟨hu0, hu1, hu2⟩ := hu
  try rw [hu0]
  try rw [hu1]
  try rw [hu2]
  try clear hu0 hu1 hu2
  obtain ⟨q, u⟩ := q; simp only at hq1 hq2 ⊢; have hw := waits_lt hc hs u; have hl6 := hc.1.locks6; have hmany := hs.2.2.1
  refine rd_lss ?_
  refine br (fun c1 => ?_) (fun c1 => ?_)
  · refine rd_var hV3 (hx2_.trans hx3_) ?_
    refine rd_var hV4 hx3_ ?_
    refine (waits_ok h0 (e0.trans (hx1_.trans (hx2_.trans hx3_))) h1 (e1.trans (hx1_.trans (hx2_.trans hx3_))) (by assumption) (by assumption)).mono ?_
    rintro _ w4_ ⟨hx4_, rfl⟩
    refine rd_lss ?_
    refine br (fun c2 => ?_) (fun c2 => ?_)
    · refine ⟨(hx1_.trans (hx2_.trans (hx3_.trans hx4_))), ?_⟩
      rw [show s.stacks.length - k = (s.stacks.length - k - 1) + 1 by omega, knotG, if_pos (by omega)] at hq2
      rw [← hq2]; rfl
    · rw [show s.stacks.length - k = (s.stacks.length - k - 1) + 1 by omega, knotG, if_neg (by omega)] at hq2
      obtain ⟨l, hl⟩ : ∃ l : Nat, waitsOf c s u = (l : Int) := ⟨(waitsOf c s u).toNat, by omega⟩
      have hw2 := hw.2.2 (by omega)
      rw [hl] at hw hw2 hq2 ⊢
      simp only [Int.toNat_natCast] at hq2 hw2
      have ho6 := or_lt6 hq1 (i := l) (by omega)
      have hp : 2 ^ l < 64 := Nat.pow_lt_pow_right (n := 6) (by omega) (by omega)
      refine rd_uint (by kernel_rfl) u77 (by omega) ?_
      refine rd_shl1 (by omega) ?_
      refine rd_or (by omega) (by omega) ?_
      refine rd_var hV4 (hx3_.trans hx4_) ?_
      refine (holderOf_ok h1 (e1.trans (hx1_.trans (hx2_.trans (hx3_.trans hx4_)))) (by omega) (by omega)).mono ?_
      rintro _ w5_ ⟨hx5_, rfl⟩
      refine rd_eql ?_
      refine br (fun c3 => ?_) (fun c3 => ?_)
      · refine ⟨(hx1_.trans (hx2_.trans (hx3_.trans (hx4_.trans hx5_)))), ?_⟩
        rw [if_pos (by omega)] at hq2
        rw [hq2]
      · refine rd_inc (by omega) ?_
        refine ⟨m3 - 1, by omega, k + 1, by omega, (q ||| 2 ^ l, max (ow s (l : Int)) (-1)), rfl, (hx3_.trans (hx4_.trans hx5_)), ?_⟩
        rw [if_neg (by omega)] at hq2
        refine ⟨ho6, ?_⟩
        rw [← hq2]
        simp only
        rw [show max (ow s (l : Int)) (-1) = ow s (l : Int) by omega, Nat.sub_sub]
  · refine ⟨(hx1_.trans (hx2_.trans hx3_)), ?_⟩
    rw [show s.stacks.length - k = 0 by omega, knotG] at hq2
    rw [← hq2]; rfl
def F93 (a0 a1 a2 : Value) (w : World) (R : Value → World → Prop) : Prop :=
 OP Tryz.prog (Instr.box 35 a0) w fun x3 w =>
 OP Tryz.prog (Instr.box 37 a1) w fun x4 w =>
 LOOPI [7, 8, 9] [(Value.int .i64 0), a2, (Value.int .i64 0)] w fun u4 w next4 =>
 RD Tryz.prog (Instr.fieldAt 37 x4 2) w fun x13 =>
 RD Tryz.prog (Instr.loadAt 27 x13) w fun x14 =>
 RD Tryz.prog (Builtin.len_ #[27] 3 [x14].toArray) w fun x15 =>
 RD Tryz.prog (bin .lss 3 (.tmp 0) (.tmp 0) (u4 9) x15) w fun x16 =>
 BR x16
 (RD Tryz.prog (Instr.loadAt 35 x3) w fun x19 =>
 RD Tryz.prog (Instr.loadAt 37 x4) w fun x20 =>
 CALL Tryz.prog 157 [x19, x20, (u4 8)] w fun x22 w =>
 RD Tryz.prog (bin .lss 3 (.tmp 0) (.const undef) x22 (Value.int .i64 0)) w fun x24 =>
 BR x24
 (OP Tryz.prog (Instr.buildSlice 23 0 #[]) w fun x25 w =>
 R x25 w)
 (CALL Tryz.prog 119 [x22] w fun x28 w =>
 RD Tryz.prog (bin .or 3 (.tmp 0) (.tmp 0) (u4 7) x28) w fun x29 =>
 RD Tryz.prog (Instr.fieldAt 37 x4 1) w fun x30 =>
 RD Tryz.prog (Instr.loadAt 23 x30) w fun x31 =>
 RD Tryz.prog (Instr.indexAt 23 x31 x22) w fun x33 =>
 RD Tryz.prog (Instr.loadAt 3 x33) w fun x34 =>
 RD Tryz.prog (bin .eql 3 (.tmp 0) (.tmp 0) x34 a2) w fun x37 =>
 BR x37
 (CALL Tryz.prog 158 [x29] w fun x39 w =>
 R x39 w)
 (RD Tryz.prog (bin .add 3 (.tmp 0) (.const undef) (u4 9) (Value.int .i64 1)) w fun x18 =>
 next4 [x29, x34, x18] w)))
 (OP Tryz.prog (Instr.buildSlice 23 0 #[]) w fun x40 w =>
 R x40 w)
def cfg93 : Cfg := { ext := extL, joins := [], loops := [(4, 1099511625664, [7, 8, 9])], draws := [], pars := [] }
theorem F93_eq (a0 a1 a2 : Value) (w : World) (R : Value → World → Prop) : vcF Tryz.prog cfg93 Tryz.f93 [a0, a1, a2] w R = F93 a0 a1 a2 w R := by kernel_rfl
theorem F93_call {a0 a1 a2 : Value} {w : World} {R : Value → World → Prop} (h : F93 a0 a1 a2 w R) : CALL Tryz.prog 93 [a0, a1, a2] w R :=
  call_of (g := cfg93) ent mixed Tryz.func93 (Nat.le_of_ble_eq_true (by kernel_rfl)) (by kernel_rfl) (F93_eq a0 a1 a2 w R ▸ h)
theorem l24KnotOf_ok {w : World} {v0 : Value} {W0 : World} {c : DCode} {v1 : Value} {W1 : World} {s : DState} {t : Int}  (h0 : Is W0 v0 c) (e0 : Ext W0 w) (h1 : Is W1 v1 s) (e1 : Ext W1 w) (hc : CodeR c) (hs : StateR c s) :
    CALL Tryz.prog 93 [v0, v1, .int .i64 t] w fun r w' => Ext w w' ∧ (Own w.heap.size w' r (bitsL (knotOf c s t))) := by
  refine F93_call ?_
  unfold F93
  have hs_e0 := e0.size
  have hs_e1 := e1.size
  refine op_boxS ty35 rfl h0 e0 fun w1_ hx1_ hA3 hV3 => ?_
  have hs_hx1_ := hx1_.size
  refine op_boxS ty37 rfl h1 (e1.trans hx1_) fun w2_ hx2_ hA4 hV4 => ?_
  have hs_hx2_ := hx2_.size
  refine loopC (s.stacks.length) (fun k us w' => ∃ q : Nat × Int, us = [.int .i64 (q.1 : Int), .int .i64 q.2, .int .i64 (k : Int)] ∧ Ext w2_ w' ∧ (q.1 < 64 ∧ knotG c s t (s.stacks.length - k) q.1 q.2 = knotOf c s t)) (0) (by omega) ⟨(0, t), rfl, Ext.refl w2_, by simp, rfl⟩ ?_
  rintro k m4 uu4 w3_ hk4 ⟨q, hu, hx3_, hq1, hq2⟩
  have hs_hx3_ := hx3_.size
  simp only [List.map_cons, List.map_nil, List.cons.injEq, and_true] at hu
  obtain ⟨hu0, hu1, hu2⟩ := hu
  try rw [hu0]
  try rw [hu1]
  try rw [hu2]
  try clear hu0 hu1 hu2
  obtain ⟨q, u⟩ := q; simp only at hq1 hq2 ⊢; have hw := waits_lt hc hs u; have hl6 := hc.1.locks6; have hmany := hs.2.2.1
  refine rd_fld fd37_2 ?_
  refine rd_load ty27 (at_DState_2 hA4) hx3_ fun v14 h14 => ?_
  have hln15 := is_len h14
  refine rd_len u27 h14 ?_
  refine rd_lss ?_
  refine br (fun c1 => ?_) (fun c1 => ?_)
  · refine rd_var hV3 (hx2_.trans hx3_) ?_
    refine rd_var hV4 hx3_ ?_
    refine (l24Waits_ok h0 (e0.trans (hx1_.trans (hx2_.trans hx3_))) h1 (e1.trans (hx1_.trans (hx2_.trans hx3_))) (by assumption) (by assumption)).mono ?_
    rintro _ w4_ ⟨hx4_, rfl⟩
    have hs_hx4_ := hx4_.size
    refine rd_lss ?_
    refine br (fun c2 => ?_) (fun c2 => ?_)
    · refine op_build0I (α := Int) u23 ty3 fun v25 w5_ hx5_ o25 => ?_
      have hs_hx5_ := hx5_.size
      refine ⟨(hx1_.trans (hx2_.trans (hx3_.trans (hx4_.trans hx5_)))), ?_⟩
      rw [show s.stacks.length - k = (s.stacks.length - k - 1) + 1 by omega, knotG, if_pos (by omega)] at hq2
      rw [← hq2]; exact o25.own.own.mono (by omega)
    · rw [show s.stacks.length - k = (s.stacks.length - k - 1) + 1 by omega, knotG, if_neg (by omega)] at hq2
      obtain ⟨l, hl⟩ : ∃ l : Nat, waitsOf c s u = (l : Int) := ⟨(waitsOf c s u).toNat, by omega⟩
      have hw2 := hw.2.2 (by omega)
      rw [hl] at hw hw2 hq2 ⊢
      simp only [Int.toNat_natCast] at hq2 hw2
      have ho6 := or_lt6 hq1 (i := l) (by omega)
      have hp : 2 ^ l < 64 := Nat.pow_lt_pow_right (n := 6) (by omega) (by omega)
      refine (l12Bit_ok (by omega)).mono ?_
      rintro _ w6_ ⟨hx6_, rfl⟩
      have hs_hx6_ := hx6_.size
      refine rd_or (by omega) (by omega) ?_
      refine rd_fld fd37_1 ?_
      refine rd_load ty23 (at_DState_1 hA4) (hx3_.trans (hx4_.trans hx6_)) fun v31 h31 => ?_
      refine rd_index u23 ty3 h31 (by omega) (by omega) fun b33 o33 h33 => ?_
      rw [ow_get' (by omega) (by simpa using hw2.1)] at h33
      refine rd_loadI ty3 h33 (hx3_.trans (hx4_.trans hx6_)) fun hI34 => ?_
      refine rd_eql ?_
      refine br (fun c3 => ?_) (fun c3 => ?_)
      · rw [if_pos c3] at hq2
        refine (listOf_ok (by omega)).mono ?_
        rintro r39 w7_ ⟨hx7_, o39⟩
        have o39 := o39.toI
        have hs_hx7_ := hx7_.size
        refine ⟨(hx1_.trans (hx2_.trans (hx3_.trans (hx4_.trans (hx6_.trans hx7_))))), ?_⟩
        rw [← hq2]; exact o39.own.mono (by omega)
      · refine rd_inc (by omega) ?_
        refine ⟨m4 - 1, by omega, k + 1, by omega, (q ||| 2 ^ l, ow s (l : Int)), rfl, (hx3_.trans (hx4_.trans hx6_)), ?_⟩
        rw [if_neg c3] at hq2
        refine ⟨ho6, ?_⟩
        rw [← hq2, Nat.sub_sub]
  · refine op_build0I (α := Int) u23 ty3 fun v40 w8_ hx8_ o40 => ?_
    have hs_hx8_ := hx8_.size
    refine ⟨(hx1_.trans (hx2_.trans (hx3_.trans hx8_))), ?_⟩
    rw [show s.stacks.length - k = 0 by omega, knotG] at hq2
    rw [← hq2]; exact o40.own.own.mono (by omega)
def knotsTo (c : DCode) (s : DState) : Nat → Nat
  | 0 => 0
  | k + 1 => if knotOf c s k ≠ 0 then knotsTo c s k ||| 2 ^ (waitsOf c s k).toNat else knotsTo c s k
end Go.Proofs.YtjgfldfbljmhhaaGreat
namespace Go.Proofs.YtjgfldfbljmhhaaGreat
open Go Go.Sh Go.Proofs
set_option linter.unusedVariables false
set_option linter.unusedSimpArgs false
def fairP (c : DCode) (s : DState) : Prop := (CodeR c ∧ StateR c s) ∧ meets c s = [] ∧ knotsTo c s s.stacks.length = 0
instance (c : DCode) (s : DState) : Decidable (fairP c s) := by unfold fairP; infer_instance
end Go.Proofs.YtjgfldfbljmhhaaGreat
namespace Go.Proofs.YtjgfldfbljmhhaaGreat
open Go Go.Sh Go.Proofs
set_option linter.unusedVariables false
set_option linter.unusedSimpArgs false
theorem tmod_pos {n : Int} (h : 0 ≤ n) : n.tmod 1000 = n % 1000 := Int.tmod_eq_emod_of_nonneg h
theorem tmod_neg {n : Int} (h : n < 0) : n.tmod 1000 = -((-n) % 1000) := by
  have h1 : (-n).tmod 1000 = (-n) % 1000 := Int.tmod_eq_emod_of_nonneg (by omega)
  rw [Int.neg_tmod] at h1
  omega
theorem tmod_lt (n : Int) : -1000 < n.tmod 1000 ∧ n.tmod 1000 < 1000 := by
  rcases Int.lt_or_le n 0 with h | h
  · rw [tmod_neg h]; omega
  · rw [tmod_pos h]; omega
def F299 (a0 : Value) (w : World) (R : Value → World → Prop) : Prop :=
 RD Tryz.prog (bin .rem 3 (.tmp 0) (.const undef) a0 (Value.int .i64 1000)) w fun x4 =>
 RD Tryz.prog (bin .add 3 (.tmp 0) (.const undef) x4 (Value.int .i64 1000)) w fun x5 =>
 RD Tryz.prog (bin .rem 3 (.tmp 0) (.const undef) x5 (Value.int .i64 1000)) w fun x6 =>
 R x6 w
def cfg299 : Cfg := { ext := extL, joins := [], loops := [], draws := [], pars := [] }
theorem F299_eq (a0 : Value) (w : World) (R : Value → World → Prop) : vcF Tryz.prog cfg299 Tryz.f299 [a0] w R = F299 a0 w R := by kernel_rfl
theorem F299_call {a0 : Value} {w : World} {R : Value → World → Prop} (h : F299 a0 w R) : CALL Tryz.prog 299 [a0] w R :=
  call_of (g := cfg299) ent mixed Tryz.func299 (Nat.le_of_ble_eq_true (by kernel_rfl)) (by kernel_rfl) (F299_eq a0 w R ▸ h)
theorem rest_ok {w : World} {n : Int}   (hn : I64 n) :
    CALL Tryz.prog 299 [.int .i64 n] w fun r w' => Ext w w' ∧ (r = .int .i64 (n % 1000)) := by
  refine F299_call ?_
  unfold F299
  have ht := tmod_lt n
  refine rd_rem (by omega) ?_
  refine rd_add (by unfold I64; omega) ?_
  refine rd_rem (by omega) ?_
  refine ⟨Ext.refl w, ?_⟩
  congr 1
  rw [tmod_pos (n := n.tmod 1000 + 1000) (by omega)]
  rcases Int.lt_or_le n 0 with h | h
  · rw [tmod_neg h]; omega
  · rw [tmod_pos h]; omega
def F300 (a0 : Value) (w : World) (R : Value → World → Prop) : Prop :=
 BR a0
 (R (Value.int .i64 1) w)
 (R (Value.int .i64 0) w)
def cfg300 : Cfg := { ext := extL, joins := [], loops := [], draws := [], pars := [] }
theorem F300_eq (a0 : Value) (w : World) (R : Value → World → Prop) : vcF Tryz.prog cfg300 Tryz.f300 [a0] w R = F300 a0 w R := by kernel_rfl
theorem F300_call {a0 : Value} {w : World} {R : Value → World → Prop} (h : F300 a0 w R) : CALL Tryz.prog 300 [a0] w R :=
  call_of (g := cfg300) ent mixed Tryz.func300 (Nat.le_of_ble_eq_true (by kernel_rfl)) (by kernel_rfl) (F300_eq a0 w R ▸ h)
theorem truth_ok {w : World} {b : Bool}    :
    CALL Tryz.prog 300 [.bool b] w fun r w' => Ext w w' ∧ (r = .int .i64 (if b = true then 1 else 0)) := by
  refine F300_call ?_
  unfold F300
  refine br_b (fun c1 => ?_) (fun c1 => ?_)
  · refine ⟨Ext.refl w, ?_⟩
    rw [if_pos c1]
  · refine ⟨Ext.refl w, ?_⟩
    rw [if_neg (by simp [c1])]
def F317 (a0 : Value) (w : World) (R : Value → World → Prop) : Prop :=
 BR a0
 (R (Value.int .i64 1) w)
 (R (Value.int .i64 0) w)
def cfg317 : Cfg := { ext := extL, joins := [], loops := [], draws := [], pars := [] }
theorem F317_eq (a0 : Value) (w : World) (R : Value → World → Prop) : vcF Tryz.prog cfg317 Tryz.f317 [a0] w R = F317 a0 w R := by kernel_rfl
theorem F317_call {a0 : Value} {w : World} {R : Value → World → Prop} (h : F317 a0 w R) : CALL Tryz.prog 317 [a0] w R :=
  call_of (g := cfg317) ent mixed Tryz.func317 (Nat.le_of_ble_eq_true (by kernel_rfl)) (by kernel_rfl) (F317_eq a0 w R ▸ h)
theorem l03Yes_ok {w : World} {b : Bool}    :
    CALL Tryz.prog 317 [.bool b] w fun r w' => Ext w w' ∧ (r = .int .i64 (if b = true then 1 else 0)) := by
  refine F317_call ?_
  unfold F317
  refine br_b (fun c1 => ?_) (fun c1 => ?_)
  · refine ⟨Ext.refl w, ?_⟩
    rw [if_pos c1]
  · refine ⟨Ext.refl w, ?_⟩
    rw [if_neg (by simp [c1])]
def F316 (a0 : Value) (w : World) (R : Value → World → Prop) : Prop :=
 RD Tryz.prog (bin .rem 3 (.tmp 0) (.const undef) a0 (Value.int .i64 1000)) w fun x4 =>
 RD Tryz.prog (bin .lss 3 (.tmp 0) (.const undef) x4 (Value.int .i64 0)) w fun x6 =>
 BR x6
 (RD Tryz.prog (bin .add 3 (.tmp 0) (.const undef) x4 (Value.int .i64 1000)) w fun x8 =>
 R x8 w)
 (R x4 w)
def cfg316 : Cfg := { ext := extL, joins := [], loops := [], draws := [], pars := [] }
theorem F316_eq (a0 : Value) (w : World) (R : Value → World → Prop) : vcF Tryz.prog cfg316 Tryz.f316 [a0] w R = F316 a0 w R := by kernel_rfl
theorem F316_call {a0 : Value} {w : World} {R : Value → World → Prop} (h : F316 a0 w R) : CALL Tryz.prog 316 [a0] w R :=
  call_of (g := cfg316) ent mixed Tryz.func316 (Nat.le_of_ble_eq_true (by kernel_rfl)) (by kernel_rfl) (F316_eq a0 w R ▸ h)
theorem l03Mod_ok {w : World} {n : Int}   (hn : I64 n) :
    CALL Tryz.prog 316 [.int .i64 n] w fun r w' => Ext w w' ∧ (r = .int .i64 (n % 1000)) := by
  refine F316_call ?_
  unfold F316
  have ht := tmod_lt n
  refine rd_rem (by omega) ?_
  refine rd_lss ?_
  refine br (fun c1 => ?_) (fun c1 => ?_)
  · refine rd_add (by unfold I64; omega) ?_
    refine ⟨Ext.refl w, ?_⟩
    congr 1
    rcases Int.lt_or_le n 0 with h | h
    · rw [tmod_neg h] at c1 ⊢; try omega
    · rw [tmod_pos h] at c1 ⊢; try omega
  · refine ⟨Ext.refl w, ?_⟩
    congr 1
    rcases Int.lt_or_le n 0 with h | h
    · rw [tmod_neg h] at c1 ⊢; try omega
    · rw [tmod_pos h] at c1 ⊢; try omega
def term00 : DTerm := .mk 0 0 (ByteArray.mk #[]) []
def workT (names : List ByteArray) (vals : List Int) : Nat → DTerm → Int
  | n, t => if t.kind = 1 then t.num % 1000 else if t.kind = 2 then (if 0 ≤ plc t.name names ∧ plc t.name names < vals.length then vals.getD (plc t.name names).toNat 0 % 1000 else 0) else
    match n with
    | 0 => 0
    | m + 1 =>
      if t.kind = 8 then (if workT names vals m (t.kids.getD 0 term00) = 0 then 1 else 0)
      else if t.kind = 3 then (workT names vals m (t.kids.getD 0 term00) + workT names vals m (t.kids.getD 1 term00)) % 1000
      else if t.kind = 4 then (workT names vals m (t.kids.getD 0 term00) - workT names vals m (t.kids.getD 1 term00)) % 1000
      else if t.kind = 5 then (workT names vals m (t.kids.getD 0 term00) * workT names vals m (t.kids.getD 1 term00)) % 1000
      else if t.kind = 6 then (if workT names vals m (t.kids.getD 0 term00) < workT names vals m (t.kids.getD 1 term00) then 1 else 0)
      else if t.kind = 7 then (if workT names vals m (t.kids.getD 0 term00) = workT names vals m (t.kids.getD 1 term00) then 1 else 0)
      else (if workT names vals m (t.kids.getD 0 term00) ≠ 0 ∧ workT names vals m (t.kids.getD 1 term00) ≠ 0 then 1 else 0)
theorem workT_def (names : List ByteArray) (vals : List Int) (n : Nat) (t : DTerm) : workT names vals n t = (if t.kind = 1 then t.num % 1000 else if t.kind = 2 then (if 0 ≤ plc t.name names ∧ plc t.name names < vals.length then vals.getD (plc t.name names).toNat 0 % 1000 else 0) else
    match n with
    | 0 => 0
    | m + 1 =>
      if t.kind = 8 then (if workT names vals m (t.kids.getD 0 term00) = 0 then 1 else 0)
      else if t.kind = 3 then (workT names vals m (t.kids.getD 0 term00) + workT names vals m (t.kids.getD 1 term00)) % 1000
      else if t.kind = 4 then (workT names vals m (t.kids.getD 0 term00) - workT names vals m (t.kids.getD 1 term00)) % 1000
      else if t.kind = 5 then (workT names vals m (t.kids.getD 0 term00) * workT names vals m (t.kids.getD 1 term00)) % 1000
      else if t.kind = 6 then (if workT names vals m (t.kids.getD 0 term00) < workT names vals m (t.kids.getD 1 term00) then 1 else 0)
      else if t.kind = 7 then (if workT names vals m (t.kids.getD 0 term00) = workT names vals m (t.kids.getD 1 term00) then 1 else 0)
      else (if workT names vals m (t.kids.getD 0 term00) ≠ 0 ∧ workT names vals m (t.kids.getD 1 term00) ≠ 0 then 1 else 0)) := workT.eq_def names vals n t
theorem workT_range (names : List ByteArray) (vals : List Int) (n : Nat) (t : DTerm) : 0 ≤ workT names vals n t ∧ workT names vals n t ≤ 999 := by
  rw [workT_def]
  cases n <;> simp only <;> (repeat' split) <;> omega
theorem ok_kids {n : Nat} {t : DTerm} (h : termOk n t = true) (h1 : ¬ t.kind = 1) (h2 : ¬ t.kind = 2) : ∃ m, n = m + 1 ∧ 0 < t.kids.length ∧ termOk m (t.kids.getD 0 term00) = true ∧ (¬ t.kind = 8 → 1 < t.kids.length ∧ termOk m (t.kids.getD 1 term00) = true) := by
  rw [termOk_3 h1 h2] at h
  simp only [Bool.and_eq_true, decide_eq_true_eq] at h
  obtain ⟨⟨_, h3⟩, h4⟩ := h
  cases n with
  | zero => simp at h4
  | succ m =>
    have hall : ∀ k ∈ t.kids, termOk m k = true := fun k hk => List.all_eq_true.1 h4 k hk
    have hg : ∀ i, i < t.kids.length → termOk m (t.kids.getD i term00) = true := fun i hi => by
      rw [List.getD_eq_getElem?_getD, List.getElem?_eq_getElem hi]; exact hall _ (List.getElem_mem hi)
    have hpos : 0 < t.kids.length := by split at h3 <;> omega
    exact ⟨m, rfl, hpos, hg 0 hpos, fun h8 => by rw [if_neg h8] at h3; exact ⟨by omega, hg 1 (by omega)⟩⟩
def WorkP (f : Nat) (n : Nat) : Prop := ∀ {w W W1 W2 : World} {v v1 v2 : Value} {t : DTerm} {names : List ByteArray} {vals : List Int}, Is W v t → Ext W w → Is W1 v1 names → Ext W1 w → Is W2 v2 vals → Ext W2 w → termOk n t = true →
  CALL Tryz.prog f [v, v1, v2] w fun r w' => Ext w w' ∧ r = .int .i64 (workT names vals n t)
def F271 (a0 a1 a2 : Value) (w : World) (R : Value → World → Prop) : Prop :=
 OP Tryz.prog (Instr.box 134 a0) w fun x3 w =>
 RD Tryz.prog (Instr.fieldAt 134 x3 0) w fun x10 =>
 RD Tryz.prog (Instr.loadAt 3 x10) w fun x11 =>
 RD Tryz.prog (bin .eql 3 (.tmp 0) (.const undef) x11 (Value.int .i64 1)) w fun x13 =>
 BR x13
 (RD Tryz.prog (Instr.fieldAt 134 x3 1) w fun x14 =>
 RD Tryz.prog (Instr.loadAt 3 x14) w fun x15 =>
 CALL Tryz.prog 299 [x15] w fun x16 w =>
 R x16 w)
 (RD Tryz.prog (bin .eql 3 (.tmp 0) (.const undef) x11 (Value.int .i64 2)) w fun x18 =>
 BR x18
 (RD Tryz.prog (Instr.fieldAt 134 x3 2) w fun x20 =>
 RD Tryz.prog (Instr.loadAt 9 x20) w fun x21 =>
 CALL Tryz.prog 242 [a1, x21] w fun x22 w =>
 RD Tryz.prog (bin .lss 3 (.tmp 0) (.const undef) x22 (Value.int .i64 0)) w fun x24 =>
 BR x24
 (R (Value.int .i64 0) w)
 (RD Tryz.prog (Builtin.len_ #[23] 3 [a2].toArray) w fun x28 =>
 RD Tryz.prog (bin .geq 3 (.tmp 0) (.tmp 0) x22 x28) w fun x29 =>
 BR x29
 (R (Value.int .i64 0) w)
 (RD Tryz.prog (Instr.indexAt 23 a2 x22) w fun x33 =>
 RD Tryz.prog (Instr.loadAt 3 x33) w fun x34 =>
 CALL Tryz.prog 299 [x34] w fun x35 w =>
 R x35 w)))
 (RD Tryz.prog (Instr.fieldAt 134 x3 3) w fun x36 =>
 RD Tryz.prog (Instr.loadAt 132 x36) w fun x37 =>
 RD Tryz.prog (Instr.indexAt 132 x37 (Value.int .i64 0)) w fun x38 =>
 RD Tryz.prog (Instr.loadAt 134 x38) w fun x39 =>
 CALL Tryz.prog 271 [x39, a1, a2] w fun x42 w =>
 RD Tryz.prog (Instr.fieldAt 134 x3 0) w fun x43 =>
 RD Tryz.prog (Instr.loadAt 3 x43) w fun x44 =>
 RD Tryz.prog (bin .eql 3 (.tmp 0) (.const undef) x44 (Value.int .i64 8)) w fun x45 =>
 BR x45
 (RD Tryz.prog (bin .eql 3 (.tmp 0) (.const undef) x42 (Value.int .i64 0)) w fun x47 =>
 CALL Tryz.prog 300 [x47] w fun x48 w =>
 R x48 w)
 (RD Tryz.prog (Instr.fieldAt 134 x3 3) w fun x49 =>
 RD Tryz.prog (Instr.loadAt 132 x49) w fun x50 =>
 RD Tryz.prog (Instr.indexAt 132 x50 (Value.int .i64 1)) w fun x51 =>
 RD Tryz.prog (Instr.loadAt 134 x51) w fun x52 =>
 CALL Tryz.prog 271 [x52, a1, a2] w fun x55 w =>
 RD Tryz.prog (Instr.fieldAt 134 x3 0) w fun x56 =>
 RD Tryz.prog (Instr.loadAt 3 x56) w fun x57 =>
 RD Tryz.prog (bin .eql 3 (.tmp 0) (.const undef) x57 (Value.int .i64 3)) w fun x59 =>
 BR x59
 (RD Tryz.prog (bin .add 3 (.tmp 0) (.tmp 0) x42 x55) w fun x62 =>
 CALL Tryz.prog 299 [x62] w fun x63 w =>
 R x63 w)
 (RD Tryz.prog (bin .eql 3 (.tmp 0) (.const undef) x57 (Value.int .i64 4)) w fun x65 =>
 BR x65
 (RD Tryz.prog (bin .sub 3 (.tmp 0) (.tmp 0) x42 x55) w fun x68 =>
 CALL Tryz.prog 299 [x68] w fun x69 w =>
 R x69 w)
 (RD Tryz.prog (bin .eql 3 (.tmp 0) (.const undef) x57 (Value.int .i64 5)) w fun x71 =>
 BR x71
 (RD Tryz.prog (bin .mul 3 (.tmp 0) (.tmp 0) x42 x55) w fun x74 =>
 CALL Tryz.prog 299 [x74] w fun x75 w =>
 R x75 w)
 (RD Tryz.prog (bin .eql 3 (.tmp 0) (.const undef) x57 (Value.int .i64 6)) w fun x77 =>
 BR x77
 (RD Tryz.prog (bin .lss 3 (.tmp 0) (.tmp 0) x42 x55) w fun x80 =>
 CALL Tryz.prog 300 [x80] w fun x81 w =>
 R x81 w)
 (RD Tryz.prog (bin .eql 3 (.tmp 0) (.const undef) x57 (Value.int .i64 7)) w fun x83 =>
 BR x83
 (RD Tryz.prog (bin .eql 3 (.tmp 0) (.tmp 0) x42 x55) w fun x86 =>
 CALL Tryz.prog 300 [x86] w fun x87 w =>
 R x87 w)
 (RD Tryz.prog (bin .neq 3 (.tmp 0) (.const undef) x42 (Value.int .i64 0)) w fun x89 =>
 BR x89
 (RD Tryz.prog (bin .neq 3 (.tmp 0) (.const undef) x55 (Value.int .i64 0)) w fun x92 =>
 CALL Tryz.prog 300 [x92] w fun x94 w =>
 R x94 w)
 (CALL Tryz.prog 300 [(Value.bool false)] w fun x94 w =>
 R x94 w)))))))))
def cfg271 : Cfg := { ext := extL, joins := [], loops := [], draws := [], pars := [] }
theorem F271_eq (a0 a1 a2 : Value) (w : World) (R : Value → World → Prop) : vcF Tryz.prog cfg271 Tryz.f271 [a0, a1, a2] w R = F271 a0 a1 a2 w R := by kernel_rfl
theorem F271_call {a0 a1 a2 : Value} {w : World} {R : Value → World → Prop} (h : F271 a0 a1 a2 w R) : CALL Tryz.prog 271 [a0, a1, a2] w R :=
  call_of (g := cfg271) ent mixed Tryz.func271 (Nat.le_of_ble_eq_true (by kernel_rfl)) (by kernel_rfl) (F271_eq a0 a1 a2 w R ▸ h)
theorem workOut_step {w : World} {v0 : Value} {W0 : World} {t : DTerm} {v1 : Value} {W1 : World} {names : (List ByteArray)} {v2 : Value} {W2 : World} {vals : (List Int)} {n : Nat} (h0 : Is W0 v0 t) (e0 : Ext W0 w) (h1 : Is W1 v1 names) (e1 : Ext W1 w) (h2 : Is W2 v2 vals) (e2 : Ext W2 w) (ih : ∀ m, n = m + 1 → WorkP 271 m) (hok : termOk n t = true) :
    CALL Tryz.prog 271 [v0, v1, v2] w fun r w' => Ext w w' ∧ (r = .int .i64 (workT names vals n t)) := by
  refine F271_call ?_
  unfold F271
  refine op_boxS ty134 rfl h0 e0 fun w1_ hx1_ hA3 hV3 => ?_
  refine rd_fld fd134_0 ?_
  refine rd_loadI ty3 (at_DTerm_0 hA3) (Ext.refl w1_) fun hI11 => ?_
  refine rd_eql ?_
  refine br (fun c1 => ?_) (fun c1 => ?_)
  · refine rd_fld fd134_1 ?_
    refine rd_loadI ty3 (at_DTerm_1 hA3) (Ext.refl w1_) fun hI15 => ?_
    refine (rest_ok (by first | assumption | (unfold I64 at *; omega))).mono ?_
    rintro _ w2_ ⟨hx2_, rfl⟩
    refine ⟨(hx1_.trans hx2_), ?_⟩
    rw [workT_def names vals n t, if_pos c1]
  · refine rd_eql ?_
    refine br (fun c2 => ?_) (fun c2 => ?_)
    · refine rd_fld fd134_2 ?_
      refine rd_loadS ty9 (at_DTerm_2 hA3) (Ext.refl w1_) fun hS21 => ?_
      refine (indexStr_ok h1 (e1.trans hx1_)).mono ?_
      rintro _ w3_ ⟨hx3_, rfl⟩
      refine rd_lss ?_
      refine br (fun c3 => ?_) (fun c3 => ?_)
      · refine ⟨(hx1_.trans hx3_), ?_⟩
        rw [workT_def, if_neg c1, if_pos c2, if_neg (by omega)]
      · have hln28 := is_len h2
        refine rd_len u23 h2 ?_
        refine rd_geq ?_
        refine br (fun c4 => ?_) (fun c4 => ?_)
        · refine ⟨(hx1_.trans hx3_), ?_⟩
          rw [workT_def, if_neg c1, if_pos c2, if_neg (by omega)]
        · refine rd_index u23 ty3 h2 (by omega) (by omega) fun b33 o33 h33 => ?_
          refine rd_loadI ty3 h33 (e2.trans (hx1_.trans hx3_)) fun hI34 => ?_
          refine (rest_ok (by first | assumption | (unfold I64 at *; omega))).mono ?_
          rintro _ w4_ ⟨hx4_, rfl⟩
          refine ⟨(hx1_.trans (hx3_.trans hx4_)), ?_⟩
          rw [workT_def, if_neg c1, if_pos c2, if_pos (by omega)]
          congr 1
          rw [List.getD_eq_getElem?_getD, List.getElem?_eq_getElem (by omega)]; rfl
    · refine rd_fld fd134_3 ?_
      refine rd_load ty132 (at_DTerm_3 hA3) (Ext.refl w1_) fun v37 h37 => ?_
      obtain ⟨m, hn1, hk0, hok0, hk1⟩ := ok_kids hok c1 c2
      have hw0 := workT_range names vals m (t.kids.getD 0 term00)
      have hw1 := workT_range names vals m (t.kids.getD 1 term00)
      refine rd_index u132 ty134 h37 (by omega) (by omega) fun b38 o38 h38 => ?_
      have hgd : t.kids[(0 : Int).toNat]'(by simpa using hk0) = t.kids.getD 0 term00 := by rw [List.getD_eq_getElem?_getD, List.getElem?_eq_getElem hk0]; rfl
      rw [hgd] at h38
      refine rd_load ty134 h38 (Ext.refl w1_) fun v39 h39 => ?_
      refine (ih m hn1 h39 (Ext.refl w1_) h1 (e1.trans hx1_) h2 (e2.trans hx1_) (by assumption)).mono ?_
      rintro _ w5_ ⟨hx5_, rfl⟩
      refine rd_fld fd134_0 ?_
      refine rd_loadI ty3 (at_DTerm_0 hA3) hx5_ fun hI44 => ?_
      refine rd_eql ?_
      refine br (fun c5 => ?_) (fun c5 => ?_)
      · refine rd_eql ?_
        refine (truth_ok ).mono ?_
        rintro _ w6_ ⟨hx6_, rfl⟩
        refine ⟨(hx1_.trans (hx5_.trans hx6_)), ?_⟩
        rw [workT_def names vals n t, if_neg c1, if_neg c2, hn1]
        simp only [c5, if_true, decide_eq_true_eq]
      · refine rd_fld fd134_3 ?_
        refine rd_load ty132 (at_DTerm_3 hA3) hx5_ fun v50 h50 => ?_
        obtain ⟨hk2, hok1⟩ := hk1 c5
        refine rd_index u132 ty134 h50 (by omega) (by omega) fun b51 o51 h51 => ?_
        have hgd1 : t.kids[(1 : Int).toNat]'(by simpa using hk2) = t.kids.getD 1 term00 := by rw [List.getD_eq_getElem?_getD, List.getElem?_eq_getElem hk2]; rfl
        rw [hgd1] at h51
        refine rd_load ty134 h51 hx5_ fun v52 h52 => ?_
        refine (ih m hn1 h52 hx5_ h1 (e1.trans (hx1_.trans hx5_)) h2 (e2.trans (hx1_.trans hx5_)) (by assumption)).mono ?_
        rintro _ w7_ ⟨hx7_, rfl⟩
        refine rd_fld fd134_0 ?_
        refine rd_loadI ty3 (at_DTerm_0 hA3) (hx5_.trans hx7_) fun hI57 => ?_
        refine rd_eql ?_
        refine br (fun c6 => ?_) (fun c6 => ?_)
        · refine rd_add (by unfold I64; omega) ?_
          refine (rest_ok (by first | assumption | (unfold I64 at *; omega))).mono ?_
          rintro _ w8_ ⟨hx8_, rfl⟩
          refine ⟨(hx1_.trans (hx5_.trans (hx7_.trans hx8_))), ?_⟩
          rw [workT_def names vals n t, if_neg c1, if_neg c2, hn1]
          dsimp only
          generalize workT names vals m (t.kids.getD 0 term00) = a at *
          generalize workT names vals m (t.kids.getD 1 term00) = b at *
          simp_all
        · refine rd_eql ?_
          refine br (fun c7 => ?_) (fun c7 => ?_)
          · refine rd_sub (by unfold I64; omega) ?_
            refine (rest_ok (by first | assumption | (unfold I64 at *; omega))).mono ?_
            rintro _ w9_ ⟨hx9_, rfl⟩
            refine ⟨(hx1_.trans (hx5_.trans (hx7_.trans hx9_))), ?_⟩
            rw [workT_def names vals n t, if_neg c1, if_neg c2, hn1]
            dsimp only
            generalize workT names vals m (t.kids.getD 0 term00) = a at *
            generalize workT names vals m (t.kids.getD 1 term00) = b at *
            simp_all
          · refine rd_eql ?_
            refine br (fun c8 => ?_) (fun c8 => ?_)
            · refine rd_mul (by unfold I64; have h1 := Int.mul_nonneg hw0.1 hw1.1; have h2 := Int.mul_le_mul hw0.2 hw1.2 hw1.1 (by omega : (0 : Int) ≤ 999); omega) ?_
              have hmul := Int.mul_nonneg hw0.1 hw1.1; have hmul2 := Int.mul_le_mul hw0.2 hw1.2 hw1.1 (by omega : (0 : Int) ≤ 999)
              refine (rest_ok (by first | assumption | (unfold I64 at *; omega))).mono ?_
              rintro _ w10_ ⟨hx10_, rfl⟩
              refine ⟨(hx1_.trans (hx5_.trans (hx7_.trans hx10_))), ?_⟩
              rw [workT_def names vals n t, if_neg c1, if_neg c2, hn1]
              dsimp only
              generalize workT names vals m (t.kids.getD 0 term00) = a at *
              generalize workT names vals m (t.kids.getD 1 term00) = b at *
              simp_all
            · refine rd_eql ?_
              refine br (fun c9 => ?_) (fun c9 => ?_)
              · refine rd_lss ?_
                refine (truth_ok ).mono ?_
                rintro _ w11_ ⟨hx11_, rfl⟩
                refine ⟨(hx1_.trans (hx5_.trans (hx7_.trans hx11_))), ?_⟩
                rw [workT_def names vals n t, if_neg c1, if_neg c2, hn1]
                dsimp only
                generalize workT names vals m (t.kids.getD 0 term00) = a at *
                generalize workT names vals m (t.kids.getD 1 term00) = b at *
                simp_all
              · refine rd_eql ?_
                refine br (fun c10 => ?_) (fun c10 => ?_)
                · refine rd_eql ?_
                  refine (truth_ok ).mono ?_
                  rintro _ w12_ ⟨hx12_, rfl⟩
                  refine ⟨(hx1_.trans (hx5_.trans (hx7_.trans hx12_))), ?_⟩
                  rw [workT_def names vals n t, if_neg c1, if_neg c2, hn1]
                  dsimp only
                  generalize workT names vals m (t.kids.getD 0 term00) = a at *
                  generalize workT names vals m (t.kids.getD 1 term00) = b at *
                  simp_all
                · refine rd_neq ?_
                  refine br (fun c11 => ?_) (fun c11 => ?_)
                  · refine rd_neq ?_
                    refine (truth_ok ).mono ?_
                    rintro _ w13_ ⟨hx13_, rfl⟩
                    refine ⟨(hx1_.trans (hx5_.trans (hx7_.trans hx13_))), ?_⟩
                    rw [workT_def names vals n t, if_neg c1, if_neg c2, hn1]
                    dsimp only
                    generalize workT names vals m (t.kids.getD 0 term00) = a at *
                    generalize workT names vals m (t.kids.getD 1 term00) = b at *
                    simp_all
                  · refine (truth_ok ).mono ?_
                    rintro _ w14_ ⟨hx14_, rfl⟩
                    refine ⟨(hx1_.trans (hx5_.trans (hx7_.trans hx14_))), ?_⟩
                    rw [workT_def names vals n t, if_neg c1, if_neg c2, hn1]
                    dsimp only
                    generalize workT names vals m (t.kids.getD 0 term00) = a at *
                    generalize workT names vals m (t.kids.getD 1 term00) = b at *
                    simp_all
theorem workOut_ok (n : Nat) : WorkP 271 n := by
  induction n with
  | zero => intro w W W1 W2 v v1 v2 t names vals h e h1 e1 h2 e2 hok; exact workOut_step h e h1 e1 h2 e2 (fun m hm => by omega) hok
  | succ n ih => intro w W W1 W2 v v1 v2 t names vals h e h1 e1 h2 e2 hok; exact workOut_step h e h1 e1 h2 e2 (fun m hm => Nat.succ.inj hm ▸ ih) hok
def F297 (a0 a1 a2 : Value) (w : World) (R : Value → World → Prop) : Prop :=
 OP Tryz.prog (Instr.box 134 a0) w fun x3 w =>
 RD Tryz.prog (Instr.fieldAt 134 x3 0) w fun x10 =>
 RD Tryz.prog (Instr.loadAt 3 x10) w fun x11 =>
 RD Tryz.prog (bin .eql 3 (.tmp 0) (.const undef) x11 (Value.int .i64 1)) w fun x13 =>
 BR x13
 (RD Tryz.prog (Instr.fieldAt 134 x3 1) w fun x14 =>
 RD Tryz.prog (Instr.loadAt 3 x14) w fun x15 =>
 CALL Tryz.prog 316 [x15] w fun x16 w =>
 R x16 w)
 (RD Tryz.prog (bin .eql 3 (.tmp 0) (.const undef) x11 (Value.int .i64 2)) w fun x18 =>
 BR x18
 (LOOPI [7] [(Value.int .i64 0)] w fun u6 w next6 =>
 RD Tryz.prog (Builtin.len_ #[22] 3 [a1].toArray) w fun x21 =>
 RD Tryz.prog (bin .lss 3 (.tmp 0) (.tmp 0) (u6 7) x21) w fun x22 =>
 BR x22
 ((fun w => RD Tryz.prog (Instr.indexAt 22 a1 (u6 7)) w fun x27 =>
 RD Tryz.prog (Instr.loadAt 9 x27) w fun x28 =>
 RD Tryz.prog (Instr.fieldAt 134 x3 2) w fun x29 =>
 RD Tryz.prog (Instr.loadAt 9 x29) w fun x30 =>
 RD Tryz.prog (bin .eql 9 (.tmp 0) (.tmp 0) x28 x30) w fun x31 =>
 BR x31
 (RD Tryz.prog (Builtin.len_ #[23] 3 [a2].toArray) w fun x34 =>
 RD Tryz.prog (bin .lss 3 (.tmp 0) (.tmp 0) (u6 7) x34) w fun x35 =>
 BR x35
 (RD Tryz.prog (Instr.indexAt 23 a2 (u6 7)) w fun x38 =>
 RD Tryz.prog (Instr.loadAt 3 x38) w fun x39 =>
 CALL Tryz.prog 316 [x39] w fun x40 w =>
 R x40 w)
 (R (Value.int .i64 0) w))
 (RD Tryz.prog (bin .add 3 (.tmp 0) (.const undef) (u6 7) (Value.int .i64 1)) w fun x24 =>
 next6 [x24] w)) (World.drew1 w))
 (R (Value.int .i64 0) w))
 (RD Tryz.prog (Instr.fieldAt 134 x3 3) w fun x41 =>
 RD Tryz.prog (Instr.loadAt 132 x41) w fun x42 =>
 RD Tryz.prog (Instr.indexAt 132 x42 (Value.int .i64 0)) w fun x43 =>
 RD Tryz.prog (Instr.loadAt 134 x43) w fun x44 =>
 CALL Tryz.prog 297 [x44, a1, a2] w fun x47 w =>
 RD Tryz.prog (Instr.fieldAt 134 x3 0) w fun x48 =>
 RD Tryz.prog (Instr.loadAt 3 x48) w fun x49 =>
 RD Tryz.prog (bin .eql 3 (.tmp 0) (.const undef) x49 (Value.int .i64 8)) w fun x50 =>
 BR x50
 (RD Tryz.prog (bin .eql 3 (.tmp 0) (.const undef) x47 (Value.int .i64 0)) w fun x52 =>
 CALL Tryz.prog 317 [x52] w fun x53 w =>
 R x53 w)
 (RD Tryz.prog (Instr.fieldAt 134 x3 3) w fun x54 =>
 RD Tryz.prog (Instr.loadAt 132 x54) w fun x55 =>
 RD Tryz.prog (Instr.indexAt 132 x55 (Value.int .i64 1)) w fun x56 =>
 RD Tryz.prog (Instr.loadAt 134 x56) w fun x57 =>
 CALL Tryz.prog 297 [x57, a1, a2] w fun x60 w =>
 RD Tryz.prog (Instr.fieldAt 134 x3 0) w fun x61 =>
 RD Tryz.prog (Instr.loadAt 3 x61) w fun x62 =>
 RD Tryz.prog (bin .eql 3 (.tmp 0) (.const undef) x62 (Value.int .i64 3)) w fun x64 =>
 BR x64
 (RD Tryz.prog (bin .add 3 (.tmp 0) (.tmp 0) x47 x60) w fun x67 =>
 CALL Tryz.prog 316 [x67] w fun x68 w =>
 R x68 w)
 (RD Tryz.prog (bin .eql 3 (.tmp 0) (.const undef) x62 (Value.int .i64 4)) w fun x70 =>
 BR x70
 (RD Tryz.prog (bin .sub 3 (.tmp 0) (.tmp 0) x47 x60) w fun x73 =>
 CALL Tryz.prog 316 [x73] w fun x74 w =>
 R x74 w)
 (RD Tryz.prog (bin .eql 3 (.tmp 0) (.const undef) x62 (Value.int .i64 5)) w fun x76 =>
 BR x76
 (RD Tryz.prog (bin .mul 3 (.tmp 0) (.tmp 0) x47 x60) w fun x79 =>
 CALL Tryz.prog 316 [x79] w fun x80 w =>
 R x80 w)
 (RD Tryz.prog (bin .eql 3 (.tmp 0) (.const undef) x62 (Value.int .i64 6)) w fun x82 =>
 BR x82
 (RD Tryz.prog (bin .lss 3 (.tmp 0) (.tmp 0) x47 x60) w fun x85 =>
 CALL Tryz.prog 317 [x85] w fun x86 w =>
 R x86 w)
 (RD Tryz.prog (bin .eql 3 (.tmp 0) (.const undef) x62 (Value.int .i64 7)) w fun x88 =>
 BR x88
 (RD Tryz.prog (bin .eql 3 (.tmp 0) (.tmp 0) x47 x60) w fun x91 =>
 CALL Tryz.prog 317 [x91] w fun x92 w =>
 R x92 w)
 (RD Tryz.prog (bin .neq 3 (.tmp 0) (.const undef) x47 (Value.int .i64 0)) w fun x94 =>
 BR x94
 (RD Tryz.prog (bin .neq 3 (.tmp 0) (.const undef) x60 (Value.int .i64 0)) w fun x97 =>
 CALL Tryz.prog 317 [x97] w fun x99 w =>
 R x99 w)
 (CALL Tryz.prog 317 [(Value.bool false)] w fun x99 w =>
 R x99 w)))))))))
def cfg297 : Cfg := { ext := extL, joins := [], loops := [(6, 2199022731456, [7])], draws := [(8, [0, 1, 2, 3, 4, 5, 6], 0)], pars := [] }
theorem F297_eq (a0 a1 a2 : Value) (w : World) (R : Value → World → Prop) : vcF Tryz.prog cfg297 Tryz.f297 [a0, a1, a2] w R = F297 a0 a1 a2 w R := by kernel_rfl
theorem F297_call {a0 a1 a2 : Value} {w : World} {R : Value → World → Prop} (h : F297 a0 a1 a2 w R) : CALL Tryz.prog 297 [a0, a1, a2] w R :=
  call_of (g := cfg297) ent mixed Tryz.func297 (Nat.le_of_ble_eq_true (by kernel_rfl)) (by kernel_rfl) (F297_eq a0 a1 a2 w R ▸ h)
theorem l03Work_step {w : World} {v0 : Value} {W0 : World} {t : DTerm} {v1 : Value} {W1 : World} {names : (List ByteArray)} {v2 : Value} {W2 : World} {vals : (List Int)} {n : Nat} (h0 : Is W0 v0 t) (e0 : Ext W0 w) (h1 : Is W1 v1 names) (e1 : Ext W1 w) (h2 : Is W2 v2 vals) (e2 : Ext W2 w) (ih : ∀ m, n = m + 1 → WorkP 297 m) (hok : termOk n t = true) :
    CALL Tryz.prog 297 [v0, v1, v2] w fun r w' => Ext w w' ∧ (r = .int .i64 (workT names vals n t)) := by
  refine F297_call ?_
  unfold F297
  refine op_boxS ty134 rfl h0 e0 fun w1_ hx1_ hA3 hV3 => ?_
  refine rd_fld fd134_0 ?_
  refine rd_loadI ty3 (at_DTerm_0 hA3) (Ext.refl w1_) fun hI11 => ?_
  refine rd_eql ?_
  refine br (fun c1 => ?_) (fun c1 => ?_)
  · refine rd_fld fd134_1 ?_
    refine rd_loadI ty3 (at_DTerm_1 hA3) (Ext.refl w1_) fun hI15 => ?_
    refine (l03Mod_ok (by first | assumption | (unfold I64 at *; omega))).mono ?_
    rintro _ w2_ ⟨hx2_, rfl⟩
    refine ⟨(hx1_.trans hx2_), ?_⟩
    rw [workT_def names vals n t, if_pos c1]
  · refine rd_eql ?_
    refine br (fun c2 => ?_) (fun c2 => ?_)
    · refine loopC (names.length) (fun k us w' => us = [.int .i64 (k : Int)] ∧ Ext w1_ w' ∧ (t.name ∉ names.take k)) (0) (by omega) ⟨by simp, Ext.refl w1_, by simp⟩ ?_
      rintro k m6 uu6 w3_ hk6 ⟨hu, hx3_, hinv⟩
      simp only [List.map_cons, List.map_nil, List.cons.injEq, and_true] at hu
      try rw [hu]
      try clear hu
      have hnl := is_len h1
      have hln21 := is_len h1
      refine rd_len u22 h1 ?_
      refine rd_lss ?_
      refine br (fun c3 => ?_) (fun c3 => ?_)
      · have hx4_ := ext_drew w3_
        refine rd_indexN u22 ty9 h1 (by omega) fun b27 o27 h27 => ?_
        refine rd_loadS ty9 h27 (e1.trans (hx1_.trans (hx3_.trans hx4_))) fun hS28 => ?_
        refine rd_fld fd134_2 ?_
        refine rd_loadS ty9 (at_DTerm_2 hA3) (hx3_.trans hx4_) fun hS30 => ?_
        refine rd_eqlS ?_
        refine br (fun c4 => ?_) (fun c4 => ?_)
        · have hln34 := is_len h2
          refine rd_len u23 h2 ?_
          refine rd_lss ?_
          refine br (fun c5 => ?_) (fun c5 => ?_)
          · refine rd_indexN u23 ty3 h2 (by omega) fun b38 o38 h38 => ?_
            refine rd_loadI ty3 h38 (e2.trans (hx1_.trans (hx3_.trans hx4_))) fun hI39 => ?_
            refine (l03Mod_ok (by first | assumption | (unfold I64 at *; omega))).mono ?_
            rintro _ w5_ ⟨hx5_, rfl⟩
            refine ⟨(hx1_.trans (hx3_.trans (hx4_.trans hx5_))), ?_⟩
            have hp := plc_at (s := t.name) (l := names) (k := k) (by omega) hinv c4
            rw [workT_def names vals n t, if_neg c1, if_pos c2, hp, if_pos (by omega)]
            congr 1
            rw [Int.toNat_natCast, List.getD_eq_getElem?_getD, List.getElem?_eq_getElem (by omega)]; rfl
          · refine ⟨(hx1_.trans (hx3_.trans hx4_)), ?_⟩
            have hp := plc_at (s := t.name) (l := names) (k := k) (by omega) hinv c4
            rw [workT_def names vals n t, if_neg c1, if_pos c2, hp, if_neg (by omega)]
        · refine rd_inc (by omega) ?_
          refine ⟨m6 - 1, by omega, k + 1, by omega, by simp, (hx3_.trans hx4_), ?_⟩
          exact mem_take_succS (by omega) hinv c4
      · refine ⟨(hx1_.trans hx3_), ?_⟩
        rw [List.take_of_length_le (by omega)] at hinv
        rw [workT_def names vals n t, if_neg c1, if_pos c2, plc_none hinv, if_neg (by omega)]
    · refine rd_fld fd134_3 ?_
      refine rd_load ty132 (at_DTerm_3 hA3) (Ext.refl w1_) fun v42 h42 => ?_
      obtain ⟨m, hn1, hk0, hok0, hk1⟩ := ok_kids hok c1 c2
      have hw0 := workT_range names vals m (t.kids.getD 0 term00)
      have hw1 := workT_range names vals m (t.kids.getD 1 term00)
      refine rd_index u132 ty134 h42 (by omega) (by omega) fun b43 o43 h43 => ?_
      have hgd : t.kids[(0 : Int).toNat]'(by simpa using hk0) = t.kids.getD 0 term00 := by rw [List.getD_eq_getElem?_getD, List.getElem?_eq_getElem hk0]; rfl
      rw [hgd] at h43
      refine rd_load ty134 h43 (Ext.refl w1_) fun v44 h44 => ?_
      refine (ih m hn1 h44 (Ext.refl w1_) h1 (e1.trans hx1_) h2 (e2.trans hx1_) (by assumption)).mono ?_
      rintro _ w6_ ⟨hx6_, rfl⟩
      refine rd_fld fd134_0 ?_
      refine rd_loadI ty3 (at_DTerm_0 hA3) hx6_ fun hI49 => ?_
      refine rd_eql ?_
      refine br (fun c6 => ?_) (fun c6 => ?_)
      · refine rd_eql ?_
        refine (l03Yes_ok ).mono ?_
        rintro _ w7_ ⟨hx7_, rfl⟩
        refine ⟨(hx1_.trans (hx6_.trans hx7_)), ?_⟩
        rw [workT_def names vals n t, if_neg c1, if_neg c2, hn1]
        simp only [c6, if_true, decide_eq_true_eq]
      · refine rd_fld fd134_3 ?_
        refine rd_load ty132 (at_DTerm_3 hA3) hx6_ fun v55 h55 => ?_
        obtain ⟨hk2, hok1⟩ := hk1 c6
        refine rd_index u132 ty134 h55 (by omega) (by omega) fun b56 o56 h56 => ?_
        have hgd1 : t.kids[(1 : Int).toNat]'(by simpa using hk2) = t.kids.getD 1 term00 := by rw [List.getD_eq_getElem?_getD, List.getElem?_eq_getElem hk2]; rfl
        rw [hgd1] at h56
        refine rd_load ty134 h56 hx6_ fun v57 h57 => ?_
        refine (ih m hn1 h57 hx6_ h1 (e1.trans (hx1_.trans hx6_)) h2 (e2.trans (hx1_.trans hx6_)) (by assumption)).mono ?_
        rintro _ w8_ ⟨hx8_, rfl⟩
        refine rd_fld fd134_0 ?_
        refine rd_loadI ty3 (at_DTerm_0 hA3) (hx6_.trans hx8_) fun hI62 => ?_
        refine rd_eql ?_
        refine br (fun c7 => ?_) (fun c7 => ?_)
        · refine rd_add (by unfold I64; omega) ?_
          refine (l03Mod_ok (by first | assumption | (unfold I64 at *; omega))).mono ?_
          rintro _ w9_ ⟨hx9_, rfl⟩
          refine ⟨(hx1_.trans (hx6_.trans (hx8_.trans hx9_))), ?_⟩
          rw [workT_def names vals n t, if_neg c1, if_neg c2, hn1]
          dsimp only
          generalize workT names vals m (t.kids.getD 0 term00) = a at *
          generalize workT names vals m (t.kids.getD 1 term00) = b at *
          simp_all
        · refine rd_eql ?_
          refine br (fun c8 => ?_) (fun c8 => ?_)
          · refine rd_sub (by unfold I64; omega) ?_
            refine (l03Mod_ok (by first | assumption | (unfold I64 at *; omega))).mono ?_
            rintro _ w10_ ⟨hx10_, rfl⟩
            refine ⟨(hx1_.trans (hx6_.trans (hx8_.trans hx10_))), ?_⟩
            rw [workT_def names vals n t, if_neg c1, if_neg c2, hn1]
            dsimp only
            generalize workT names vals m (t.kids.getD 0 term00) = a at *
            generalize workT names vals m (t.kids.getD 1 term00) = b at *
            simp_all
          · refine rd_eql ?_
            refine br (fun c9 => ?_) (fun c9 => ?_)
            · refine rd_mul (by unfold I64; have h1 := Int.mul_nonneg hw0.1 hw1.1; have h2 := Int.mul_le_mul hw0.2 hw1.2 hw1.1 (by omega : (0 : Int) ≤ 999); omega) ?_
              have hmul := Int.mul_nonneg hw0.1 hw1.1; have hmul2 := Int.mul_le_mul hw0.2 hw1.2 hw1.1 (by omega : (0 : Int) ≤ 999)
              refine (l03Mod_ok (by first | assumption | (unfold I64 at *; omega))).mono ?_
              rintro _ w11_ ⟨hx11_, rfl⟩
              refine ⟨(hx1_.trans (hx6_.trans (hx8_.trans hx11_))), ?_⟩
              rw [workT_def names vals n t, if_neg c1, if_neg c2, hn1]
              dsimp only
              generalize workT names vals m (t.kids.getD 0 term00) = a at *
              generalize workT names vals m (t.kids.getD 1 term00) = b at *
              simp_all
            · refine rd_eql ?_
              refine br (fun c10 => ?_) (fun c10 => ?_)
              · refine rd_lss ?_
                refine (l03Yes_ok ).mono ?_
                rintro _ w12_ ⟨hx12_, rfl⟩
                refine ⟨(hx1_.trans (hx6_.trans (hx8_.trans hx12_))), ?_⟩
                rw [workT_def names vals n t, if_neg c1, if_neg c2, hn1]
                dsimp only
                generalize workT names vals m (t.kids.getD 0 term00) = a at *
                generalize workT names vals m (t.kids.getD 1 term00) = b at *
                simp_all
              · refine rd_eql ?_
                refine br (fun c11 => ?_) (fun c11 => ?_)
                · refine rd_eql ?_
                  refine (l03Yes_ok ).mono ?_
                  rintro _ w13_ ⟨hx13_, rfl⟩
                  refine ⟨(hx1_.trans (hx6_.trans (hx8_.trans hx13_))), ?_⟩
                  rw [workT_def names vals n t, if_neg c1, if_neg c2, hn1]
                  dsimp only
                  generalize workT names vals m (t.kids.getD 0 term00) = a at *
                  generalize workT names vals m (t.kids.getD 1 term00) = b at *
                  simp_all
                · refine rd_neq ?_
                  refine br (fun c12 => ?_) (fun c12 => ?_)
                  · refine rd_neq ?_
                    refine (l03Yes_ok ).mono ?_
                    rintro _ w14_ ⟨hx14_, rfl⟩
                    refine ⟨(hx1_.trans (hx6_.trans (hx8_.trans hx14_))), ?_⟩
                    rw [workT_def names vals n t, if_neg c1, if_neg c2, hn1]
                    dsimp only
                    generalize workT names vals m (t.kids.getD 0 term00) = a at *
                    generalize workT names vals m (t.kids.getD 1 term00) = b at *
                    simp_all
                  · refine (l03Yes_ok ).mono ?_
                    rintro _ w15_ ⟨hx15_, rfl⟩
                    refine ⟨(hx1_.trans (hx6_.trans (hx8_.trans hx15_))), ?_⟩
                    rw [workT_def names vals n t, if_neg c1, if_neg c2, hn1]
                    dsimp only
                    generalize workT names vals m (t.kids.getD 0 term00) = a at *
                    generalize workT names vals m (t.kids.getD 1 term00) = b at *
                    simp_all
theorem l03Work_ok (n : Nat) : WorkP 297 n := by
  induction n with
  | zero => intro w W W1 W2 v v1 v2 t names vals h e h1 e1 h2 e2 hok; exact l03Work_step h e h1 e1 h2 e2 (fun m hm => by omega) hok
  | succ n ih => intro w W W1 W2 v v1 v2 t names vals h e h1 e1 h2 e2 hok; exact l03Work_step h e h1 e1 h2 e2 (fun m hm => Nat.succ.inj hm ▸ ih) hok
def F268 (a0 a1 a2 : Value) (w : World) (R : Value → World → Prop) : Prop :=
 OP Tryz.prog (Instr.box 134 a0) w fun x3 w =>
 RD Tryz.prog (Instr.loadAt 134 x3) w fun x7 =>
 CALL Tryz.prog 205 [x7] w fun x8 w =>
 RD Tryz.prog (Op.unary .not x8) w fun x9 =>
 BR x9
 (R (Value.int .i64 0) w)
 (RD Tryz.prog (Instr.loadAt 134 x3) w fun x10 =>
 CALL Tryz.prog 297 [x10, a1, a2] w fun x13 w =>
 R x13 w)
def cfg268 : Cfg := { ext := extL, joins := [], loops := [], draws := [], pars := [] }
theorem F268_eq (a0 a1 a2 : Value) (w : World) (R : Value → World → Prop) : vcF Tryz.prog cfg268 Tryz.f268 [a0, a1, a2] w R = F268 a0 a1 a2 w R := by kernel_rfl
theorem F268_call {a0 a1 a2 : Value} {w : World} {R : Value → World → Prop} (h : F268 a0 a1 a2 w R) : CALL Tryz.prog 268 [a0, a1, a2] w R :=
  call_of (g := cfg268) ent mixed Tryz.func268 (Nat.le_of_ble_eq_true (by kernel_rfl)) (by kernel_rfl) (F268_eq a0 a1 a2 w R ▸ h)
theorem specWorked_ok {w : World} {v0 : Value} {W0 : World} {t : DTerm} {v1 : Value} {W1 : World} {names : (List ByteArray)} {v2 : Value} {W2 : World} {vals : (List Int)}  (h0 : Is W0 v0 t) (e0 : Ext W0 w) (h1 : Is W1 v1 names) (e1 : Ext W1 w) (h2 : Is W2 v2 vals) (e2 : Ext W2 w) (hok : termOk 6 t = true) :
    CALL Tryz.prog 268 [v0, v1, v2] w fun r w' => Ext w w' ∧ (r = .int .i64 (workT names vals 6 t)) := by
  refine F268_call ?_
  unfold F268
  refine op_boxS ty134 rfl h0 e0 fun w1_ hx1_ hA3 hV3 => ?_
  refine rd_var hV3 (Ext.refl w1_) ?_
  refine (specTermOk_ok h0 (e0.trans hx1_)).mono ?_
  rintro _ w2_ ⟨hx2_, rfl⟩
  refine rd_not ?_
  refine br_b (fun c1 => ?_) (fun c1 => ?_)
  · refine ⟨(hx1_.trans hx2_), ?_⟩
    simp [hok] at c1
  · refine rd_var hV3 hx2_ ?_
    refine (l03Work_ok 6 h0 (e0.trans (hx1_.trans hx2_)) h1 (e1.trans (hx1_.trans hx2_)) h2 (e2.trans (hx1_.trans hx2_)) (by assumption)).mono ?_
    rintro _ w3_ ⟨hx3_, rfl⟩
    refine ⟨(hx1_.trans (hx2_.trans hx3_)), ?_⟩
    rfl
end Go.Proofs.YtjgfldfbljmhhaaGreat
namespace Go.Proofs.YtjgfldfbljmhhaaGreat
open Go Go.Sh Go.Proofs
set_option linter.unusedVariables false
def F223 (a0 a1 a2 : Value) (w : World) (R : Value → World → Prop) : Prop :=
 OP Tryz.prog (Instr.box 35 a0) w fun x3 w =>
 OP Tryz.prog (Instr.box 37 a1) w fun x4 w =>
 OP Tryz.prog (Instr.alloc 37 true (.tuple #[])) w fun x6 w =>
 RD Tryz.prog (Instr.loadAt 37 x4) w fun x12 =>
 CALL Tryz.prog 270 [x12] w fun x13 w =>
 OP Tryz.prog (Instr.alloc 37 true (.tuple #[])) w fun x7 w =>
 OPU Tryz.prog (Instr.storeAt 37 x7 x13) w fun w =>
 RD Tryz.prog (Instr.fieldAt 37 x7 2) w fun x14 =>
 RD Tryz.prog (Instr.loadAt 27 x14) w fun x15 =>
 RD Tryz.prog (Instr.indexAt 27 x15 a2) w fun x17 =>
 RD Tryz.prog (Instr.loadAt 23 x17) w fun x18 =>
 RD Tryz.prog (Builtin.len_ #[23] 3 [x18].toArray) w fun x20 =>
 RD Tryz.prog (bin .sub 3 (.tmp 0) (.const undef) x20 (Value.int .i64 1)) w fun x21 =>
 (fun w => RD Tryz.prog (Instr.fieldAt 35 x3 4) w fun x22 =>
 RD Tryz.prog (Instr.loadAt 33 x22) w fun x23 =>
 RD Tryz.prog (Instr.indexAt 23 x18 x21) w fun x26 =>
 RD Tryz.prog (Instr.loadAt 3 x26) w fun x27 =>
 RD Tryz.prog (Instr.indexAt 33 x23 x27) w fun x28 =>
 RD Tryz.prog (Instr.loadAt 136 x28) w fun x29 =>
 (fun w_ => OP Tryz.prog (Instr.alloc 136 true (.tuple #[])) w_ fun x10 w =>
 Ext w_ w ∧
 (OPU Tryz.prog (Instr.storeAt 136 x10 x29) w fun w =>
 RD Tryz.prog (Instr.indexAt 23 x18 x21) w fun x32 =>
 RD Tryz.prog (Instr.loadAt 3 x32) w fun x33 =>
 RD Tryz.prog (bin .add 3 (.tmp 0) (.const undef) x33 (Value.int .i64 1)) w fun x34 =>
 JOIN [11] (fun J30 =>
 RD Tryz.prog (Instr.fieldAt 136 x10 0) w fun x35 =>
 RD Tryz.prog (Instr.loadAt 3 x35) w fun x36 =>
 RD Tryz.prog (bin .eql 3 (.tmp 0) (.const undef) x36 (Value.int .i64 1)) w fun x38 =>
 BR x38
 ((fun w => RD Tryz.prog (Instr.fieldAt 37 x7 0) w fun x39 =>
 RD Tryz.prog (Instr.loadAt 23 x39) w fun x40 =>
 RD Tryz.prog (Instr.fieldAt 136 x10 1) w fun x41 =>
 RD Tryz.prog (Instr.loadAt 3 x41) w fun x42 =>
 RD Tryz.prog (Instr.fieldAt 136 x10 2) w fun x43 =>
 RD Tryz.prog (Instr.loadAt 134 x43) w fun x44 =>
 RD Tryz.prog (Instr.fieldAt 35 x3 0) w fun x45 =>
 RD Tryz.prog (Instr.loadAt 22 x45) w fun x46 =>
 RD Tryz.prog (Instr.fieldAt 37 x4 0) w fun x47 =>
 RD Tryz.prog (Instr.loadAt 23 x47) w fun x48 =>
 (fun w_ => CALL Tryz.prog 271 [x44, x46, x48] w_ fun x49 w =>
 Ext w_ w ∧
 RD Tryz.prog (Instr.indexAt 23 x40 x42) w fun x50 =>
 OPU Tryz.prog (Instr.storeAt 3 x50 x49) w fun w =>
 J30 [x34] w) w) (World.drew1 w))
 (RD Tryz.prog (bin .eql 3 (.tmp 0) (.const undef) x36 (Value.int .i64 2)) w fun x52 =>
 BR x52
 (RD Tryz.prog (Instr.fieldAt 136 x10 2) w fun x53 =>
 RD Tryz.prog (Instr.loadAt 134 x53) w fun x54 =>
 RD Tryz.prog (Instr.fieldAt 35 x3 0) w fun x55 =>
 RD Tryz.prog (Instr.loadAt 22 x55) w fun x56 =>
 RD Tryz.prog (Instr.fieldAt 37 x4 0) w fun x57 =>
 RD Tryz.prog (Instr.loadAt 23 x57) w fun x58 =>
 CALL Tryz.prog 271 [x54, x56, x58] w fun x59 w =>
 RD Tryz.prog (bin .eql 3 (.tmp 0) (.const undef) x59 (Value.int .i64 0)) w fun x60 =>
 BR x60
 (RD Tryz.prog (Instr.fieldAt 136 x10 3) w fun x61 =>
 RD Tryz.prog (Instr.loadAt 3 x61) w fun x62 =>
 J30 [x62] w)
 (J30 [x34] w))
 (RD Tryz.prog (bin .eql 3 (.tmp 0) (.const undef) x36 (Value.int .i64 3)) w fun x64 =>
 BR x64
 (RD Tryz.prog (Instr.fieldAt 136 x10 3) w fun x65 =>
 RD Tryz.prog (Instr.loadAt 3 x65) w fun x66 =>
 J30 [x66] w)
 (RD Tryz.prog (bin .eql 3 (.tmp 0) (.const undef) x36 (Value.int .i64 4)) w fun x68 =>
 BR x68
 ((fun w => XR fun X => RDX Tryz.prog X (Instr.fieldAt 37 x7 2) w fun x69 =>
 RDX Tryz.prog X (Instr.loadAt 27 x69) w fun x70 =>
 RDX Tryz.prog X (Instr.fieldAt 35 x3 3) w fun x73 =>
 RDX Tryz.prog X (Instr.loadAt 23 x73) w fun x74 =>
 RDX Tryz.prog X (Instr.fieldAt 136 x10 1) w fun x75 =>
 RDX Tryz.prog X (Instr.loadAt 3 x75) w fun x76 =>
 RDX Tryz.prog X (Instr.indexAt 23 x74 x76) w fun x77 =>
 RDX Tryz.prog X (Instr.loadAt 3 x77) w fun x78 =>
 (fun w_ => OP Tryz.prog (Instr.buildSlice 23 1 #[(0, x78)]) w_ fun x79 w =>
 ExtX X w_ w ∧
 ((fun w_ => OP Tryz.prog (Builtin.append_ #[23, 23] 23 [x18, x79].toArray) w_ fun x80 w =>
 ExtX X w_ w ∧
 (RDX Tryz.prog X (Instr.indexAt 27 x70 a2) w fun x81 =>
 OPU Tryz.prog (Instr.storeAt 23 x81 x80) w fun w =>
 RD Tryz.prog (Instr.loadAt 37 x7) w fun x82 =>
 OPU Tryz.prog (Instr.storeAt 37 x6 x82) w fun w =>
 RD Tryz.prog (loadRes 37 x6) w fun r6 => R r6 w)) w)) w) (World.drew1 w))
 (RD Tryz.prog (bin .eql 3 (.tmp 0) (.const undef) x36 (Value.int .i64 5)) w fun x84 =>
 BR x84
 (RD Tryz.prog (Instr.fieldAt 37 x7 2) w fun x85 =>
 RD Tryz.prog (Instr.loadAt 27 x85) w fun x86 =>
 RD Tryz.prog (Builtin.len_ #[27] 3 [x86].toArray) w fun x87 =>
 RD Tryz.prog (bin .lss 3 (.tmp 0) (.const undef) x87 (Value.int .i64 6)) w fun x88 =>
 BR x88
 ((fun w => RD Tryz.prog (Instr.fieldAt 37 x7 2) w fun x89 =>
 RD Tryz.prog (Instr.loadAt 27 x89) w fun x90 =>
 RD Tryz.prog (Instr.fieldAt 35 x3 3) w fun x91 =>
 RD Tryz.prog (Instr.loadAt 23 x91) w fun x92 =>
 RD Tryz.prog (Instr.fieldAt 136 x10 1) w fun x93 =>
 RD Tryz.prog (Instr.loadAt 3 x93) w fun x94 =>
 RD Tryz.prog (Instr.indexAt 23 x92 x94) w fun x95 =>
 RD Tryz.prog (Instr.loadAt 3 x95) w fun x96 =>
 (fun w_ => OP Tryz.prog (Instr.buildSlice 23 1 #[(0, x96)]) w_ fun x97 w =>
 Ext w_ w ∧
 ((fun w_ => OP Tryz.prog (Instr.buildSlice 27 1 #[(0, x97)]) w_ fun x98 w =>
 Ext w_ w ∧
 (OP Tryz.prog (Builtin.append_ #[27, 27] 27 [x90, x98].toArray) w fun x99 w =>
 RD Tryz.prog (Instr.fieldAt 37 x7 2) w fun x100 =>
 OPU Tryz.prog (Instr.storeAt 27 x100 x99) w fun w =>
 J30 [x34] w)) w)) w) (World.drew1 w))
 (J30 [x34] w))
 (RD Tryz.prog (bin .eql 3 (.tmp 0) (.const undef) x36 (Value.int .i64 6)) w fun x102 =>
 BR x102
 (RD Tryz.prog (Instr.fieldAt 37 x7 1) w fun x103 =>
 RD Tryz.prog (Instr.loadAt 23 x103) w fun x104 =>
 RD Tryz.prog (Instr.fieldAt 136 x10 1) w fun x105 =>
 RD Tryz.prog (Instr.loadAt 3 x105) w fun x106 =>
 RD Tryz.prog (Instr.indexAt 23 x104 x106) w fun x108 =>
 OPU Tryz.prog (Instr.storeAt 3 x108 a2) w fun w =>
 J30 [x34] w)
 (RD Tryz.prog (bin .eql 3 (.tmp 0) (.const undef) x36 (Value.int .i64 7)) w fun x110 =>
 BR x110
 (RD Tryz.prog (Instr.fieldAt 37 x7 1) w fun x111 =>
 RD Tryz.prog (Instr.loadAt 23 x111) w fun x112 =>
 RD Tryz.prog (Instr.fieldAt 136 x10 1) w fun x113 =>
 RD Tryz.prog (Instr.loadAt 3 x113) w fun x114 =>
 RD Tryz.prog (Instr.indexAt 23 x112 x114) w fun x115 =>
 RD Tryz.prog (Instr.loadAt 3 x115) w fun x116 =>
 RD Tryz.prog (bin .eql 3 (.tmp 0) (.tmp 0) x116 a2) w fun x118 =>
 BR x118
 (RD Tryz.prog (Instr.fieldAt 37 x7 1) w fun x119 =>
 RD Tryz.prog (Instr.loadAt 23 x119) w fun x120 =>
 RD Tryz.prog (Instr.fieldAt 136 x10 1) w fun x121 =>
 RD Tryz.prog (Instr.loadAt 3 x121) w fun x122 =>
 RD Tryz.prog (Instr.indexAt 23 x120 x122) w fun x123 =>
 OPU Tryz.prog (Instr.storeAt 3 x123 (Value.int .i64 (-1))) w fun w =>
 J30 [x34] w)
 (J30 [x34] w))
 (RD Tryz.prog (bin .eql 3 (.tmp 0) (.const undef) x36 (Value.int .i64 9)) w fun x125 =>
 BR x125
 ((fun w => RD Tryz.prog (Instr.fieldAt 37 x7 2) w fun x126 =>
 RD Tryz.prog (Instr.loadAt 27 x126) w fun x127 =>
 RD Tryz.prog (Instr.sliceAt 23 x18 none (some x21) (some x21)) w fun x132 =>
 RD Tryz.prog (Instr.indexAt 27 x127 a2) w fun x133 =>
 OPU Tryz.prog (Instr.storeAt 23 x133 x132) w fun w =>
 RD Tryz.prog (bin .gtr 3 (.tmp 0) (.const undef) x21 (Value.int .i64 0)) w fun x135 =>
 BR x135
 (RD Tryz.prog (bin .sub 3 (.tmp 0) (.const undef) x21 (Value.int .i64 1)) w fun x138 =>
 RD Tryz.prog (Instr.indexAt 23 x18 x138) w fun x139 =>
 RD Tryz.prog (Instr.loadAt 3 x139) w fun x140 =>
 RD Tryz.prog (bin .add 3 (.tmp 0) (.const undef) x140 (Value.int .i64 1)) w fun x141 =>
 RD Tryz.prog (Instr.indexAt 23 x18 x138) w fun x142 =>
 OPU Tryz.prog (Instr.storeAt 3 x142 x141) w fun w =>
 RD Tryz.prog (Instr.loadAt 37 x7) w fun x143 =>
 OPU Tryz.prog (Instr.storeAt 37 x6 x143) w fun w =>
 RD Tryz.prog (loadRes 37 x6) w fun r6 => R r6 w)
 (RD Tryz.prog (Instr.loadAt 37 x7) w fun x143 =>
 OPU Tryz.prog (Instr.storeAt 37 x6 x143) w fun w =>
 RD Tryz.prog (loadRes 37 x6) w fun r6 => R r6 w)) (World.drew1 w))
 (J30 [x34] w))))))))) (fun u30 w =>
 RD Tryz.prog (Instr.indexAt 23 x18 x21) w fun x147 =>
 OPU Tryz.prog (Instr.storeAt 3 x147 (u30 11)) w fun w =>
 RD Tryz.prog (Instr.loadAt 37 x7) w fun x148 =>
 OPU Tryz.prog (Instr.storeAt 37 x6 x148) w fun w =>
 RD Tryz.prog (loadRes 37 x6) w fun r6 => R r6 w))) w) (World.drew1 w)
def cfg223 : Cfg := { ext := extL, joins := [(30, 22300745198530623141535718272648327146244096, [11])], loops := [], draws := [(4, [0, 1, 2, 3, 4, 5, 6, 7, 8, 9], 256), (8, [0, 1, 2, 3, 4, 5, 6, 7, 8, 9, 10, 11, 12], 1024), (15, [0, 1, 2, 3, 4, 5, 6, 7, 8, 9, 10, 11, 12, 13], 3072), (19, [0, 1, 2, 3, 4, 5, 6, 7, 8, 9, 10, 11, 12], 768), (26, [0, 1, 2, 3, 4, 5, 6, 7, 8], 0)], pars := [], xs := [15] }
theorem F223_eq (a0 a1 a2 : Value) (w : World) (R : Value → World → Prop) : vcF Tryz.prog cfg223 Tryz.f223 [a0, a1, a2] w R = F223 a0 a1 a2 w R := by kernel_rfl
theorem F223_call {a0 a1 a2 : Value} {w : World} {R : Value → World → Prop} (h : F223 a0 a1 a2 w R) : CALL Tryz.prog 223 [a0, a1, a2] w R :=
  call_of (g := cfg223) ent mixed Tryz.func223 (Nat.le_of_ble_eq_true (by kernel_rfl)) (by kernel_rfl) (F223_eq a0 a1 a2 w R ▸ h)
set_option linter.unusedVariables false
set_option linter.unusedSimpArgs false
def nextOf (c : DCode) (s : DState) (t : Int) : Int :=
  if (atI c s t).op = 2 then (if workT c.globals s.vars 6 (atI c s t).term = 0 then (atI c s t).to else atOf s t + 1) else if (atI c s t).op = 3 then (atI c s t).to else atOf s t + 1
def restOf (c : DCode) (s : DState) (t : Int) : DState :=
  if (atI c s t).op = 1 then ⟨s.vars.set (atI c s t).arg.toNat (workT c.globals s.vars 6 (atI c s t).term), s.owner, s.stacks⟩
  else if (atI c s t).op = 5 then (if s.stacks.length < 6 then ⟨s.vars, s.owner, s.stacks ++ [[en c (atI c s t).arg.toNat]]⟩ else s)
  else if (atI c s t).op = 6 then ⟨s.vars, s.owner.set (atI c s t).arg.toNat t, s.stacks⟩
  else if (atI c s t).op = 7 then (if ow s (atI c s t).arg = t then ⟨s.vars, s.owner.set (atI c s t).arg.toNat (-1), s.stacks⟩ else s)
  else s
def popped (l : List Int) : List Int := if l.length - 1 = 0 then [] else (l.take (l.length - 1)).set (l.length - 2) (st l (l.length - 2) + 1)
def stepD (c : DCode) (s : DState) (t : Int) : DState :=
  if (atI c s t).op = 4 then ⟨s.vars, s.owner, s.stacks.set t.toNat (stk s t ++ [en c (atI c s t).arg.toNat])⟩
  else if (atI c s t).op = 9 then ⟨s.vars, s.owner, s.stacks.set t.toNat (popped (stk s t))⟩
  else ⟨(restOf c s t).vars, (restOf c s t).owner, (restOf c s t).stacks.set t.toNat ((stk s t).set ((stk s t).length - 1) (nextOf c s t))⟩
theorem go_facts {c : DCode} {s : DState} {t : Int} (hs : StateR c s) (hg : 0 ≤ atOf s t) : ∃ tn : Nat, t = tn ∧ tn < s.stacks.length ∧ stk s t ≠ [] ∧ (stk s t).length ≤ 8 ∧ atOf s t = st (stk s t) ((stk s t).length - 1) := by
  obtain ⟨h0, h1⟩ := at_thread hg
  have h2 := at_stack h0 h1
  have hne : stk s t ≠ [] := fun e => by rw [h2, e] at hg; simp [List.getLastD] at hg
  have hm := hs.2.2.2.2.2 (stk s t) (by rw [← stk_get h1]; exact List.getElem_mem _)
  exact ⟨t.toNat, by omega, h1, hne, hm.1, by rw [h2, last_st hne]⟩
theorem stSz_of {c : DCode} {s : DState} (hc : CodeR c) (hs : StateR c s) : StSz s := by
  have h1 := hc.1.globals6
  have h2 := hc.1.locks6
  have h3 := hs.1
  have h4 := hs.2.1
  have h5 := hs.2.2.1
  exact ⟨by omega, by omega, by omega, fun x hx => by have := (hs.2.2.2.2.2 x hx).1; omega⟩
theorem rd_idxU {P : Program} {w : World} {t e : TypeId} {b a n cap sz by_ k : Nat} {ag : Bool} {u : Value} {K : Value → Prop} (ht : P.underlying t = some (.slice e)) (he : tyI P e = some (sz, by_, ag)) (hu : u = .slice (some ⟨b, a, none⟩) n cap) (hk : k < n) (kk : K (.pointer (some ⟨b, a + k * sz, none⟩))) :
    RD P (Instr.indexAt t u (.int .i64 (k : Int))) w K := by
  subst hu
  exact rd_of (fun w' _ => by rw [run_indexAt' ht he (by omega) (by omega)]; simp) kk
theorem var_owner {lo hi g k : Nat} {w : World} {z : DStV} (h : VarI lo hi w g z) (hg : lo ≤ g ∧ g < hi) (hk : k < z.owner.length) : ∃ u b a cap, w.rangeAt g (0 + 1) [u] ∧ Is w u z.owner ∧ u = .slice (some ⟨b, a, none⟩) z.owner.length cap ∧
    ∀ w1, Ext w w1 → ∀ (val : Int), I64 val → ∀ K : World → Prop, (∀ w2, ChgI lo hi w1 w2 → VarI lo hi w2 g (⟨z.vars, z.owner.set k val, z.stacks⟩ : DStV) → K w2) → OPU Tryz.prog (Instr.storeAt 3 (.pointer (some ⟨b, a + k * 1, none⟩)) (.int .i64 val)) w1 K := by
  obtain ⟨F, hO, hF⟩ := h
  obtain ⟨G1, hL1⟩ := lens_DStV_1 (Lens.var hO)
  obtain ⟨u, b, a, cap, G2, hr, hIs, hu, hL2⟩ := hL1.elem hk
  exact ⟨u, b, a, cap, hr, hIs, hu, fun w1 hx val hI K kk => opu_varM ty3 (hL2.ext hx) hF hg (mine_int hI) kk⟩
theorem var_vars {lo hi g k : Nat} {w : World} {z : DStV} (h : VarI lo hi w g z) (hg : lo ≤ g ∧ g < hi) (hk : k < z.vars.length) : ∃ u b a cap, w.rangeAt g (0 + 0) [u] ∧ Is w u z.vars ∧ u = .slice (some ⟨b, a, none⟩) z.vars.length cap ∧
    ∀ w1, Ext w w1 → ∀ (val : Int), I64 val → ∀ K : World → Prop, (∀ w2, ChgI lo hi w1 w2 → VarI lo hi w2 g (⟨z.vars.set k val, z.owner, z.stacks⟩ : DStV) → K w2) → OPU Tryz.prog (Instr.storeAt 3 (.pointer (some ⟨b, a + k * 1, none⟩)) (.int .i64 val)) w1 K := by
  obtain ⟨F, hO, hF⟩ := h
  obtain ⟨G1, hL1⟩ := lens_DStV_0 (Lens.var hO)
  obtain ⟨u, b, a, cap, G2, hr, hIs, hu, hL2⟩ := hL1.elem hk
  exact ⟨u, b, a, cap, hr, hIs, hu, fun w1 hx val hI K kk => opu_varM ty3 (hL2.ext hx) hF hg (mine_int hI) kk⟩
theorem rangeAt_inj {w : World} {b o : Nat} {u u' : Value} (h : w.rangeAt b o [u]) (h' : w.rangeAt b o [u']) : u = u' := by
  have h1 := h 0 u rfl
  have h2 := h' 0 u' rfl
  rw [h1] at h2
  exact Option.some.inj h2
theorem oat_er {w : World} {F : List Nat} {g : Nat} {z : DStV} (h : OAt F w g 0 z) : OAt F w g 0 z.er := by
  obtain ⟨cs, hr, rest⟩ := h
  obtain ⟨F0, c0, F1, c1, F2, c2, rfl, rfl, h0, h1, h2⟩ := inv_DStV hr
  exact ⟨_, rep_DState (x := z.er) h0 h1 (rep_er h2), rest⟩
theorem rd_cut {P : Program} {w : World} {t e : TypeId} {by_ : Nat} {u : Value} {l : List Int} {G : List Nat} {k : Nat} {K : Value → Prop} (ht : P.underlying t = some (.slice e)) (he : tyI P e = some (1, by_, false)) (hm : Mine G w u l) (hk : k ≤ l.length) (hne : l ≠ [])
    (kk : ∀ b a cap v G', u = .slice (some ⟨b, a, none⟩) l.length cap → Mine G' w v (l.take k) → (∀ c ∈ G', c ∈ G) → (0 < k → v = .slice (some ⟨b, a, none⟩) k k) → K v) : RD P (Instr.sliceAt t u none (some (.int .i64 (k : Int))) (some (.int .i64 (k : Int)))) w K := by
  obtain ⟨⟨cs, ⟨a, cap, Fi, xs, rfl, h1, h2, hc, h4⟩, rfl⟩, hn, hw⟩ := hm
  rcases h4 with ⟨h4, _⟩ | ⟨b, o, rfl, rfl, hr, hb⟩
  · exact absurd h4 hne
  have hFi := Cells.flat (xs := xs) hc
  subst hFi
  have hbd : ∀ w', (Instr.sliceBounds true l.length cap none (some (.int .i64 (k : Int))) (some (.int .i64 (k : Int)))).run P w' = .ok (0, k, k) w' := fun w' => by
    have h5 : (k : Int) ≤ (cap : Int) := by omega
    simp [Instr.sliceBounds, Instr.sliceBound, asIntOf, h5]
  have e0 : l = l.take k ++ l.drop k := by simp
  have hc' := hc
  rw [e0] at hc'
  obtain ⟨F1, F2, x1, x2, hFF, rfl, c1, c2⟩ := Cells.split hc'
  obtain ⟨rfl, rfl⟩ := List.append_eq_nil_iff.1 hFF.symm
  have hlk : (l.take k).length = k := by simp; omega
  have hval : ∃ v : Value, (∀ w', (Instr.sliceAt t (.slice (some ⟨b, o, none⟩) l.length cap) none (some (.int .i64 (k : Int))) (some (.int .i64 (k : Int)))).run P w' = .ok v w') ∧ v = .slice (some ⟨b, o, none⟩) k k := by
    refine ⟨_, fun w' => ?_, rfl⟩
    simp only [Instr.sliceAt, Instr.slice, Sem.run_bind, run_underlying ht, Result.andThen_ok, hbd, run_sizeOf' he]
    simp [Addr.add_mid]
  obtain ⟨v, hrun, rfl⟩ := hval
  refine rd_of (fun w' _ => hrun w') ?_
  by_cases h0 : k = 0
  · subst h0
    refine kk b o cap _ [] rfl ?_ (by simp) (fun h => by omega)
    have : l.take 0 = [] := by simp
    rw [this]
    exact ⟨⟨_, ⟨some ⟨b, o, none⟩, 0, [], [], rfl, Nat.le_refl _, Nat.zero_le _, ⟨rfl, rfl⟩, .inl ⟨rfl, rfl⟩⟩, rfl⟩, List.nodup_nil, Wr.nil w⟩
  · refine kk b o cap _ [b] rfl ?_ (by simp) (fun _ => rfl)
    refine ⟨⟨_, ⟨some ⟨b, o, none⟩, k, [], x1, rfl, by rw [hlk]; exact Nat.le_refl _, by omega, c1, .inr ⟨b, o, rfl, rfl, (rangeAt_append hr).1, hb⟩⟩, by rw [hlk]; rfl⟩, by simp, hw.sub (by simp)⟩
theorem varI_er {lo hi g : Nat} {w : World} {z : DStV} (h : VarI lo hi w g z) : VarI lo hi w g z.er := by
  obtain ⟨F, h, hF⟩ := h; exact ⟨F, oat_er h, hF⟩
theorem agg3S {lo hi : Nat} {w : World} {v : Value} {z : DState} (h : OwnI lo hi w v z) : ∃ a b c, v = .agg #[a, b, c] := by
  obtain ⟨F, ⟨⟨cs, hr, rfl⟩, _⟩, _⟩ := h
  obtain ⟨F0, c0, F1, c1, F2, c2, rfl, rfl, ⟨_, _, _, _, rfl, _⟩, ⟨_, _, _, _, rfl, _⟩, ⟨_, _, _, _, rfl, _⟩⟩ := inv_DState hr
  exact ⟨_, _, _, rfl⟩
theorem set_arg {c : DCode} {s : DState} {t : Int} (hc : CodeR c) (hs : StateR c s) (h : 0 ≤ atOf s t) (ho : (atI c s t).op = 1) : 0 ≤ (atI c s t).arg ∧ (atI c s t).arg.toNat < s.vars.length := by
  have h1 := (atI_right hc hs h).2.1
  have h2 := hs.1
  unfold argMost at h1
  rw [if_pos ho] at h1
  omega
theorem proc_arg {c : DCode} {s : DState} {t : Int} (hc : CodeR c) (hs : StateR c s) (h : 0 ≤ atOf s t) (ho : (atI c s t).op = 4 ∨ (atI c s t).op = 5) : 0 ≤ (atI c s t).arg ∧ (atI c s t).arg.toNat < c.entry.length := by
  have h1 := (atI_right hc hs h).2.1
  have h2 := hc.2.1.1
  unfold argMost at h1
  rw [if_neg (by omega), if_pos ho] at h1
  omega
theorem stepped_ok {w W0 W1 : World} {v0 v1 : Value} {c : DCode} {s : DState} {t : Int} (h0 : Is W0 v0 c) (e0 : Ext W0 w) (h1 : Is W1 v1 s) (e1 : Ext W1 w) (hc : CodeR c) (hs : StateR c s) (hgo : GoR c s t) :
    CALL Tryz.prog 223 [v0, v1, .int .i64 t] w fun r w' => Ext w w' ∧ Own w.heap.size w' r (stepD c s t) := by
  obtain ⟨tn, rfl, htn, hne, hl8, hat⟩ := go_facts hs hgo.1
  have hatlt := at_lt hs tn
  have hat0 : 0 ≤ atOf s tn := hgo.1
  have hpos := List.length_pos_iff.2 hne
  refine F223_call ?_
  unfold F223
  refine op_box h0 e0 fun w1 hx1 hA1 => ?_
  refine op_box h1 (e1.trans hx1) fun w2 hx2 hA2 => ?_
  refine op_alloc zlSt fun w3 hx3 hB3 => ?_
  have hg3 := hB3.lt
  have hs1 := hx1.size
  have hs2 := hx2.size
  refine rd_load ty37 hA2 hx3 fun v12 h12 => ?_
  refine (copyState_ok h12 hx3 (stSz_of hc hs)).mono ?_
  rintro r13 w4 ⟨hx4, z, o13, hz⟩
  have hs4 := hx4.size
  refine op_varZ (α := DStV) zlSt fun w5 hx5 hv5 => ?_
  have hs5 := hx5.size
  have hg5 := hv5.lt
  refine opu_varA ty37 hv5 (o13.ext hx5) (by omega) fun w6 hc6 hv6 => ?_
  have hs6 := hc6.size
  have hx36 : Ext w3 w6 := Ext.chgI (hx4.trans hx5) hc6 (by omega)
  have hzl : z.stacks.l.map RV.l = s.stacks := congrArg DState.stacks hz
  have hzn : tn < z.stacks.l.length := by have := congrArg List.length hzl; simp at this; omega
  refine rd_fld fd37_2 ?_
  refine rd_load (α := RIntss) ty27 (at_DStV_2 hv6.at) (Ext.refl w6) fun v15 k15 => ?_
  obtain ⟨rfl, h15⟩ := is_rv k15
  refine rd_indexN (α := RInts) u27 ty23 h15 hzn fun b17 o17 hA17 => ?_
  refine rd_load (α := RInts) ty23 hA17 (Ext.refl w6) fun v18 k18 => ?_
  obtain ⟨rfl, h18⟩ := is_rv k18
  obtain ⟨x, hx⟩ : ∃ x, x = z.stacks.l[tn] := ⟨_, rfl⟩
  have hxl : x.l = stk s tn := by
    have e1 : (z.stacks.l.map RV.l)[tn]? = s.stacks[tn]? := by rw [hzl]
    rw [List.getElem?_map, List.getElem?_eq_getElem hzn, List.getElem?_eq_getElem htn] at e1
    have e2 := Option.some.inj e1
    rw [hx, e2]
    exact stk_get (t := (tn : Int)) (by simpa using htn)
  rw [← hx] at h18 ⊢
  refine rd_len u23 h18 ?_
  refine rd_sub (by unfold I64; rw [hxl]; omega) ?_
  obtain ⟨top, htop⟩ : ∃ top : Nat, (x.l.length : Int) - 1 = top := ⟨x.l.length - 1, by rw [hxl]; omega⟩
  have htl : top < x.l.length := by omega
  rw [htop]
  have hx7 := ext_drew w6
  have hs7 := hx7.size
  have hx16 : Ext w1 w6 := hx2.trans (hx3.trans hx36)
  have hx26 : Ext w2 w6 := hx3.trans hx36
  refine rd_fld fd35_4 ?_
  refine rd_load ty33 (at_DCode_4 hA1) (hx16.trans hx7) fun v23 h23 => ?_
  refine rd_indexN u23 ty3 h18 htl fun b26 o26 hA26 => ?_
  have hget : x.l[top] = atOf s tn := by
    rw [st_get, hat, hxl]
    congr 1
    rw [hxl] at htop; omega
  rw [hget] at hA26
  refine rd_loadI ty3 hA26 hx7 fun hI27 => ?_
  refine rd_index u33 ty136 h23 hgo.1 (by omega) fun b28 o28 hA28 => ?_
  rw [insAt_get] at hA28
  refine rd_load ty136 hA28 (hx16.trans hx7) fun v29 h29 => ?_
  refine op_varX zl136 rfl ty136 rfl h29 (hx16.trans hx7) fun w8 hx8 hA10 hV10 => ?_
  have hs8 := hx8.size
  refine rd_indexN u23 ty3 h18 htl fun b32 o32 hA32 => ?_
  rw [hget] at hA32
  refine rd_loadI ty3 hA32 (hx7.trans hx8) fun hI33 => ?_
  have hins := hc.f.ins
  refine rd_add (by unfold I64; omega) ?_
  have hR := atI_right hc hs hgo.1
  obtain ⟨I, hI⟩ : ∃ I, I = atI c s tn := ⟨_, rfl⟩
  have hA10 : At w8 (World.drew1 w6).heap.size 0 I := by rw [hI]; exact hA10
  have hx68 := hx7.trans hx8
  have hv8 : VarI w3.heap.size w8.heap.size w8 w4.heap.size z := (hv6.ext hx68).mono (Nat.le_refl _) (by omega)
  have hx38 : Ext w3 w8 := hx36.trans hx68
  have hres : ∀ (zz : DState) (w9 : World), Ext w3 w9 → VarI w3.heap.size w9.heap.size w9 w4.heap.size zz → zz = stepD c s tn →
      RD Tryz.prog (Instr.loadAt 37 (.pointer (some ⟨w4.heap.size, 0, none⟩))) w9 fun x148 => OPU Tryz.prog (Instr.storeAt 37 (.pointer (some ⟨w2.heap.size, 0, none⟩)) x148) w9 fun w' =>
        RD Tryz.prog (loadRes 37 (.pointer (some ⟨w2.heap.size, 0, none⟩))) w' fun r6 => Ext w w' ∧ Own w.heap.size w' r6 (stepD c s tn) := by
    intro zz w9 hx9 hv9 he
    have hs9 := hx9.size
    refine rd_varI ty37 hv9 (Ext.refl w9) fun v148 o148 => ?_
    obtain ⟨a, b, c', rfl⟩ := agg3S o148
    refine opu_blkS (α := DState) ty37 rfl (hB3.ext hx9) rfl o148 fun w10 hc10 hB10 => ?_
    refine rd_blkR hB10 ty37 ?_
    refine ⟨Ext.chgI (hx1.trans (hx2.trans (hx3.trans hx9))) hc10 (by omega), ?_⟩
    have := o148.chg hc10 (by omega)
    rw [he] at this
    exact this.own.mono (by omega)
  refine JOIN.mk (fun us w' => us = [.int .i64 (nextOf c s tn)] ∧ Ext w3 w' ∧ ∃ z' : DStV, VarI w3.heap.size w'.heap.size w' w4.heap.size z' ∧ z'.vars = (restOf c s tn).vars ∧ z'.owner = (restOf c s tn).owner ∧ z'.stacks.l.map RV.l = (restOf c s tn).stacks ∧ z'.stacks.l[tn]? = some x ∧ (I.op ≠ 4 ∧ I.op ≠ 9)) ?_ ?_
  · refine rd_fld fd136_0 ?_
    refine rd_loadI ty3 (at_DIns_0 hA10) (Ext.refl w8) fun _ => ?_
    have hzv : z.vars = s.vars := congrArg DState.vars hz
    have hzo : z.owner = s.owner := congrArg DState.owner hz
    have hzx : z.stacks.l[tn]? = some x := by rw [List.getElem?_eq_getElem hzn, hx]
    have same : ∀ w9, Ext w8 w9 → (I.op ≠ 1 ∧ I.op ≠ 4 ∧ I.op ≠ 5 ∧ I.op ≠ 6 ∧ I.op ≠ 7 ∧ I.op ≠ 9) → ∃ z' : DStV, VarI w3.heap.size w9.heap.size w9 w4.heap.size z' ∧ z'.vars = (restOf c s tn).vars ∧ z'.owner = (restOf c s tn).owner ∧ z'.stacks.l.map RV.l = (restOf c s tn).stacks ∧ z'.stacks.l[tn]? = some x ∧ (I.op ≠ 4 ∧ I.op ≠ 9) := by
      rintro w9 hx9 ⟨q1, q4, q5, q6, q7, q9⟩
      have he : restOf c s tn = s := by unfold restOf; rw [← hI, if_neg q1, if_neg q5, if_neg q6, if_neg q7]
      rw [he]
      exact ⟨z, (hv8.ext hx9).mono (Nat.le_refl _) hx9.size, hzv, hzo, hzl, hzx, q4, q9⟩
    have hnext : I.op ≠ 2 → I.op ≠ 3 → nextOf c s tn = atOf s tn + 1 := fun q2 q3 => by unfold nextOf; rw [← hI, if_neg q2, if_neg q3]
    refine rd_eql ?_
    refine br (fun q1 => ?_) (fun q1 => ?_)
    · have hx9 := ext_drew w8
      have hs9 := hx9.size
      have hg8 := hv8.lt
      obtain ⟨har0, har1⟩ := set_arg hc hs hat0 (hI ▸ q1)
      rw [← hI] at har0 har1
      obtain ⟨ar, har⟩ : ∃ ar : Nat, I.arg = ar := ⟨I.arg.toNat, by omega⟩
      have har2 : ar < z.vars.length := by rw [hzv]; omega
      obtain ⟨u, b, a, cap, hr, hIs, hu, hst⟩ := var_vars (hv8.ext hx9) (by omega) har2
      refine rd_fld fd37_0 ?_
      refine rd_cell ty23 hr ?_
      refine rd_fld fd136_1 ?_
      refine rd_loadI ty3 (at_DIns_1 hA10) hx9 fun _ => ?_
      refine rd_fld fd136_2 ?_
      refine rd_load ty134 (at_DIns_2 hA10) hx9 fun v54 h54 => ?_
      refine rd_fld fd35_0 ?_
      refine rd_load ty22 (at_DCode_0 hA1) (hx16.trans (hx68.trans hx9)) fun v56 h56 => ?_
      refine rd_fld fd37_0 ?_
      refine rd_load ty23 (at_DState_0 hA2) (hx26.trans (hx68.trans hx9)) fun v58 h58 => ?_
      have hok : termOk 6 I.term = true := by
        have := hR.2.2.1
        rw [← hI, if_pos (.inl q1)] at this
        exact this.1
      refine (workOut_ok 6 h54 hx9 h56 (hx16.trans (hx68.trans hx9)) h58 (hx26.trans (hx68.trans hx9)) hok).mono ?_
      rintro _ w10 ⟨hx10, rfl⟩
      refine ⟨hx10, ?_⟩
      have hs10 := hx10.size
      rw [har]
      refine rd_idxU u23 ty3 hu har2 ?_
      have hwr := workT_range c.globals s.vars 6 I.term
      refine hst w10 hx10 _ (by unfold I64; omega) _ fun w11 hc11 hv11 => ?_
      have hs11 := hc11.size
      have hrest : restOf c s tn = ⟨s.vars.set I.arg.toNat (workT c.globals s.vars 6 I.term), s.owner, s.stacks⟩ := by unfold restOf; rw [← hI, if_pos q1]
      refine ⟨by rw [hnext (by omega) (by omega)], Ext.chgI ((hx38.trans hx9).trans hx10) hc11 (by omega), _, hv11.mono (Nat.le_refl _) (by omega), ?_, ?_, ?_, hzx, by omega, by omega⟩
      · rw [hrest, hzv, har]; rfl
      · rw [hrest]; exact hzo
      · rw [hrest]; exact hzl
    refine rd_eql ?_
    refine br (fun q2 => ?_) (fun q2 => ?_)
    · refine rd_fld fd136_2 ?_
      refine rd_load ty134 (at_DIns_2 hA10) (Ext.refl w8) fun v54 h54 => ?_
      refine rd_fld fd35_0 ?_
      refine rd_load ty22 (at_DCode_0 hA1) (hx16.trans hx68) fun v56 h56 => ?_
      refine rd_fld fd37_0 ?_
      refine rd_load ty23 (at_DState_0 hA2) (hx26.trans hx68) fun v58 h58 => ?_
      have hok : termOk 6 I.term = true := by
        have := hR.2.2.1
        rw [← hI, if_pos (.inr q2)] at this
        exact this.1
      refine (workOut_ok 6 h54 (Ext.refl w8) h56 (hx16.trans hx68) h58 (hx26.trans hx68) hok).mono ?_
      rintro _ w9 ⟨hx9, rfl⟩
      refine rd_eql ?_
      refine br (fun q => ?_) (fun q => ?_)
      · refine rd_fld fd136_3 ?_
        refine rd_loadI ty3 (at_DIns_3 hA10) hx9 fun _ => ?_
        exact ⟨by unfold nextOf; rw [← hI, if_pos q2, if_pos q], hx38.trans hx9, same w9 hx9 (by omega)⟩
      · exact ⟨by unfold nextOf; rw [← hI, if_pos q2, if_neg q], hx38.trans hx9, same w9 hx9 (by omega)⟩
    refine rd_eql ?_
    refine br (fun q3 => ?_) (fun q3 => ?_)
    · refine rd_fld fd136_3 ?_
      refine rd_loadI ty3 (at_DIns_3 hA10) (Ext.refl w8) fun _ => ?_
      exact ⟨by unfold nextOf; rw [← hI, if_neg q2, if_pos q3], hx38, same w8 (Ext.refl w8) (by omega)⟩
    have hn := hnext q2 q3
    refine rd_eql ?_
    refine br (fun q4 => ?_) (fun q4 => ?_)
    · have hx9 := ext_drew w8
      have hs9 := hx9.size
      have hg8 := hv8.lt
      obtain ⟨har0, har1⟩ := proc_arg hc hs hat0 (.inl (hI ▸ q4))
      rw [← hI] at har0 har1
      obtain ⟨ar, har⟩ : ∃ ar : Nat, I.arg = ar := ⟨I.arg.toNat, by omega⟩
      obtain ⟨F, hO, hF⟩ := hv6.ext (hx68.trans hx9)
      have hlt := hO.lts
      obtain ⟨G1, hL1⟩ := lens_DStV_2 (Lens.var hO)
      obtain ⟨b2, a2, cap2, G2, hv2, hG21, hL2⟩ := hL1.elemV hzn
      rw [← hx] at hL2
      obtain ⟨cs1, ⟨rfl, _⟩, hr1, _, _, hg1, _⟩ := hL1.here
      obtain ⟨cs, ⟨rfl, hrow⟩, _, hnG, _, hb2, _⟩ := hL2.here
      have hG2F : ∀ c ∈ G2, c ∈ F := fun c hcm => by
        rcases List.mem_cons.1 (hL2.sub c (by simp [hcm])) with rfl | h
        · exact absurd (hG21 _ (by simp [hcm])) hg1
        · exact h
      have hGb : ∀ c ∈ G2, w3.heap.size ≤ c ∧ c < w4.heap.size := fun c hcm => hF c (hG2F c hcm)
      have hX3 : ∀ c, c ∈ G2 → w3.heap.size ≤ c := fun c hcm => (hGb c hcm).1
      have hx39 := hx38.trans hx9
      refine XR.mk (fun c => c ∈ G2) ?_
      refine rdx_fld fd37_2 ?_
      refine rdx_cell ty27 hr1 (fun h => by have := hGb _ h; omega) ?_
      refine rdx_fld fd35_3 ?_
      refine rdx_of_rd (w0 := w3) hX3 hx39 ?_
      refine rd_load ty23 (at_DCode_3 hA1) (hx2.trans hx3) fun v74 h74 => ?_
      refine rdx_fld fd136_1 ?_
      refine rdx_cell ty3 (rangeAt_ext (at_cell (at_DIns_1 hA10)) hx9) (fun h => by have := hGb _ h; omega) ?_
      rw [har]
      refine rdx_of_rd (w0 := w3) hX3 hx39 ?_
      refine rd_indexN u23 ty3 h74 (by omega) fun b77 o77 hA77 => ?_
      rw [en_get] at hA77
      refine rdx_of_rd (w0 := w3) hX3 hx39 ?_
      refine rd_loadI ty3 hA77 (hx2.trans hx3) fun hI78 => ?_
      refine op_pushB (β := Int) (G := G2) u23 ty3 z3 zc3 (by decide) hrow hnG (mine_int hI78) (by simp) (by rw [maxLen_eq, hxl]; omega) (by rw [hxl]; omega) (fun w10 v80 w11 G' hx10 hc11 hR11 hN11 hs11 => ?_) fun sv w10 hx10 hop => ⟨hx10.toX, hop⟩
      refine ⟨hc11.toX (fun c h => h), ?_⟩
      have hs10 := hx10.size
      have hs11' := hc11.size
      have hc911 : Chg G2 (World.drew1 w8) w11 := (hx10.chg G2).trans hc11
      have hx311 : Ext w3 w11 := Ext.chgI hx39 (hc911.toI (lo := w3.heap.size) (hi := w4.heap.size) hGb) (Nat.le_refl _)
      refine rdx_of_rd (w0 := w3) hX3 hx311 ?_
      refine rd_idxU u27 ty23 hv2 hzn ?_
      refine opu_pushed ty23 hL2 hlt hc911 hR11 hN11 (fun c hcm => ?_) fun w12 hc12 ⟨F', hO', hF'⟩ => ?_
      · rcases hs11 c hcm with h | h | h
        · exact .inl h
        · simp at h
        · exact .inr h
      have hs12 := hc12.size
      have hcI : ChgI w3.heap.size w8.heap.size (World.drew1 w8) w12 := hc12.toI fun c hcm => by
        have := hL2.sub c hcm
        rcases List.mem_cons.1 this with rfl | h
        · exact ⟨by omega, hg8⟩
        · have := hF c h; omega
      refine hres _ w12 (Ext.chgI hx39 hcI (Nat.le_refl _)) (varI_er ⟨F', hO', fun c hcm => ?_⟩) ?_
      · have h1 := hO'.lts c (by simp [hcm])
        rcases hF' c hcm with h | h
        · rcases List.mem_cons.1 h with rfl | h
          · obtain ⟨_, _, _, _, _, hnn, _⟩ := hO'; exact absurd hcm hnn
          · have := hF c h; omega
        · omega
      · unfold stepD DStV.er
        have e1 : ((tn : Int)).toNat = tn := by omega
        rw [← hI, if_pos q4]
        simp only [DState.mk.injEq, hzv, hzo, true_and]
        rw [List.map_set, hzl, hxl, e1, har, Int.toNat_natCast]
    refine rd_eql ?_
    refine br (fun q5 => ?_) (fun q5 => ?_)
    · have hg8 := hv8.lt
      obtain ⟨har0, har1⟩ := proc_arg hc hs hat0 (.inr (hI ▸ q5))
      rw [← hI] at har0 har1
      obtain ⟨ar, har⟩ : ∃ ar : Nat, I.arg = ar := ⟨I.arg.toNat, by omega⟩
      have hzlen : z.stacks.l.length = s.stacks.length := by have := congrArg List.length hzl; simpa using this
      refine rd_fld fd37_2 ?_
      refine rd_load (α := RIntss) ty27 (at_DStV_2 hv8.at) (Ext.refl w8) fun v86 k86 => ?_
      obtain ⟨rfl, h86⟩ := is_rv k86
      refine rd_len u27 h86 ?_
      rw [hzlen]
      refine rd_lss ?_
      refine br (fun qq => ?_) (fun qq => ?_)
      · have hx9 := ext_drew w8
        have hs9 := hx9.size
        obtain ⟨F, hO, hF⟩ := hv8.ext hx9
        have hlt := hO.lts
        obtain ⟨G1, hL1⟩ := lens_DStV_2 (Lens.var hO)
        refine rd_fld fd37_2 ?_
        refine rd_loadV ty27 (at_DStV_2 hv8.at) hx9 ?_
        refine rd_fld fd35_3 ?_
        refine rd_load ty23 (at_DCode_3 hA1) (hx16.trans (hx68.trans hx9)) fun v92 h92 => ?_
        refine rd_fld fd136_1 ?_
        refine rd_loadI ty3 (at_DIns_1 hA10) hx9 fun _ => ?_
        rw [har]
        refine rd_indexN u23 ty3 h92 (by omega) fun b95 o95 hA95 => ?_
        rw [en_get] at hA95
        refine rd_loadI ty3 hA95 (hx16.trans (hx68.trans hx9)) fun hI96 => ?_
        refine op_build1R (β := Int) u23 ty3 z3 (by decide) (mine_int hI96) fun v97 w10 hx10 r97 => ?_
        refine ⟨hx10, ?_⟩
        have hs10 := hx10.size
        obtain ⟨GX, hMX, hGX⟩ := ownI_rv r97
        obtain ⟨cs, ⟨rfl, hrow⟩, _, hnG, _⟩ := hL1.here
        have hGlt : ∀ c ∈ G1, c < (World.drew1 w8).heap.size := fun c hcm => hlt c (hL1.sub c (by simp [hcm]))
        refine op_pushB (β := RInts) (G := G1) (w := w10) u27 ty23 z23 zc23 (by decide) (hrow.keep fun c hcm => hx10.heap (hGlt c hcm)) hnG hMX (fun c hcm hg => by have := hGX c hcm; have := hGlt c hg; omega) (by rw [maxLen_eq, hzlen]; omega) (by rw [hzlen]; omega) (fun w11 v99 w12 G' hx11 hc12' hR12 hN12 hs12 => ?_) fun sv w11 hx11 hop => ⟨hx11, hop⟩
        have hc12 : Chg G1 w10 w12 := (hx11.chg G1).trans hc12'
        refine rd_fld fd37_2 ?_
        refine opu_pushed ty27 hL1 hlt ((hx10.chg G1).trans hc12) hR12 hN12 (fun c hcm => ?_) fun w13 hc13 ⟨F', hO', hF'⟩ => ?_
        · rcases hs12 c hcm with h | h | h
          · exact .inl h
          · exact .inr (hGX c h).1
          · exact .inr (by omega)
        have hs13 := hc13.size
        have hcI : ChgI w3.heap.size w8.heap.size (World.drew1 w8) w13 := hc13.toI fun c hcm => by
          have := hL1.sub c hcm
          rcases List.mem_cons.1 this with rfl | h
          · exact ⟨by omega, hg8⟩
          · exact hF c h
        have hrest : restOf c s tn = ⟨s.vars, s.owner, s.stacks ++ [[en c I.arg.toNat]]⟩ := by unfold restOf; rw [← hI, if_neg q1, if_pos q5, if_pos (by omega)]
        refine ⟨by rw [hn], Ext.chgI (hx38.trans hx9) hcI (Nat.le_refl _), _, ⟨F', hO', fun c hcm => ?_⟩, ?_, ?_, ?_, ?_, by omega, by omega⟩
        · have h1 := hO'.lts c (by simp [hcm])
          rcases hF' c hcm with h | h
          · rcases List.mem_cons.1 h with rfl | h
            · obtain ⟨_, _, _, _, _, hnn, _⟩ := hO'; exact absurd hcm hnn
            · have := hF c h; omega
          · omega
        · rw [hrest]; exact hzv
        · rw [hrest]; exact hzo
        · rw [hrest]
          simp only [List.map_append, List.map_cons, List.map_nil, hzl, har, Int.toNat_natCast]
        · show (z.stacks.l ++ _)[tn]? = some x
          rw [List.getElem?_append_left hzn]; exact hzx
      · have hrest : restOf c s tn = s := by unfold restOf; rw [← hI, if_neg q1, if_pos q5, if_neg (by omega)]
        refine ⟨by rw [hn], hx38, z, hv8, ?_, ?_, ?_, hzx, by omega, by omega⟩
        · rw [hrest]; exact hzv
        · rw [hrest]; exact hzo
        · rw [hrest]; exact hzl
    refine rd_eql ?_
    refine br (fun q6 => ?_) (fun q6 => ?_)
    · have hg8 := hv8.lt
      obtain ⟨har0, har1⟩ := atI_lock hc hs hat0 (.inl (hI ▸ q6))
      rw [← hI] at har0 har1
      obtain ⟨ar, har⟩ : ∃ ar : Nat, I.arg = ar := ⟨I.arg.toNat, by omega⟩
      have har2 : ar < z.owner.length := by rw [hzo]; omega
      obtain ⟨u, b, a, cap, hr, hIs, hu, hst⟩ := var_owner hv8 (by omega) har2
      refine rd_fld fd37_1 ?_
      refine rd_cell ty23 hr ?_
      refine rd_fld fd136_1 ?_
      refine rd_loadI ty3 (at_DIns_1 hA10) (Ext.refl w8) fun _ => ?_
      rw [har]
      refine rd_idxU u23 ty3 hu har2 ?_
      have hmany := hs.2.2.1
      refine hst w8 (Ext.refl w8) _ (by unfold I64; omega) _ fun w11 hc11 hv11 => ?_
      have hs11 := hc11.size
      have hrest : restOf c s tn = ⟨s.vars, s.owner.set I.arg.toNat tn, s.stacks⟩ := by unfold restOf; rw [← hI, if_neg q1, if_neg q5, if_pos q6]
      refine ⟨by rw [hn], Ext.chgI hx38 hc11 (by omega), _, hv11.mono (Nat.le_refl _) (by omega), ?_, ?_, ?_, hzx, by omega, by omega⟩
      · rw [hrest]; exact hzv
      · rw [hrest, hzo, har]; rfl
      · rw [hrest]; exact hzl
    refine rd_eql ?_
    refine br (fun q7 => ?_) (fun q7 => ?_)
    · have hg8 := hv8.lt
      obtain ⟨har0, har1⟩ := atI_lock hc hs hat0 (.inr (hI ▸ q7))
      rw [← hI] at har0 har1
      obtain ⟨ar, har⟩ : ∃ ar : Nat, I.arg = ar := ⟨I.arg.toNat, by omega⟩
      have har2 : ar < z.owner.length := by rw [hzo]; omega
      obtain ⟨u, b, a, cap, hr, hIs, hu, hst⟩ := var_owner hv8 (by omega) har2
      refine rd_fld fd37_1 ?_
      refine rd_cell ty23 hr ?_
      refine rd_fld fd136_1 ?_
      refine rd_loadI ty3 (at_DIns_1 hA10) (Ext.refl w8) fun _ => ?_
      rw [har]
      refine rd_indexN u23 ty3 hIs har2 fun b115 o115 hA115 => ?_
      refine rd_loadI ty3 hA115 (Ext.refl w8) fun _ => ?_
      have how : z.owner[ar] = ow s I.arg := by
        have : ar < s.owner.length := by rw [← hzo]; exact har2
        rw [har, ← ow_get this]
        congr 1
      rw [how]
      refine rd_eql ?_
      refine br (fun qq => ?_) (fun qq => ?_)
      · refine rd_fld fd37_1 ?_
        refine rd_cell ty23 hr ?_
        refine rd_fld fd136_1 ?_
        refine rd_loadI ty3 (at_DIns_1 hA10) (Ext.refl w8) fun _ => ?_
        rw [har]
        refine rd_idxU u23 ty3 hu har2 ?_
        refine hst w8 (Ext.refl w8) _ (by unfold I64; omega) _ fun w11 hc11 hv11 => ?_
        have hs11 := hc11.size
        have hrest : restOf c s tn = ⟨s.vars, s.owner.set I.arg.toNat (-1), s.stacks⟩ := by unfold restOf; rw [← hI, if_neg q1, if_neg q5, if_neg q6, if_pos q7, if_pos qq]
        refine ⟨by rw [hn], Ext.chgI hx38 hc11 (by omega), _, hv11.mono (Nat.le_refl _) (by omega), ?_, ?_, ?_, hzx, by omega, by omega⟩
        · rw [hrest]; exact hzv
        · rw [hrest, hzo, har]; rfl
        · rw [hrest]; exact hzl
      · have hrest : restOf c s tn = s := by unfold restOf; rw [← hI, if_neg q1, if_neg q5, if_neg q6, if_pos q7, if_neg qq]
        refine ⟨by rw [hn], hx38, z, hv8, ?_, ?_, ?_, hzx, by omega, by omega⟩
        · rw [hrest]; exact hzv
        · rw [hrest]; exact hzo
        · rw [hrest]; exact hzl
    refine rd_eql ?_
    refine br (fun q9 => ?_) (fun q9 => ?_)
    · have hx9 := ext_drew w8
      have hs9 := hx9.size
      have hg8 := hv8.lt
      have hx39 := hx38.trans hx9
      obtain ⟨F, hO, hF⟩ := hv6.ext (hx68.trans hx9)
      have hlt := hO.lts
      obtain ⟨G1v, hL1v⟩ := lens_DStV_2 (Lens.var hO)
      obtain ⟨b2v, a2v, cap2v, G2v, hv2v, hG21v, hL2v⟩ := hL1v.elemV hzn
      rw [← hx] at hL2v
      obtain ⟨cs1, ⟨rfl, _⟩, hr1v, _, _, hg1v, _⟩ := hL1v.here
      obtain ⟨cs2, ⟨rfl, hrow2⟩, hr2v, _, _, _, hwb2⟩ := hL2v.here
      have hOs : OAt F (World.drew1 w8) w4.heap.size 0 s := by have := oat_er hO; rwa [hz] at this
      obtain ⟨G1, hL1⟩ := lens_DState_2 (Lens.var hOs)
      obtain ⟨_, _, _, _, _, hgG1, _⟩ := hL1.here
      obtain ⟨u1, b2, a2, cap2, G2, hr1, hIs1, hu1, hL2⟩ := hL1.elem htn
      have hu : u1 = z.stacks.v := rangeAt_inj hr1 hr1v
      refine rd_fld fd37_2 ?_
      refine rd_cell ty27 hr1 ?_
      have hbb : b2 = b2v ∧ a2 = a2v := by
        rw [hu, hv2v] at hu1
        simp only [Value.slice.injEq, Option.some.injEq, Addr.mk.injEq] at hu1
        exact ⟨hu1.1.1.symm, hu1.1.2.1.symm⟩
      obtain ⟨rfl, rfl⟩ := hbb
      obtain ⟨ux, hMx, hrx, hGx, _⟩ := hL2.row
      obtain ⟨_, _, _, _, _, hb2G2, _⟩ := hL2.here
      have hux : ux = x.v := rangeAt_inj hrx hr2v
      have hsl : s.stacks[tn] = x.l := by rw [hxl]; exact stk_get (t := (tn : Int)) (by simpa using htn)
      rw [hux, hsl] at hMx
      refine rd_cut u23 ty3 hMx (by omega) (by rw [hxl]; exact hne) fun bx ax capx v132 G' hxv hM' hG' hv' => ?_
      refine rd_idxU u27 ty23 hu1 htn ?_
      have hb2G' : b2 ∉ G' := fun h => hb2G2 (hG' _ h)
      have hb2g : b2 ≠ w4.heap.size := fun e => hg1v (e ▸ hG21v b2 (by simp))
      have hrep' := mine_cell rfl hM'.own
      have hone' : v132.oneCell' = true := Rep.one hrep' v132 (by simp)
      refine opu_cell ty23 hwb2 hr2v hrow2.one hone' fun w10 hch hr10 => ?_
      have hkeep' : ∀ c ∈ G', w10.heap[c]? = (World.drew1 w8).heap[c]? := fun c hcm => hch.chg.block c (hM'.lt c hcm) (by simp; exact fun e => hb2G' (e ▸ hcm))
      obtain ⟨cb, eb, hcb⟩ := hwb2
      obtain ⟨cb', hcb', _⟩ := hch.cell cb eb hcb
      have hOy : OAt G' w10 b2 (a2 + tn * Rep.size (List Int)) (x.l.take top) := ⟨[v132], Rep.keep hrep' hkeep', hr10, hM'.nodup, hM'.wr.keep hkeep', hb2G', cb', eb, hcb'⟩
      have hg10 : w10.heap[w4.heap.size]? = (World.drew1 w8).heap[w4.heap.size]? := hch.chg.block _ (hlt _ (by simp)) (by simp; exact fun e => hb2g e.symm)
      obtain ⟨F', hO', hF'⟩ := hL2.back w10 G' (x.l.take top) (hch.mono (Nat.le_refl _) (Nat.le_refl _) (by simp)) hOy (fun c hcm => .inl (hG' c hcm))
      have hs10 := hch.chg.size
      have hFb : ∀ c ∈ F', w3.heap.size ≤ c ∧ c < w4.heap.size := fun c hcm => by
        have hin : c ∈ w4.heap.size :: F := by
          rcases hF' c hcm with h | h
          · exact h
          · exact hGx c (hG' c h)
        rcases List.mem_cons.1 hin with rfl | h
        · obtain ⟨_, _, _, _, _, hnn, _⟩ := hO'; exact absurd hcm hnn
        · exact hF c h
      have hb2F : b2 ∈ w4.heap.size :: F := hL2.sub b2 (by simp)
      have hcI : ChgI w3.heap.size w8.heap.size (World.drew1 w8) w10 := hch.chg.toI fun c hcm => by
        simp only [List.mem_cons, List.not_mem_nil, or_false] at hcm
        subst hcm
        rcases List.mem_cons.1 hb2F with h | h
        · rw [h]; exact ⟨by omega, hg8⟩
        · have := hF _ h; omega
      have hx310 : Ext w3 w10 := Ext.chgI hx39 hcI (Nat.le_refl _)
      have e1 : ((tn : Int)).toNat = tn := by omega
      have hlen : x.l.length = top + 1 := by omega
      have htop8 : top < 8 := by have h := htl; rw [hxl] at h; omega
      refine rd_gtr ?_
      refine br (fun hp => ?_) (fun hp => ?_)
      · refine rd_sub (by unfold I64; omega) ?_
        obtain ⟨tp, htp⟩ : ∃ tp : Nat, (top : Int) - 1 = tp := ⟨top - 1, by omega⟩
        rw [htp]
        obtain ⟨G1', hL1'⟩ := lens_DState_2 (Lens.var hO')
        have hk' : tn < (s.stacks.set tn (x.l.take top)).length := by simpa using htn
        obtain ⟨u1', b2', a2', cap2', G2', hr1', _, hu1', hL2'⟩ := hL1'.elem hk'
        have hu' : u1' = u1 := rangeAt_inj hr1' (rangeAt_keep hr1 hg10)
        have hbb' : b2' = b2 ∧ a2' = a2 := by
          rw [hu', hu1] at hu1'
          simp only [Value.slice.injEq, Option.some.injEq, Addr.mk.injEq] at hu1'
          exact ⟨hu1'.1.1.symm, hu1'.1.2.1.symm⟩
        obtain ⟨rfl, rfl⟩ := hbb'
        have hel : (s.stacks.set tn (x.l.take top))[tn]'hk' = x.l.take top := List.getElem_set_self ..
        simp only [hel] at hL2'
        obtain ⟨uy, by', ay', capy', G3', hry, hIsy, huy, hL3'⟩ := hL2'.elem (k := tp) (by simp; omega)
        have huy' : uy = v132 := rangeAt_inj hry hr10
        have hv132 := hv' (by omega)
        have hbx : by' = bx ∧ ay' = ax := by
          rw [huy', hv132] at huy
          simp only [Value.slice.injEq, Option.some.injEq, Addr.mk.injEq] at huy
          exact ⟨huy.1.1.symm, huy.1.2.1.symm⟩
        obtain ⟨rfl, rfl⟩ := hbx
        refine rd_idxU u23 ty3 hxv (k := tp) (by omega) ?_
        have hval : (x.l.take top)[tp]'(by simp; omega) = st x.l tp := by
          rw [List.getElem_take, st_get]
        refine rd_loadI ty3 hL3'.here.at (Ext.refl w10) fun hI140 => ?_
        rw [hval]
        have hstr : 0 ≤ st x.l tp ∧ st x.l tp < c.ins.length := by
          have hmem := hs.2.2.2.2.2 x.l (by rw [← hsl]; exact List.getElem_mem _)
          exact hmem.2.1 tp (by omega)
        refine rd_add (by unfold I64; omega) ?_
        refine rd_idxU u23 ty3 hxv (k := tp) (by omega) ?_
        have hg10' : w4.heap.size < w10.heap.size := by omega
        refine opu_varM (α := DState) (lo := w3.heap.size) (hi := w10.heap.size) ty3 hL3' (fun c hcm => by have := hFb c hcm; omega) (by omega) (mine_int (x := st x.l tp + 1) (by unfold I64; omega)) fun w11 hc11 hv11 => ?_
        have hs11 := hc11.size
        refine hres _ w11 (Ext.chgI hx310 hc11 (Nat.le_refl _)) (hv11.mono (Nat.le_refl _) (by omega)) ?_
        unfold stepD
        rw [← hI, if_neg q4, if_pos q9]
        simp only [DState.mk.injEq, true_and, e1, List.set_set]
        congr 1
        unfold popped
        rw [← hxl, hlen, if_neg (by omega), show top + 1 - 1 = top by omega, show top + 1 - 2 = tp by omega]
      · refine hres _ w10 hx310 ⟨F', hO', fun c hcm => by have := hFb c hcm; omega⟩ ?_
        unfold stepD
        rw [← hI, if_neg q4, if_pos q9]
        simp only [DState.mk.injEq, true_and, e1]
        congr 1
        unfold popped
        have ht0 : top = 0 := by omega
        subst ht0
        rw [← hxl, hlen]
        simp
    · exact ⟨by rw [hn], hx38, same w8 (Ext.refl w8) (by omega)⟩
  · rintro uj w9 ⟨hu, hx9, z', hv9, hz1, hz2, hz3, hz4, ho4, ho9⟩
    simp only [List.map_cons, List.map_nil, List.cons.injEq, and_true] at hu
    rw [hu]
    have hs9 := hx9.size
    obtain ⟨hk', hxk⟩ := List.getElem?_eq_some_iff.1 hz4
    have hg9 := hv9.lt
    obtain ⟨F, hO, hF⟩ := hv9
    obtain ⟨G1, hL1⟩ := lens_DStV_2 (Lens.var hO)
    obtain ⟨b2, a2, cap2, G2, hv2, _, hL2⟩ := hL1.elemV hk'
    rw [hxk] at hL2
    refine rd_elemV (e := 3) u23 ty3 hL2 htl fun b3 o3 G3 hL3 => ?_
    have hI64 : I64 (nextOf c s tn) := by
      have hto : I.op = 2 ∨ I.op = 3 → I64 I.to := fun h => by
        have := hR.2.2.2
        rw [← hI, if_pos h] at this
        obtain ⟨i, hi, _, _, hpr⟩ := hc.f.find hc.1.procs8.2 hat0 hatlt.2
        have h1 := hc.f.nonneg hi
        have h2 := (hc.f.lt i hi).2
        rw [hpr, endOf_eq, Int.toNat_natCast] at this
        unfold I64; omega
      unfold nextOf
      rw [← hI]
      split
      · split
        · exact hto (.inl (by assumption))
        · unfold I64; omega
      · split
        · exact hto (.inr (by assumption))
        · unfold I64; omega
    refine opu_varM ty3 hL3 hF (by omega) (mine_int hI64) fun w10 hc10 hv10 => ?_
    have hs10 := hc10.size
    refine hres _ w10 (Ext.chgI hx9 hc10 (Nat.le_refl _)) (varI_er (hv10.mono (Nat.le_refl _) (by omega))) ?_
    unfold stepD DStV.er
    rw [← hI, if_neg ho4, if_neg ho9]
    simp only [DState.mk.injEq, hz1, hz2, true_and]
    have e1 : ((tn : Int)).toNat = tn := by omega
    have e2 : (stk s tn).length - 1 = top := by rw [← hxl]; omega
    rw [List.map_set, hz3, hxl, e1, e2]
end Go.Proofs.YtjgfldfbljmhhaaGreat
namespace Go.Proofs.YtjgfldfbljmhhaaGreat
open Go Go.Sh Go.Proofs
set_option linter.unusedVariables false
def F215 (a0 : Value) (w : World) (R : Value → World → Prop) : Prop :=
 OP Tryz.prog (Instr.box 35 a0) w fun x1 w =>
 OP Tryz.prog (Instr.alloc 37 true (.tuple #[])) w fun x2 w =>
 RD Tryz.prog (Instr.loadAt 35 x1) w fun x5 =>
 CALL Tryz.prog 73 [x5] w fun x6 w =>
 RD Tryz.prog (Op.unary .not x6) w fun x7 =>
 BR x7
 (RD Tryz.prog (Instr.build 37 #[]) w fun x8 =>
 OPU Tryz.prog (Instr.storeAt 37 x2 x8) w fun w =>
 RD Tryz.prog (loadRes 37 x2) w fun r2 => R r2 w)
 (RD Tryz.prog (Instr.fieldAt 35 x1 0) w fun x9 =>
 RD Tryz.prog (Instr.loadAt 22 x9) w fun x10 =>
 RD Tryz.prog (Builtin.len_ #[22] 3 [x10].toArray) w fun x11 =>
 OP Tryz.prog (Instr.makeSlice 23 x11 x11) w fun x12 w =>
 RD Tryz.prog (Instr.build 37 #[(0, x12)]) w fun x13 =>
 OP Tryz.prog (Instr.alloc 37 true (.tuple #[])) w fun x3 w =>
 OPU Tryz.prog (Instr.storeAt 37 x3 x13) w fun w =>
 LOOPI [4] [(Value.int .i64 0)] w fun u5 w next5 =>
 RD Tryz.prog (Instr.fieldAt 35 x1 1) w fun x15 =>
 RD Tryz.prog (Instr.loadAt 22 x15) w fun x16 =>
 RD Tryz.prog (Builtin.len_ #[22] 3 [x16].toArray) w fun x17 =>
 RD Tryz.prog (bin .lss 3 (.tmp 0) (.tmp 0) (u5 4) x17) w fun x18 =>
 BR x18
 (RD Tryz.prog (Instr.fieldAt 37 x3 1) w fun x21 =>
 RD Tryz.prog (Instr.loadAt 23 x21) w fun x22 =>
 OP Tryz.prog (Instr.buildSlice 23 1 #[(0, (Value.int .i64 (-1)))]) w fun x23 w =>
 OP Tryz.prog (Builtin.append_ #[23, 23] 23 [x22, x23].toArray) w fun x24 w =>
 RD Tryz.prog (Instr.fieldAt 37 x3 1) w fun x25 =>
 OPU Tryz.prog (Instr.storeAt 23 x25 x24) w fun w =>
 RD Tryz.prog (bin .add 3 (.tmp 0) (.const undef) (u5 4) (Value.int .i64 1)) w fun x20 =>
 next5 [x20] w)
 ((fun w => RD Tryz.prog (Instr.fieldAt 37 x3 2) w fun x26 =>
 RD Tryz.prog (Instr.loadAt 27 x26) w fun x27 =>
 RD Tryz.prog (Instr.fieldAt 35 x1 3) w fun x28 =>
 RD Tryz.prog (Instr.loadAt 23 x28) w fun x29 =>
 RD Tryz.prog (Instr.loadAt 35 x1) w fun x30 =>
 (fun w_ => CALL Tryz.prog 188 [x30] w_ fun x31 w =>
 Ext w_ w ∧
 RD Tryz.prog (Instr.indexAt 23 x29 x31) w fun x32 =>
 RD Tryz.prog (Instr.loadAt 3 x32) w fun x33 =>
 (fun w_ => OP Tryz.prog (Instr.buildSlice 23 1 #[(0, x33)]) w_ fun x34 w =>
 Ext w_ w ∧
 ((fun w_ => OP Tryz.prog (Instr.buildSlice 27 1 #[(0, x34)]) w_ fun x35 w =>
 Ext w_ w ∧
 (OP Tryz.prog (Builtin.append_ #[27, 27] 27 [x27, x35].toArray) w fun x36 w =>
 RD Tryz.prog (Instr.fieldAt 37 x3 2) w fun x37 =>
 OPU Tryz.prog (Instr.storeAt 27 x37 x36) w fun w =>
 RD Tryz.prog (Instr.loadAt 37 x3) w fun x38 =>
 OPU Tryz.prog (Instr.storeAt 37 x2 x38) w fun w =>
 RD Tryz.prog (loadRes 37 x2) w fun r2 => R r2 w)) w)) w) w) (World.drew1 w)))
def cfg215 : Cfg := { ext := extL, joins := [], loops := [(5, 67092496, [4])], draws := [(8, [0, 1, 2, 3, 4, 5, 6, 7, 8, 9, 10, 11, 12], 800)], pars := [] }
theorem F215_eq (a0 : Value) (w : World) (R : Value → World → Prop) : vcF Tryz.prog cfg215 Tryz.f215 [a0] w R = F215 a0 w R := by kernel_rfl
theorem F215_call {a0 : Value} {w : World} {R : Value → World → Prop} (h : F215 a0 w R) : CALL Tryz.prog 215 [a0] w R :=
  call_of (g := cfg215) ent mixed Tryz.func215 (Nat.le_of_ble_eq_true (by kernel_rfl)) (by kernel_rfl) (F215_eq a0 w R ▸ h)
def F221 (a0 : Value) (w : World) (R : Value → World → Prop) : Prop :=
 OP Tryz.prog (Instr.box 35 a0) w fun x1 w =>
 OP Tryz.prog (Instr.alloc 37 true (.tuple #[])) w fun x2 w =>
 (fun w0 => PAR w0 [[(0, 5)], [(1, 6), (0, 5)], [(2, 7), (1, 6)], [(3, 8), (2, 7), (2, 7)], [(4, 9)], [(5, 10), (4, 9)], [(6, 11), (5, 10)], [(7, 12), (6, 11), (6, 11)], [(8, 13), (3, 8), (7, 12)], [(9, 3)]] (fun Q =>
 (∀ (u1 : Env) (T : Nat → Nat × Nat) (w : World), Ext w0 w → Apart [] w0.heap.size w.heap.size T → (True) → (fun w1 => RD Tryz.prog (Instr.fieldAt 35 x1 0) w fun x5 =>
 Ext w1 w ∧ Q 0 (upd u1 5 x5) (updT T 0 (w1.heap.size, w.heap.size)) w) w) ∧
 (∀ (u1 : Env) (T : Nat → Nat × Nat) (w : World), Ext w0 w → Apart [0] w0.heap.size w.heap.size T → (Q 0 u1 T w ∧ True) → (fun w1 => RD Tryz.prog (Instr.loadAt 22 (u1 5)) w fun x6 =>
 Ext w1 w ∧ Q 1 (upd u1 6 x6) (updT T 1 (w1.heap.size, w.heap.size)) w) w) ∧
 (∀ (u1 : Env) (T : Nat → Nat × Nat) (w : World), Ext w0 w → Apart [1] w0.heap.size w.heap.size T → (Q 1 u1 T w ∧ True) → (fun w1 => RD Tryz.prog (Builtin.len_ #[22] 3 [(u1 6)].toArray) w fun x7 =>
 Ext w1 w ∧ Q 2 (upd u1 7 x7) (updT T 2 (w1.heap.size, w.heap.size)) w) w) ∧
 (∀ (u1 : Env) (T : Nat → Nat × Nat) (w : World), Ext w0 w → Apart [2, 2] w0.heap.size w.heap.size T → (Q 2 u1 T w ∧ Q 2 u1 T w ∧ True) → (fun w1 => OP Tryz.prog (Instr.makeSlice 23 (u1 7) (u1 7)) w fun x8 w =>
 Ext w1 w ∧ Q 3 (upd u1 8 x8) (updT T 3 (w1.heap.size, w.heap.size)) w) w) ∧
 (∀ (u1 : Env) (T : Nat → Nat × Nat) (w : World), Ext w0 w → Apart [] w0.heap.size w.heap.size T → (True) → (fun w1 => RD Tryz.prog (Instr.fieldAt 35 x1 1) w fun x9 =>
 Ext w1 w ∧ Q 4 (upd u1 9 x9) (updT T 4 (w1.heap.size, w.heap.size)) w) w) ∧
 (∀ (u1 : Env) (T : Nat → Nat × Nat) (w : World), Ext w0 w → Apart [4] w0.heap.size w.heap.size T → (Q 4 u1 T w ∧ True) → (fun w1 => RD Tryz.prog (Instr.loadAt 22 (u1 9)) w fun x10 =>
 Ext w1 w ∧ Q 5 (upd u1 10 x10) (updT T 5 (w1.heap.size, w.heap.size)) w) w) ∧
 (∀ (u1 : Env) (T : Nat → Nat × Nat) (w : World), Ext w0 w → Apart [5] w0.heap.size w.heap.size T → (Q 5 u1 T w ∧ True) → (fun w1 => RD Tryz.prog (Builtin.len_ #[22] 3 [(u1 10)].toArray) w fun x11 =>
 Ext w1 w ∧ Q 6 (upd u1 11 x11) (updT T 6 (w1.heap.size, w.heap.size)) w) w) ∧
 (∀ (u1 : Env) (T : Nat → Nat × Nat) (w : World), Ext w0 w → Apart [6, 6] w0.heap.size w.heap.size T → (Q 6 u1 T w ∧ Q 6 u1 T w ∧ True) → (fun w1 => OP Tryz.prog (Instr.makeSlice 23 (u1 11) (u1 11)) w fun x12 w =>
 Ext w1 w ∧ Q 7 (upd u1 12 x12) (updT T 7 (w1.heap.size, w.heap.size)) w) w) ∧
 (∀ (u1 : Env) (T : Nat → Nat × Nat) (w : World), Ext w0 w → Apart [3, 7] w0.heap.size w.heap.size T → (Q 3 u1 T w ∧ Q 7 u1 T w ∧ True) → (fun w1 => RD Tryz.prog (Instr.build 37 #[(0, (u1 8)), (1, (u1 12))]) w fun x13 =>
 Ext w1 w ∧ Q 8 (upd u1 13 x13) (updT T 8 (w1.heap.size, w.heap.size)) w) w) ∧
 (∀ (u1 : Env) (T : Nat → Nat × Nat) (w : World), Ext w0 w → Apart [] w0.heap.size w.heap.size T → (True) → (fun w1 => OP Tryz.prog (Instr.alloc 37 true (.tuple #[])) w fun x3 w =>
 Ext w1 w ∧ Q 9 (upd u1 3 x3) (updT T 9 (w1.heap.size, w.heap.size)) w) w) ∧
 True)
 (fun Q => ∀ (u1 : Env) (T : Nat → Nat × Nat) (w : World), Ext w0 w → Apart [0, 1, 2, 3, 4, 5, 6, 7, 8, 9] w0.heap.size w.heap.size T → (Q 0 u1 T w ∧ Q 1 u1 T w ∧ Q 2 u1 T w ∧ Q 3 u1 T w ∧ Q 4 u1 T w ∧ Q 5 u1 T w ∧ Q 6 u1 T w ∧ Q 7 u1 T w ∧ Q 8 u1 T w ∧ Q 9 u1 T w ∧ True) →
 OPU Tryz.prog (Instr.storeAt 37 (u1 3) (u1 13)) w fun w =>
 RD Tryz.prog (Instr.fieldAt 37 (u1 3) 1) w fun x14 =>
 RD Tryz.prog (Instr.loadAt 23 x14) w fun x15 =>
 RD Tryz.prog (Builtin.len_ #[23] 3 [x15].toArray) w fun x16 =>
 LOOPI [17] [(Value.int .i64 0)] w fun u3 w next3 =>
 RD Tryz.prog (bin .lss 3 (.tmp 0) (.tmp 0) (u3 17) x16) w fun x18 =>
 BR x18
 (RD Tryz.prog (Instr.fieldAt 37 (u1 3) 1) w fun x20 =>
 RD Tryz.prog (Instr.loadAt 23 x20) w fun x21 =>
 RD Tryz.prog (Instr.indexAt 23 x21 (u3 17)) w fun x23 =>
 OPU Tryz.prog (Instr.storeAt 3 x23 (Value.int .i64 (-1))) w fun w =>
 RD Tryz.prog (bin .add 3 (.tmp 0) (.const undef) (u3 17) (Value.int .i64 1)) w fun x24 =>
 next3 [x24] w)
 ((fun w => RD Tryz.prog (Instr.fieldAt 35 x1 3) w fun x25 =>
 RD Tryz.prog (Instr.loadAt 23 x25) w fun x26 =>
 RD Tryz.prog (Instr.fieldAt 35 x1 2) w fun x27 =>
 RD Tryz.prog (Instr.loadAt 22 x27) w fun x28 =>
 (fun w_ => CALL Tryz.prog 242 [x28, (Value.string (ByteArray.mk #[109, 97, 105, 110]))] w_ fun x29 w =>
 Ext w_ w ∧
 RD Tryz.prog (Instr.indexAt 23 x26 x29) w fun x30 =>
 RD Tryz.prog (Instr.loadAt 3 x30) w fun x31 =>
 OP Tryz.prog (Instr.buildSlice 23 1 #[(0, x31)]) w fun x32 w =>
 OP Tryz.prog (Instr.buildSlice 27 1 #[(0, x32)]) w fun x33 w =>
 RD Tryz.prog (Instr.fieldAt 37 (u1 3) 2) w fun x34 =>
 OPU Tryz.prog (Instr.storeAt 27 x34 x33) w fun w =>
 RD Tryz.prog (Instr.loadAt 37 (u1 3)) w fun x35 =>
 OPU Tryz.prog (Instr.storeAt 37 x2 x35) w fun w =>
 RD Tryz.prog (loadRes 37 x2) w fun r2 => R r2 w) w) (World.drew1 w)))) (World.drew1 w)
def cfg221 : Cfg := { ext := extL, joins := [], loops := [(3, 33423376, [17])], draws := [(7, [0, 1, 2, 3, 4, 5, 6, 7, 8, 9, 10], 16)], pars := [(1, 16360, 10)] }
theorem F221_eq (a0 : Value) (w : World) (R : Value → World → Prop) : vcF Tryz.prog cfg221 Tryz.f221 [a0] w R = F221 a0 w R := by kernel_rfl
theorem F221_call {a0 : Value} {w : World} {R : Value → World → Prop} (h : F221 a0 w R) : CALL Tryz.prog 221 [a0] w R :=
  call_of (g := cfg221) ent mixed Tryz.func221 (Nat.le_of_ble_eq_true (by kernel_rfl)) (by kernel_rfl) (F221_eq a0 w R ▸ h)
set_option linter.unusedVariables false
set_option linter.unusedSimpArgs false
def startD (c : DCode) : DState := ⟨List.replicate c.globals.length 0, List.replicate c.locks.length (-1), [[en c (plc mainS c.procs).toNat]]⟩
def startOf (c : DCode) : DState := if CodeR c then startD c else ⟨[], [], []⟩
theorem zlI : zeroL Tryz.prog 3 = some [.int .i64 0] := by kernel_rfl
theorem main_lt {c : DCode} (hc : CodeR c) : 0 ≤ plc mainS c.procs ∧ (plc mainS c.procs).toNat < c.entry.length := by
  have h1 := plc_iff.2 hc.1.2.2.2.2.2.2
  have h2 := plc_lt (s := mainS) (l := c.procs)
  have h3 := hc.2.1.1
  omega
theorem ownI_zst {lo hi : Nat} {w : World} : OwnI lo hi w (.agg #[.slice none 0 0, .slice none 0 0, .slice none 0 0]) (⟨[], [], []⟩ : DState) :=
  (ownI_state (s := ⟨[], [], []⟩) (lo := lo) (hi := lo) (l0 := lo) (h0 := lo) (l1 := lo) (h1 := lo) (l2 := lo) (h2 := lo) (ownI_zcap none) (ownI_zcap none) (ownI_zcap none) (by omega) (by omega) (by omega) (by omega) (by omega) (by omega)).elim fun F h => ⟨F, h.1, fun b hb => by have := h.2 b hb; omega⟩
def F188 (a0 : Value) (w : World) (R : Value → World → Prop) : Prop :=
 OP Tryz.prog (Instr.box 35 a0) w fun x1 w =>
 RD Tryz.prog (Instr.fieldAt 35 x1 2) w fun x3 =>
 RD Tryz.prog (Instr.loadAt 22 x3) w fun x4 =>
 CALL Tryz.prog 204 [x4, (Value.string (ByteArray.mk #[109, 97, 105, 110]))] w fun x5 w =>
 R x5 w
def cfg188 : Cfg := { ext := extL, joins := [], loops := [], draws := [], pars := [] }
theorem F188_eq (a0 : Value) (w : World) (R : Value → World → Prop) : vcF Tryz.prog cfg188 Tryz.f188 [a0] w R = F188 a0 w R := by kernel_rfl
theorem F188_call {a0 : Value} {w : World} {R : Value → World → Prop} (h : F188 a0 w R) : CALL Tryz.prog 188 [a0] w R :=
  call_of (g := cfg188) ent mixed Tryz.func188 (Nat.le_of_ble_eq_true (by kernel_rfl)) (by kernel_rfl) (F188_eq a0 w R ▸ h)
theorem l14Main_ok {w : World} {v0 : Value} {W0 : World} {c : DCode}  (h0 : Is W0 v0 c) (e0 : Ext W0 w)  :
    CALL Tryz.prog 188 [v0] w fun r w' => Ext w w' ∧ (r = .int .i64 (plc mainS c.procs)) := by
  refine F188_call ?_
  unfold F188
  refine op_boxS ty35 rfl h0 e0 fun w1_ hx1_ hA1 hV1 => ?_
  refine rd_fld fd35_2 ?_
  refine rd_load ty22 (at_DCode_2 hA1) (Ext.refl w1_) fun v4 h4 => ?_
  refine (specPlaceOf_ok h4 (Ext.refl w1_)).mono ?_
  rintro _ w2_ ⟨hx2_, rfl⟩
  refine ⟨(hx1_.trans hx2_), ?_⟩
  rfl
theorem specStartOf_ok {w W : World} {v : Value} {c : DCode} (h : Is W v c) (e : Ext W w) (hw : wCode c ≤ 1048576) :
    CALL Tryz.prog 215 [v] w fun r w' => Ext w w' ∧ Own w.heap.size w' r (startOf c) := by
  refine F215_call ?_
  unfold F215
  refine op_box h e fun w1 hx1 hA => ?_
  refine op_alloc zlSt fun w2 hx2 hB2 => ?_
  have hg2 := hB2.lt
  have hs1 := hx1.size
  refine rd_load ty35 hA hx2 fun v5 h5 => ?_
  refine (specCodeOk_ok h5 hx2).mono ?_
  rintro _ w3 ⟨hx3, rfl⟩
  have hs3 := hx3.size
  refine rd_nodec ?_
  refine br (fun hn => ?_) (fun hc => ?_)
  · refine rd_build (cells := #[.slice none 0 0, .slice none 0 0, .slice none 0 0]) (by kernel_rfl) ?_
    refine opu_blkS (lo := w3.heap.size) (hi := w3.heap.size) ty37 rfl (hB2.ext hx3) rfl ownI_zst fun w4 hc4 hB4 => ?_
    refine rd_blkR hB4 ty37 ?_
    refine ⟨Ext.chgI (hx1.trans (hx2.trans hx3)) hc4 (by omega), ?_⟩
    unfold startOf
    rw [if_neg hn]
    exact (ownI_zst (lo := w4.heap.size) (hi := w4.heap.size)).own.mono (by have := hc4.size; omega)
  · have hc := Decidable.not_not.1 hc
    have hsz : c.globals.length ≤ 1048576 ∧ c.locks.length ≤ 1048576 := by unfold wCode wStr at hw; omega
    refine rd_fld fd35_0 ?_
    refine rd_load ty22 (at_DCode_0 hA) (hx2.trans hx3) fun v10 h10 => ?_
    refine rd_len u22 h10 ?_
    refine op_makeZ (α := Int) u23 ty3 rfl rfl zlI (by omega) (by omega) fun w4 hx4 r12 => ?_
    have hs4 := hx4.size
    refine rd_build (cells := #[.slice (some ⟨w3.heap.size, 0, none⟩) c.globals.length c.globals.length, .slice none 0 0, .slice none 0 0]) (by kernel_rfl) ?_
    refine op_alloc zlSt fun w5 hx5 hB5 => ?_
    have hg5 := hB5.lt
    have hs5 := hx5.size
    have o12 := (r12.own.ext hx5)
    refine opu_blkS (x := (⟨List.replicate c.globals.length 0, [], []⟩ : DState)) (lo := w3.heap.size) (hi := w4.heap.size) ty37 rfl hB5 rfl
      (ownI_state (l0 := w3.heap.size) (h0 := w4.heap.size) (l1 := w4.heap.size) (h1 := w4.heap.size) (l2 := w4.heap.size) (h2 := w4.heap.size) o12 (ownI_zcap none) (ownI_zcap none) (by omega) (by omega) (by omega) (by omega) (by omega) (by omega)) fun w6 hc6 hB6 => ?_
    have hs6 := hc6.size
    have r12' := (r12.ext hx5).chg hc6 (by omega)
    have hx16 : Ext w1 w6 := Ext.chgI (hx2.trans (hx3.trans (hx4.trans hx5))) hc6 (by omega)
    refine loopC c.locks.length (fun k us w' => us = [.int .i64 (k : Int)] ∧ ∃ v1 hi, hi ≤ w'.heap.size ∧ w6.heap.size ≤ w'.heap.size ∧ Ext w1 w' ∧ Blk w4.heap.size 37 w' [.slice (some ⟨w3.heap.size, 0, none⟩) c.globals.length c.globals.length, v1, .slice none 0 0] ∧
      RowI w3.heap.size w4.heap.size 3 w' (.slice (some ⟨w3.heap.size, 0, none⟩) c.globals.length c.globals.length) (List.replicate c.globals.length 0) ∧ RowI w6.heap.size hi 3 w' v1 (List.replicate k (-1)) ∧ Blk w1.heap.size 37 w' [.slice none 0 0, .slice none 0 0, .slice none 0 0]) 0 (Nat.zero_le _)
      ⟨rfl, .slice none 0 0, w6.heap.size, Nat.le_refl _, Nat.le_refl _, hx16, hB6, r12', rowI_nil _ _ _ _, ((hB2.ext hx3).ext (hx4.trans hx5)).chgI hc6 (by omega)⟩ ?_
    rintro k m u w7 hkm ⟨hu, v1, hi, hhi, hs7, hx7, hB7, o7, r7, hB27⟩
    simp only [List.map_cons, List.map_nil, List.cons.injEq, and_true] at hu
    rw [hu]
    refine rd_fld fd35_1 ?_
    refine rd_load ty22 (at_DCode_1 hA) hx7 fun v16 h16 => ?_
    refine rd_len u22 h16 ?_
    refine rd_lss ?_
    refine br (fun hlt => ?_) (fun hge => ?_)
    · refine rd_fld fd37_1 ?_
      refine rd_blkV ty23 hB7 rfl ?_
      refine op_push (α := Int) (lo2 := w7.heap.size) (hi2 := w7.heap.size) u23 ty3 z3 zc3 (by decide) r7 (by omega) (ownI_int (by unfold I64; omega)) (by omega) (by omega) (by rw [maxLen_eq, List.length_replicate]; omega) (by rw [List.length_replicate]; omega) fun v24 w8 hc8 r8 => ?_
      have hs8 := hc8.size
      refine rd_fld fd37_1 ?_
      refine opu_blkC (α := List Int) ty23 rfl rfl (hB7.chgI hc8 (by omega)) (by simp) r8.own fun w9 hc9 hB9 => ?_
      have hs9 := hc9.size
      refine rd_inc (by omega) ?_
      refine ⟨m - 1, by omega, k + 1, by omega, rfl, v24, w8.heap.size, by omega, by omega, Ext.chgI (Ext.chgI hx7 hc8 (by omega)) hc9 (by omega), hB9, (o7.chg hc8 (by omega)).chg hc9 (by omega), ?_, (hB27.chgI hc8 (by omega)).chgI hc9 (by omega)⟩
      have := r8.chg hc9 (by omega)
      rwa [← List.replicate_succ'] at this
    · have hk : k = c.locks.length := by omega
      subst hk
      have hx8 := ext_drew w7
      have hs8 := hx8.size
      refine rd_fld fd37_2 ?_
      refine rd_blkV ty27 (hB7.ext hx8) rfl ?_
      refine rd_fld fd35_3 ?_
      refine rd_load ty23 (at_DCode_3 hA) (hx7.trans hx8) fun v29 h29 => ?_
      refine rd_load ty35 hA (hx7.trans hx8) fun v30 h30 => ?_
      refine (l14Main_ok h30 (hx7.trans hx8)).mono ?_
      rintro _ w9 ⟨hx9, rfl⟩
      have hs9 := hx9.size
      refine ⟨hx9, ?_⟩
      obtain ⟨hp0, hp1⟩ := main_lt hc
      refine rd_index u23 ty3 h29 hp0 hp1 fun b o hA2 => ?_
      refine rd_loadI ty3 hA2 (hx7.trans (hx8.trans hx9)) fun hI => ?_
      refine op_build1I (α := Int) (lo := w9.heap.size) (hi := w9.heap.size) u23 ty3 z3 (by decide) (ownI_int hI) (by omega) fun v34 w10 hx10 o34 => ?_
      have hs10 := hx10.size
      refine ⟨hx10, ?_⟩
      refine op_pushX (α := List Int) (lo := w9.heap.size) (hi := w9.heap.size) u27 ty23 z23 zc23 (by decide) (rowI_nil _ _ _ _) (by omega) o34 (by omega) (by omega) (by rw [maxLen_eq]; simp) (by simp) fun v36 w11 hc11 r36 => ?_
      have hs11 := hc11.size
      have hB11 := ((hB7.ext (hx8.trans (hx9.trans hx10)))).chgI hc11 (by omega)
      have o11 := ((o7.ext (hx8.trans (hx9.trans hx10)))).chg hc11 (by omega)
      have r11 := ((r7.ext (hx8.trans (hx9.trans hx10)))).chg hc11 (by omega)
      have hB211 := ((hB27.ext (hx8.trans (hx9.trans hx10)))).chgI hc11 (by omega)
      refine rd_fld fd37_2 ?_
      refine opu_blkC (α := List (List Int)) ty27 rfl rfl hB11 (by simp) r36.own fun w12 hc12 hB12 => ?_
      have hs12 := hc12.size
      refine rd_blkS hB12 ty37 ?_
      have ost : OwnI w3.heap.size w11.heap.size w12 (.agg #[.slice (some ⟨w3.heap.size, 0, none⟩) c.globals.length c.globals.length, v1, v36]) (startD c) := by
        refine ownI_state (l0 := w3.heap.size) (h0 := w4.heap.size) (l1 := w6.heap.size) (h1 := hi) (l2 := w9.heap.size) (h2 := w11.heap.size) (o11.chg hc12 (by omega)).own (r11.chg hc12 (by omega)).own ?_ (by omega) (by omega) (by omega) (by omega) (by omega) (by omega)
        have := (r36.chg hc12 (by omega)).own
        rw [en_get] at this
        exact this
      refine opu_blkS ty37 rfl (hB211.chgI hc12 (by omega)) rfl ost fun w13 hc13 hB13 => ?_
      have hs13 := hc13.size
      refine rd_blkR hB13 ty37 ?_
      refine ⟨Ext.chgI (Ext.chgI (Ext.chgI (hx1.trans (hx7.trans (hx8.trans (hx9.trans hx10)))) hc11 (by omega)) hc12 (by omega)) hc13 (by omega), ?_⟩
      unfold startOf
      rw [if_pos hc]
      exact (ost.chg hc13 (by omega)).own.mono (by omega)
def stQ (c : DCode) (g1 : Nat) (w0 : World) : ParQ := fun i u T w => match i with
  | 0 => u 5 = .pointer (some ⟨g1, 0 + 0, none⟩)
  | 1 => Is w0 (u 6) c.globals
  | 2 => u 7 = .int .i64 (c.globals.length : Int)
  | 3 => ∃ a cap, u 8 = .slice a c.globals.length cap ∧ RowI (T 3).1 (T 3).2 3 w (u 8) (List.replicate c.globals.length (0 : Int))
  | 4 => u 9 = .pointer (some ⟨g1, 0 + 1, none⟩)
  | 5 => Is w0 (u 10) c.locks
  | 6 => u 11 = .int .i64 (c.locks.length : Int)
  | 7 => ∃ a cap, u 12 = .slice a c.locks.length cap ∧ RowI (T 7).1 (T 7).2 3 w (u 12) (List.replicate c.locks.length (0 : Int))
  | 8 => u 13 = .agg #[u 8, u 12, .slice none 0 0]
  | 9 => ∃ g, u 3 = .pointer (some ⟨g, 0, none⟩) ∧ (T 9).1 ≤ g ∧ g < (T 9).2 ∧ Blk g 37 w [.slice none 0 0, .slice none 0 0, .slice none 0 0]
  | _ => True
theorem startIn_ok {w W : World} {v : Value} {c : DCode} (h : Is W v c) (e : Ext W w) (hw : wCode c ≤ 1048576) (hc : CodeR c) :
    CALL Tryz.prog 221 [v] w fun r w' => Ext w w' ∧ Own w.heap.size w' r (startD c) := by
  have hsz : c.globals.length ≤ 1048576 ∧ c.locks.length ≤ 1048576 := by unfold wCode wStr at hw; omega
  refine F221_call ?_
  unfold F221
  refine op_box h e fun w1 hx1 hA => ?_
  refine op_alloc zlSt fun w2 hx2 hB2 => ?_
  have hg2 := hB2.lt
  have hs1 := hx1.size
  have hx3 := ext_drew w2
  have hs3 := hx3.size
  refine PAR.mk (stQ c w.heap.size (World.drew1 w2)) ?_ ?_ ?_
  · intro i u u' T T' wa wb hxa hxb hd hq
    match i, hd, hq with
    | 0, hd, hq => exact (hd (0, 5) (by decide)).1.trans hq
    | 1, hd, hq => have := (hd (1, 6) (by decide)).1; show Is _ (u' 6) _; simp only [this]; exact hq
    | 2, hd, hq => exact (hd (2, 7) (by decide)).1.trans hq
    | 3, hd, ⟨a, cap, q1, q2⟩ =>
      obtain ⟨e1, e2⟩ := hd (3, 8) (by decide)
      simp only at e1 e2
      refine ⟨a, cap, e1.trans q1, ?_⟩
      simp only [e1, e2]; exact q2.ext hxb
    | 4, hd, hq => exact (hd (4, 9) (by decide)).1.trans hq
    | 5, hd, hq => have := (hd (5, 10) (by decide)).1; show Is _ (u' 10) _; simp only [this]; exact hq
    | 6, hd, hq => exact (hd (6, 11) (by decide)).1.trans hq
    | 7, hd, ⟨a, cap, q1, q2⟩ =>
      obtain ⟨e1, e2⟩ := hd (7, 12) (by decide)
      simp only at e1 e2
      refine ⟨a, cap, e1.trans q1, ?_⟩
      simp only [e1, e2]; exact q2.ext hxb
    | 8, hd, hq =>
      have e1 := (hd (8, 13) (by decide)).1
      have e2 := (hd (3, 8) (by decide)).1
      have e3 := (hd (7, 12) (by decide)).1
      simp only at e1 e2 e3
      show u' 13 = .agg #[u' 8, u' 12, .slice none 0 0]
      rw [e1, e2, e3]; exact hq
    | 9, hd, ⟨g, q1, q2, q3, q4⟩ =>
      obtain ⟨e1, e2⟩ := hd (9, 3) (by decide)
      simp only at e1 e2
      exact ⟨g, e1.trans q1, by rw [e2]; exact q2, by rw [e2]; exact q3, q4.ext hxb⟩
    | n + 10, _, _ => trivial
  · refine ⟨fun u T w' hx _ _ => ?_, fun u T w' hx _ hp => ?_, fun u T w' hx _ hp => ?_, fun u T w' hx _ hp => ?_, fun u T w' hx _ _ => ?_, fun u T w' hx _ hp => ?_, fun u T w' hx _ hp => ?_, fun u T w' hx _ hp => ?_, fun u T w' hx _ hp => ?_, fun u T w' hx _ _ => ?_, trivial⟩
    · exact rd_fld fd35_0 ⟨Ext.refl _, rfl⟩
    · have q0 : u 5 = _ := hp.1
      rw [q0]
      exact rd_load ty22 (at_DCode_0 hA) (hx2.trans (hx3.trans hx)) fun v6 h6 => ⟨Ext.refl _, (h6.ext (hx2.trans hx3))⟩
    · have q1 : Is _ (u 6) c.globals := hp.1
      exact rd_len u22 q1 ⟨Ext.refl _, rfl⟩
    · have q2 : u 7 = _ := hp.1
      rw [q2]
      exact op_makeZ (α := Int) u23 ty3 rfl rfl zlI (by omega) (by omega) fun w4 hx4 r => ⟨hx4, _, _, rfl, r⟩
    · exact rd_fld fd35_1 ⟨Ext.refl _, rfl⟩
    · have q0 : u 9 = _ := hp.1
      rw [q0]
      exact rd_load ty22 (at_DCode_1 hA) (hx2.trans (hx3.trans hx)) fun v6 h6 => ⟨Ext.refl _, (h6.ext (hx2.trans hx3))⟩
    · have q1 : Is _ (u 10) c.locks := hp.1
      exact rd_len u22 q1 ⟨Ext.refl _, rfl⟩
    · have q2 : u 11 = _ := hp.1
      rw [q2]
      exact op_makeZ (α := Int) u23 ty3 rfl rfl zlI (by omega) (by omega) fun w4 hx4 r => ⟨hx4, _, _, rfl, r⟩
    · obtain ⟨a, cap, q1, _⟩ : ∃ a cap, u 8 = .slice a c.globals.length cap ∧ _ := hp.1
      obtain ⟨a', cap', q1', _⟩ : ∃ a cap, u 12 = .slice a c.locks.length cap ∧ _ := hp.2.1
      rw [q1, q1']
      refine rd_build (cells := #[.slice a c.globals.length cap, .slice a' c.locks.length cap', .slice none 0 0]) (by kernel_rfl) ⟨Ext.refl _, ?_⟩
      show _ = Value.agg #[u 8, u 12, .slice none 0 0]
      rw [q1, q1']; rfl
    · exact op_alloc zlSt fun w4 hx4 hB => ⟨hx4, w'.heap.size, rfl, Nat.le_refl _, hB.lt, hB⟩
  · rintro u T w4 hx4 hap ⟨-, -, -, ⟨a, cap, -, r8⟩, -, -, -, ⟨a', cap', -, r12⟩, q13, ⟨g, q3, hg0, hg1, hB3⟩, -⟩
    have q13 : u 13 = .agg #[u 8, u 12, .slice none 0 0] := q13
    have t3 := hap.1 3 (by decide)
    have t7 := hap.1 7 (by decide)
    have t9 := hap.1 9 (by decide)
    have d37 := hap.2 3 (by decide) 7 (by decide) (by decide)
    have d39 := hap.2 3 (by decide) 9 (by decide) (by decide)
    have d79 := hap.2 7 (by decide) 9 (by decide) (by decide)
    generalize u 8 = v8 at *
    generalize u 12 = v12 at *
    have hs4 := hx4.size
    rw [q13, q3]
    refine opu_blkS (x := (⟨List.replicate c.globals.length 0, List.replicate c.locks.length 0, []⟩ : DState)) (lo := 0) (hi := w4.heap.size) ty37 rfl hB3 rfl
      (ownI_state (l2 := 0) (h2 := 0) r8.own r12.own (ownI_zcap none) (by omega) (by omega) (by omega) (by omega) (by omega) (by omega)) fun w5 hc5 hB5 => ?_
    have hs5 := hc5.size
    have hx15 : Ext w1 w5 := Ext.chgI (hx2.trans (hx3.trans hx4)) hc5 (by omega)
    have o8 := r8.own.chg hc5 (by omega)
    have o12 := r12.own.chg hc5 (by omega)
    have hB25 := ((hB2.ext hx3).ext hx4).chgI hc5 (by omega)
    refine rd_fld fd37_1 ?_
    refine rd_blkV ty23 hB5 rfl ?_
    refine rd_len u23 o12.is ?_
    rw [List.length_replicate]
    refine loopC c.locks.length (fun k us w' => us = [.int .i64 (k : Int)] ∧ w5.heap.size ≤ w'.heap.size ∧ Ext w1 w' ∧ Blk g 37 w' [v8, v12, .slice none 0 0] ∧ OwnI (T 3).1 (T 3).2 w' v8 (List.replicate c.globals.length (0 : Int)) ∧
      OwnI (T 7).1 (T 7).2 w' v12 (List.replicate k (-1) ++ List.replicate (c.locks.length - k) (0 : Int)) ∧ Blk w1.heap.size 37 w' [.slice none 0 0, .slice none 0 0, .slice none 0 0]) 0 (Nat.zero_le _)
      ⟨rfl, Nat.le_refl _, hx15, hB5, o8, by simpa using o12, hB25⟩ ?_
    rintro k m uu w7 hkm ⟨hu, hs7, hx7, hB7, o8, ⟨F, hM, hF⟩, hB27⟩
    simp only [List.map_cons, List.map_nil, List.cons.injEq, and_true] at hu
    rw [hu]
    refine rd_lss ?_
    refine br (fun hlt => ?_) (fun hge => ?_)
    · refine rd_fld fd37_1 ?_
      refine rd_blkV ty23 hB7 rfl ?_
      refine set_step (α := Int) u23 ty3 hM (by simp; omega) (mine_int (w := w7) (x := -1) (by unfold I64; omega)).own fun w8 hc8 hM8 => ?_
      have hcI := hc8.toI hF
      have hs8 := hc8.size
      refine rd_inc (by omega) ?_
      refine ⟨m - 1, by omega, k + 1, by omega, rfl, by omega, Ext.chgI hx7 hcI (by omega), hB7.chgI hcI (by omega), o8.chg hcI (by omega), ⟨F, ?_, hF⟩, hB27.chgI hcI (by omega)⟩
      have : (List.replicate k (-1) ++ List.replicate (c.locks.length - k) (0 : Int)).set k (-1) = List.replicate (k + 1) (-1) ++ List.replicate (c.locks.length - (k + 1)) 0 := by
        rw [show c.locks.length - k = (c.locks.length - (k + 1)) + 1 by omega, List.replicate_succ (n := c.locks.length - (k + 1)), List.set_append_right _ _ (by simp), List.length_replicate, Nat.sub_self, List.set_cons_zero, List.replicate_succ' (n := k)]
        simp
      rw [← this]; exact hM8
    · have hk : k = c.locks.length := by omega
      subst hk
      have o12 : OwnI (T 7).1 (T 7).2 w7 v12 (List.replicate c.locks.length (-1)) := ⟨F, by simpa using hM, hF⟩
      clear hM
      have hx8 := ext_drew w7
      have hs8 := hx8.size
      refine rd_fld fd35_3 ?_
      refine rd_load ty23 (at_DCode_3 hA) (hx7.trans hx8) fun v26 h26 => ?_
      refine rd_fld fd35_2 ?_
      refine rd_load ty22 (at_DCode_2 hA) (hx7.trans hx8) fun v28 h28 => ?_
      refine (indexStr_ok h28 (hx7.trans hx8)).mono ?_
      rintro _ w9 ⟨hx9, rfl⟩
      have hs9 := hx9.size
      refine ⟨hx9, ?_⟩
      obtain ⟨hp0, hp1⟩ : 0 ≤ plc (ByteArray.mk #[109, 97, 105, 110]) c.procs ∧ (plc (ByteArray.mk #[109, 97, 105, 110]) c.procs).toNat < c.entry.length := main_lt hc
      refine rd_index u23 ty3 h26 hp0 hp1 fun b o hA2 => ?_
      refine rd_loadI ty3 hA2 (hx7.trans (hx8.trans hx9)) fun hI => ?_
      refine op_build1I (α := Int) (lo := w9.heap.size) (hi := w9.heap.size) u23 ty3 z3 (by decide) (ownI_int hI) (by omega) fun v32 w10 hx10 o32 => ?_
      have hs10 := hx10.size
      refine op_build1I (α := List Int) u27 ty23 z23 (by decide) o32 (by omega) fun v33 w11 hx11 o33 => ?_
      have hs11 := hx11.size
      have hx711 := hx8.trans (hx9.trans (hx10.trans hx11))
      refine rd_fld fd37_2 ?_
      refine opu_blkC (α := List (List Int)) ty27 rfl rfl (hB7.ext hx711) (by simp) o33 fun w12 hc12 hB12 => ?_
      have hs12 := hc12.size
      refine rd_blkS hB12 ty37 ?_
      have ost : OwnI w2.heap.size w11.heap.size w12 (.agg #[v8, v12, v33]) (startD c) := by
        refine ownI_state (l2 := w9.heap.size) (h2 := w11.heap.size) ((o8.ext hx711).chg hc12 (by omega)) ((o12.ext hx711).chg hc12 (by omega)) ?_ (by omega) (by omega) (by omega) (by omega) (by omega) (by omega)
        have := (o33.chg hc12 (by omega))
        rw [en_get] at this
        exact this
      refine opu_blkS ty37 rfl ((hB27.ext hx711).chgI hc12 (by omega)) rfl ost fun w13 hc13 hB13 => ?_
      have hs13 := hc13.size
      refine rd_blkR hB13 ty37 ?_
      refine ⟨Ext.chgI (Ext.chgI (hx1.trans (hx7.trans hx711)) hc12 (by omega)) hc13 (by omega), ?_⟩
      exact (ost.chg hc13 (by omega)).own.mono (by omega)
end Go.Proofs.YtjgfldfbljmhhaaGreat
namespace Go.Proofs.YtjgfldfbljmhhaaGreat
open Go Go.Sh Go.Proofs
set_option linter.unusedVariables false
set_option linter.unusedSimpArgs false
theorem mem_set {α : Type} {l : List α} {i : Nat} {x y : α} (h : y ∈ l.set i x) : y = x ∨ y ∈ l := by
  rcases List.mem_or_eq_of_mem_set h with h | h
  · exact .inr h
  · exact .inl h
theorem start_right {c : DCode} (hc : CodeR c) : StateR c (startD c) := by
  obtain ⟨hp0, hp1⟩ := main_lt hc
  have hl := hc.f.lt _ hp1
  have h0 := hc.f.nonneg hp1
  refine ⟨by simp [startD], by simp [startD], by simp [startD], fun v hv => ?_, fun o ho => ?_, fun l hl' => ?_⟩
  · have := List.eq_of_mem_replicate hv; omega
  · have := List.eq_of_mem_replicate ho; simp only [startD, List.length_cons, List.length_nil]; omega
  · simp only [startD, List.mem_cons, List.not_mem_nil, or_false] at hl'
    subst hl'
    refine ⟨by simp, fun i hi => ?_, fun i hi => by simp at hi⟩
    have : i = 0 := by simp at hi; omega
    subst this
    simp only [st, List.getD_cons_zero]
    omega
theorem st_set {l : List Int} {i j : Nat} {x : Int} (hi : i < l.length) : st (l.set i x) j = if i = j then x else st l j := by
  unfold st
  rw [List.getD_eq_getElem?_getD, List.getD_eq_getElem?_getD, List.getElem?_set]
  by_cases h : i = j
  · subst h; simp [hi]
  · simp [h]
theorem st_take {l : List Int} {k j : Nat} (hj : j < k) : st (l.take k) j = st l j := by
  unfold st
  rw [List.getD_eq_getElem?_getD, List.getD_eq_getElem?_getD, List.getElem?_take, if_pos hj]
theorem st_push {l : List Int} {j : Nat} {x : Int} : st (l ++ [x]) j = if j = l.length then x else st l j := by
  unfold st
  rw [List.getD_eq_getElem?_getD, List.getD_eq_getElem?_getD, List.getElem?_append]
  by_cases h : j < l.length
  · rw [if_pos h, if_neg (by omega)]
  · by_cases h2 : j = l.length
    · subst h2; simp
    · rw [if_neg h, if_neg h2, List.getElem?_eq_none (by simp; omega), List.getElem?_eq_none (by omega)]
theorem proc_next {c : DCode} (hc : CodeR c) {a : Int} (h0 : 0 ≤ a) (h1 : a < c.ins.length) (ho : (insAt c a.toNat).op ≠ 9) : a + 1 < c.ins.length ∧ procOf c (a + 1) = procOf c a := by
  obtain ⟨i, hi, h2, h3, h4⟩ := hc.f.find hc.1.procs8.2 h0 h1
  have h5 := (hc.2.1.2.2.2 a.toNat (by omega))
  rw [Int.toNat_of_nonneg h0, h4, endOf_eq] at h5
  have h6 : endB c i - 1 ≠ a := fun e => ho (h5.2 e)
  have h7 := (hc.f.lt i hi).2
  exact ⟨by omega, by rw [h4]; exact hc.f.proc hi (by omega) (by omega)⟩
theorem proc_to {c : DCode} (hc : CodeR c) {a : Int} (h0 : 0 ≤ a) (h1 : a < c.ins.length) (ho : (insAt c a.toNat).op = 2 ∨ (insAt c a.toNat).op = 3) :
    0 ≤ (insAt c a.toNat).to ∧ (insAt c a.toNat).to < c.ins.length ∧ procOf c (insAt c a.toNat).to = procOf c a := by
  obtain ⟨i, hi, h2, h3, h4⟩ := hc.f.find hc.1.procs8.2 h0 h1
  have h5 := (ins_right hc (j := a.toNat) (by omega)).2.2.2
  rw [if_pos ho, Int.toNat_of_nonneg h0, h4, endOf_eq, Int.toNat_natCast] at h5
  have h6 := hc.f.nonneg hi
  have h7 := (hc.f.lt i hi).2
  exact ⟨by omega, by omega, by rw [h4]; exact hc.f.proc hi h5.1 (by omega)⟩
theorem proc_en {c : DCode} (hc : CodeR c) {i : Nat} (hi : i < c.entry.length) : 0 ≤ en c i ∧ en c i < c.ins.length ∧ procOf c (en c i) = i := by
  have h6 := hc.f.nonneg hi
  have h7 := hc.f.lt i hi
  exact ⟨h6, by omega, hc.f.proc hi (Int.le_refl _) h7.1⟩
theorem stackR_nil (c : DCode) : StackR c [] := ⟨by simp, fun i hi => by simp at hi, fun i hi => by simp at hi⟩
theorem stackR_one {c : DCode} {n : Int} (h0 : 0 ≤ n) (h1 : n < c.ins.length) : StackR c [n] := by
  refine ⟨by simp, fun i hi => ?_, fun i hi => by simp at hi⟩
  have : i = 0 := by simp at hi; omega
  subst this
  exact ⟨h0, h1⟩
theorem stackR_top {c : DCode} {l : List Int} {n : Int} (h : StackR c l) (hl : 0 < l.length) (h0 : 0 ≤ n) (h1 : n < c.ins.length) (hp : procOf c n = procOf c (st l (l.length - 1))) : StackR c (l.set (l.length - 1) n) := by
  have hs : ∀ j, st (l.set (l.length - 1) n) j = if l.length - 1 = j then n else st l j := fun j => st_set (by omega)
  refine ⟨by rw [List.length_set]; exact h.1, fun i hi => ?_, fun i hi => ?_⟩
  · rw [List.length_set] at hi
    rw [hs]
    split
    · exact ⟨h0, h1⟩
    · exact h.2.1 i hi
  · rw [List.length_set] at hi
    have h2 := h.2.2 i hi
    rw [hs i, if_neg (by omega)]
    refine ⟨h2.1, ?_⟩
    rw [hs (i + 1)]
    split
    · rename_i he
      rw [hp, he]; exact h2.2
    · exact h2.2
theorem stackR_push {c : DCode} {l : List Int} {n : Int} (h : StackR c l) (hl : l.length < 8) (h0 : 0 ≤ n) (h1 : n < c.ins.length) (hp : 0 < l.length → (insAt c (st l (l.length - 1)).toNat).op = 4 ∧ procOf c n = (insAt c (st l (l.length - 1)).toNat).arg) : StackR c (l ++ [n]) := by
  refine ⟨by simp; omega, fun i hi => ?_, fun i hi => ?_⟩
  · rw [st_push]
    split
    · exact ⟨h0, h1⟩
    · exact h.2.1 i (by simp at hi; omega)
  · simp only [List.length_append, List.length_cons, List.length_nil] at hi
    rw [st_push, st_push, if_neg (by omega)]
    by_cases e : i + 1 = l.length
    · rw [if_pos e]
      have : i = l.length - 1 := by omega
      subst this
      exact hp (by omega)
    · rw [if_neg e]
      exact h.2.2 i (by omega)
theorem stackR_take {c : DCode} {l : List Int} (h : StackR c l) (k : Nat) : StackR c (l.take k) := by
  refine ⟨by rw [List.length_take]; have := h.1; omega, fun i hi => ?_, fun i hi => ?_⟩
  · rw [List.length_take] at hi
    rw [st_take (by omega)]
    exact h.2.1 i (by omega)
  · rw [List.length_take] at hi
    rw [st_take (by omega), st_take (by omega)]
    exact h.2.2 i (by omega)
theorem stackR_pop {c : DCode} (hc : CodeR c) {l : List Int} (h : StackR c l) (hl : 0 < l.length) : StackR c (popped l) := by
  unfold popped
  split
  · exact stackR_nil c
  · rename_i h1
    have h2 := h.2.2 (l.length - 2) (by omega)
    have h3 := h.2.1 (l.length - 2) (by omega)
    obtain ⟨h4, h5⟩ := proc_next hc h3.1 h3.2 (by omega)
    have h6 := stackR_top (n := st l (l.length - 2) + 1) (stackR_take h (l.length - 1)) (by rw [List.length_take]; omega) (by omega) h4 (by
      rw [List.length_take, st_take (by omega), h5]
      congr 2
      omega)
    rw [List.length_take] at h6
    rw [show min (l.length - 1) l.length - 1 = l.length - 2 by omega] at h6
    exact h6
theorem stateR_set {c : DCode} {s : DState} (hs : StateR c s) {k : Nat} {l : List Int} (hl : StackR c l) : StateR c ⟨s.vars, s.owner, s.stacks.set k l⟩ := by
  refine ⟨hs.1, hs.2.1, by simp only [List.length_set]; exact hs.2.2.1, hs.2.2.2.1, by simp only [List.length_set]; exact hs.2.2.2.2.1, fun x hx => ?_⟩
  rcases mem_set hx with rfl | hx
  · exact hl
  · exact hs.2.2.2.2.2 x hx
theorem restOf_right {c : DCode} {s : DState} {t : Int} (hc : CodeR c) (hs : StateR c s) (hgo : GoR c s t) : StateR c (restOf c s t) := by
  have hth := at_thread hgo.1
  unfold restOf
  split
  · refine ⟨by simp only [List.length_set]; exact hs.1, hs.2.1, hs.2.2.1, fun v hv => ?_, hs.2.2.2.2.1, hs.2.2.2.2.2⟩
    rcases mem_set hv with rfl | hv
    · exact workT_range _ _ _ _
    · exact hs.2.2.2.1 v hv
  · split
    · split
      · rename_i h1 h5 h6
        have hp := proc_arg hc hs hgo.1 (.inr h5)
        refine ⟨hs.1, hs.2.1, by simp only [List.length_append, List.length_cons, List.length_nil]; omega, hs.2.2.2.1, fun o ho => ?_, fun x hx => ?_⟩
        · have := hs.2.2.2.2.1 o ho
          simp only [List.length_append, List.length_cons, List.length_nil]; omega
        · rcases List.mem_append.1 hx with hx | hx
          · exact hs.2.2.2.2.2 x hx
          · simp only [List.mem_cons, List.not_mem_nil, or_false] at hx
            subst hx
            obtain ⟨h7, h8, _⟩ := proc_en hc hp.2
            exact stackR_one h7 h8
      · exact hs
    · split
      · refine ⟨hs.1, by simp only [List.length_set]; exact hs.2.1, hs.2.2.1, hs.2.2.2.1, fun o ho => ?_, hs.2.2.2.2.2⟩
        rcases mem_set ho with rfl | ho
        · simp only; omega
        · exact hs.2.2.2.2.1 o ho
      · split
        · split
          · refine ⟨hs.1, by simp only [List.length_set]; exact hs.2.1, hs.2.2.1, hs.2.2.2.1, fun o ho => ?_, hs.2.2.2.2.2⟩
            rcases mem_set ho with rfl | ho
            · simp only; omega
            · exact hs.2.2.2.2.1 o ho
          · exact hs
        · exact hs
theorem step_right {c : DCode} {s : DState} {t : Int} (hc : CodeR c) (hs : StateR c s) (hgo : GoR c s t) : StateR c (stepD c s t) := by
  have hth := at_thread hgo.1
  obtain ⟨tn, rfl, htn, hne, hl8, hat⟩ := go_facts hs hgo.1
  have hpos := List.length_pos_iff.2 hne
  have hk := hs.2.2.2.2.2 (stk s tn) (by rw [← stk_get (by omega)]; exact List.getElem_mem _)
  have hlt := at_lt hs tn
  unfold stepD
  split
  · rename_i h4
    have hp := proc_arg hc hs hgo.1 (.inl h4)
    obtain ⟨h7, h8, h9⟩ := proc_en hc hp.2
    have h10 := hgo.2.2 h4
    refine stateR_set hs (stackR_push hk (by omega) h7 h8 fun _ => ?_)
    rw [← hat]
    refine ⟨h4, ?_⟩
    rw [h9]
    have := hp.1
    unfold atI at this ⊢
    omega
  · split
    · exact stateR_set hs (stackR_pop hc hk hpos)
    · rename_i h4 h9
      have hn := proc_next hc hgo.1 hlt.2 h9
      have key : 0 ≤ nextOf c s tn ∧ nextOf c s tn < c.ins.length ∧ procOf c (nextOf c s tn) = procOf c (atOf s tn) := by
        unfold nextOf
        have hnx : 0 ≤ atOf s tn + 1 ∧ atOf s tn + 1 < c.ins.length ∧ procOf c (atOf s tn + 1) = procOf c (atOf s tn) := ⟨by have := hgo.1; omega, hn.1, hn.2⟩
        split
        · rename_i h2
          split
          · exact proc_to hc hgo.1 hlt.2 (.inl h2)
          · exact hnx
        · split
          · rename_i h3
            exact proc_to hc hgo.1 hlt.2 (.inr h3)
          · exact hnx
      refine stateR_set (restOf_right hc hs hgo) (stackR_top hk hpos key.1 key.2.1 ?_)
      rw [key.2.2, hat]
end Go.Proofs.YtjgfldfbljmhhaaGreat
namespace Go.Proofs.YtjgfldfbljmhhaaGreat
open Go Go.Sh Go.Proofs
set_option linter.unusedVariables false
set_option linter.unusedSimpArgs false
def plcG {α : Type} [DecidableEq α] (s : α) : List α → Int
  | [] => -1
  | x :: l => if x = s then 0 else if plcG s l < 0 then -1 else plcG s l + 1
section
variable {α : Type} [DecidableEq α] {s : α}
theorem plcG_none {l : List α} (h : s ∉ l) : plcG s l = -1 := by
  induction l with
  | nil => rfl
  | cons x l ih =>
    simp only [List.mem_cons, not_or] at h
    rw [plcG, if_neg (fun e => h.1 e.symm), ih h.2]; rfl
theorem plcG_at : ∀ {l : List α} {k : Nat} (hk : k < l.length), s ∉ l.take k → l[k] = s → plcG s l = k
  | x :: l, 0, _, _, h => by simp only [List.getElem_cons_zero] at h; rw [plcG, if_pos h]; rfl
  | x :: l, k + 1, hk, hn, h => by
    simp only [List.take_succ_cons, List.mem_cons, not_or] at hn
    have ih := plcG_at (by simpa using hk) hn.2 (by simpa using h)
    rw [plcG, if_neg (fun e => hn.1 e.symm), ih, if_neg (by omega)]
    omega
theorem plcG_iff {l : List α} : 0 ≤ plcG s l ↔ s ∈ l := by
  induction l with
  | nil => simp [plcG]
  | cons x l ih =>
    rw [plcG]
    split
    · rename_i h; simp [h]
    · rename_i h
      rw [List.mem_cons, ← ih]
      have : ¬ s = x := fun e => h e.symm
      simp only [this, false_or]
      split <;> omega
omit [DecidableEq α] in
theorem mem_take_succG {l : List α} {k : Nat} {y : α} (hk : k < l.length) (h : y ∉ l.take k) (c : ¬ l[k] = y) : y ∉ l.take (k + 1) := by
  rw [List.take_succ_eq_append_getElem hk]
  simp only [List.mem_append, List.mem_cons, List.not_mem_nil, or_false, not_or]
  exact ⟨h, fun e => c e.symm⟩
end
structure Tr where
  states : List DState
  ahead : List Int
  went : List Int
  whole : Bool
def stAt (f : Tr) (i : Nat) : DState := f.states.getD i ⟨[], [], []⟩
theorem stAt_get {f : Tr} {i : Nat} (h : i < f.states.length) : f.states[i] = stAt f i := by
  unfold stAt; rw [List.getD_eq_getElem?_getD, List.getElem?_eq_getElem h]; rfl
def visit (c : DCode) (M i t : Nat) (f : Tr) : Tr × Bool :=
  if GoR c (stAt f i) t then
    if stepD c (stAt f i) t ∈ f.states then (f, false)
    else if f.states.length = M then (⟨f.states, f.ahead, f.went, false⟩, true)
    else (⟨f.states ++ [stepD c (stAt f i) t], f.ahead ++ [(i : Int)], f.went ++ [(t : Int)], f.whole⟩, false)
  else (f, false)
def rowGo (c : DCode) (M i : Nat) : Nat → Nat → Tr → Tr × Bool
  | 0, _, f => (f, false)
  | n + 1, t, f => if (visit c M i t f).2 then visit c M i t f else rowGo c M i n (t + 1) (visit c M i t f).1
def lookGo (c : DCode) (M : Nat) : Nat → Nat → Tr → Tr
  | 0, _, f => f
  | n + 1, i, f => if i < f.states.length then
      if (rowGo c M i (stAt f i).stacks.length 0 f).2 then (rowGo c M i (stAt f i).stacks.length 0 f).1
      else lookGo c M n (i + 1) (rowGo c M i (stAt f i).stacks.length 0 f).1
    else f
def lookD (c : DCode) (M : Nat) : Tr := lookGo c M M 0 ⟨[startD c], [-1], [-1], true⟩
structure TrOk (c : DCode) (M : Nat) (f : Tr) : Prop where
  right : ∀ s ∈ f.states, StateR c s
  la : f.ahead.length = f.states.length
  lw : f.went.length = f.states.length
  many : 1 ≤ f.states.length ∧ f.states.length ≤ M
  back : ∀ k (h : k < f.ahead.length), (k = 0 → f.ahead[k] = -1) ∧ (0 < k → 0 ≤ f.ahead[k] ∧ f.ahead[k] < k)
  by_ : ∀ x ∈ f.went, -1 ≤ x ∧ x ≤ 6
theorem start_ok {c : DCode} (hc : CodeR c) {M : Nat} (hM : 1 ≤ M) : TrOk c M ⟨[startD c], [-1], [-1], true⟩ where
  right s hs := by simp only [List.mem_cons, List.not_mem_nil, or_false] at hs; exact hs ▸ start_right hc
  la := rfl
  lw := rfl
  many := ⟨Nat.le_refl _, hM⟩
  back k h := by
    have : k = 0 := by simpa using h
    subst this
    exact ⟨fun _ => rfl, fun h => by omega⟩
  by_ x hx := by simp only [List.mem_cons, List.not_mem_nil, or_false] at hx; omega
theorem TrOk.push {c : DCode} {M i t : Nat} {f : Tr} (h : TrOk c M f) (hc : CodeR c) (hi : i < f.states.length) (hg : GoR c (stAt f i) t) (ht : t ≤ 6) (hM : f.states.length ≠ M) :
    TrOk c M ⟨f.states ++ [stepD c (stAt f i) t], f.ahead ++ [(i : Int)], f.went ++ [(t : Int)], f.whole⟩ where
  right s hs := by
    rcases List.mem_append.1 hs with hs | hs
    · exact h.right s hs
    · simp only [List.mem_cons, List.not_mem_nil, or_false] at hs
      rw [hs]
      exact step_right hc (h.right _ (by rw [← stAt_get hi]; exact List.getElem_mem hi)) hg
  la := by simp [h.la]
  lw := by simp [h.lw]
  many := by
    have := h.many
    simp only [List.length_append, List.length_cons, List.length_nil]
    omega
  back k hk := by
    have hla := h.la
    simp only [List.length_append, List.length_cons, List.length_nil] at hk
    rcases Nat.lt_or_ge k f.ahead.length with hl | hl
    · simp only [List.getElem_append_left hl]
      exact h.back k hl
    · have he : k = f.ahead.length := by omega
      have h1 := h.many
      subst he
      simp only [List.getElem_append_right (Nat.le_refl _), Nat.sub_self, List.getElem_cons_zero]
      exact ⟨fun h => by omega, fun _ => by omega⟩
  by_ x hx := by
    rcases List.mem_append.1 hx with hx | hx
    · exact h.by_ x hx
    · simp only [List.mem_cons, List.not_mem_nil, or_false] at hx; omega
theorem TrOk.not {c : DCode} {M : Nat} {f : Tr} (h : TrOk c M f) : TrOk c M ⟨f.states, f.ahead, f.went, false⟩ := ⟨h.right, h.la, h.lw, h.many, h.back, h.by_⟩
section
variable {c : DCode} {M i t q n : Nat} {f : Tr}
theorem rowGo_stop (h : (visit c M i t f).2 = true) : rowGo c M i (q + 1) t f = visit c M i t f := by rw [rowGo, if_pos h]
theorem rowGo_go {f' : Tr} (h : visit c M i t f = (f', false)) : rowGo c M i (q + 1) t f = rowGo c M i q (t + 1) f' := by rw [rowGo, h]; simp
theorem visit_no (h : ¬ GoR c (stAt f i) t) : visit c M i t f = (f, false) := if_neg h
theorem visit_old (h : GoR c (stAt f i) t) (h2 : stepD c (stAt f i) t ∈ f.states) : visit c M i t f = (f, false) := by rw [visit, if_pos h, if_pos h2]
theorem visit_full (h : GoR c (stAt f i) t) (h2 : stepD c (stAt f i) t ∉ f.states) (h3 : f.states.length = M) : visit c M i t f = (⟨f.states, f.ahead, f.went, false⟩, true) := by rw [visit, if_pos h, if_neg h2, if_pos h3]
theorem visit_new (h : GoR c (stAt f i) t) (h2 : stepD c (stAt f i) t ∉ f.states) (h3 : ¬ f.states.length = M) : visit c M i t f = (⟨f.states ++ [stepD c (stAt f i) t], f.ahead ++ [(i : Int)], f.went ++ [(t : Int)], f.whole⟩, false) := by rw [visit, if_pos h, if_neg h2, if_neg h3]
theorem lookGo_stop (hi : i < f.states.length) {f' : Tr} (h : rowGo c M i (stAt f i).stacks.length 0 f = (f', true)) : lookGo c M (n + 1) i f = f' := by rw [lookGo, if_pos hi, h]; simp
theorem lookGo_next (hi : i < f.states.length) {f' : Tr} (h : rowGo c M i (stAt f i).stacks.length 0 f = (f', false)) : lookGo c M (n + 1) i f = lookGo c M n (i + 1) f' := by rw [lookGo, if_pos hi, h]; simp
theorem lookGo_end (hi : f.states.length ≤ i) : lookGo c M n i f = f := by
  cases n with
  | zero => rfl
  | succ n => rw [lookGo, if_neg (by omega)]
theorem stAt_push {s : DState} {a b : List Int} {w : Bool} (hi : i < f.states.length) : stAt ⟨f.states ++ [s], a, b, w⟩ i = stAt f i := by
  unfold stAt
  simp only [List.getD_eq_getElem?_getD]
  rw [List.getElem?_append_left hi]
end
def brought (n lo hi : Int) : Int := if n < lo ∨ hi < lo then lo else min n hi
theorem brought_in (n : Int) : 1 ≤ brought n 1 150 ∧ brought n 1 150 ≤ 150 := by
  unfold brought
  split <;> omega
end Go.Proofs.YtjgfldfbljmhhaaGreat
