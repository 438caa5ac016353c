/-
  Who can go, who waits: the program's and the reference's answers.
-/
import Derived.Test.YtokppocbfpjngaaState
import Derived.Test.YtokppocbfpjngaaMk
import Derived.Test.YtokppocbfpjngaaOver
namespace Go.Proofs.Ytokppocbfpjngaa
open Go Go.Sh Go.Proofs
set_option linter.unusedVariables false
set_option linter.unusedSimpArgs false

/-- the owner of a lock -/
def ow (s : DState) (i : Int) : Int := s.owner.getD i.toNat 0
theorem ow_get {s : DState} {i : Nat} (h : i < s.owner.length) : s.owner[i] = ow s i := by unfold ow; rw [List.getD_eq_getElem?_getD, Int.toNat_natCast, List.getElem?_eq_getElem h]; rfl
theorem ow_get' {s : DState} {i : Int} (h0 : 0 ≤ i) (h : i.toNat < s.owner.length) : s.owner[i.toNat] = ow s i := by unfold ow; rw [List.getD_eq_getElem?_getD, List.getElem?_eq_getElem h]; rfl
/-- the stack of a thread -/
def stk (s : DState) (t : Int) : List Int := s.stacks.getD t.toNat []
theorem stk_get {s : DState} {t : Int} (h : t.toNat < s.stacks.length) : s.stacks[t.toNat] = stk s t := by unfold stk; rw [List.getD_eq_getElem?_getD, List.getElem?_eq_getElem h]; rfl
/-- the instruction that a thread is ahead of -/
def atI (c : DCode) (s : DState) (t : Int) : DIns := insAt c (atOf s t).toNat
theorem at_thread {s : DState} {t : Int} (h : 0 ≤ atOf s t) : 0 ≤ t ∧ t.toNat < s.stacks.length := by
  unfold atOf at h
  split at h
  · assumption
  · omega
theorem at_stack {s : DState} {t : Int} (h0 : 0 ≤ t) (h1 : t.toNat < s.stacks.length) : atOf s t = (stk s t).getLastD (-1) := by
  unfold atOf; rw [dif_pos ⟨h0, h1⟩, stk_get h1]
theorem last_st {l : List Int} (h : l ≠ []) : l.getLastD (-1) = st l (l.length - 1) := by
  unfold st
  rw [List.getLastD_eq_getLast?, List.getLast?_eq_getElem?, List.getD_eq_getElem?_getD]
  have : l.length - 1 < l.length := by have := List.length_pos_iff.2 h; omega
  rw [List.getElem?_eq_getElem this]; rfl
theorem at_lt {c : DCode} {s : DState} (hs : StateR c s) (t : Int) : -1 ≤ atOf s t ∧ atOf s t < c.ins.length := by
  by_cases h : 0 ≤ t ∧ t.toNat < s.stacks.length
  · rw [at_stack h.1 h.2]
    by_cases hn : stk s t = []
    · rw [hn]; simp [List.getLastD]; omega
    · have hl := List.length_pos_iff.2 hn
      have hm := hs.2.2.2.2.2 (stk s t) (by rw [← stk_get h.2]; exact List.getElem_mem _)
      rw [last_st hn]
      have := hm.2.1 ((stk s t).length - 1) (by omega)
      omega
  · unfold atOf; rw [dif_neg h]; omega
/-- what a right instruction's argument is -/
theorem ins_right {c : DCode} (hc : CodeR c) {j : Nat} (hj : j < c.ins.length) : InsR c (insAt c j) (en c (procOf c j).toNat) (endOf c (procOf c j) + 1) := hc.2.2 j hj
theorem lock_arg {c : DCode} (hc : CodeR c) {j : Nat} (hj : j < c.ins.length) (h : (insAt c j).op = 6 ∨ (insAt c j).op = 7) : 0 ≤ (insAt c j).arg ∧ (insAt c j).arg < c.locks.length := by
  have := (ins_right hc hj).2.1
  unfold argMost at this
  rwa [if_neg (by omega), if_neg (by omega), if_pos h] at this
theorem NamesR.locks6 {c : DCode} (h : NamesR c) : c.locks.length ≤ 6 := by
  have h1 := h.2.1
  simp only [Bool.and_eq_true, decide_eq_true_eq] at h1
  omega
theorem NamesR.globals6 {c : DCode} (h : NamesR c) : c.globals.length ≤ 6 := by
  have h1 := h.1
  simp only [Bool.and_eq_true, decide_eq_true_eq] at h1
  omega
theorem ow_range {c : DCode} {s : DState} (hs : StateR c s) {i : Int} (h0 : 0 ≤ i) (h : i.toNat < s.owner.length) : -1 ≤ ow s i ∧ ow s i < s.stacks.length := by
  rw [← ow_get' h0 h]; exact hs.2.2.2.2.1 _ (List.getElem_mem _)

/-- what is known of the place that a thread is ahead of -/
theorem atI_right {c : DCode} {s : DState} {t : Int} (hc : CodeR c) (hs : StateR c s) (h : 0 ≤ atOf s t) : InsR c (atI c s t) (en c (procOf c (atOf s t)).toNat) (endOf c (procOf c (atOf s t)) + 1) := by
  have := at_lt hs t
  have h1 := ins_right hc (j := (atOf s t).toNat) (by omega)
  rwa [Int.toNat_of_nonneg h] at h1
theorem atI_lock {c : DCode} {s : DState} {t : Int} (hc : CodeR c) (hs : StateR c s) (h : 0 ≤ atOf s t) (ho : (atI c s t).op = 6 ∨ (atI c s t).op = 7) : 0 ≤ (atI c s t).arg ∧ (atI c s t).arg.toNat < s.owner.length := by
  have := at_lt hs t
  have h1 := lock_arg hc (j := (atOf s t).toNat) (by omega) ho
  have h2 := hs.2.1
  unfold atI
  omega
theorem holderOf_ok {w : World} {v0 : Value} {W0 : World} {s : DState} {i : Int}  (h0 : Is W0 v0 s) (e0 : Ext W0 w) (hi0 : 0 ≤ i) (hi1 : i.toNat < s.owner.length) :
    CALL Try.prog 114 [v0, .int .i64 i] w fun r w' => Ext w w' ∧ (r = .int .i64 (max (ow s i) (-1))) := by
  refine F114_call ?_
  unfold F114
  refine op_boxS ty42 rfl h0 e0 fun w1_ hx1_ hA2 hV2 => ?_
  refine rd_lss ?_
  refine br (fun c1 => ?_) (fun c1 => ?_)
  · refine ⟨hx1_, ?_⟩
    exact absurd c1 (by omega)
  · refine rd_fld fd42_1 ?_
    refine rd_load ty23 (at_DState_1 hA2) (Ext.refl w1_) fun v10 h10 => ?_
    have hln11 := is_len h10
    refine rd_len u23 h10 ?_
    refine rd_geq ?_
    refine br (fun c2 => ?_) (fun c2 => ?_)
    · refine ⟨hx1_, ?_⟩
      exact absurd c2 (by omega)
    · refine rd_fld fd42_1 ?_
      refine rd_load ty23 (at_DState_1 hA2) (Ext.refl w1_) fun v15 h15 => ?_
      refine rd_index u23 ty3 h15 (by omega) (by omega) fun b17 o17 h17 => ?_
      refine rd_loadI ty3 h17 (Ext.refl w1_) fun hI18 => ?_
      refine rd_max ?_
      refine ⟨hx1_, ?_⟩
      rw [ow_get' hi0 hi1]

def GoR (c : DCode) (s : DState) (t : Int) : Prop := 0 ≤ atOf s t ∧ ((atI c s t).op = 6 → ow s (atI c s t).arg = -1) ∧ ((atI c s t).op = 4 → ((stk s t).length : Int) < 8)
instance (c : DCode) (s : DState) (t : Int) : Decidable (GoR c s t) := by unfold GoR; infer_instance
theorem l21Go_ok {w : World} {v0 : Value} {W0 : World} {c : DCode} {v1 : Value} {W1 : World} {s : DState} {t : Int}  (h0 : Is W0 v0 c) (e0 : Ext W0 w) (h1 : Is W1 v1 s) (e1 : Ext W1 w) (hc : CodeR c) (hs : StateR c s) :
    CALL Try.prog 80 [v0, v1, .int .i64 t] w fun r w' => Ext w w' ∧ (r = .bool (decide (GoR c s t))) := by
  refine F80_call ?_
  unfold F80
  have hat := at_lt hs t
  refine op_boxS ty31 rfl h0 e0 fun w1_ hx1_ hA3 hV3 => ?_
  refine op_boxS ty42 rfl h1 (e1.trans hx1_) fun w2_ hx2_ hA4 hV4 => ?_
  refine rd_var hV4 (Ext.refl w2_) ?_
  refine (specAtOf_ok h1 (e1.trans (hx1_.trans hx2_))).mono ?_
  rintro _ w3_ ⟨hx3_, rfl⟩
  refine rd_lss ?_
  refine br (fun c1 => ?_) (fun c1 => ?_)
  · refine ⟨(hx1_.trans (hx2_.trans hx3_)), ?_⟩
    have : ¬ GoR c s t := fun h => by have := h.1; omega
    simp only [this, decide_false]
  · refine rd_fld fd31_4 ?_
    refine rd_load ty29 (at_DCode_4 hA3) (hx2_.trans hx3_) fun v14 h14 => ?_
    refine rd_index u29 ty95 h14 (by omega) (by omega) fun b16 o16 h16 => ?_
    rw [insAt_get] at h16
    change At _ _ _ (atI c s t) at h16
    have hat0 : 0 ≤ atOf s t := by omega
    have hth := at_thread hat0
    refine rd_fld fd95_0 ?_
    refine rd_loadI ty3 (at_DIns_0 h16) (hx2_.trans hx3_) fun hI18 => ?_
    refine rd_eql ?_
    refine br (fun c2 => ?_) (fun c2 => ?_)
    · have hx4_ := ext_drew w3_
      refine rd_fld fd42_1 ?_
      refine rd_load ty23 (at_DState_1 hA4) (hx3_.trans hx4_) fun v22 h22 => ?_
      refine rd_fld fd31_4 ?_
      refine rd_load ty29 (at_DCode_4 hA3) (hx2_.trans (hx3_.trans hx4_)) fun v24 h24 => ?_
      refine rd_index u29 ty95 h24 (by omega) (by omega) fun b26 o26 h26 => ?_
      rw [insAt_get] at h26
      change At _ _ _ (atI c s t) at h26
      have hlk := atI_lock hc hs hat0 (.inl c2)
      refine rd_fld fd95_1 ?_
      refine rd_loadI ty3 (at_DIns_1 h26) (hx2_.trans (hx3_.trans hx4_)) fun hI28 => ?_
      refine rd_index u23 ty3 h22 (by omega) (by omega) fun b29 o29 h29 => ?_
      refine rd_loadI ty3 h29 (hx3_.trans hx4_) fun hI30 => ?_
      refine rd_eql ?_
      refine ⟨(hx1_.trans (hx2_.trans (hx3_.trans hx4_))), ?_⟩
      congr 1
      rw [decide_eq_decide, ow_get' hlk.1 hlk.2]
      exact ⟨fun h => ⟨hat0, fun _ => h, fun h4 => by omega⟩, fun h => h.2.1 c2⟩
    · refine rd_eql ?_
      refine br (fun c3 => ?_) (fun c3 => ?_)
      · refine rd_fld fd42_2 ?_
        refine rd_load ty37 (at_DState_2 hA4) hx3_ fun v35 h35 => ?_
        refine rd_index u37 ty23 h35 (by omega) (by omega) fun b37 o37 h37 => ?_
        refine rd_load ty23 h37 hx3_ fun v38 h38 => ?_
        have hln39 := is_len h38
        refine rd_len u23 h38 ?_
        refine rd_lss ?_
        refine ⟨(hx1_.trans (hx2_.trans hx3_)), ?_⟩
        congr 1
        rw [decide_eq_decide, stk_get hth.2]
        exact ⟨fun h => ⟨hat0, fun h6 => by omega, fun _ => h⟩, fun h => h.2.2 c3⟩
      · refine ⟨(hx1_.trans (hx2_.trans hx3_)), ?_⟩
        have : GoR c s t := ⟨hat0, fun h6 => absurd h6 c2, fun h4 => absurd h4 c3⟩
        simp only [this, decide_true]

theorem goes_ok {w : World} {v0 : Value} {W0 : World} {c : DCode} {v1 : Value} {W1 : World} {s : DState} {t : Int}  (h0 : Is W0 v0 c) (e0 : Ext W0 w) (h1 : Is W1 v1 s) (e1 : Ext W1 w) (hc : CodeR c) (hs : StateR c s) :
    CALL Try.prog 81 [v0, v1, .int .i64 t] w fun r w' => Ext w w' ∧ (r = .bool (decide (GoR c s t))) := by
  refine F81_call ?_
  unfold F81
  have hat := at_lt hs t
  refine op_boxS ty31 rfl h0 e0 fun w1_ hx1_ hA3 hV3 => ?_
  refine op_boxS ty42 rfl h1 (e1.trans hx1_) fun w2_ hx2_ hA4 hV4 => ?_
  refine rd_var hV4 (Ext.refl w2_) ?_
  refine (implAtOf_ok h1 (e1.trans (hx1_.trans hx2_))).mono ?_
  rintro _ w3_ ⟨hx3_, rfl⟩
  refine rd_var hV3 (hx2_.trans hx3_) ?_
  refine (isPlace_ok h0 (e0.trans (hx1_.trans (hx2_.trans hx3_)))).mono ?_
  rintro _ w4_ ⟨hx4_, rfl⟩
  refine rd_nodec ?_
  refine br (fun c1 => ?_) (fun c1 => ?_)
  · refine ⟨(hx1_.trans (hx2_.trans (hx3_.trans hx4_))), ?_⟩
    have : ¬ GoR c s t := fun h => by have := h.1; omega
    simp only [this, decide_false]
  · refine rd_fld fd31_4 ?_
    refine rd_load ty29 (at_DCode_4 hA3) (hx2_.trans (hx3_.trans hx4_)) fun v16 h16 => ?_
    refine rd_index u29 ty95 h16 (by omega) (by omega) fun b18 o18 h18 => ?_
    rw [insAt_get] at h18
    change At _ _ _ (atI c s t) at h18
    have hat0 : 0 ≤ atOf s t := by omega
    have hth := at_thread hat0
    refine rd_fld fd95_0 ?_
    refine rd_loadI ty3 (at_DIns_0 h18) (hx2_.trans (hx3_.trans hx4_)) fun hI20 => ?_
    refine rd_eql ?_
    refine br (fun c2 => ?_) (fun c2 => ?_)
    · have hx5_ := ext_drew w4_
      refine rd_var hV4 (hx3_.trans (hx4_.trans hx5_)) ?_
      refine rd_fld fd31_4 ?_
      refine rd_load ty29 (at_DCode_4 hA3) (hx2_.trans (hx3_.trans (hx4_.trans hx5_))) fun v25 h25 => ?_
      refine rd_index u29 ty95 h25 (by omega) (by omega) fun b27 o27 h27 => ?_
      rw [insAt_get] at h27
      change At _ _ _ (atI c s t) at h27
      have hlk := atI_lock hc hs hat0 (.inl c2)
      have hor := ow_range hs hlk.1 hlk.2
      refine rd_fld fd95_1 ?_
      refine rd_loadI ty3 (at_DIns_1 h27) (hx2_.trans (hx3_.trans (hx4_.trans hx5_))) fun hI29 => ?_
      refine (holderOf_ok h1 (e1.trans (hx1_.trans (hx2_.trans (hx3_.trans (hx4_.trans hx5_))))) (by omega) (by omega)).mono ?_
      rintro _ w6_ ⟨hx6_, rfl⟩
      refine rd_lss ?_
      refine ⟨(hx1_.trans (hx2_.trans (hx3_.trans (hx4_.trans (hx5_.trans hx6_))))), ?_⟩
      congr 1
      rw [decide_eq_decide]
      exact ⟨fun h => ⟨hat0, fun _ => by omega, fun h4 => by omega⟩, fun h => by have := h.2.1 c2; omega⟩
    · refine rd_eql ?_
      refine br (fun c3 => ?_) (fun c3 => ?_)
      · refine rd_fld fd42_2 ?_
        refine rd_load ty37 (at_DState_2 hA4) (hx3_.trans hx4_) fun v35 h35 => ?_
        refine rd_index u37 ty23 h35 (by omega) (by omega) fun b37 o37 h37 => ?_
        refine rd_load ty23 h37 (hx3_.trans hx4_) fun v38 h38 => ?_
        have hln39 := is_len h38
        refine rd_len u23 h38 ?_
        refine rd_lss ?_
        refine ⟨(hx1_.trans (hx2_.trans (hx3_.trans hx4_))), ?_⟩
        congr 1
        rw [decide_eq_decide, stk_get hth.2]
        exact ⟨fun h => ⟨hat0, fun h6 => by omega, fun _ => h⟩, fun h => h.2.2 c3⟩
      · refine ⟨(hx1_.trans (hx2_.trans (hx3_.trans hx4_))), ?_⟩
        have : GoR c s t := ⟨hat0, fun h6 => absurd h6 c2, fun h4 => absurd h4 c3⟩
        simp only [this, decide_true]

theorem specCanGo_ok {w : World} {v0 : Value} {W0 : World} {c : DCode} {v1 : Value} {W1 : World} {s : DState} {t : Int}  (h0 : Is W0 v0 c) (e0 : Ext W0 w) (h1 : Is W1 v1 s) (e1 : Ext W1 w)  :
    CALL Try.prog 38 [v0, v1, .int .i64 t] w fun r w' => Ext w w' ∧ (r = .bool (decide ((CodeR c ∧ StateR c s) ∧ GoR c s t))) := by
  refine F38_call ?_
  unfold F38
  refine op_boxS ty31 rfl h0 e0 fun w1_ hx1_ hA3 hV3 => ?_
  refine op_boxS ty42 rfl h1 (e1.trans hx1_) fun w2_ hx2_ hA4 hV4 => ?_
  refine rd_var hV3 hx2_ ?_
  refine rd_var hV4 (Ext.refl w2_) ?_
  refine (specStateOk_ok h0 (e0.trans (hx1_.trans hx2_)) h1 (e1.trans (hx1_.trans hx2_))).mono ?_
  rintro _ w3_ ⟨hx3_, rfl⟩
  refine br (fun c1 => ?_) (fun c1 => ?_)
  · refine rd_var hV3 (hx2_.trans hx3_) ?_
    refine rd_var hV4 hx3_ ?_
    refine (l21Go_ok h0 (e0.trans (hx1_.trans (hx2_.trans hx3_))) h1 (e1.trans (hx1_.trans (hx2_.trans hx3_))) c1.1 c1.2).mono ?_
    rintro _ w4_ ⟨hx4_, rfl⟩
    refine ⟨(hx1_.trans (hx2_.trans (hx3_.trans hx4_))), ?_⟩
    simp [c1]
  · refine ⟨(hx1_.trans (hx2_.trans hx3_)), ?_⟩
    simp [c1]

theorem implCanGo_ok {w : World} {v0 : Value} {W0 : World} {c : DCode} {v1 : Value} {W1 : World} {s : DState} {t : Int}  (h0 : Is W0 v0 c) (e0 : Ext W0 w) (h1 : Is W1 v1 s) (e1 : Ext W1 w)  :
    CALL Try.prog 39 [v0, v1, .int .i64 t] w fun r w' => Ext w w' ∧ (r = .bool (decide ((CodeR c ∧ StateR c s) ∧ GoR c s t))) := by
  refine F39_call ?_
  unfold F39
  refine op_boxS ty31 rfl h0 e0 fun w1_ hx1_ hA3 hV3 => ?_
  refine op_boxS ty42 rfl h1 (e1.trans hx1_) fun w2_ hx2_ hA4 hV4 => ?_
  refine rd_var hV3 hx2_ ?_
  refine rd_var hV4 (Ext.refl w2_) ?_
  refine (implStateOk_ok h0 (e0.trans (hx1_.trans hx2_)) h1 (e1.trans (hx1_.trans hx2_))).mono ?_
  rintro _ w3_ ⟨hx3_, rfl⟩
  refine br (fun c1 => ?_) (fun c1 => ?_)
  · refine rd_var hV3 (hx2_.trans hx3_) ?_
    refine rd_var hV4 hx3_ ?_
    refine (goes_ok h0 (e0.trans (hx1_.trans (hx2_.trans hx3_))) h1 (e1.trans (hx1_.trans (hx2_.trans hx3_))) c1.1 c1.2).mono ?_
    rintro _ w4_ ⟨hx4_, rfl⟩
    refine ⟨(hx1_.trans (hx2_.trans (hx3_.trans hx4_))), ?_⟩
    simp [c1]
  · refine ⟨(hx1_.trans (hx2_.trans hx3_)), ?_⟩
    simp [c1]

/-- the lock that a thread waits for -/
def waitsOf (c : DCode) (s : DState) (t : Int) : Int := if 0 ≤ atOf s t ∧ (atI c s t).op = 6 ∧ 0 ≤ ow s (atI c s t).arg then (atI c s t).arg else -1
theorem l24Waits_ok {w : World} {v0 : Value} {W0 : World} {c : DCode} {v1 : Value} {W1 : World} {s : DState} {t : Int}  (h0 : Is W0 v0 c) (e0 : Ext W0 w) (h1 : Is W1 v1 s) (e1 : Ext W1 w) (hc : CodeR c) (hs : StateR c s) :
    CALL Try.prog 78 [v0, v1, .int .i64 t] w fun r w' => Ext w w' ∧ (r = .int .i64 (waitsOf c s t)) := by
  refine F78_call ?_
  unfold F78
  have hat := at_lt hs t
  refine op_boxS ty31 rfl h0 e0 fun w1_ hx1_ hA3 hV3 => ?_
  refine op_boxS ty42 rfl h1 (e1.trans hx1_) fun w2_ hx2_ hA4 hV4 => ?_
  refine rd_var hV4 (Ext.refl w2_) ?_
  refine (specAtOf_ok h1 (e1.trans (hx1_.trans hx2_))).mono ?_
  rintro _ w3_ ⟨hx3_, rfl⟩
  have hx4_ := ext_drew w3_
  refine rd_lss ?_
  refine br (fun c1 => ?_) (fun c1 => ?_)
  · refine ⟨(hx1_.trans (hx2_.trans (hx3_.trans hx4_))), ?_⟩
    unfold waitsOf; rw [if_neg (by omega)]
  · refine rd_fld fd31_4 ?_
    refine rd_load ty29 (at_DCode_4 hA3) (hx2_.trans (hx3_.trans hx4_)) fun v15 h15 => ?_
    refine rd_index u29 ty95 h15 (by omega) (by omega) fun b17 o17 h17 => ?_
    rw [insAt_get] at h17
    change At _ _ _ (atI c s t) at h17
    have hat0 : 0 ≤ atOf s t := by omega
    refine rd_fld fd95_0 ?_
    refine rd_loadI ty3 (at_DIns_0 h17) (hx2_.trans (hx3_.trans hx4_)) fun hI19 => ?_
    refine rd_neq ?_
    refine br (fun c2 => ?_) (fun c2 => ?_)
    · refine ⟨(hx1_.trans (hx2_.trans (hx3_.trans hx4_))), ?_⟩
      unfold waitsOf; rw [if_neg (fun h => c2 h.2.1)]
    · refine rd_fld fd42_1 ?_
      refine rd_load ty23 (at_DState_1 hA4) (hx3_.trans hx4_) fun v24 h24 => ?_
      refine rd_fld fd31_4 ?_
      refine rd_load ty29 (at_DCode_4 hA3) (hx2_.trans (hx3_.trans hx4_)) fun v26 h26 => ?_
      refine rd_index u29 ty95 h26 (by omega) (by omega) fun b28 o28 h28 => ?_
      rw [insAt_get] at h28
      change At _ _ _ (atI c s t) at h28
      have hlk := atI_lock hc hs hat0 (.inl (Decidable.not_not.1 c2))
      refine rd_fld fd95_1 ?_
      refine rd_loadI ty3 (at_DIns_1 h28) (hx2_.trans (hx3_.trans hx4_)) fun hI30 => ?_
      refine rd_index u23 ty3 h24 (by omega) (by omega) fun b31 o31 h31 => ?_
      refine rd_loadI ty3 h31 (hx3_.trans hx4_) fun hI32 => ?_
      refine rd_lss ?_
      refine br (fun c3 => ?_) (fun c3 => ?_)
      · refine ⟨(hx1_.trans (hx2_.trans (hx3_.trans hx4_))), ?_⟩
        rw [ow_get' hlk.1 hlk.2] at c3
        unfold waitsOf; rw [if_neg (by omega)]
      · refine rd_fld fd31_4 ?_
        refine rd_load ty29 (at_DCode_4 hA3) (hx2_.trans (hx3_.trans hx4_)) fun v36 h36 => ?_
        refine rd_index u29 ty95 h36 (by omega) (by omega) fun b38 o38 h38 => ?_
        rw [insAt_get] at h38
        change At _ _ _ (atI c s t) at h38
        refine rd_fld fd95_1 ?_
        refine rd_loadI ty3 (at_DIns_1 h38) (hx2_.trans (hx3_.trans hx4_)) fun hI40 => ?_
        refine ⟨(hx1_.trans (hx2_.trans (hx3_.trans hx4_))), ?_⟩
        rw [ow_get' hlk.1 hlk.2] at c3
        unfold waitsOf; rw [if_pos ⟨hat0, by omega, by omega⟩]

theorem waits_ok {w : World} {v0 : Value} {W0 : World} {c : DCode} {v1 : Value} {W1 : World} {s : DState} {t : Int}  (h0 : Is W0 v0 c) (e0 : Ext W0 w) (h1 : Is W1 v1 s) (e1 : Ext W1 w) (hc : CodeR c) (hs : StateR c s) :
    CALL Try.prog 79 [v0, v1, .int .i64 t] w fun r w' => Ext w w' ∧ (r = .int .i64 (waitsOf c s t)) := by
  refine F79_call ?_
  unfold F79
  have hat := at_lt hs t
  refine op_boxS ty31 rfl h0 e0 fun w1_ hx1_ hA3 hV3 => ?_
  refine op_boxS ty42 rfl h1 (e1.trans hx1_) fun w2_ hx2_ hA4 hV4 => ?_
  refine rd_var hV4 (Ext.refl w2_) ?_
  refine (implAtOf_ok h1 (e1.trans (hx1_.trans hx2_))).mono ?_
  rintro _ w3_ ⟨hx3_, rfl⟩
  have hx4_ := ext_drew w3_
  refine rd_var hV3 (hx2_.trans (hx3_.trans hx4_)) ?_
  refine (isPlace_ok h0 (e0.trans (hx1_.trans (hx2_.trans (hx3_.trans hx4_))))).mono ?_
  rintro _ w5_ ⟨hx5_, rfl⟩
  refine rd_nodec ?_
  refine br (fun c1 => ?_) (fun c1 => ?_)
  · refine ⟨(hx1_.trans (hx2_.trans (hx3_.trans (hx4_.trans hx5_)))), ?_⟩
    unfold waitsOf; rw [if_neg (by omega)]
  · refine rd_fld fd31_4 ?_
    refine rd_load ty29 (at_DCode_4 hA3) (hx2_.trans (hx3_.trans (hx4_.trans hx5_))) fun v17 h17 => ?_
    refine rd_index u29 ty95 h17 (by omega) (by omega) fun b19 o19 h19 => ?_
    rw [insAt_get] at h19
    change At _ _ _ (atI c s t) at h19
    have hat0 : 0 ≤ atOf s t := by omega
    refine rd_fld fd95_0 ?_
    refine rd_loadI ty3 (at_DIns_0 h19) (hx2_.trans (hx3_.trans (hx4_.trans hx5_))) fun hI21 => ?_
    refine rd_neq ?_
    refine br (fun c2 => ?_) (fun c2 => ?_)
    · refine ⟨(hx1_.trans (hx2_.trans (hx3_.trans (hx4_.trans hx5_)))), ?_⟩
      unfold waitsOf; rw [if_neg (fun h => c2 h.2.1)]
    · refine rd_var hV4 (hx3_.trans (hx4_.trans hx5_)) ?_
      refine rd_fld fd31_4 ?_
      refine rd_load ty29 (at_DCode_4 hA3) (hx2_.trans (hx3_.trans (hx4_.trans hx5_))) fun v27 h27 => ?_
      refine rd_index u29 ty95 h27 (by omega) (by omega) fun b29 o29 h29 => ?_
      rw [insAt_get] at h29
      change At _ _ _ (atI c s t) at h29
      have hlk := atI_lock hc hs hat0 (.inl (Decidable.not_not.1 c2))
      refine rd_fld fd95_1 ?_
      refine rd_loadI ty3 (at_DIns_1 h29) (hx2_.trans (hx3_.trans (hx4_.trans hx5_))) fun hI31 => ?_
      refine (holderOf_ok h1 (e1.trans (hx1_.trans (hx2_.trans (hx3_.trans (hx4_.trans hx5_))))) (by omega) (by omega)).mono ?_
      rintro _ w6_ ⟨hx6_, rfl⟩
      refine rd_lss ?_
      refine br (fun c3 => ?_) (fun c3 => ?_)
      · refine ⟨(hx1_.trans (hx2_.trans (hx3_.trans (hx4_.trans (hx5_.trans hx6_))))), ?_⟩
        unfold waitsOf; rw [if_neg (by omega)]
      · refine rd_fld fd31_4 ?_
        refine rd_load ty29 (at_DCode_4 hA3) (hx2_.trans (hx3_.trans (hx4_.trans (hx5_.trans hx6_)))) fun v36 h36 => ?_
        refine rd_index u29 ty95 h36 (by omega) (by omega) fun b38 o38 h38 => ?_
        rw [insAt_get] at h38
        change At _ _ _ (atI c s t) at h38
        refine rd_fld fd95_1 ?_
        refine rd_loadI ty3 (at_DIns_1 h38) (hx2_.trans (hx3_.trans (hx4_.trans (hx5_.trans hx6_)))) fun hI40 => ?_
        refine ⟨(hx1_.trans (hx2_.trans (hx3_.trans (hx4_.trans (hx5_.trans hx6_))))), ?_⟩
        unfold waitsOf; rw [if_pos ⟨hat0, by omega, by omega⟩]

def waitsFor (c : DCode) (s : DState) (t : Int) : Int := if CodeR c ∧ StateR c s then waitsOf c s t else -1
theorem specWaitsFor_ok {w : World} {v0 : Value} {W0 : World} {c : DCode} {v1 : Value} {W1 : World} {s : DState} {t : Int}  (h0 : Is W0 v0 c) (e0 : Ext W0 w) (h1 : Is W1 v1 s) (e1 : Ext W1 w)  :
    CALL Try.prog 36 [v0, v1, .int .i64 t] w fun r w' => Ext w w' ∧ (r = .int .i64 (waitsFor c s t)) := by
  refine F36_call ?_
  unfold F36
  refine op_boxS ty31 rfl h0 e0 fun w1_ hx1_ hA3 hV3 => ?_
  refine op_boxS ty42 rfl h1 (e1.trans hx1_) fun w2_ hx2_ hA4 hV4 => ?_
  refine rd_var hV3 hx2_ ?_
  refine rd_var hV4 (Ext.refl w2_) ?_
  refine (specStateOk_ok h0 (e0.trans (hx1_.trans hx2_)) h1 (e1.trans (hx1_.trans hx2_))).mono ?_
  rintro _ w3_ ⟨hx3_, rfl⟩
  refine rd_nodec ?_
  refine br (fun c1 => ?_) (fun c1 => ?_)
  · refine ⟨(hx1_.trans (hx2_.trans hx3_)), ?_⟩
    unfold waitsFor; rw [if_neg c1]
  · refine rd_var hV3 (hx2_.trans hx3_) ?_
    refine rd_var hV4 hx3_ ?_
    refine (l24Waits_ok h0 (e0.trans (hx1_.trans (hx2_.trans hx3_))) h1 (e1.trans (hx1_.trans (hx2_.trans hx3_))) (Decidable.not_not.1 c1).1 (Decidable.not_not.1 c1).2).mono ?_
    rintro _ w4_ ⟨hx4_, rfl⟩
    refine ⟨(hx1_.trans (hx2_.trans (hx3_.trans hx4_))), ?_⟩
    unfold waitsFor; rw [if_pos (Decidable.not_not.1 c1)]

theorem implWaitsFor_ok {w : World} {v0 : Value} {W0 : World} {c : DCode} {v1 : Value} {W1 : World} {s : DState} {t : Int}  (h0 : Is W0 v0 c) (e0 : Ext W0 w) (h1 : Is W1 v1 s) (e1 : Ext W1 w)  :
    CALL Try.prog 37 [v0, v1, .int .i64 t] w fun r w' => Ext w w' ∧ (r = .int .i64 (waitsFor c s t)) := by
  refine F37_call ?_
  unfold F37
  refine op_boxS ty31 rfl h0 e0 fun w1_ hx1_ hA3 hV3 => ?_
  refine op_boxS ty42 rfl h1 (e1.trans hx1_) fun w2_ hx2_ hA4 hV4 => ?_
  refine rd_var hV3 hx2_ ?_
  refine rd_var hV4 (Ext.refl w2_) ?_
  refine (implStateOk_ok h0 (e0.trans (hx1_.trans hx2_)) h1 (e1.trans (hx1_.trans hx2_))).mono ?_
  rintro _ w3_ ⟨hx3_, rfl⟩
  refine rd_nodec ?_
  refine br (fun c1 => ?_) (fun c1 => ?_)
  · refine ⟨(hx1_.trans (hx2_.trans hx3_)), ?_⟩
    unfold waitsFor; rw [if_neg c1]
  · refine rd_var hV3 (hx2_.trans hx3_) ?_
    refine rd_var hV4 hx3_ ?_
    refine (waits_ok h0 (e0.trans (hx1_.trans (hx2_.trans hx3_))) h1 (e1.trans (hx1_.trans (hx2_.trans hx3_))) (Decidable.not_not.1 c1).1 (Decidable.not_not.1 c1).2).mono ?_
    rintro _ w4_ ⟨hx4_, rfl⟩
    refine ⟨(hx1_.trans (hx2_.trans (hx3_.trans hx4_))), ?_⟩
    unfold waitsFor; rw [if_pos (Decidable.not_not.1 c1)]

/-- the first k threads that can go -/
def readyTo (c : DCode) (s : DState) : Nat → List Int
  | 0 => []
  | k + 1 => if GoR c s k then readyTo c s k ++ [(k : Int)] else readyTo c s k
theorem readyTo_len (c : DCode) (s : DState) : ∀ k, (readyTo c s k).length ≤ k
  | 0 => Nat.le_refl _
  | k + 1 => by
    have := readyTo_len c s k
    rw [readyTo]
    split
    · simp; omega
    · omega
def readyL (c : DCode) (s : DState) : List Int := readyTo c s s.stacks.length
theorem l22Ready_ok {w : World} {v0 : Value} {W0 : World} {c : DCode} {v1 : Value} {W1 : World} {s : DState}  (h0 : Is W0 v0 c) (e0 : Ext W0 w) (h1 : Is W1 v1 s) (e1 : Ext W1 w) (hc : CodeR c) (hs : StateR c s) :
    CALL Try.prog 83 [v0, v1] w fun r w' => Ext w w' ∧ (Own w.heap.size w' r (readyL c s)) := by
  refine F83_call ?_
  unfold F83
  have hmany := hs.2.2.1
  have hs_e0 := e0.size
  have hs_e1 := e1.size
  refine op_boxS ty31 rfl h0 e0 fun w1_ hx1_ hA2 hV2 => ?_
  have hs_hx1_ := hx1_.size
  refine op_boxS ty42 rfl h1 (e1.trans hx1_) fun w2_ hx2_ hA3 hV3 => ?_
  have hs_hx2_ := hx2_.size
  refine op_build0I (α := Int) u23 ty3 fun v7 w3_ hx3_ o7 => ?_
  have hs_hx3_ := hx3_.size
  refine loopC (s.stacks.length) (fun k us w' => ∃ v : Value, us = [v, .int .i64 (k : Int)] ∧ Ext w2_ w' ∧ (RowI w2_.heap.size w'.heap.size 3 w' v (readyTo c s k))) (0) (by omega) ⟨_, rfl, hx3_, o7⟩ ?_
  rintro k m3 uu3 w4_ hk3 ⟨v5, hu, hx4_, hrow⟩
  have hs_hx4_ := hx4_.size
  simp only [List.map_cons, List.map_nil, List.cons.injEq, and_true] at hu
  obtain ⟨hu0, hu1⟩ := hu
  try rw [hu0]
  try rw [hu1]
  try clear hu0 hu1
  have hrl := readyTo_len c s k
  refine rd_fld fd42_2 ?_
  refine rd_load ty37 (at_DState_2 hA3) hx4_ fun v10 h10 => ?_
  have hln11 := is_len h10
  refine rd_len u37 h10 ?_
  refine rd_lss ?_
  refine br (fun c1 => ?_) (fun c1 => ?_)
  · refine rd_var hV2 (hx2_.trans hx4_) ?_
    refine rd_var hV3 hx4_ ?_
    refine (l21Go_ok h0 (e0.trans (hx1_.trans (hx2_.trans hx4_))) h1 (e1.trans (hx1_.trans (hx2_.trans hx4_))) (by assumption) (by assumption)).mono ?_
    rintro _ w5_ ⟨hx5_, rfl⟩
    have hs_hx5_ := hx5_.size
    refine br (fun c2 => ?_) (fun c2 => ?_)
    · refine op_push (α := Int) u23 ty3 z3 zc3 (by decide) (hrow.ext hx5_) (by omega) (ownI_int (lo := w5_.heap.size) (hi := w5_.heap.size) (by first | assumption | (unfold I64 at *; omega))) (by omega) (by omega) (by rw [maxLen_eq]; omega) (by omega) fun v22 w6_ hc6_ o22 => ?_
      have hs_hc6_ := hc6_.size
      refine rd_inc (by omega) ?_
      refine ⟨m3 - 1, by omega, k + 1, by omega, _, rfl, (Ext.chgI (hx4_.trans hx5_) hc6_ (by omega)), ?_⟩
      rw [readyTo, if_pos c2]; exact o22
    · refine rd_inc (by omega) ?_
      refine ⟨m3 - 1, by omega, k + 1, by omega, _, rfl, (hx4_.trans hx5_), ?_⟩
      rw [readyTo, if_neg c2]; exact (hrow.ext hx5_).mono (by omega) (by omega)
  · refine ⟨(hx1_.trans (hx2_.trans hx4_)), ?_⟩
    have : k = s.stacks.length := by omega
    subst this
    exact hrow.own.own.mono (by omega)

theorem readyIn_ok {w : World} {v0 : Value} {W0 : World} {c : DCode} {v1 : Value} {W1 : World} {s : DState}  (h0 : Is W0 v0 c) (e0 : Ext W0 w) (h1 : Is W1 v1 s) (e1 : Ext W1 w) (hc : CodeR c) (hs : StateR c s) :
    CALL Try.prog 84 [v0, v1] w fun r w' => Ext w w' ∧ (Own w.heap.size w' r (readyL c s)) := by
  refine F84_call ?_
  unfold F84
  have hmany := hs.2.2.1
  have hs_e0 := e0.size
  have hs_e1 := e1.size
  refine op_boxS ty31 rfl h0 e0 fun w1_ hx1_ hA2 hV2 => ?_
  have hs_hx1_ := hx1_.size
  refine op_boxS ty42 rfl h1 (e1.trans hx1_) fun w2_ hx2_ hA3 hV3 => ?_
  have hs_hx2_ := hx2_.size
  refine rd_fld fd42_2 ?_
  refine rd_load ty37 (at_DState_2 hA3) (Ext.refl w2_) fun v8 h8 => ?_
  have hln9 := is_len h8
  refine rd_len u37 h8 ?_
  refine loopC (s.stacks.length) (fun k us w' => ∃ v : Value, us = [v, .int .i64 (k : Int)] ∧ Ext w2_ w' ∧ (RowI w2_.heap.size w'.heap.size 3 w' v (readyTo c s k))) (0) (by omega) ⟨_, rfl, Ext.refl w2_, rowI_nil _ _ _ _⟩ ?_
  rintro k m3 uu3 w3_ hk3 ⟨v5, hu, hx3_, hrow⟩
  have hs_hx3_ := hx3_.size
  simp only [List.map_cons, List.map_nil, List.cons.injEq, and_true] at hu
  obtain ⟨hu0, hu1⟩ := hu
  try rw [hu0]
  try rw [hu1]
  try clear hu0 hu1
  have hrl := readyTo_len c s k
  refine rd_lss ?_
  refine br (fun c1 => ?_) (fun c1 => ?_)
  · refine rd_var hV2 (hx2_.trans hx3_) ?_
    refine rd_var hV3 hx3_ ?_
    refine (goes_ok h0 (e0.trans (hx1_.trans (hx2_.trans hx3_))) h1 (e1.trans (hx1_.trans (hx2_.trans hx3_))) (by assumption) (by assumption)).mono ?_
    rintro _ w4_ ⟨hx4_, rfl⟩
    have hs_hx4_ := hx4_.size
    refine br (fun c2 => ?_) (fun c2 => ?_)
    · refine op_push (α := Int) u23 ty3 z3 zc3 (by decide) (hrow.ext hx4_) (by omega) (ownI_int (lo := w4_.heap.size) (hi := w4_.heap.size) (by first | assumption | (unfold I64 at *; omega))) (by omega) (by omega) (by rw [maxLen_eq]; omega) (by omega) fun v20 w5_ hc5_ o20 => ?_
      have hs_hc5_ := hc5_.size
      refine rd_inc (by omega) ?_
      refine ⟨m3 - 1, by omega, k + 1, by omega, _, rfl, (Ext.chgI (hx3_.trans hx4_) hc5_ (by omega)), ?_⟩
      rw [readyTo, if_pos c2]; exact o20
    · refine rd_inc (by omega) ?_
      refine ⟨m3 - 1, by omega, k + 1, by omega, _, rfl, (hx3_.trans hx4_), ?_⟩
      rw [readyTo, if_neg c2]; exact (hrow.ext hx4_).mono (by omega) (by omega)
  · refine ⟨(hx1_.trans (hx2_.trans hx3_)), ?_⟩
    have : k = s.stacks.length := by omega
    subst this
    exact hrow.own.own.mono (by omega)

def readyIn (c : DCode) (s : DState) : List Int := if CodeR c ∧ StateR c s then readyL c s else []
theorem specReadyIn_ok {w : World} {v0 : Value} {W0 : World} {c : DCode} {v1 : Value} {W1 : World} {s : DState}  (h0 : Is W0 v0 c) (e0 : Ext W0 w) (h1 : Is W1 v1 s) (e1 : Ext W1 w)  :
    CALL Try.prog 42 [v0, v1] w fun r w' => Ext w w' ∧ (Own w.heap.size w' r (readyIn c s)) := by
  refine F42_call ?_
  unfold F42
  have hs_e0 := e0.size
  have hs_e1 := e1.size
  refine op_boxS ty31 rfl h0 e0 fun w1_ hx1_ hA2 hV2 => ?_
  have hs_hx1_ := hx1_.size
  refine op_boxS ty42 rfl h1 (e1.trans hx1_) fun w2_ hx2_ hA3 hV3 => ?_
  have hs_hx2_ := hx2_.size
  refine rd_var hV2 hx2_ ?_
  refine rd_var hV3 (Ext.refl w2_) ?_
  refine (specStateOk_ok h0 (e0.trans (hx1_.trans hx2_)) h1 (e1.trans (hx1_.trans hx2_))).mono ?_
  rintro _ w3_ ⟨hx3_, rfl⟩
  have hs_hx3_ := hx3_.size
  refine rd_nodec ?_
  refine br (fun c1 => ?_) (fun c1 => ?_)
  · refine op_build0I (α := Int) u23 ty3 fun v9 w4_ hx4_ o9 => ?_
    have hs_hx4_ := hx4_.size
    refine ⟨(hx1_.trans (hx2_.trans (hx3_.trans hx4_))), ?_⟩
    unfold readyIn; rw [if_neg c1]; exact o9.own.own.mono (by omega)
  · refine rd_var hV2 (hx2_.trans hx3_) ?_
    refine rd_var hV3 hx3_ ?_
    refine (l22Ready_ok h0 (e0.trans (hx1_.trans (hx2_.trans hx3_))) h1 (e1.trans (hx1_.trans (hx2_.trans hx3_))) (Decidable.not_not.1 c1).1 (Decidable.not_not.1 c1).2).mono ?_
    rintro r12 w5_ ⟨hx5_, o12⟩
    have o12 := o12.toI
    have hs_hx5_ := hx5_.size
    refine ⟨(hx1_.trans (hx2_.trans (hx3_.trans hx5_))), ?_⟩
    unfold readyIn; rw [if_pos (Decidable.not_not.1 c1)]; exact o12.own.mono (by omega)

theorem implReadyIn_ok {w : World} {v0 : Value} {W0 : World} {c : DCode} {v1 : Value} {W1 : World} {s : DState}  (h0 : Is W0 v0 c) (e0 : Ext W0 w) (h1 : Is W1 v1 s) (e1 : Ext W1 w)  :
    CALL Try.prog 43 [v0, v1] w fun r w' => Ext w w' ∧ (Own w.heap.size w' r (readyIn c s)) := by
  refine F43_call ?_
  unfold F43
  have hs_e0 := e0.size
  have hs_e1 := e1.size
  refine op_boxS ty31 rfl h0 e0 fun w1_ hx1_ hA2 hV2 => ?_
  have hs_hx1_ := hx1_.size
  refine op_boxS ty42 rfl h1 (e1.trans hx1_) fun w2_ hx2_ hA3 hV3 => ?_
  have hs_hx2_ := hx2_.size
  refine rd_var hV2 hx2_ ?_
  refine rd_var hV3 (Ext.refl w2_) ?_
  refine (implStateOk_ok h0 (e0.trans (hx1_.trans hx2_)) h1 (e1.trans (hx1_.trans hx2_))).mono ?_
  rintro _ w3_ ⟨hx3_, rfl⟩
  have hs_hx3_ := hx3_.size
  refine rd_nodec ?_
  refine br (fun c1 => ?_) (fun c1 => ?_)
  · refine ⟨(hx1_.trans (hx2_.trans hx3_)), ?_⟩
    unfold readyIn; rw [if_neg c1]; exact own_nil rfl
  · refine rd_var hV2 (hx2_.trans hx3_) ?_
    refine rd_var hV3 hx3_ ?_
    refine (readyIn_ok h0 (e0.trans (hx1_.trans (hx2_.trans hx3_))) h1 (e1.trans (hx1_.trans (hx2_.trans hx3_))) (Decidable.not_not.1 c1).1 (Decidable.not_not.1 c1).2).mono ?_
    rintro r11 w4_ ⟨hx4_, o11⟩
    have o11 := o11.toI
    have hs_hx4_ := hx4_.size
    refine ⟨(hx1_.trans (hx2_.trans (hx3_.trans hx4_))), ?_⟩
    unfold readyIn; rw [if_pos (Decidable.not_not.1 c1)]; exact o11.own.mono (by omega)

def stoppedIn (c : DCode) (s : DState) : Prop := (CodeR c ∧ StateR c s) ∧ ¬ overIn s ∧ readyL c s = []
instance (c : DCode) (s : DState) : Decidable (stoppedIn c s) := by unfold stoppedIn; infer_instance
theorem specStoppedIn_ok {w : World} {v0 : Value} {W0 : World} {c : DCode} {v1 : Value} {W1 : World} {s : DState}  (h0 : Is W0 v0 c) (e0 : Ext W0 w) (h1 : Is W1 v1 s) (e1 : Ext W1 w)  :
    CALL Try.prog 40 [v0, v1] w fun r w' => Ext w w' ∧ (r = .bool (decide (stoppedIn c s))) := by
  refine F40_call ?_
  unfold F40
  refine op_boxS ty31 rfl h0 e0 fun w1_ hx1_ hA2 hV2 => ?_
  refine op_boxS ty42 rfl h1 (e1.trans hx1_) fun w2_ hx2_ hA3 hV3 => ?_
  refine rd_var hV2 hx2_ ?_
  refine rd_var hV3 (Ext.refl w2_) ?_
  refine (specStateOk_ok h0 (e0.trans (hx1_.trans hx2_)) h1 (e1.trans (hx1_.trans hx2_))).mono ?_
  rintro _ w3_ ⟨hx3_, rfl⟩
  refine br (fun c1 => ?_) (fun c1 => ?_)
  · refine rd_var hV3 hx3_ ?_
    refine (specOverIn_ok h1 (e1.trans (hx1_.trans (hx2_.trans hx3_)))).mono ?_
    rintro _ w4_ ⟨hx4_, rfl⟩
    refine rd_nodec ?_
    refine br (fun c2 => ?_) (fun c2 => ?_)
    · refine rd_var hV2 (hx2_.trans (hx3_.trans hx4_)) ?_
      refine rd_var hV3 (hx3_.trans hx4_) ?_
      refine (l22Ready_ok h0 (e0.trans (hx1_.trans (hx2_.trans (hx3_.trans hx4_)))) h1 (e1.trans (hx1_.trans (hx2_.trans (hx3_.trans hx4_)))) c1.1 c1.2).mono ?_
      rintro r16 w5_ ⟨hx5_, o16⟩
      have hln17 := is_len o16.is
      refine rd_len u23 o16.is ?_
      refine rd_eql ?_
      refine ⟨(hx1_.trans (hx2_.trans (hx3_.trans (hx4_.trans hx5_)))), ?_⟩
      congr 1
      rw [decide_eq_decide]
      exact ⟨fun h => ⟨c1, c2, List.eq_nil_of_length_eq_zero (by omega)⟩, fun h => by rw [h.2.2]; rfl⟩
    · refine ⟨(hx1_.trans (hx2_.trans (hx3_.trans hx4_))), ?_⟩
      have : ¬ stoppedIn c s := fun h => c2 h.2.1
      simp only [this, decide_false]
  · refine ⟨(hx1_.trans (hx2_.trans hx3_)), ?_⟩
    have : ¬ stoppedIn c s := fun h => c1 h.1
    simp only [this, decide_false]

theorem implStoppedIn_ok {w : World} {v0 : Value} {W0 : World} {c : DCode} {v1 : Value} {W1 : World} {s : DState}  (h0 : Is W0 v0 c) (e0 : Ext W0 w) (h1 : Is W1 v1 s) (e1 : Ext W1 w)  :
    CALL Try.prog 41 [v0, v1] w fun r w' => Ext w w' ∧ (r = .bool (decide (stoppedIn c s))) := by
  refine F41_call ?_
  unfold F41
  refine op_boxS ty31 rfl h0 e0 fun w1_ hx1_ hA2 hV2 => ?_
  refine op_boxS ty42 rfl h1 (e1.trans hx1_) fun w2_ hx2_ hA3 hV3 => ?_
  refine rd_var hV2 hx2_ ?_
  refine rd_var hV3 (Ext.refl w2_) ?_
  refine (implStateOk_ok h0 (e0.trans (hx1_.trans hx2_)) h1 (e1.trans (hx1_.trans hx2_))).mono ?_
  rintro _ w3_ ⟨hx3_, rfl⟩
  refine br (fun c1 => ?_) (fun c1 => ?_)
  · refine rd_var hV2 (hx2_.trans hx3_) ?_
    refine rd_var hV3 hx3_ ?_
    refine (readyIn_ok h0 (e0.trans (hx1_.trans (hx2_.trans hx3_))) h1 (e1.trans (hx1_.trans (hx2_.trans hx3_))) c1.1 c1.2).mono ?_
    rintro r11 w4_ ⟨hx4_, o11⟩
    have hln12 := is_len o11.is
    refine rd_len u23 o11.is ?_
    refine rd_eql ?_
    refine br (fun c2 => ?_) (fun c2 => ?_)
    · refine rd_var hV3 (hx3_.trans hx4_) ?_
      refine (implOverIn_ok h1 (e1.trans (hx1_.trans (hx2_.trans (hx3_.trans hx4_))))).mono ?_
      rintro _ w5_ ⟨hx5_, rfl⟩
      refine rd_nodec ?_
      refine ⟨(hx1_.trans (hx2_.trans (hx3_.trans (hx4_.trans hx5_)))), ?_⟩
      congr 1
      rw [decide_eq_decide]
      exact ⟨fun h => ⟨c1, h, List.eq_nil_of_length_eq_zero (by omega)⟩, fun h => h.2.1⟩
    · refine ⟨(hx1_.trans (hx2_.trans (hx3_.trans hx4_))), ?_⟩
      have : ¬ stoppedIn c s := fun h => c2 (by rw [h.2.2]; rfl)
      simp only [this, decide_false]
  · refine ⟨(hx1_.trans (hx2_.trans hx3_)), ?_⟩
    have : ¬ stoppedIn c s := fun h => c1 h.1
    simp only [this, decide_false]

end Go.Proofs.Ytokppocbfpjngaa
