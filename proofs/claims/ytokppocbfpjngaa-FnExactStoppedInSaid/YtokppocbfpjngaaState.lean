/-
  States: the program's and the reference's tests.
-/
import Derived.Test.YtokppocbfpjngaaCodeOk
namespace Go.Proofs.Ytokppocbfpjngaa
open Go Go.Sh Go.Proofs
set_option linter.unusedVariables false
set_option linter.unusedSimpArgs false

theorem CodeR.f {c : DCode} (h : CodeR c) : EntF c := h.2.1.f h.1.procs8.2
theorem isPlace_ok {w : World} {v0 : Value} {W0 : World} {c : DCode} {a : Int}  (h0 : Is W0 v0 c) (e0 : Ext W0 w)  :
    CALL Try.prog 75 [v0, .int .i64 a] w fun r w' => Ext w w' ∧ (r = .bool (decide (0 ≤ a ∧ a < c.ins.length))) := by
  refine F75_call ?_
  unfold F75
  refine op_boxS ty31 rfl h0 e0 fun w1_ hx1_ hA2 hV2 => ?_
  refine rd_geq ?_
  refine br (fun c1 => ?_) (fun c1 => ?_)
  · refine rd_fld fd31_4 ?_
    refine rd_load ty29 (at_DCode_4 hA2) (Ext.refl w1_) fun v10 h10 => ?_
    have hln11 := is_len h10
    refine rd_len u29 h10 ?_
    refine rd_lss ?_
    refine ⟨hx1_, ?_⟩
    simp [c1]
  · refine ⟨hx1_, ?_⟩
    simp [c1]

theorem procIn_ok {w : World} {v0 : Value} {W0 : World} {c : DCode} {a : Int}  (h0 : Is W0 v0 c) (e0 : Ext W0 w) (hc : CodeR c) (ha : 0 ≤ a) (ha2 : a < c.ins.length) :
    CALL Try.prog 136 [v0, .int .i64 a] w fun r w' => Ext w w' ∧ (r = .int .i64 (procOf c a)) := by
  refine F136_call ?_
  unfold F136
  have hf := hc.f
  have h8 := hc.1.procs8
  have hl := hf.len
  refine op_boxS ty31 rfl h0 e0 fun w1_ hx1_ hA2 hV2 => ?_
  refine loopC (c.entry.length - 1) (fun k us w' => us = [.int .i64 (k : Int)] ∧ Ext w1_ w' ∧ (en c k ≤ a)) (0) (by omega) ⟨by simp, Ext.refl w1_, by rw [hf.zero]; exact ha⟩ ?_
  rintro k m2 uu2 w2_ hk2 ⟨hu, hx2_, hinv⟩
  simp only [List.map_cons, List.map_nil, List.cons.injEq, and_true] at hu
  try rw [hu]
  try clear hu
  refine rd_inc (by omega) ?_
  refine rd_fld fd31_3 ?_
  refine rd_load ty23 (at_DCode_3 hA2) hx2_ fun v9 h9 => ?_
  have hln10 := is_len h9
  refine rd_len u23 h9 ?_
  refine rd_lss ?_
  refine br (fun c1 => ?_) (fun c1 => ?_)
  · refine rd_fld fd31_3 ?_
    refine rd_load ty23 (at_DCode_3 hA2) hx2_ fun v14 h14 => ?_
    refine rd_inc (by omega) ?_
    refine rd_indexN u23 ty3 h14 (by omega) fun b17 o17 h17 => ?_
    refine rd_loadI ty3 h17 hx2_ fun hI18 => ?_
    refine rd_leq ?_
    refine br (fun c2 => ?_) (fun c2 => ?_)
    · refine rd_inc (by omega) ?_
      refine ⟨m2 - 1, by omega, k + 1, by omega, by simp, hx2_, ?_⟩
      rwa [en_get] at c2
    · refine ⟨(hx1_.trans hx2_), ?_⟩
      rw [en_get] at c2
      rw [hf.proc (i := k) (by omega) hinv (by rw [hf.step (by omega)]; omega)]
  · refine ⟨(hx1_.trans hx2_), ?_⟩
    rw [hf.proc (i := k) (by omega) hinv (by rw [hf.last (by omega)]; omega)]

/-- the i-th place of a stack -/
def st (l : List Int) (i : Nat) : Int := l.getD i 0
theorem st_get {l : List Int} {i : Nat} (h : i < l.length) : l[i] = st l i := by unfold st; rw [List.getD_eq_getElem?_getD, List.getElem?_eq_getElem h]; rfl
def StackR (c : DCode) (l : List Int) : Prop := l.length ≤ 8 ∧ (∀ i, i < l.length → 0 ≤ st l i ∧ st l i < c.ins.length) ∧
  ∀ i, i < l.length - 1 → (insAt c (st l i).toNat).op = 4 ∧ procOf c (st l (i + 1)) = (insAt c (st l i).toNat).arg
instance (c : DCode) (l : List Int) : Decidable (StackR c l) := by unfold StackR; infer_instance
theorem l21Stack_ok {w : World} {v0 : Value} {W0 : World} {c : DCode} {v1 : Value} {W1 : World} {l : (List Int)}  (h0 : Is W0 v0 c) (e0 : Ext W0 w) (h1 : Is W1 v1 l) (e1 : Ext W1 w)  :
    CALL Try.prog 102 [v0, v1] w fun r w' => Ext w w' ∧ (r = .bool (decide (StackR c l))) := by
  refine F102_call ?_
  unfold F102
  have hln := is_len h1
  refine op_boxS ty31 rfl h0 e0 fun w1_ hx1_ hA2 hV2 => ?_
  have hln9 := is_len h1
  refine rd_len u23 h1 ?_
  refine rd_gtr ?_
  refine br (fun c1 => ?_) (fun c1 => ?_)
  · refine ⟨hx1_, ?_⟩
    have : ¬ StackR c l := fun h => by have := h.1; omega
    simp only [this, decide_false]
  · refine loopC (l.length) (fun k us w' => us = [.int .i64 (k : Int)] ∧ Ext w1_ w' ∧ (∀ i, i < k → 0 ≤ st l i ∧ st l i < c.ins.length)) (0) (by omega) ⟨by simp, Ext.refl w1_, fun i h => by omega⟩ ?_
    rintro k m4 uu4 w2_ hk4 ⟨hu, hx2_, hpl⟩
    simp only [List.map_cons, List.map_nil, List.cons.injEq, and_true] at hu
    try rw [hu]
    try clear hu
    have hln13 := is_len h1
    refine rd_len u23 h1 ?_
    refine rd_lss ?_
    refine br (fun c2 => ?_) (fun c2 => ?_)
    · have hx3_ := ext_drew w2_
      refine rd_indexN u23 ty3 h1 (by omega) fun b19 o19 h19 => ?_
      refine rd_loadI ty3 h19 (e1.trans (hx1_.trans (hx2_.trans hx3_))) fun hI20 => ?_
      refine rd_fld fd31_4 ?_
      refine rd_load ty29 (at_DCode_4 hA2) (hx2_.trans hx3_) fun v22 h22 => ?_
      have hln23 := is_len h22
      refine rd_len u29 h22 ?_
      refine rd_sub (by unfold I64; have := is_len h22; omega) ?_
      refine (l01In_ok ).mono ?_
      rintro _ w4_ ⟨hx4_, rfl⟩
      refine rd_nodec ?_
      refine br (fun c3 => ?_) (fun c3 => ?_)
      · refine ⟨(hx1_.trans (hx2_.trans (hx3_.trans hx4_))), ?_⟩
        rw [st_get] at c3
        have : ¬ StackR c l := fun h => c3 (by have := h.2.1 k (by omega); omega)
        simp only [this, decide_false]
      · refine rd_inc (by omega) ?_
        refine ⟨m4 - 1, by omega, k + 1, by omega, by simp, (hx2_.trans (hx3_.trans hx4_)), ?_⟩
        rw [st_get] at c3
        exact all_succ hpl (by omega)
    · refine loopC (l.length) (fun q us w' => us = [.int .i64 (q : Int)] ∧ Ext w2_ w' ∧ (∀ i, i < q → (insAt c (st l i).toNat).op = 4 ∧ procOf c (st l (i + 1)) = (insAt c (st l i).toNat).arg)) (0) (by omega) ⟨by simp, Ext.refl w2_, fun i h => by omega⟩ ?_
      rintro q m9 uu9 w5_ hk9 ⟨hu, hx5_, hinv⟩
      simp only [List.map_cons, List.map_nil, List.cons.injEq, and_true] at hu
      try rw [hu]
      try clear hu
      refine rd_inc (by omega) ?_
      have hln30 := is_len h1
      refine rd_len u23 h1 ?_
      refine rd_lss ?_
      refine br (fun c4 => ?_) (fun c4 => ?_)
      · have hx6_ := ext_drew w5_
        refine rd_fld fd31_4 ?_
        refine rd_load ty29 (at_DCode_4 hA2) (hx2_.trans (hx5_.trans hx6_)) fun v35 h35 => ?_
        refine rd_indexN u23 ty3 h1 (by omega) fun b38 o38 h38 => ?_
        refine rd_loadI ty3 h38 (e1.trans (hx1_.trans (hx2_.trans (hx5_.trans hx6_)))) fun hI39 => ?_
        rw [st_get]
        have hst := hpl q (by omega)
        refine rd_index u29 ty95 h35 (by omega) (by omega) fun b40 o40 h40 => ?_
        refine rd_load ty95 h40 (hx2_.trans (hx5_.trans hx6_)) fun v41 h41 => ?_
        rw [insAt_get] at h41
        refine op_varX zl95 rfl ty95 rfl h41 (hx2_.trans (hx5_.trans hx6_)) fun w7_ hx7_ hA7 hV7 => ?_
        have hx8_ := ext_drew w7_
        refine rd_fld fd95_0 ?_
        refine rd_loadI ty3 (at_DIns_0 hA7) hx8_ fun hI43 => ?_
        refine rd_neq ?_
        refine br (fun c5 => ?_) (fun c5 => ?_)
        · refine ⟨(hx1_.trans (hx2_.trans (hx5_.trans (hx6_.trans (hx7_.trans hx8_))))), ?_⟩
          have : ¬ StackR c l := fun h => c5 (h.2.2 q (by omega)).1
          simp only [this, decide_false]
        · refine rd_var hV2 (hx2_.trans (hx5_.trans (hx6_.trans (hx7_.trans hx8_)))) ?_
          refine rd_inc (by omega) ?_
          refine rd_indexN u23 ty3 h1 (by omega) fun b50 o50 h50 => ?_
          refine rd_loadI ty3 h50 (e1.trans (hx1_.trans (hx2_.trans (hx5_.trans (hx6_.trans (hx7_.trans hx8_)))))) fun hI51 => ?_
          refine rd_fld fd95_1 ?_
          refine rd_loadI ty3 (at_DIns_1 hA7) hx8_ fun hI54 => ?_
          refine (l08Proc_ok h0 (e0.trans (hx1_.trans (hx2_.trans (hx5_.trans (hx6_.trans (hx7_.trans hx8_))))))).mono ?_
          rintro _ w9_ ⟨hx9_, rfl⟩
          refine ⟨hx9_, ?_⟩
          refine rd_neq ?_
          refine br (fun c6 => ?_) (fun c6 => ?_)
          · refine ⟨(hx1_.trans (hx2_.trans (hx5_.trans (hx6_.trans (hx7_.trans (hx8_.trans hx9_)))))), ?_⟩
            rw [st_get] at c6
            have : ¬ StackR c l := fun h => c6 (h.2.2 q (by omega)).2
            simp only [this, decide_false]
          · refine rd_inc (by omega) ?_
            refine ⟨m9 - 1, by omega, q + 1, by omega, by simp, (hx5_.trans (hx6_.trans (hx7_.trans (hx8_.trans hx9_)))), ?_⟩
            rw [st_get] at c6
            exact all_succ hinv ⟨Decidable.not_not.1 c5, Decidable.not_not.1 c6⟩
      · refine ⟨(hx1_.trans (hx2_.trans hx5_)), ?_⟩
        have : StackR c l := ⟨by omega, fun i hi => hpl i (by omega), fun i hi => hinv i (by omega)⟩
        simp only [this, decide_true]

theorem stackRight_ok {w : World} {v0 : Value} {W0 : World} {c : DCode} {v1 : Value} {W1 : World} {l : (List Int)}  (h0 : Is W0 v0 c) (e0 : Ext W0 w) (h1 : Is W1 v1 l) (e1 : Ext W1 w) (hc : CodeR c) :
    CALL Try.prog 103 [v0, v1] w fun r w' => Ext w w' ∧ (r = .bool (decide (StackR c l))) := by
  refine F103_call ?_
  unfold F103
  have hln := is_len h1
  refine op_boxS ty31 rfl h0 e0 fun w1_ hx1_ hA2 hV2 => ?_
  have hln8 := is_len h1
  refine rd_len u23 h1 ?_
  refine rd_gtr ?_
  refine br (fun c1 => ?_) (fun c1 => ?_)
  · refine ⟨hx1_, ?_⟩
    have : ¬ StackR c l := fun h => by have := h.1; omega
    simp only [this, decide_false]
  · have hln11 := is_len h1
    refine rd_len u23 h1 ?_
    refine loopC (l.length) (fun k us w' => us = [.int .i64 (k : Int)] ∧ Ext w1_ w' ∧ (k ≤ l.length - 1 ∧ (∀ i, i < k → 0 ≤ st l i ∧ st l i < c.ins.length) ∧ ∀ i, i < k → (insAt c (st l i).toNat).op = 4 ∧ procOf c (st l (i + 1)) = (insAt c (st l i).toNat).arg)) (0) (by omega) ⟨by simp, Ext.refl w1_, by omega, fun i h => by omega, fun i h => by omega⟩ ?_
    rintro k m4 uu4 w2_ hk4 ⟨hu, hx2_, hkl, hpl, hop⟩
    simp only [List.map_cons, List.map_nil, List.cons.injEq, and_true] at hu
    try rw [hu]
    try clear hu
    refine rd_lss ?_
    refine br (fun c2 => ?_) (fun c2 => ?_)
    · refine rd_indexN u23 ty3 h1 (by omega) fun b15 o15 h15 => ?_
      refine rd_loadI ty3 h15 (e1.trans (hx1_.trans hx2_)) fun hI16 => ?_
      rw [st_get]
      refine rd_var hV2 hx2_ ?_
      refine (isPlace_ok h0 (e0.trans (hx1_.trans hx2_))).mono ?_
      rintro _ w3_ ⟨hx3_, rfl⟩
      refine rd_nodec ?_
      refine br (fun c3 => ?_) (fun c3 => ?_)
      · refine ⟨(hx1_.trans (hx2_.trans hx3_)), ?_⟩
        have : ¬ StackR c l := fun h => c3 (by have := h.2.1 k (by omega); omega)
        simp only [this, decide_false]
      · refine rd_inc (by omega) ?_
        have hln24 := is_len h1
        refine rd_len u23 h1 ?_
        refine rd_eql ?_
        refine br (fun c4 => ?_) (fun c4 => ?_)
        · refine ⟨(hx1_.trans (hx2_.trans hx3_)), ?_⟩
          have : StackR c l := ⟨by omega, fun i hi => by
              by_cases e : i = k
              · subst e; omega
              · exact hpl i (by omega), fun i hi => hop i (by omega)⟩
          simp only [this, decide_true]
        · have hx4_ := ext_drew w3_
          refine rd_fld fd31_4 ?_
          refine rd_load ty29 (at_DCode_4 hA2) (hx2_.trans (hx3_.trans hx4_)) fun v27 h27 => ?_
          have hst1 : 0 ≤ st l k ∧ st l k < c.ins.length := by omega
          refine rd_index u29 ty95 h27 (by omega) (by omega) fun b29 o29 h29 => ?_
          refine rd_fld fd95_0 ?_
          refine rd_loadI ty3 (at_DIns_0 h29) (hx2_.trans (hx3_.trans hx4_)) fun hI31 => ?_
          refine rd_neq ?_
          refine br (fun c5 => ?_) (fun c5 => ?_)
          · refine ⟨(hx1_.trans (hx2_.trans (hx3_.trans hx4_))), ?_⟩
            rw [insAt_get] at c5
            have : ¬ StackR c l := fun h => c5 (h.2.2 k (by omega)).1
            simp only [this, decide_false]
          · refine rd_var hV2 (hx2_.trans (hx3_.trans hx4_)) ?_
            refine rd_inc (by omega) ?_
            refine rd_indexN u23 ty3 h1 (by omega) fun b38 o38 h38 => ?_
            refine rd_loadI ty3 h38 (e1.trans (hx1_.trans (hx2_.trans (hx3_.trans hx4_)))) fun hI39 => ?_
            refine (isPlace_ok h0 (e0.trans (hx1_.trans (hx2_.trans (hx3_.trans hx4_))))).mono ?_
            rintro _ w5_ ⟨hx5_, rfl⟩
            refine rd_nodec ?_
            refine br (fun c6 => ?_) (fun c6 => ?_)
            · refine ⟨(hx1_.trans (hx2_.trans (hx3_.trans (hx4_.trans hx5_)))), ?_⟩
              rw [st_get] at c6
              have : ¬ StackR c l := fun h => c6 (by have := h.2.1 (k + 1) (by omega); omega)
              simp only [this, decide_false]
            · refine rd_var hV2 (hx2_.trans (hx3_.trans (hx4_.trans hx5_))) ?_
              refine rd_inc (by omega) ?_
              refine rd_indexN u23 ty3 h1 (by omega) fun b48 o48 h48 => ?_
              refine rd_loadI ty3 h48 (e1.trans (hx1_.trans (hx2_.trans (hx3_.trans (hx4_.trans hx5_))))) fun hI49 => ?_
              refine rd_fld fd31_4 ?_
              refine rd_load ty29 (at_DCode_4 hA2) (hx2_.trans (hx3_.trans (hx4_.trans hx5_))) fun v52 h52 => ?_
              refine rd_index u29 ty95 h52 (by omega) (by omega) fun b54 o54 h54 => ?_
              refine rd_fld fd95_1 ?_
              refine rd_loadI ty3 (at_DIns_1 h54) (hx2_.trans (hx3_.trans (hx4_.trans hx5_))) fun hI56 => ?_
              rw [st_get] at c6
              rw [st_get]
              refine (procIn_ok h0 (e0.trans (hx1_.trans (hx2_.trans (hx3_.trans (hx4_.trans hx5_))))) (by assumption) (by omega) (by omega)).mono ?_
              rintro _ w6_ ⟨hx6_, rfl⟩
              refine ⟨hx6_, ?_⟩
              refine rd_neq ?_
              refine br (fun c7 => ?_) (fun c7 => ?_)
              · refine ⟨(hx1_.trans (hx2_.trans (hx3_.trans (hx4_.trans (hx5_.trans hx6_))))), ?_⟩
                rw [insAt_get] at c7
                have : ¬ StackR c l := fun h => c7 (h.2.2 k (by omega)).2
                simp only [this, decide_false]
              · refine rd_inc (by omega) ?_
                refine ⟨m4 - 1, by omega, k + 1, by omega, by simp, (hx2_.trans (hx3_.trans (hx4_.trans (hx5_.trans hx6_)))), ?_⟩
                rw [insAt_get] at c7 c5
                exact ⟨by omega, all_succ hpl hst1, all_succ hop ⟨Decidable.not_not.1 c5, Decidable.not_not.1 c7⟩⟩
    · refine ⟨(hx1_.trans hx2_), ?_⟩
      have : StackR c l := ⟨by omega, fun i hi => hpl i (by omega), fun i hi => hop i (by omega)⟩
      simp only [this, decide_true]

def StateR (c : DCode) (s : DState) : Prop := s.vars.length = c.globals.length ∧ s.owner.length = c.locks.length ∧ (1 ≤ s.stacks.length ∧ s.stacks.length ≤ 6) ∧ (∀ v ∈ s.vars, 0 ≤ v ∧ v ≤ 999) ∧
  (∀ o ∈ s.owner, -1 ≤ o ∧ o < s.stacks.length) ∧ ∀ l ∈ s.stacks, StackR c l
instance (c : DCode) (s : DState) : Decidable (StateR c s) := by unfold StateR; infer_instance
theorem mem_succ {α : Type} {P : α → Prop} {l : List α} {k : Nat} (hk : k < l.length) (h : ∀ x ∈ l.take k, P x) (hp : P l[k]) : ∀ x ∈ l.take (k + 1), P x := by
  intro x hx
  rw [List.take_succ_eq_append_getElem hk] at hx
  rcases List.mem_append.1 hx with hx | hx
  · exact h x hx
  · simp only [List.mem_cons, List.not_mem_nil, or_false] at hx
    subst hx; exact hp
theorem mem_all {α : Type} {P : α → Prop} {l : List α} {k : Nat} (hk : l.length ≤ k) (h : ∀ x ∈ l.take k, P x) : ∀ x ∈ l, P x := by
  rwa [List.take_of_length_le hk] at h
theorem l21Right_ok {w : World} {v0 : Value} {W0 : World} {c : DCode} {v1 : Value} {W1 : World} {s : DState}  (h0 : Is W0 v0 c) (e0 : Ext W0 w) (h1 : Is W1 v1 s) (e1 : Ext W1 w)  :
    CALL Try.prog 63 [v0, v1] w fun r w' => Ext w w' ∧ (r = .bool (decide (StateR c s))) := by
  refine F63_call ?_
  unfold F63
  refine op_boxS ty31 rfl h0 e0 fun w1_ hx1_ hA2 hV2 => ?_
  refine op_boxS ty42 rfl h1 (e1.trans hx1_) fun w2_ hx2_ hA3 hV3 => ?_
  refine rd_fld fd42_0 ?_
  refine rd_load ty23 (at_DState_0 hA3) (Ext.refl w2_) fun v9 h9 => ?_
  have hln10 := is_len h9
  refine rd_len u23 h9 ?_
  refine rd_fld fd31_0 ?_
  refine rd_load ty22 (at_DCode_0 hA2) hx2_ fun v12 h12 => ?_
  have hln13 := is_len h12
  refine rd_len u22 h12 ?_
  refine rd_neq ?_
  refine br (fun c1 => ?_) (fun c1 => ?_)
  · refine ⟨(hx1_.trans hx2_), ?_⟩
    have : ¬ StateR c s := fun h => by have := h.1; omega
    simp only [this, decide_false]
  · refine rd_fld fd42_1 ?_
    refine rd_load ty23 (at_DState_1 hA3) (Ext.refl w2_) fun v17 h17 => ?_
    have hln18 := is_len h17
    refine rd_len u23 h17 ?_
    refine rd_fld fd31_1 ?_
    refine rd_load ty22 (at_DCode_1 hA2) hx2_ fun v20 h20 => ?_
    have hln21 := is_len h20
    refine rd_len u22 h20 ?_
    refine rd_neq ?_
    refine br (fun c2 => ?_) (fun c2 => ?_)
    · refine ⟨(hx1_.trans hx2_), ?_⟩
      have : ¬ StateR c s := fun h => by have := h.2.1; omega
      simp only [this, decide_false]
    · refine rd_fld fd42_2 ?_
      refine rd_load ty37 (at_DState_2 hA3) (Ext.refl w2_) fun v26 h26 => ?_
      have hln27 := is_len h26
      refine rd_len u37 h26 ?_
      refine (l01In_ok ).mono ?_
      rintro _ w3_ ⟨hx3_, rfl⟩
      refine rd_nodec ?_
      refine br (fun c3 => ?_) (fun c3 => ?_)
      · refine ⟨(hx1_.trans (hx2_.trans hx3_)), ?_⟩
        have : ¬ StateR c s := fun h => by have := h.2.2.1; omega
        simp only [this, decide_false]
      · refine loopC (s.vars.length) (fun k us w' => us = [.int .i64 (k : Int)] ∧ Ext w3_ w' ∧ (∀ v ∈ s.vars.take k, 0 ≤ v ∧ v ≤ 999)) (0) (by omega) ⟨by simp, Ext.refl w3_, by simp⟩ ?_
        rintro k m4 uu4 w4_ hk4 ⟨hu, hx4_, hv1⟩
        simp only [List.map_cons, List.map_nil, List.cons.injEq, and_true] at hu
        try rw [hu]
        try clear hu
        refine rd_fld fd42_0 ?_
        refine rd_load ty23 (at_DState_0 hA3) (hx3_.trans hx4_) fun v33 h33 => ?_
        have hln34 := is_len h33
        refine rd_len u23 h33 ?_
        refine rd_lss ?_
        refine br (fun c4 => ?_) (fun c4 => ?_)
        · refine rd_fld fd42_0 ?_
          refine rd_load ty23 (at_DState_0 hA3) (hx3_.trans hx4_) fun v39 h39 => ?_
          refine rd_indexN u23 ty3 h39 (by omega) fun b41 o41 h41 => ?_
          refine rd_loadI ty3 h41 (hx3_.trans hx4_) fun hI42 => ?_
          refine (l01In_ok ).mono ?_
          rintro _ w5_ ⟨hx5_, rfl⟩
          refine rd_nodec ?_
          refine br (fun c5 => ?_) (fun c5 => ?_)
          · refine ⟨(hx1_.trans (hx2_.trans (hx3_.trans (hx4_.trans hx5_)))), ?_⟩
            have : ¬ StateR c s := fun h => c5 (h.2.2.2.1 _ (List.getElem_mem _))
            simp only [this, decide_false]
          · refine rd_inc (by omega) ?_
            refine ⟨m4 - 1, by omega, k + 1, by omega, by simp, (hx4_.trans hx5_), ?_⟩
            exact mem_succ (by omega) hv1 (Decidable.not_not.1 c5)
        · refine loopC (s.owner.length) (fun q us w' => us = [.int .i64 (q : Int)] ∧ Ext w4_ w' ∧ (∀ o ∈ s.owner.take q, -1 ≤ o ∧ o < s.stacks.length)) (0) (by omega) ⟨by simp, Ext.refl w4_, by simp⟩ ?_
          rintro q m9 uu9 w6_ hk9 ⟨hu, hx6_, hv2⟩
          simp only [List.map_cons, List.map_nil, List.cons.injEq, and_true] at hu
          try rw [hu]
          try clear hu
          refine rd_fld fd42_1 ?_
          refine rd_load ty23 (at_DState_1 hA3) (hx3_.trans (hx4_.trans hx6_)) fun v47 h47 => ?_
          have hln48 := is_len h47
          refine rd_len u23 h47 ?_
          refine rd_lss ?_
          refine br (fun c6 => ?_) (fun c6 => ?_)
          · have hx7_ := ext_drew w6_
            refine rd_fld fd42_1 ?_
            refine rd_load ty23 (at_DState_1 hA3) (hx3_.trans (hx4_.trans (hx6_.trans hx7_))) fun v53 h53 => ?_
            refine rd_indexN u23 ty3 h53 (by omega) fun b55 o55 h55 => ?_
            refine rd_loadI ty3 h55 (hx3_.trans (hx4_.trans (hx6_.trans hx7_))) fun hI56 => ?_
            refine rd_fld fd42_2 ?_
            refine rd_load ty37 (at_DState_2 hA3) (hx3_.trans (hx4_.trans (hx6_.trans hx7_))) fun v58 h58 => ?_
            have hln59 := is_len h58
            refine rd_len u37 h58 ?_
            refine rd_sub (by unfold I64; have := is_len h58; omega) ?_
            refine (l01In_ok ).mono ?_
            rintro _ w8_ ⟨hx8_, rfl⟩
            refine rd_nodec ?_
            refine br (fun c7 => ?_) (fun c7 => ?_)
            · refine ⟨(hx1_.trans (hx2_.trans (hx3_.trans (hx4_.trans (hx6_.trans (hx7_.trans hx8_)))))), ?_⟩
              have : ¬ StateR c s := fun h => c7 (by have := h.2.2.2.2.1 _ (List.getElem_mem (n := q) (by omega)); omega)
              simp only [this, decide_false]
            · refine rd_inc (by omega) ?_
              refine ⟨m9 - 1, by omega, q + 1, by omega, by simp, (hx6_.trans (hx7_.trans hx8_)), ?_⟩
              exact mem_succ (by omega) hv2 (by omega)
          · refine loopC (s.stacks.length) (fun p us w' => us = [.int .i64 (p : Int)] ∧ Ext w6_ w' ∧ (∀ l ∈ s.stacks.take p, StackR c l)) (0) (by omega) ⟨by simp, Ext.refl w6_, by simp⟩ ?_
            rintro p m14 uu14 w9_ hk14 ⟨hu, hx9_, hv3⟩
            simp only [List.map_cons, List.map_nil, List.cons.injEq, and_true] at hu
            try rw [hu]
            try clear hu
            refine rd_fld fd42_2 ?_
            refine rd_load ty37 (at_DState_2 hA3) (hx3_.trans (hx4_.trans (hx6_.trans hx9_))) fun v65 h65 => ?_
            have hln66 := is_len h65
            refine rd_len u37 h65 ?_
            refine rd_lss ?_
            refine br (fun c8 => ?_) (fun c8 => ?_)
            · have hx10_ := ext_drew w9_
              refine rd_var hV2 (hx2_.trans (hx3_.trans (hx4_.trans (hx6_.trans (hx9_.trans hx10_))))) ?_
              refine rd_fld fd42_2 ?_
              refine rd_load ty37 (at_DState_2 hA3) (hx3_.trans (hx4_.trans (hx6_.trans (hx9_.trans hx10_)))) fun v72 h72 => ?_
              refine rd_indexN u37 ty23 h72 (by omega) fun b74 o74 h74 => ?_
              refine rd_load ty23 h74 (hx3_.trans (hx4_.trans (hx6_.trans (hx9_.trans hx10_)))) fun v75 h75 => ?_
              refine (l21Stack_ok h0 (e0.trans (hx1_.trans (hx2_.trans (hx3_.trans (hx4_.trans (hx6_.trans (hx9_.trans hx10_))))))) h75 (hx3_.trans (hx4_.trans (hx6_.trans (hx9_.trans hx10_))))).mono ?_
              rintro _ w11_ ⟨hx11_, rfl⟩
              refine rd_nodec ?_
              refine br (fun c9 => ?_) (fun c9 => ?_)
              · refine ⟨(hx1_.trans (hx2_.trans (hx3_.trans (hx4_.trans (hx6_.trans (hx9_.trans (hx10_.trans hx11_))))))), ?_⟩
                have : ¬ StateR c s := fun h => c9 (h.2.2.2.2.2 _ (List.getElem_mem _))
                simp only [this, decide_false]
              · refine rd_inc (by omega) ?_
                refine ⟨m14 - 1, by omega, p + 1, by omega, by simp, (hx9_.trans (hx10_.trans hx11_)), ?_⟩
                exact mem_succ (by omega) hv3 (Decidable.not_not.1 c9)
            · refine ⟨(hx1_.trans (hx2_.trans (hx3_.trans (hx4_.trans (hx6_.trans hx9_))))), ?_⟩
              have : StateR c s := ⟨by omega, by omega, by omega, mem_all (by omega) hv1, mem_all (by omega) hv2, mem_all (by omega) hv3⟩
              simp only [this, decide_true]

theorem specStateOk_ok {w : World} {v0 : Value} {W0 : World} {c : DCode} {v1 : Value} {W1 : World} {s : DState}  (h0 : Is W0 v0 c) (e0 : Ext W0 w) (h1 : Is W1 v1 s) (e1 : Ext W1 w)  :
    CALL Try.prog 22 [v0, v1] w fun r w' => Ext w w' ∧ (r = .bool (decide (CodeR c ∧ StateR c s))) := by
  refine F22_call ?_
  unfold F22
  refine op_boxS ty31 rfl h0 e0 fun w1_ hx1_ hA2 hV2 => ?_
  refine op_boxS ty42 rfl h1 (e1.trans hx1_) fun w2_ hx2_ hA3 hV3 => ?_
  refine rd_var hV2 hx2_ ?_
  refine (specCodeOk_ok h0 (e0.trans (hx1_.trans hx2_))).mono ?_
  rintro _ w3_ ⟨hx3_, rfl⟩
  refine br (fun c1 => ?_) (fun c1 => ?_)
  · refine rd_var hV2 (hx2_.trans hx3_) ?_
    refine rd_var hV3 hx3_ ?_
    refine (l21Right_ok h0 (e0.trans (hx1_.trans (hx2_.trans hx3_))) h1 (e1.trans (hx1_.trans (hx2_.trans hx3_)))).mono ?_
    rintro _ w4_ ⟨hx4_, rfl⟩
    refine ⟨(hx1_.trans (hx2_.trans (hx3_.trans hx4_))), ?_⟩
    simp [c1]
  · refine ⟨(hx1_.trans (hx2_.trans hx3_)), ?_⟩
    simp [c1]

theorem stateRight_ok {w : World} {v0 : Value} {W0 : World} {c : DCode} {v1 : Value} {W1 : World} {s : DState}  (h0 : Is W0 v0 c) (e0 : Ext W0 w) (h1 : Is W1 v1 s) (e1 : Ext W1 w) (hc : CodeR c) :
    CALL Try.prog 65 [v0, v1] w fun r w' => Ext w w' ∧ (r = .bool (decide (StateR c s))) := by
  refine F65_call ?_
  unfold F65
  refine op_boxS ty31 rfl h0 e0 fun w1_ hx1_ hA2 hV2 => ?_
  refine op_boxS ty42 rfl h1 (e1.trans hx1_) fun w2_ hx2_ hA3 hV3 => ?_
  refine rd_fld fd42_2 ?_
  refine rd_load ty37 (at_DState_2 hA3) (Ext.refl w2_) fun v13 h13 => ?_
  have hln14 := is_len h13
  refine rd_len u37 h13 ?_
  refine rd_fld fd42_0 ?_
  refine rd_load ty23 (at_DState_0 hA3) (Ext.refl w2_) fun v16 h16 => ?_
  have hln17 := is_len h16
  refine rd_len u23 h16 ?_
  refine rd_fld fd31_0 ?_
  refine rd_load ty22 (at_DCode_0 hA2) hx2_ fun v19 h19 => ?_
  have hln20 := is_len h19
  refine rd_len u22 h19 ?_
  refine rd_neq ?_
  refine br (fun c1 => ?_) (fun c1 => ?_)
  · refine ⟨(hx1_.trans hx2_), ?_⟩
    have : ¬ StateR c s := fun h => by have := h.1; omega
    simp only [this, decide_false]
  · refine rd_fld fd42_1 ?_
    refine rd_load ty23 (at_DState_1 hA3) (Ext.refl w2_) fun v24 h24 => ?_
    have hln25 := is_len h24
    refine rd_len u23 h24 ?_
    refine rd_fld fd31_1 ?_
    refine rd_load ty22 (at_DCode_1 hA2) hx2_ fun v27 h27 => ?_
    have hln28 := is_len h27
    refine rd_len u22 h27 ?_
    refine rd_neq ?_
    refine br (fun c2 => ?_) (fun c2 => ?_)
    · refine ⟨(hx1_.trans hx2_), ?_⟩
      have : ¬ StateR c s := fun h => by have := h.2.1; omega
      simp only [this, decide_false]
    · refine rd_lss ?_
      refine br (fun c3 => ?_) (fun c3 => ?_)
      · refine ⟨(hx1_.trans hx2_), ?_⟩
        have : ¬ StateR c s := fun h => by have := h.2.2.1; omega
        simp only [this, decide_false]
      · refine rd_gtr ?_
        refine br (fun c4 => ?_) (fun c4 => ?_)
        · refine ⟨(hx1_.trans hx2_), ?_⟩
          have : ¬ StateR c s := fun h => by have := h.2.2.1; omega
          simp only [this, decide_false]
        · refine rd_fld fd42_0 ?_
          refine rd_load ty23 (at_DState_0 hA3) (Ext.refl w2_) fun v40 h40 => ?_
          have hln41 := is_len h40
          refine rd_len u23 h40 ?_
          refine loopC (s.vars.length) (fun k us w' => us = [.int .i64 (k : Int)] ∧ Ext w2_ w' ∧ (∀ v ∈ s.vars.take k, 0 ≤ v ∧ v ≤ 999)) (0) (by omega) ⟨by simp, Ext.refl w2_, by simp⟩ ?_
          rintro k m5 uu5 w3_ hk5 ⟨hu, hx3_, hv1⟩
          simp only [List.map_cons, List.map_nil, List.cons.injEq, and_true] at hu
          try rw [hu]
          try clear hu
          refine rd_lss ?_
          refine br (fun c5 => ?_) (fun c5 => ?_)
          · refine rd_indexN u23 ty3 h40 (by omega) fun b44 o44 h44 => ?_
            refine rd_loadI ty3 h44 hx3_ fun hI45 => ?_
            refine rd_lss ?_
            refine br (fun c6 => ?_) (fun c6 => ?_)
            · refine ⟨(hx1_.trans (hx2_.trans hx3_)), ?_⟩
              have : ¬ StateR c s := fun h => by have := h.2.2.2.1 _ (List.getElem_mem (n := k) (by omega)); omega
              simp only [this, decide_false]
            · refine rd_gtr ?_
              refine br (fun c7 => ?_) (fun c7 => ?_)
              · refine ⟨(hx1_.trans (hx2_.trans hx3_)), ?_⟩
                have : ¬ StateR c s := fun h => by have := h.2.2.2.1 _ (List.getElem_mem (n := k) (by omega)); omega
                simp only [this, decide_false]
              · refine rd_inc (by omega) ?_
                refine ⟨m5 - 1, by omega, k + 1, by omega, by simp, hx3_, ?_⟩
                exact mem_succ (by omega) hv1 (by omega)
          · refine rd_fld fd42_1 ?_
            refine rd_load ty23 (at_DState_1 hA3) hx3_ fun v54 h54 => ?_
            have hln55 := is_len h54
            refine rd_len u23 h54 ?_
            refine loopC (s.owner.length) (fun q us w' => us = [.int .i64 (q : Int)] ∧ Ext w3_ w' ∧ (∀ o ∈ s.owner.take q, -1 ≤ o ∧ o < s.stacks.length)) (0) (by omega) ⟨by simp, Ext.refl w3_, by simp⟩ ?_
            rintro q m11 uu11 w4_ hk11 ⟨hu, hx4_, hv2⟩
            simp only [List.map_cons, List.map_nil, List.cons.injEq, and_true] at hu
            try rw [hu]
            try clear hu
            refine rd_lss ?_
            refine br (fun c8 => ?_) (fun c8 => ?_)
            · refine rd_indexN u23 ty3 h54 (by omega) fun b58 o58 h58 => ?_
              refine rd_loadI ty3 h58 (hx3_.trans hx4_) fun hI59 => ?_
              refine rd_lss ?_
              refine br (fun c9 => ?_) (fun c9 => ?_)
              · refine ⟨(hx1_.trans (hx2_.trans (hx3_.trans hx4_))), ?_⟩
                have : ¬ StateR c s := fun h => by have := h.2.2.2.2.1 _ (List.getElem_mem (n := q) (by omega)); omega
                simp only [this, decide_false]
              · refine rd_geq ?_
                refine br (fun c10 => ?_) (fun c10 => ?_)
                · refine ⟨(hx1_.trans (hx2_.trans (hx3_.trans hx4_))), ?_⟩
                  have : ¬ StateR c s := fun h => by have := h.2.2.2.2.1 _ (List.getElem_mem (n := q) (by omega)); omega
                  simp only [this, decide_false]
                · refine rd_inc (by omega) ?_
                  refine ⟨m11 - 1, by omega, q + 1, by omega, by simp, hx4_, ?_⟩
                  exact mem_succ (by omega) hv2 (by omega)
            · refine rd_fld fd42_2 ?_
              refine rd_load ty37 (at_DState_2 hA3) (hx3_.trans hx4_) fun v69 h69 => ?_
              have hln70 := is_len h69
              refine rd_len u37 h69 ?_
              refine loopC (s.stacks.length) (fun p us w' => us = [.int .i64 (p : Int)] ∧ Ext w4_ w' ∧ (∀ l ∈ s.stacks.take p, StackR c l)) (0) (by omega) ⟨by simp, Ext.refl w4_, by simp⟩ ?_
              rintro p m17 uu17 w5_ hk17 ⟨hu, hx5_, hv3⟩
              simp only [List.map_cons, List.map_nil, List.cons.injEq, and_true] at hu
              try rw [hu]
              try clear hu
              refine rd_lss ?_
              refine br (fun c11 => ?_) (fun c11 => ?_)
              · refine rd_indexN u37 ty23 h69 (by omega) fun b73 o73 h73 => ?_
                refine rd_load ty23 h73 (hx3_.trans (hx4_.trans hx5_)) fun v74 h74 => ?_
                refine rd_var hV2 (hx2_.trans (hx3_.trans (hx4_.trans hx5_))) ?_
                refine (stackRight_ok h0 (e0.trans (hx1_.trans (hx2_.trans (hx3_.trans (hx4_.trans hx5_))))) h74 (hx3_.trans (hx4_.trans hx5_)) (by assumption)).mono ?_
                rintro _ w6_ ⟨hx6_, rfl⟩
                refine rd_nodec ?_
                refine br (fun c12 => ?_) (fun c12 => ?_)
                · refine ⟨(hx1_.trans (hx2_.trans (hx3_.trans (hx4_.trans (hx5_.trans hx6_))))), ?_⟩
                  have : ¬ StateR c s := fun h => c12 (h.2.2.2.2.2 _ (List.getElem_mem _))
                  simp only [this, decide_false]
                · refine rd_inc (by omega) ?_
                  refine ⟨m17 - 1, by omega, p + 1, by omega, by simp, (hx5_.trans hx6_), ?_⟩
                  exact mem_succ (by omega) hv3 (Decidable.not_not.1 c12)
              · refine ⟨(hx1_.trans (hx2_.trans (hx3_.trans (hx4_.trans hx5_)))), ?_⟩
                have : StateR c s := ⟨by omega, by omega, by omega, mem_all (by omega) hv1, mem_all (by omega) hv2, mem_all (by omega) hv3⟩
                simp only [this, decide_true]

theorem implStateOk_ok {w : World} {v0 : Value} {W0 : World} {c : DCode} {v1 : Value} {W1 : World} {s : DState}  (h0 : Is W0 v0 c) (e0 : Ext W0 w) (h1 : Is W1 v1 s) (e1 : Ext W1 w)  :
    CALL Try.prog 24 [v0, v1] w fun r w' => Ext w w' ∧ (r = .bool (decide (CodeR c ∧ StateR c s))) := by
  refine F24_call ?_
  unfold F24
  refine op_boxS ty31 rfl h0 e0 fun w1_ hx1_ hA2 hV2 => ?_
  refine op_boxS ty42 rfl h1 (e1.trans hx1_) fun w2_ hx2_ hA3 hV3 => ?_
  refine rd_var hV2 hx2_ ?_
  refine (implCodeOk_ok h0 (e0.trans (hx1_.trans hx2_))).mono ?_
  rintro _ w3_ ⟨hx3_, rfl⟩
  refine br (fun c1 => ?_) (fun c1 => ?_)
  · refine rd_var hV2 (hx2_.trans hx3_) ?_
    refine rd_var hV3 hx3_ ?_
    refine (stateRight_ok h0 (e0.trans (hx1_.trans (hx2_.trans hx3_))) h1 (e1.trans (hx1_.trans (hx2_.trans hx3_))) (by assumption)).mono ?_
    rintro _ w4_ ⟨hx4_, rfl⟩
    refine ⟨(hx1_.trans (hx2_.trans (hx3_.trans hx4_))), ?_⟩
    simp [c1]
  · refine ⟨(hx1_.trans (hx2_.trans hx3_)), ?_⟩
    simp [c1]

end Go.Proofs.Ytokppocbfpjngaa
