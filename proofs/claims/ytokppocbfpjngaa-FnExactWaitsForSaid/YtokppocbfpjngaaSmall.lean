/-
  The small functions over lists of ints, lists of lists, states and races: sizes, comparisons.
-/
import Derived.Test.YtokppocbfpjngaaInts
import Derived.Test.YtokppocbfpjngaaTypes
import Derived.Test.YtokppocbfpjngaaData
namespace Go.Proofs.Ytokppocbfpjngaa
open Go Go.Sh Go.Proofs
set_option linter.unusedVariables false

theorem rd_neqB {P : Program} {w : World} {K : Value → Prop} {t : TypeId} {x y : Operand} {a b : Bool} (ht : P.underlying t = some .bool) (k : K (.bool (decide (a ≠ b)))) : RD P (bin .neq t x y (.bool a) (.bool b)) w K :=
  rd_of (fun w' _ => by
    have := run_neq_bool (P := P) w' t a b ht
    cases a <;> cases b <;> simp_all [bin, eqGuard]) k

theorem eqIntS_ok2 {w w1 w2 : World} {v1 v2 : Value} {l1 l2 : List Int} (h1 : Is w1 v1 l1) (hx1 : Ext w1 w) (h2 : Is w2 v2 l2) (hx2 : Ext w2 w) :
    CALL Try.prog 20 [v1, v2] w fun r w' => Ext w w' ∧ r = .bool (decide (l1 = l2)) := eqIntS_ok h1 h2 hx1 hx2

theorem eqIntSS_ok {w : World} {v0 : Value} {W0 : World} {l1 : (List (List Int))} {v1 : Value} {W1 : World} {l2 : (List (List Int))}  (h0 : Is W0 v0 l1) (e0 : Ext W0 w) (h1 : Is W1 v1 l2) (e1 : Ext W1 w)  :
    CALL Try.prog 66 [v0, v1] w fun r w' => Ext w w' ∧ (r = .bool (decide (l1 = l2))) := by
  refine F66_call ?_
  unfold F66
  have hl1 := is_len h0
  have hln7 := is_len h0
  refine rd_len u37 h0 ?_
  have hln9 := is_len h1
  refine rd_len u37 h1 ?_
  refine rd_neq ?_
  refine br (fun c1 => ?_) (fun c1 => ?_)
  · refine ⟨Ext.refl w, ?_⟩
    have : l1 ≠ l2 := fun e => c1 (by rw [e])
    simp [this]
  · refine loopC (l1.length) (fun k us w' => us = [.int .i64 (k : Int)] ∧ Ext w w' ∧ (l1.take k = l2.take k)) (0) (by omega) ⟨by simp, Ext.refl w, by simp⟩ ?_
    rintro k m4 uu4 w1_ hk4 ⟨hu, hx1_, hinv⟩
    simp only [List.map_cons, List.map_nil, List.cons.injEq, and_true] at hu
    try rw [hu]
    try clear hu
    have hln13 := is_len h0
    refine rd_len u37 h0 ?_
    refine rd_lss ?_
    refine br (fun c2 => ?_) (fun c2 => ?_)
    · have hx2_ := ext_drew w1_
      refine rd_indexN u37 ty23 h0 (by omega) fun b19 o19 h19 => ?_
      refine rd_load ty23 h19 (e0.trans (hx1_.trans hx2_)) fun v20 h20 => ?_
      refine rd_indexN u37 ty23 h1 (by omega) fun b23 o23 h23 => ?_
      refine rd_load ty23 h23 (e1.trans (hx1_.trans hx2_)) fun v24 h24 => ?_
      refine (eqIntS_ok2 h20 (e0.trans (hx1_.trans hx2_)) h24 (e1.trans (hx1_.trans hx2_))).mono ?_
      rintro _ w3_ ⟨hx3_, rfl⟩
      refine rd_nodec ?_
      refine br (fun c3 => ?_) (fun c3 => ?_)
      · refine ⟨(hx1_.trans (hx2_.trans hx3_)), ?_⟩
        have : l1 ≠ l2 := fun e => c3 (by subst e; rfl)
        simp [this]
      · refine rd_inc (by omega) ?_
        refine ⟨m4 - 1, by omega, k + 1, by omega, by simp, (hx1_.trans (hx2_.trans hx3_)), ?_⟩
        rw [List.take_succ_eq_append_getElem (by omega), List.take_succ_eq_append_getElem (by omega), hinv, Decidable.not_not.1 c3]
    · refine ⟨hx1_, ?_⟩
      rw [List.take_of_length_le (by omega), List.take_of_length_le (by omega)] at hinv
      simp [hinv]


theorem szIntS_ok {w : World} {v0 : Value} {W0 : World} {l : (List Int)} {left : Int}  (h0 : Is W0 v0 l) (e0 : Ext W0 w) (hl0 : -1 ≤ left) (hl1 : left ≤ 1048576) :
    CALL Try.prog 53 [v0, .int .i64 left] w fun r w' => Ext w w' ∧ (∃ n : Int, r = .int .i64 n ∧ -1 ≤ n ∧ n ≤ left ∧ (0 ≤ n → n + l.length ≤ left)) := by
  refine F53_call ?_
  unfold F53
  have hl := is_len h0
  have hln7 := is_len h0
  refine rd_len u23 h0 ?_
  refine rd_sub (by unfold I64; omega) ?_
  refine rd_lss ?_
  refine br (fun c1 => ?_) (fun c1 => ?_)
  · refine ⟨Ext.refl w, ?_⟩
    exact ⟨-1, rfl, by omega, by omega, by omega⟩
  · refine ⟨Ext.refl w, ?_⟩
    exact ⟨_, rfl, by omega, by omega, by omega⟩


theorem szIntSS_ok {w : World} {v0 : Value} {W0 : World} {l : (List (List Int))} {left : Int}  (h0 : Is W0 v0 l) (e0 : Ext W0 w) (hl0 : -1 ≤ left) (hl1 : left ≤ 1048576) :
    CALL Try.prog 62 [v0, .int .i64 left] w fun r w' => Ext w w' ∧ (∃ n : Int, r = .int .i64 n ∧ -1 ≤ n ∧ n ≤ left ∧ (0 ≤ n → l.length ≤ left ∧ ∀ x ∈ l, (x.length : Int) ≤ left)) := by
  refine F62_call ?_
  unfold F62
  have hl := is_len h0
  have hln8 := is_len h0
  refine rd_len u37 h0 ?_
  refine rd_sub (by unfold I64; omega) ?_
  refine rd_lss ?_
  refine br (fun c1 => ?_) (fun c1 => ?_)
  · refine ⟨Ext.refl w, ?_⟩
    exact ⟨-1, rfl, by omega, by omega, by omega⟩
  · refine loopC (l.length) (fun k us w' => ∃ q : Int, us = [.int .i64 q, .int .i64 (k : Int)] ∧ Ext w w' ∧ (0 ≤ q ∧ q ≤ left ∧ ∀ x ∈ l.take k, (x.length : Int) ≤ left)) (0) (by omega) ⟨left - l.length, by simp, Ext.refl w, by omega, by omega, by simp⟩ ?_
    rintro k m5 uu5 w1_ hk5 ⟨q, hu, hx1_, hq0, hq1, hq2⟩
    simp only [List.map_cons, List.map_nil, List.cons.injEq, and_true] at hu
    obtain ⟨hu0, hu1⟩ := hu
    try rw [hu0]
    try rw [hu1]
    try clear hu0 hu1
    have hln14 := is_len h0
    refine rd_len u37 h0 ?_
    refine rd_lss ?_
    refine br (fun c2 => ?_) (fun c2 => ?_)
    · refine rd_indexN u37 ty23 h0 (by omega) fun b20 o20 h20 => ?_
      refine rd_load ty23 h20 (e0.trans hx1_) fun v21 h21 => ?_
      refine (szIntS_ok h21 (e0.trans hx1_) (by omega) (by omega)).mono ?_
      rintro _ w2_ ⟨hx2_, n23, rfl, hn23⟩
      refine rd_lss ?_
      refine br (fun c3 => ?_) (fun c3 => ?_)
      · refine ⟨(hx1_.trans hx2_), ?_⟩
        exact ⟨-1, rfl, by omega, by omega, by omega⟩
      · refine rd_inc (by omega) ?_
        refine ⟨m5 - 1, by omega, k + 1, by omega, n23, by simp, (hx1_.trans hx2_), ?_⟩
        refine ⟨by omega, by omega, fun x hx => ?_⟩
        rw [List.take_succ_eq_append_getElem (by omega)] at hx
        rcases List.mem_append.1 hx with hx | hx
        · exact hq2 x hx
        · simp only [List.mem_cons, List.not_mem_nil, or_false] at hx
          subst hx
          have := hn23.2.2 (by omega)
          omega
    · refine ⟨hx1_, ?_⟩
      refine ⟨q, rfl, by omega, by omega, fun _ => ⟨by omega, fun x hx => hq2 x ?_⟩⟩
      rw [List.take_of_length_le (by omega)]; exact hx


theorem szState_ok {w : World} {v0 : Value} {W0 : World} {s : DState} {left : Int}  (h0 : Is W0 v0 s) (e0 : Ext W0 w) (hl0 : -1 ≤ left) (hl1 : left ≤ 1048576) :
    CALL Try.prog 21 [v0, .int .i64 left] w fun r w' => Ext w w' ∧ (∃ n : Int, r = .int .i64 n ∧ -1 ≤ n ∧ n ≤ left ∧ (0 ≤ n → (s.vars.length : Int) ≤ left ∧ (s.owner.length : Int) ≤ left ∧ (s.stacks.length : Int) ≤ left ∧ ∀ x ∈ s.stacks, (x.length : Int) ≤ left)) := by
  refine F21_call ?_
  unfold F21
  refine op_boxS ty39 rfl h0 e0 fun w1_ hx1_ hA2 hV2 => ?_
  refine rd_fld fd39_0 ?_
  refine rd_load ty23 (at_DState_0 hA2) (Ext.refl w1_) fun v6 h6 => ?_
  refine (szIntS_ok h6 (Ext.refl w1_) (by omega) (by omega)).mono ?_
  rintro _ w2_ ⟨hx2_, n8, rfl, hn8⟩
  refine rd_lss ?_
  refine br (fun c1 => ?_) (fun c1 => ?_)
  · refine ⟨(hx1_.trans hx2_), ?_⟩
    exact ⟨-1, rfl, by omega, by omega, by omega⟩
  · refine rd_fld fd39_1 ?_
    refine rd_load ty23 (at_DState_1 hA2) hx2_ fun v12 h12 => ?_
    refine (szIntS_ok h12 hx2_ (by omega) (by omega)).mono ?_
    rintro _ w3_ ⟨hx3_, n14, rfl, hn14⟩
    refine rd_lss ?_
    refine br (fun c2 => ?_) (fun c2 => ?_)
    · refine ⟨(hx1_.trans (hx2_.trans hx3_)), ?_⟩
      exact ⟨-1, rfl, by omega, by omega, by omega⟩
    · refine rd_fld fd39_2 ?_
      refine rd_load ty37 (at_DState_2 hA2) (hx2_.trans hx3_) fun v18 h18 => ?_
      refine (szIntSS_ok h18 (hx2_.trans hx3_) (by omega) (by omega)).mono ?_
      rintro _ w4_ ⟨hx4_, n20, rfl, hn20⟩
      refine rd_lss ?_
      refine br (fun c3 => ?_) (fun c3 => ?_)
      · refine ⟨(hx1_.trans (hx2_.trans (hx3_.trans hx4_))), ?_⟩
        exact ⟨-1, rfl, by omega, by omega, by omega⟩
      · refine ⟨(hx1_.trans (hx2_.trans (hx3_.trans hx4_))), ?_⟩
        obtain ⟨hA1, hA2, hA3⟩ := hn8
        obtain ⟨hB1, hB2, hB3⟩ := hn14
        obtain ⟨hC1, hC2, hC3⟩ := hn20
        have h1 := hA3 (by omega)
        have h2 := hB3 (by omega)
        have h3 := hC3 (by omega)
        exact ⟨_, rfl, by omega, by omega, fun _ => ⟨by omega, by omega, by omega, fun x hx => by have := h3.2 x hx; omega⟩⟩



theorem eqState_ok {w : World} {v0 : Value} {W0 : World} {s1 : DState} {v1 : Value} {W1 : World} {s2 : DState}  (h0 : Is W0 v0 s1) (e0 : Ext W0 w) (h1 : Is W1 v1 s2) (e1 : Ext W1 w)  :
    CALL Try.prog 25 [v0, v1] w fun r w' => Ext w w' ∧ (r = .bool (decide (s1 = s2))) := by
  refine F25_call ?_
  unfold F25
  refine op_boxS ty42 rfl h0 e0 fun w1_ hx1_ hA2 hV2 => ?_
  refine op_boxS ty42 rfl h1 (e1.trans hx1_) fun w2_ hx2_ hA3 hV3 => ?_
  refine rd_fld fd42_0 ?_
  refine rd_load ty23 (at_DState_0 hA2) hx2_ fun v6 h6 => ?_
  refine rd_fld fd42_0 ?_
  refine rd_load ty23 (at_DState_0 hA3) (Ext.refl w2_) fun v8 h8 => ?_
  refine (eqIntS_ok2 h6 hx2_ h8 (Ext.refl w2_)).mono ?_
  rintro _ w3_ ⟨hx3_, rfl⟩
  refine rd_nodec ?_
  refine br (fun c1 => ?_) (fun c1 => ?_)
  · refine ⟨(hx1_.trans (hx2_.trans hx3_)), ?_⟩
    have : s1 ≠ s2 := fun e => c1 (by rw [e])
    simp [this]
  · refine rd_fld fd42_1 ?_
    refine rd_load ty23 (at_DState_1 hA2) (hx2_.trans hx3_) fun v12 h12 => ?_
    refine rd_fld fd42_1 ?_
    refine rd_load ty23 (at_DState_1 hA3) hx3_ fun v14 h14 => ?_
    refine (eqIntS_ok2 h12 (hx2_.trans hx3_) h14 hx3_).mono ?_
    rintro _ w4_ ⟨hx4_, rfl⟩
    refine rd_nodec ?_
    refine br (fun c2 => ?_) (fun c2 => ?_)
    · refine ⟨(hx1_.trans (hx2_.trans (hx3_.trans hx4_))), ?_⟩
      have : s1 ≠ s2 := fun e => c2 (by rw [e])
      simp [this]
    · refine rd_fld fd42_2 ?_
      refine rd_load ty37 (at_DState_2 hA2) (hx2_.trans (hx3_.trans hx4_)) fun v18 h18 => ?_
      refine rd_fld fd42_2 ?_
      refine rd_load ty37 (at_DState_2 hA3) (hx3_.trans hx4_) fun v20 h20 => ?_
      refine (eqIntSS_ok h18 (hx2_.trans (hx3_.trans hx4_)) h20 (hx3_.trans hx4_)).mono ?_
      rintro _ w5_ ⟨hx5_, rfl⟩
      refine rd_nodec ?_
      refine br (fun c3 => ?_) (fun c3 => ?_)
      · refine ⟨(hx1_.trans (hx2_.trans (hx3_.trans (hx4_.trans hx5_)))), ?_⟩
        have : s1 ≠ s2 := fun e => c3 (by rw [e])
        simp [this]
      · refine ⟨(hx1_.trans (hx2_.trans (hx3_.trans (hx4_.trans hx5_)))), ?_⟩
        have : s1 = s2 := by
          cases s1; cases s2
          simp only [Decidable.not_not] at c1 c2 c3
          rw [c1, c2, c3]
        simp [this]




theorem l01In_ok {w : World} {a : Int} {b : Int} {c : Int}    :
    CALL Try.prog 56 [.int .i64 a, .int .i64 b, .int .i64 c] w fun r w' => Ext w w' ∧ (r = .bool (decide (b ≤ a ∧ a ≤ c))) := by
  refine F56_call ?_
  unfold F56
  refine rd_geq ?_
  refine br (fun c1 => ?_) (fun c1 => ?_)
  · refine rd_leq ?_
    refine ⟨Ext.refl w, ?_⟩
    simp [c1]
  · refine ⟨Ext.refl w, ?_⟩
    simp [c1]


/-- the last place of a thread's stack -/
def atOf (s : DState) (t : Int) : Int := if h : 0 ≤ t ∧ t.toNat < s.stacks.length then (s.stacks[t.toNat]'h.2).getLastD (-1) else -1
theorem getLastD_eq {l : List Int} (h : l ≠ []) (hi : ((l.length : Int) - 1).toNat < l.length) : l[((l.length : Int) - 1).toNat]'hi = l.getLastD (-1) := by
  have e : ((l.length : Int) - 1).toNat = l.length - 1 := by omega
  simp only [e]
  rw [List.getLastD_eq_getLast?, List.getLast?_eq_getElem?, List.getElem?_eq_getElem (by omega)]
  rfl
theorem specAtOf_ok {w : World} {v0 : Value} {W0 : World} {s : DState} {t : Int}  (h0 : Is W0 v0 s) (e0 : Ext W0 w)  :
    CALL Try.prog 112 [v0, .int .i64 t] w fun r w' => Ext w w' ∧ (r = .int .i64 (atOf s t)) := by
  refine F112_call ?_
  unfold F112
  refine op_boxS ty42 rfl h0 e0 fun w1_ hx1_ hA2 hV2 => ?_
  refine rd_fld fd42_2 ?_
  refine rd_load ty37 (at_DState_2 hA2) (Ext.refl w1_) fun v7 h7 => ?_
  have hln8 := is_len h7
  refine rd_len u37 h7 ?_
  refine rd_sub (by unfold I64; omega) ?_
  refine (l01In_ok ).mono ?_
  rintro _ w2_ ⟨hx2_, rfl⟩
  refine rd_nodec ?_
  refine br (fun c1 => ?_) (fun c1 => ?_)
  · refine ⟨(hx1_.trans hx2_), ?_⟩
    unfold atOf
    rw [dif_neg (by omega)]
  · refine rd_fld fd42_2 ?_
    refine rd_load ty37 (at_DState_2 hA2) hx2_ fun v14 h14 => ?_
    refine rd_index u37 ty23 h14 (by omega) (by omega) fun b16 o16 h16 => ?_
    refine rd_load ty23 h16 hx2_ fun v17 h17 => ?_
    have hln18 := is_len h17
    refine rd_len u23 h17 ?_
    refine rd_eql ?_
    refine br (fun c2 => ?_) (fun c2 => ?_)
    · refine ⟨(hx1_.trans hx2_), ?_⟩
      unfold atOf
      rw [dif_pos (by omega)]
      have : s.stacks[t.toNat]'(by omega) = [] := List.eq_nil_of_length_eq_zero (by omega)
      rw [this]; rfl
    · have hx3_ := ext_drew w2_
      refine rd_fld fd42_2 ?_
      refine rd_load ty37 (at_DState_2 hA2) (hx2_.trans hx3_) fun v22 h22 => ?_
      refine rd_index u37 ty23 h22 (by omega) (by omega) fun b24 o24 h24 => ?_
      refine rd_load ty23 h24 (hx2_.trans hx3_) fun v25 h25 => ?_
      refine rd_fld fd42_2 ?_
      refine rd_load ty37 (at_DState_2 hA2) (hx2_.trans hx3_) fun v27 h27 => ?_
      refine rd_index u37 ty23 h27 (by omega) (by omega) fun b29 o29 h29 => ?_
      refine rd_load ty23 h29 (hx2_.trans hx3_) fun v30 h30 => ?_
      have hln31 := is_len h30
      refine rd_len u23 h30 ?_
      refine rd_sub (by unfold I64; omega) ?_
      refine rd_index u23 ty3 h25 (by omega) (by omega) fun b33 o33 h33 => ?_
      refine rd_loadI ty3 h33 (hx2_.trans hx3_) fun hI34 => ?_
      refine ⟨(hx1_.trans (hx2_.trans hx3_)), ?_⟩
      unfold atOf
      rw [dif_pos (by omega)]
      rw [getLastD_eq (fun e => by rw [e] at c2; simp at c2)]

theorem implAtOf_ok {w : World} {v0 : Value} {W0 : World} {s : DState} {t : Int}  (h0 : Is W0 v0 s) (e0 : Ext W0 w)  :
    CALL Try.prog 113 [v0, .int .i64 t] w fun r w' => Ext w w' ∧ (r = .int .i64 (atOf s t)) := by
  refine F113_call ?_
  unfold F113
  refine op_boxS ty42 rfl h0 e0 fun w1_ hx1_ hA2 hV2 => ?_
  refine rd_lss ?_
  refine br (fun c1 => ?_) (fun c1 => ?_)
  · refine ⟨hx1_, ?_⟩
    unfold atOf
    rw [dif_neg (by omega)]
  · refine rd_fld fd42_2 ?_
    refine rd_load ty37 (at_DState_2 hA2) (Ext.refl w1_) fun v10 h10 => ?_
    have hln11 := is_len h10
    refine rd_len u37 h10 ?_
    refine rd_geq ?_
    refine br (fun c2 => ?_) (fun c2 => ?_)
    · refine ⟨hx1_, ?_⟩
      unfold atOf
      rw [dif_neg (by omega)]
    · refine rd_fld fd42_2 ?_
      refine rd_load ty37 (at_DState_2 hA2) (Ext.refl w1_) fun v16 h16 => ?_
      refine rd_index u37 ty23 h16 (by omega) (by omega) fun b18 o18 h18 => ?_
      refine rd_load ty23 h18 (Ext.refl w1_) fun v19 h19 => ?_
      have hln20 := is_len h19
      refine rd_len u23 h19 ?_
      refine rd_eql ?_
      refine br (fun c3 => ?_) (fun c3 => ?_)
      · refine ⟨hx1_, ?_⟩
        unfold atOf
        rw [dif_pos (by omega)]
        have : s.stacks[t.toNat]'(by omega) = [] := List.eq_nil_of_length_eq_zero (by omega)
        rw [this]; rfl
      · have hx2_ := ext_drew w1_
        refine rd_fld fd42_2 ?_
        refine rd_load ty37 (at_DState_2 hA2) hx2_ fun v24 h24 => ?_
        refine rd_index u37 ty23 h24 (by omega) (by omega) fun b26 o26 h26 => ?_
        refine rd_load ty23 h26 hx2_ fun v27 h27 => ?_
        refine rd_fld fd42_2 ?_
        refine rd_load ty37 (at_DState_2 hA2) hx2_ fun v29 h29 => ?_
        refine rd_index u37 ty23 h29 (by omega) (by omega) fun b31 o31 h31 => ?_
        refine rd_load ty23 h31 hx2_ fun v32 h32 => ?_
        have hln33 := is_len h32
        refine rd_len u23 h32 ?_
        refine rd_sub (by unfold I64; omega) ?_
        refine rd_index u23 ty3 h27 (by omega) (by omega) fun b35 o35 h35 => ?_
        refine rd_loadI ty3 h35 hx2_ fun hI36 => ?_
        refine ⟨(hx1_.trans hx2_), ?_⟩
        unfold atOf
        rw [dif_pos (by omega)]
        rw [getLastD_eq (fun e => by rw [e] at c3; simp at c3)]


end Go.Proofs.Ytokppocbfpjngaa
