/-
  Small questions about states and lists: contracts of the program's and the reference's functions.
-/
import Derived.Test.YthieonacgnppiaaConv
import Derived.Lib.Bytealg
namespace Go.Proofs.Ythieonacgnppiaa
open Go Go.Sh Go.Proofs
set_option linter.unusedVariables false

def overIn (s : DState) : Prop := ∀ x ∈ s.stacks, x = []
instance (s : DState) : Decidable (overIn s) := inferInstanceAs (Decidable (∀ x ∈ s.stacks, x = []))
theorem over_not {s : DState} {i : Nat} (h : i < s.stacks.length) (c : 0 < (s.stacks[i].length : Int)) : ¬ overIn s := fun ho => by
  have := ho _ (List.getElem_mem h)
  rw [this] at c; simp at c
theorem over_step {s : DState} {k : Nat} (hk : k < s.stacks.length) (hinv : ∀ x ∈ s.stacks.take k, x = []) (c : ¬ 0 < (s.stacks[k].length : Int)) : ∀ x ∈ s.stacks.take (k + 1), x = [] := by
  intro x hx
  rw [List.take_succ_eq_append_getElem hk] at hx
  rcases List.mem_append.1 hx with hx | hx
  · exact hinv x hx
  · simp only [List.mem_cons, List.not_mem_nil, or_false] at hx
    subst hx
    exact List.eq_nil_of_length_eq_zero (by omega)
theorem over_all {s : DState} {k : Nat} (hk : s.stacks.length ≤ k) (hinv : ∀ x ∈ s.stacks.take k, x = []) : overIn s := by
  rw [List.take_of_length_le hk] at hinv; exact hinv
theorem specOverIn_ok {w : World} {v0 : Value} {W0 : World} {s : DState}  (h0 : Is W0 v0 s) (e0 : Ext W0 w)  :
    CALL Try.prog 28 [v0] w fun r w' => Ext w w' ∧ (r = .bool (decide (overIn s))) := by
  refine F28_call ?_
  unfold F28
  refine op_boxS ty45 rfl h0 e0 fun w1_ hx1_ hA1 hV1 => ?_
  refine loopC (s.stacks.length) (fun k us w' => us = [.int .i64 (k : Int)] ∧ Ext w1_ w' ∧ (∀ x ∈ s.stacks.take k, x = [])) (0) (by omega) ⟨by simp, Ext.refl w1_, by simp⟩ ?_
  rintro k m2 u2 w2_ hk2 ⟨hu, hx2_, hinv⟩
  simp only [List.map_cons, List.map_nil, List.cons.injEq, and_true] at hu
  try rw [hu]
  try clear hu
  refine rd_fld fd45_2 ?_
  refine rd_load ty40 (at_DState_2 hA1) hx2_ fun v6 h6 => ?_
  have hln7 := is_len h6
  refine rd_len u40 h6 ?_
  refine rd_lss ?_
  refine br (fun c1 => ?_) (fun c1 => ?_)
  · refine rd_fld fd45_2 ?_
    refine rd_load ty40 (at_DState_2 hA1) hx2_ fun v12 h12 => ?_
    refine rd_indexN u40 ty22 h12 (by omega) fun b14 o14 h14 => ?_
    refine rd_load ty22 h14 hx2_ fun v15 h15 => ?_
    have hln16 := is_len h15
    refine rd_len u22 h15 ?_
    refine rd_gtr ?_
    refine br (fun c2 => ?_) (fun c2 => ?_)
    · refine ⟨(hx1_.trans hx2_), ?_⟩
      simp [over_not (by omega) c2]
    · refine rd_inc (by omega) ?_
      refine ⟨m2 - 1, by omega, k + 1, by omega, by simp, hx2_, ?_⟩
      exact over_step (by omega) hinv c2
  · refine ⟨(hx1_.trans hx2_), ?_⟩
    simp [over_all (by omega) hinv]

theorem implOverIn_ok {w : World} {v0 : Value} {W0 : World} {s : DState}  (h0 : Is W0 v0 s) (e0 : Ext W0 w)  :
    CALL Try.prog 29 [v0] w fun r w' => Ext w w' ∧ (r = .bool (decide (overIn s))) := by
  refine F29_call ?_
  unfold F29
  refine op_boxS ty45 rfl h0 e0 fun w1_ hx1_ hA1 hV1 => ?_
  refine rd_fld fd45_2 ?_
  refine rd_load ty40 (at_DState_2 hA1) (Ext.refl w1_) fun v6 h6 => ?_
  have hln7 := is_len h6
  refine rd_len u40 h6 ?_
  refine loopC (s.stacks.length) (fun k us w' => us = [.int .i64 (k : Int)] ∧ Ext w1_ w' ∧ (∀ x ∈ s.stacks.take k, x = [])) (0) (by omega) ⟨by simp, Ext.refl w1_, by simp⟩ ?_
  rintro k m2 u2 w2_ hk2 ⟨hu, hx2_, hinv⟩
  simp only [List.map_cons, List.map_nil, List.cons.injEq, and_true] at hu
  try rw [hu]
  try clear hu
  refine rd_lss ?_
  refine br (fun c1 => ?_) (fun c1 => ?_)
  · refine rd_indexN u40 ty22 h6 (by omega) fun b10 o10 h10 => ?_
    refine rd_load ty22 h10 hx2_ fun v11 h11 => ?_
    have hln13 := is_len h11
    refine rd_len u22 h11 ?_
    refine rd_gtr ?_
    refine br (fun c2 => ?_) (fun c2 => ?_)
    · refine ⟨(hx1_.trans hx2_), ?_⟩
      simp [over_not (by omega) c2]
    · refine rd_inc (by omega) ?_
      refine ⟨m2 - 1, by omega, k + 1, by omega, by simp, hx2_, ?_⟩
      exact over_step (by omega) hinv c2
  · refine ⟨(hx1_.trans hx2_), ?_⟩
    simp [over_all (by omega) hinv]


theorem mem_take_succ {l : List Int} {k : Nat} {y : Int} (hk : k < l.length) (h : y ∉ l.take k) (c : ¬ l[k] = y) : y ∉ l.take (k + 1) := by
  rw [List.take_succ_eq_append_getElem hk]
  simp only [List.mem_append, List.mem_cons, List.not_mem_nil, or_false, not_or]
  exact ⟨h, fun e => c e.symm⟩
theorem l09Has_ok {w : World} {v0 : Value} {W0 : World} {l : (List Int)} {y : Int}  (h0 : Is W0 v0 l) (e0 : Ext W0 w)  :
    CALL Try.prog 46 [v0, .int .i64 y] w fun r w' => Ext w w' ∧ (r = .bool (decide (y ∈ l))) := by
  refine F46_call ?_
  unfold F46
  refine loopC (l.length) (fun k us w' => us = [.int .i64 (k : Int)] ∧ Ext w w' ∧ (y ∉ l.take k)) (0) (by omega) ⟨by simp, Ext.refl w, by simp⟩ ?_
  rintro k m2 u2 w1_ hk2 ⟨hu, hx1_, hinv⟩
  simp only [List.map_cons, List.map_nil, List.cons.injEq, and_true] at hu
  try rw [hu]
  try clear hu
  have hln8 := is_len h0
  refine rd_len u22 h0 ?_
  refine rd_lss ?_
  refine br (fun c1 => ?_) (fun c1 => ?_)
  · refine rd_indexN u22 ty3 h0 (by omega) fun b14 o14 h14 => ?_
    refine rd_loadI ty3 h14 (e0.trans hx1_) fun hI15 => ?_
    refine rd_eql ?_
    refine br (fun c2 => ?_) (fun c2 => ?_)
    · refine ⟨hx1_, ?_⟩
      have : y ∈ l := c2 ▸ List.getElem_mem _
      simp [this]
    · refine rd_inc (by omega) ?_
      refine ⟨m2 - 1, by omega, k + 1, by omega, by simp, hx1_, ?_⟩
      exact mem_take_succ (by omega) hinv c2
  · refine ⟨hx1_, ?_⟩
    rw [List.take_of_length_le (by omega)] at hinv
    simp [hinv]

theorem indexInt_ok {w : World} {v0 : Value} {W0 : World} {l : (List Int)} {y : Int}  (h0 : Is W0 v0 l) (e0 : Ext W0 w)  :
    CALL Try.prog 55 [v0, .int .i64 y] w fun r w' => Ext w w' ∧ (∃ n : Int, r = .int .i64 n ∧ (0 ≤ n ↔ y ∈ l)) := by
  refine F55_call ?_
  unfold F55
  have hln7 := is_len h0
  refine rd_len u22 h0 ?_
  refine loopC (l.length) (fun k us w' => us = [.int .i64 (k : Int)] ∧ Ext w w' ∧ (y ∉ l.take k)) (0) (by omega) ⟨by simp, Ext.refl w, by simp⟩ ?_
  rintro k m2 u2 w1_ hk2 ⟨hu, hx1_, hinv⟩
  simp only [List.map_cons, List.map_nil, List.cons.injEq, and_true] at hu
  try rw [hu]
  try clear hu
  refine rd_lss ?_
  refine br (fun c1 => ?_) (fun c1 => ?_)
  · refine rd_indexN u22 ty3 h0 (by omega) fun b14 o14 h14 => ?_
    refine rd_loadI ty3 h14 (e0.trans hx1_) fun hI15 => ?_
    refine rd_eql ?_
    refine br (fun c2 => ?_) (fun c2 => ?_)
    · refine ⟨hx1_, ?_⟩
      have : y ∈ l := c2 ▸ List.getElem_mem _
      exact ⟨_, rfl, by simp [this]⟩
    · refine rd_inc (by omega) ?_
      refine ⟨m2 - 1, by omega, k + 1, by omega, by simp, hx1_, ?_⟩
      exact mem_take_succ (by omega) hinv (fun e => c2 e.symm)
  · refine ⟨hx1_, ?_⟩
    rw [List.take_of_length_le (by omega)] at hinv
    exact ⟨-1, rfl, by simp [hinv]⟩

theorem containsInt_ok {w : World} {v0 : Value} {W0 : World} {l : (List Int)} {y : Int}  (h0 : Is W0 v0 l) (e0 : Ext W0 w)  :
    CALL Try.prog 47 [v0, .int .i64 y] w fun r w' => Ext w w' ∧ (r = .bool (decide (y ∈ l))) := by
  refine F47_call ?_
  unfold F47
  refine (indexInt_ok h0 e0).mono ?_
  rintro _ w1_ ⟨hx1_, n7, rfl, hn7⟩
  refine rd_geq ?_
  refine ⟨hx1_, ?_⟩
  simp [hn7]


/-- all locks stand in one of the rounds -/
def toldKnot (rounds : List (List Int)) (locks : List Int) : Prop := locks = [] ∨ ∃ r ∈ rounds, ∀ x ∈ locks, x ∈ r
instance (rounds : List (List Int)) (locks : List Int) : Decidable (toldKnot rounds locks) := inferInstanceAs (Decidable (locks = [] ∨ ∃ r ∈ rounds, ∀ x ∈ locks, x ∈ r))
theorem told_next {rounds : List (List Int)} {locks : List Int} {k : Nat} (hk : k < rounds.length) (h : ∀ r ∈ rounds.take k, ¬ ∀ x ∈ locks, x ∈ r) (c : ¬ ∀ x ∈ locks, x ∈ rounds[k]) : ∀ r ∈ rounds.take (k + 1), ¬ ∀ x ∈ locks, x ∈ r := by
  intro r hr
  rw [List.take_succ_eq_append_getElem hk] at hr
  rcases List.mem_append.1 hr with hr | hr
  · exact h r hr
  · simp only [List.mem_cons, List.not_mem_nil, or_false] at hr
    subst hr; exact c
theorem all_succ {l r : List Int} {j : Nat} (hj : j < l.length) : (∀ x ∈ l.take (j + 1), x ∈ r) ↔ (∀ x ∈ l.take j, x ∈ r) ∧ l[j] ∈ r := by
  rw [List.take_succ_eq_append_getElem hj]
  simp only [List.mem_append, List.mem_cons, List.not_mem_nil, or_false]
  constructor
  · intro h; exact ⟨fun x hx => h x (.inl hx), h _ (.inr rfl)⟩
  · rintro ⟨h1, h2⟩ x (hx | hx)
    · exact h1 x hx
    · subst hx; exact h2
theorem specToldKnot_ok {w : World} {v0 : Value} {W0 : World} {rounds : (List (List Int))} {v1 : Value} {W1 : World} {locks : (List Int)}  (h0 : Is W0 v0 rounds) (e0 : Ext W0 w) (h1 : Is W1 v1 locks) (e1 : Ext W1 w)  :
    CALL Try.prog 31 [v0, v1] w fun r w' => Ext w w' ∧ (r = .bool (decide (toldKnot rounds locks))) := by
  refine F31_call ?_
  unfold F31
  have hln9 := is_len h1
  refine rd_len u22 h1 ?_
  refine rd_eql ?_
  refine br (fun c1 => ?_) (fun c1 => ?_)
  · refine ⟨Ext.refl w, ?_⟩
    have : locks = [] := List.eq_nil_of_length_eq_zero (by omega)
    simp [toldKnot, this]
  · refine loopC (rounds.length) (fun k us w' => us = [.int .i64 (k : Int)] ∧ Ext w w' ∧ (∀ r ∈ rounds.take k, ¬ ∀ x ∈ locks, x ∈ r)) (0) (by omega) ⟨by simp, Ext.refl w, by simp⟩ ?_
    rintro k m4 u4 w1_ hk4 ⟨hu, hx1_, hinv⟩
    simp only [List.map_cons, List.map_nil, List.cons.injEq, and_true] at hu
    try rw [hu]
    try clear hu
    have hln13 := is_len h0
    refine rd_len u40 h0 ?_
    refine rd_lss ?_
    refine br (fun c2 => ?_) (fun c2 => ?_)
    · refine loopC (locks.length) (fun j us w' => ∃ q : Bool, us = [.bool q, .int .i64 (j : Int)] ∧ Ext w1_ w' ∧ (q = decide (∀ x ∈ locks.take j, x ∈ rounds[k]'(by omega)))) (0) (by omega) ⟨true, by simp, Ext.refl w1_, by simp⟩ ?_
      rintro j m8 u8 w2_ hk8 ⟨q, hu, hx2_, hq⟩
      simp only [List.map_cons, List.map_nil, List.cons.injEq, and_true] at hu
      obtain ⟨hu0, hu1⟩ := hu
      try rw [hu0]
      try rw [hu1]
      try clear hu0 hu1
      have hln19 := is_len h1
      refine rd_len u22 h1 ?_
      refine rd_lss ?_
      refine br (fun c3 => ?_) (fun c3 => ?_)
      · have hx3_ := ext_drew w2_
        refine br_b (fun c4 => ?_) (fun c4 => ?_)
        · refine rd_indexN u40 ty22 h0 (by omega) fun b27 o27 h27 => ?_
          refine rd_load ty22 h27 (e0.trans (hx1_.trans (hx2_.trans hx3_))) fun v28 h28 => ?_
          refine rd_indexN u22 ty3 h1 (by omega) fun b31 o31 h31 => ?_
          refine rd_loadI ty3 h31 (e1.trans (hx1_.trans (hx2_.trans hx3_))) fun hI32 => ?_
          refine (l09Has_ok h28 (e0.trans (hx1_.trans (hx2_.trans hx3_)))).mono ?_
          rintro _ w4_ ⟨hx4_, rfl⟩
          refine rd_inc (by omega) ?_
          refine ⟨m8 - 1, by omega, j + 1, by omega, _, rfl, (hx2_.trans (hx3_.trans hx4_)), ?_⟩
          rw [hq] at c4
          simp only [decide_eq_true_eq] at c4
          have hh : (∀ x ∈ locks.take (j + 1), x ∈ rounds[k]'(by omega)) ↔ locks[j]'(by omega) ∈ rounds[k]'(by omega) := by
            rw [all_succ (show j < locks.length by omega)]; exact ⟨And.right, fun h => ⟨c4, h⟩⟩
          simp [hh]
        · refine rd_inc (by omega) ?_
          refine ⟨m8 - 1, by omega, j + 1, by omega, false, by simp, (hx2_.trans hx3_), ?_⟩
          rw [hq] at c4
          simp only [decide_eq_false_iff_not] at c4
          have : ¬ ∀ x ∈ locks.take (j + 1), x ∈ rounds[k]'(by omega) := fun h => c4 ((all_succ (show j < locks.length by omega)).1 h).1
          simp [this]
      · refine br_b (fun c5 => ?_) (fun c5 => ?_)
        · refine ⟨(hx1_.trans hx2_), ?_⟩
          have : toldKnot rounds locks := by
            rw [hq, List.take_of_length_le (by omega)] at c5
            simp only [decide_eq_true_eq] at c5
            exact .inr ⟨_, List.getElem_mem _, c5⟩
          simp [this]
        · refine rd_inc (by omega) ?_
          refine ⟨m4 - 1, by omega, k + 1, by omega, by simp, (hx1_.trans hx2_), ?_⟩
          rw [hq, List.take_of_length_le (by omega)] at c5
          simp only [decide_eq_false_iff_not] at c5
          exact told_next (by omega) hinv c5
    · refine ⟨hx1_, ?_⟩
      rw [List.take_of_length_le (by omega)] at hinv
      have : ¬ toldKnot rounds locks := by
        rintro (h | ⟨r, hr, h⟩)
        · exact c1 (by rw [h]; rfl)
        · exact hinv r hr h
      simp [this]

theorem implToldKnot_ok {w : World} {v0 : Value} {W0 : World} {rounds : (List (List Int))} {v1 : Value} {W1 : World} {locks : (List Int)}  (h0 : Is W0 v0 rounds) (e0 : Ext W0 w) (h1 : Is W1 v1 locks) (e1 : Ext W1 w)  :
    CALL Try.prog 33 [v0, v1] w fun r w' => Ext w w' ∧ (r = .bool (decide (toldKnot rounds locks))) := by
  refine F33_call ?_
  unfold F33
  have hln11 := is_len h1
  refine rd_len u22 h1 ?_
  refine rd_eql ?_
  refine br (fun c1 => ?_) (fun c1 => ?_)
  · refine ⟨Ext.refl w, ?_⟩
    have : locks = [] := List.eq_nil_of_length_eq_zero (by omega)
    simp [toldKnot, this]
  · have hln14 := is_len h0
    refine rd_len u40 h0 ?_
    refine loopC (rounds.length) (fun k us w' => us = [.int .i64 (k : Int)] ∧ Ext w w' ∧ (∀ r ∈ rounds.take k, ¬ ∀ x ∈ locks, x ∈ r)) (0) (by omega) ⟨by simp, Ext.refl w, by simp⟩ ?_
    rintro k m4 u4 w1_ hk4 ⟨hu, hx1_, hinv⟩
    simp only [List.map_cons, List.map_nil, List.cons.injEq, and_true] at hu
    try rw [hu]
    try clear hu
    refine rd_lss ?_
    refine br (fun c2 => ?_) (fun c2 => ?_)
    · refine rd_indexN u40 ty22 h0 (by omega) fun b17 o17 h17 => ?_
      refine rd_load ty22 h17 (e0.trans hx1_) fun v18 h18 => ?_
      have hln20 := is_len h1
      refine rd_len u22 h1 ?_
      refine loopC (locks.length) (fun j us w' => ∃ q : Bool, us = [.bool q, .int .i64 (j : Int)] ∧ Ext w1_ w' ∧ (q = decide (∀ x ∈ locks.take j, x ∈ rounds[k]'(by omega)))) (0) (by omega) ⟨true, by simp, Ext.refl w1_, by simp⟩ ?_
      rintro j m8 u8 w2_ hk8 ⟨q, hu, hx2_, hq⟩
      simp only [List.map_cons, List.map_nil, List.cons.injEq, and_true] at hu
      obtain ⟨hu0, hu1⟩ := hu
      try rw [hu0]
      try rw [hu1]
      try clear hu0 hu1
      refine rd_lss ?_
      refine br (fun c3 => ?_) (fun c3 => ?_)
      · refine rd_indexN u22 ty3 h1 (by omega) fun b23 o23 h23 => ?_
        refine rd_loadI ty3 h23 (e1.trans (hx1_.trans hx2_)) fun hI24 => ?_
        refine (containsInt_ok h18 (e0.trans (hx1_.trans hx2_))).mono ?_
        rintro _ w3_ ⟨hx3_, rfl⟩
        refine rd_nodec ?_
        refine br (fun c4 => ?_) (fun c4 => ?_)
        · refine rd_inc (by omega) ?_
          refine ⟨m8 - 1, by omega, j + 1, by omega, false, by simp, (hx2_.trans hx3_), ?_⟩
          have : ¬ ∀ x ∈ locks.take (j + 1), x ∈ rounds[k]'(by omega) := fun h => c4 ((all_succ (show j < locks.length by omega)).1 h).2
          simp [this]
        · refine rd_inc (by omega) ?_
          refine ⟨m8 - 1, by omega, j + 1, by omega, q, by simp, (hx2_.trans hx3_), ?_⟩
          rw [hq]
          simp only [all_succ (show j < locks.length by omega), Decidable.not_not.1 c4, and_true]
      · refine br_b (fun c5 => ?_) (fun c5 => ?_)
        · refine ⟨(hx1_.trans hx2_), ?_⟩
          have : toldKnot rounds locks := by
            rw [hq, List.take_of_length_le (by omega)] at c5
            simp only [decide_eq_true_eq] at c5
            exact .inr ⟨_, List.getElem_mem _, c5⟩
          simp [this]
        · refine rd_inc (by omega) ?_
          refine ⟨m4 - 1, by omega, k + 1, by omega, by simp, (hx1_.trans hx2_), ?_⟩
          rw [hq, List.take_of_length_le (by omega)] at c5
          simp only [decide_eq_false_iff_not] at c5
          exact told_next (by omega) hinv c5
    · refine ⟨hx1_, ?_⟩
      rw [List.take_of_length_le (by omega)] at hinv
      have : ¬ toldKnot rounds locks := by
        rintro (h | ⟨r, hr, h⟩)
        · exact c1 (by rw [h]; rfl)
        · exact hinv r hr h
      simp [this]


theorem l22Same_ok {w : World} {v0 : Value} {W0 : World} {l1 : (List Int)} {v1 : Value} {W1 : World} {l2 : (List Int)}  (h0 : Is W0 v0 l1) (e0 : Ext W0 w) (h1 : Is W1 v1 l2) (e1 : Ext W1 w)  :
    CALL Try.prog 50 [v0, v1] w fun r w' => Ext w w' ∧ (r = .bool (decide (l1 = l2))) := by
  refine F50_call ?_
  unfold F50
  have hln7 := is_len h0
  refine rd_len u22 h0 ?_
  have hln9 := is_len h1
  refine rd_len u22 h1 ?_
  refine rd_neq ?_
  refine br (fun c1 => ?_) (fun c1 => ?_)
  · refine ⟨Ext.refl w, ?_⟩
    have : l1 ≠ l2 := fun e => c1 (by rw [e])
    simp [this]
  · refine loopC (l1.length) (fun k us w' => us = [.int .i64 (k : Int)] ∧ Ext w w' ∧ (l1.take k = l2.take k)) (0) (by omega) ⟨by simp, Ext.refl w, by simp⟩ ?_
    rintro k m4 u4 w1_ hk4 ⟨hu, hx1_, hinv⟩
    simp only [List.map_cons, List.map_nil, List.cons.injEq, and_true] at hu
    try rw [hu]
    try clear hu
    have hln13 := is_len h0
    refine rd_len u22 h0 ?_
    refine rd_lss ?_
    refine br (fun c2 => ?_) (fun c2 => ?_)
    · have hx2_ := ext_drew w1_
      refine rd_indexN u22 ty3 h0 (by omega) fun b19 o19 h19 => ?_
      refine rd_loadI ty3 h19 (e0.trans (hx1_.trans hx2_)) fun hI20 => ?_
      refine rd_indexN u22 ty3 h1 (by omega) fun b23 o23 h23 => ?_
      refine rd_loadI ty3 h23 (e1.trans (hx1_.trans hx2_)) fun hI24 => ?_
      refine rd_neq ?_
      refine br (fun c3 => ?_) (fun c3 => ?_)
      · refine ⟨(hx1_.trans hx2_), ?_⟩
        have : l1 ≠ l2 := fun e => c3 (by subst e; rfl)
        simp [this]
      · refine rd_inc (by omega) ?_
        refine ⟨m4 - 1, by omega, k + 1, by omega, by simp, (hx1_.trans hx2_), ?_⟩
        rw [List.take_succ_eq_append_getElem (by omega), List.take_succ_eq_append_getElem (by omega), hinv, Decidable.not_not.1 c3]
    · refine ⟨hx1_, ?_⟩
      rw [List.take_of_length_le (by omega), List.take_of_length_le (by omega)] at hinv
      simp [hinv]

theorem equalInt_ok {w : World} {v0 : Value} {W0 : World} {l1 : (List Int)} {v1 : Value} {W1 : World} {l2 : (List Int)}  (h0 : Is W0 v0 l1) (e0 : Ext W0 w) (h1 : Is W1 v1 l2) (e1 : Ext W1 w)  :
    CALL Try.prog 51 [v0, v1] w fun r w' => Ext w w' ∧ (r = .bool (decide (l1 = l2))) := by
  refine F51_call ?_
  unfold F51
  have hln7 := is_len h0
  refine rd_len u22 h0 ?_
  have hln9 := is_len h1
  refine rd_len u22 h1 ?_
  refine rd_neq ?_
  refine br (fun c1 => ?_) (fun c1 => ?_)
  · refine ⟨Ext.refl w, ?_⟩
    have : l1 ≠ l2 := fun e => c1 (by rw [e])
    simp [this]
  · have hln12 := is_len h0
    refine rd_len u22 h0 ?_
    refine loopC (l1.length) (fun k us w' => us = [.int .i64 (k : Int)] ∧ Ext w w' ∧ (l1.take k = l2.take k)) (0) (by omega) ⟨by simp, Ext.refl w, by simp⟩ ?_
    rintro k m4 u4 w1_ hk4 ⟨hu, hx1_, hinv⟩
    simp only [List.map_cons, List.map_nil, List.cons.injEq, and_true] at hu
    try rw [hu]
    try clear hu
    refine rd_lss ?_
    refine br (fun c2 => ?_) (fun c2 => ?_)
    · have hx2_ := ext_drew w1_
      refine rd_indexN u22 ty3 h0 (by omega) fun b18 o18 h18 => ?_
      refine rd_loadI ty3 h18 (e0.trans (hx1_.trans hx2_)) fun hI19 => ?_
      refine rd_indexN u22 ty3 h1 (by omega) fun b22 o22 h22 => ?_
      refine rd_loadI ty3 h22 (e1.trans (hx1_.trans hx2_)) fun hI23 => ?_
      refine rd_neq ?_
      refine br (fun c3 => ?_) (fun c3 => ?_)
      · refine ⟨(hx1_.trans hx2_), ?_⟩
        have : l1 ≠ l2 := fun e => c3 (by subst e; rfl)
        simp [this]
      · refine rd_inc (by omega) ?_
        refine ⟨m4 - 1, by omega, k + 1, by omega, by simp, (hx1_.trans hx2_), ?_⟩
        rw [List.take_succ_eq_append_getElem (by omega), List.take_succ_eq_append_getElem (by omega), hinv, Decidable.not_not.1 c3]
    · refine ⟨hx1_, ?_⟩
      rw [List.take_of_length_le (by omega), List.take_of_length_le (by omega)] at hinv
      simp [hinv]

theorem sameState1_ok {w : World} {v0 : Value} {W0 : World} {l1 : (List Int)} {v1 : Value} {W1 : World} {l2 : (List Int)}  (h0 : Is W0 v0 l1) (e0 : Ext W0 w) (h1 : Is W1 v1 l2) (e1 : Ext W1 w)  :
    CALL Try.prog 53 [v0, v1] w fun r w' => Ext w w' ∧ (r = .bool (decide (l1 = l2))) := by
  refine F53_call ?_
  unfold F53
  refine (equalInt_ok h0 e0 h1 e1).mono ?_
  rintro _ w1_ ⟨hx1_, rfl⟩
  refine ⟨hx1_, ?_⟩
  rfl

theorem opn_func {P : Program} {f : Nat} {args : List Value} {w : World} {K : Value → World → Prop} (hE : enters P f = true) (h : CALL P f args w K) : OPN P (callV (.func (.func f) #[] #[]) args) w K := by
  obtain ⟨h⟩ := h
  refine .enter f args.toArray w ?_ h
  simp [callV, Deferred.ofValue, invoke, run_callFunc hE]
theorem ent53 : enters Try.prog 53 = true := by kernel_rfl
theorem equalFunc_ok {w : World} {v0 : Value} {W0 : World} {l1 : (List (List Int))} {v1 : Value} {W1 : World} {l2 : (List (List Int))} {v2 : Value}  (h0 : Is W0 v0 l1) (e0 : Ext W0 w) (h1 : Is W1 v1 l2) (e1 : Ext W1 w) (hf : v2 = .func (.func 53) #[] #[]) :
    CALL Try.prog 52 [v0, v1, v2] w fun r w' => Ext w w' ∧ (r = .bool (decide (l1 = l2))) := by
  refine F52_call ?_
  unfold F52
  subst hf
  have hln11 := is_len h0
  refine rd_len u40 h0 ?_
  have hln13 := is_len h1
  refine rd_len u40 h1 ?_
  refine rd_neq ?_
  refine br (fun c1 => ?_) (fun c1 => ?_)
  · refine ⟨Ext.refl w, ?_⟩
    have : l1 ≠ l2 := fun e => c1 (by rw [e])
    simp [this]
  · have hln16 := is_len h0
    refine rd_len u40 h0 ?_
    refine loopC (l1.length) (fun k us w' => us = [.int .i64 (k : Int)] ∧ Ext w w' ∧ (l1.take k = l2.take k)) (0) (by omega) ⟨by simp, Ext.refl w, by simp⟩ ?_
    rintro k m4 u4 w1_ hk4 ⟨hu, hx1_, hinv⟩
    simp only [List.map_cons, List.map_nil, List.cons.injEq, and_true] at hu
    try rw [hu]
    try clear hu
    refine rd_lss ?_
    refine br (fun c2 => ?_) (fun c2 => ?_)
    · refine rd_indexN u40 ty22 h0 (by omega) fun b20 o20 h20 => ?_
      refine rd_load ty22 h20 (e0.trans hx1_) fun v21 h21 => ?_
      refine rd_indexN u40 ty22 h1 (by omega) fun b24 o24 h24 => ?_
      refine rd_load ty22 h24 (e1.trans hx1_) fun v25 h25 => ?_
      refine opn_func ent53 ((sameState1_ok h21 (e0.trans hx1_) h25 (e1.trans hx1_)).mono ?_)
      rintro _ w9 ⟨hx9, rfl⟩
      refine rd_nodec ?_
      refine br (fun c3 => ?_) (fun c3 => ?_)
      · refine ⟨(hx1_.trans hx9), ?_⟩
        have : l1 ≠ l2 := fun e => c3 (by subst e; rfl)
        simp [this]
      · refine rd_inc (by omega) ?_
        refine ⟨m4 - 1, by omega, k + 1, by omega, by simp, (hx1_.trans hx9), ?_⟩
        rw [List.take_succ_eq_append_getElem (by omega), List.take_succ_eq_append_getElem (by omega), hinv, Decidable.not_not.1 c3]
    · refine ⟨hx1_, ?_⟩
      rw [List.take_of_length_le (by omega), List.take_of_length_le (by omega)] at hinv
      simp [hinv]

theorem implSameState_ok {w : World} {v0 : Value} {W0 : World} {s1 : DState} {v1 : Value} {W1 : World} {s2 : DState}  (h0 : Is W0 v0 s1) (e0 : Ext W0 w) (h1 : Is W1 v1 s2) (e1 : Ext W1 w)  :
    CALL Try.prog 40 [v0, v1] w fun r w' => Ext w w' ∧ (r = .bool (decide (s1 = s2))) := by
  refine F40_call ?_
  unfold F40
  refine op_boxS ty45 rfl h0 e0 fun w1_ hx1_ hA2 hV2 => ?_
  refine op_boxS ty45 rfl h1 (e1.trans hx1_) fun w2_ hx2_ hA3 hV3 => ?_
  refine rd_fld fd45_0 ?_
  refine rd_load ty22 (at_DState_0 hA2) hx2_ fun v6 h6 => ?_
  refine rd_fld fd45_0 ?_
  refine rd_load ty22 (at_DState_0 hA3) (Ext.refl w2_) fun v8 h8 => ?_
  refine (equalInt_ok h6 hx2_ h8 (Ext.refl w2_)).mono ?_
  rintro _ w3_ ⟨hx3_, rfl⟩
  refine rd_nodec ?_
  refine br (fun c1 => ?_) (fun c1 => ?_)
  · refine ⟨(hx1_.trans (hx2_.trans hx3_)), ?_⟩
    have : s1 ≠ s2 := fun e => c1 (by rw [e])
    simp [this]
  · refine rd_fld fd45_1 ?_
    refine rd_load ty22 (at_DState_1 hA2) (hx2_.trans hx3_) fun v13 h13 => ?_
    refine rd_fld fd45_1 ?_
    refine rd_load ty22 (at_DState_1 hA3) hx3_ fun v15 h15 => ?_
    refine (equalInt_ok h13 (hx2_.trans hx3_) h15 hx3_).mono ?_
    rintro _ w4_ ⟨hx4_, rfl⟩
    refine rd_nodec ?_
    refine br (fun c2 => ?_) (fun c2 => ?_)
    · refine ⟨(hx1_.trans (hx2_.trans (hx3_.trans hx4_))), ?_⟩
      have : s1 ≠ s2 := fun e => c2 (by rw [e])
      simp [this]
    · refine rd_fld fd45_2 ?_
      refine rd_load ty40 (at_DState_2 hA2) (hx2_.trans (hx3_.trans hx4_)) fun v20 h20 => ?_
      refine rd_fld fd45_2 ?_
      refine rd_load ty40 (at_DState_2 hA3) (hx3_.trans hx4_) fun v22 h22 => ?_
      refine (equalFunc_ok h20 (hx2_.trans (hx3_.trans hx4_)) h22 (hx3_.trans hx4_) rfl).mono ?_
      rintro _ w5_ ⟨hx5_, rfl⟩
      refine ⟨(hx1_.trans (hx2_.trans (hx3_.trans (hx4_.trans hx5_)))), ?_⟩
      have : s1 = s2 ↔ s1.stacks = s2.stacks := by
        constructor
        · intro e; rw [e]
        · intro e
          cases s1; cases s2
          simp only [Decidable.not_not] at c1 c2 e
          rw [c1, c2, e]
      simp [this]

theorem specSameState_ok {w : World} {v0 : Value} {W0 : World} {s1 : DState} {v1 : Value} {W1 : World} {s2 : DState}  (h0 : Is W0 v0 s1) (e0 : Ext W0 w) (h1 : Is W1 v1 s2) (e1 : Ext W1 w)  :
    CALL Try.prog 39 [v0, v1] w fun r w' => Ext w w' ∧ (r = .bool (decide (s1 = s2))) := by
  refine F39_call ?_
  unfold F39
  refine op_boxS ty45 rfl h0 e0 fun w1_ hx1_ hA2 hV2 => ?_
  refine op_boxS ty45 rfl h1 (e1.trans hx1_) fun w2_ hx2_ hA3 hV3 => ?_
  refine rd_fld fd45_0 ?_
  refine rd_load ty22 (at_DState_0 hA2) hx2_ fun v7 h7 => ?_
  refine rd_fld fd45_0 ?_
  refine rd_load ty22 (at_DState_0 hA3) (Ext.refl w2_) fun v9 h9 => ?_
  refine (l22Same_ok h7 hx2_ h9 (Ext.refl w2_)).mono ?_
  rintro _ w3_ ⟨hx3_, rfl⟩
  refine rd_nodec ?_
  refine br (fun c1 => ?_) (fun c1 => ?_)
  · refine ⟨(hx1_.trans (hx2_.trans hx3_)), ?_⟩
    have : s1 ≠ s2 := fun e => c1 (by rw [e])
    simp [this]
  · refine rd_fld fd45_1 ?_
    refine rd_load ty22 (at_DState_1 hA2) (hx2_.trans hx3_) fun v14 h14 => ?_
    refine rd_fld fd45_1 ?_
    refine rd_load ty22 (at_DState_1 hA3) hx3_ fun v16 h16 => ?_
    refine (l22Same_ok h14 (hx2_.trans hx3_) h16 hx3_).mono ?_
    rintro _ w4_ ⟨hx4_, rfl⟩
    refine rd_nodec ?_
    refine br (fun c2 => ?_) (fun c2 => ?_)
    · refine ⟨(hx1_.trans (hx2_.trans (hx3_.trans hx4_))), ?_⟩
      have : s1 ≠ s2 := fun e => c2 (by rw [e])
      simp [this]
    · refine rd_fld fd45_2 ?_
      refine rd_load ty40 (at_DState_2 hA2) (hx2_.trans (hx3_.trans hx4_)) fun v22 h22 => ?_
      have hln23 := is_len h22
      refine rd_len u40 h22 ?_
      refine rd_fld fd45_2 ?_
      refine rd_load ty40 (at_DState_2 hA3) (hx3_.trans hx4_) fun v25 h25 => ?_
      have hln26 := is_len h25
      refine rd_len u40 h25 ?_
      refine rd_neq ?_
      refine br (fun c3 => ?_) (fun c3 => ?_)
      · refine ⟨(hx1_.trans (hx2_.trans (hx3_.trans hx4_))), ?_⟩
        have : s1 ≠ s2 := fun e => c3 (by rw [e])
        simp [this]
      · refine loopC (s1.stacks.length) (fun k us w' => us = [.int .i64 (k : Int)] ∧ Ext w4_ w' ∧ (s1.stacks.take k = s2.stacks.take k)) (0) (by omega) ⟨by simp, Ext.refl w4_, by simp⟩ ?_
        rintro k m4 u4 w5_ hk4 ⟨hu, hx5_, hinv⟩
        simp only [List.map_cons, List.map_nil, List.cons.injEq, and_true] at hu
        try rw [hu]
        try clear hu
        refine rd_fld fd45_2 ?_
        refine rd_load ty40 (at_DState_2 hA2) (hx2_.trans (hx3_.trans (hx4_.trans hx5_))) fun v31 h31 => ?_
        have hln32 := is_len h31
        refine rd_len u40 h31 ?_
        refine rd_lss ?_
        refine br (fun c4 => ?_) (fun c4 => ?_)
        · have hx6_ := ext_drew w5_
          refine rd_fld fd45_2 ?_
          refine rd_load ty40 (at_DState_2 hA2) (hx2_.trans (hx3_.trans (hx4_.trans (hx5_.trans hx6_)))) fun v37 h37 => ?_
          refine rd_indexN u40 ty22 h37 (by omega) fun b39 o39 h39 => ?_
          refine rd_load ty22 h39 (hx2_.trans (hx3_.trans (hx4_.trans (hx5_.trans hx6_)))) fun v40 h40 => ?_
          refine rd_fld fd45_2 ?_
          refine rd_load ty40 (at_DState_2 hA3) (hx3_.trans (hx4_.trans (hx5_.trans hx6_))) fun v42 h42 => ?_
          refine rd_indexN u40 ty22 h42 (by omega) fun b44 o44 h44 => ?_
          refine rd_load ty22 h44 (hx3_.trans (hx4_.trans (hx5_.trans hx6_))) fun v45 h45 => ?_
          refine (l22Same_ok h40 (hx2_.trans (hx3_.trans (hx4_.trans (hx5_.trans hx6_)))) h45 (hx3_.trans (hx4_.trans (hx5_.trans hx6_)))).mono ?_
          rintro _ w7_ ⟨hx7_, rfl⟩
          refine rd_nodec ?_
          refine br (fun c5 => ?_) (fun c5 => ?_)
          · refine ⟨(hx1_.trans (hx2_.trans (hx3_.trans (hx4_.trans (hx5_.trans (hx6_.trans hx7_)))))), ?_⟩
            have : s1 ≠ s2 := fun e => c5 (by subst e; rfl)
            simp [this]
          · refine rd_inc (by omega) ?_
            refine ⟨m4 - 1, by omega, k + 1, by omega, by simp, (hx5_.trans (hx6_.trans hx7_)), ?_⟩
            rw [List.take_succ_eq_append_getElem (by omega), List.take_succ_eq_append_getElem (by omega), hinv, Decidable.not_not.1 c5]
        · refine ⟨(hx1_.trans (hx2_.trans (hx3_.trans (hx4_.trans hx5_)))), ?_⟩
          rw [List.take_of_length_le (by omega), List.take_of_length_le (by omega)] at hinv
          have : s1 = s2 := by
            cases s1; cases s2
            simp only [Decidable.not_not] at c1 c2 hinv
            rw [c1, c2, hinv]
          simp [this]


/-- the locks whose owner is t, the first k of them, as bits -/
def heldTo (l : List Int) (t : Int) : Nat → Nat
  | 0 => 0
  | k + 1 => if k < 6 ∧ l[k]? = some t then heldTo l t k ||| 2 ^ k else heldTo l t k
theorem heldTo_lt (l : List Int) (t : Int) (k : Nat) : heldTo l t k < 64 := by
  induction k with
  | zero => simp [heldTo]
  | succ k ih =>
    unfold heldTo
    split
    · rename_i h
      have h1 : 2 ^ k < 2 ^ 6 := Nat.pow_lt_pow_right (by omega) h.1
      exact Nat.or_lt_two_pow (n := 6) ih h1
    · exact ih
theorem heldTo_six (l : List Int) (t : Int) (k : Nat) (h : 6 ≤ k) : heldTo l t k = heldTo l t 6 := by
  induction k with
  | zero => omega
  | succ k ih =>
    by_cases hk : k = 5
    · subst hk; rfl
    · show (if k < 6 ∧ l[k]? = some t then heldTo l t k ||| 2 ^ k else heldTo l t k) = _
      rw [if_neg (by omega), ih (by omega)]
theorem heldTo_past (l : List Int) (t : Int) (k : Nat) (h : l.length ≤ k) : heldTo l t k = heldTo l t l.length := by
  induction k with
  | zero => rw [Nat.le_zero.1 h]
  | succ k ih =>
    by_cases hk : l.length = k + 1
    · rw [hk]
    · have h1 := ih (by omega)
      show (if k < 6 ∧ l[k]? = some t then heldTo l t k ||| 2 ^ k else heldTo l t k) = _
      rw [if_neg, h1]
      rw [List.getElem?_eq_none (by omega)]; simp
def heldBy (s : DState) (t : Int) : Nat := if t < 0 then 0 else heldTo s.owner t s.owner.length
theorem l12Bit_ok {w : World} {i : Nat}   (hi : i < 6) :
    CALL Try.prog 48 [.int .i64 (i : Int)] w fun r w' => Ext w w' ∧ (r = .int .i64 ((2 ^ i : Nat) : Int)) := by
  refine F48_call ?_
  unfold F48
  refine rd_uint (by kernel_rfl) u62 (by omega) ?_
  refine rd_shl1 (by omega) ?_
  refine ⟨Ext.refl w, ?_⟩
  rfl

theorem specHeldBy_ok {w : World} {v0 : Value} {W0 : World} {s : DState} {t : Int}  (h0 : Is W0 v0 s) (e0 : Ext W0 w)  :
    CALL Try.prog 35 [v0, .int .i64 t] w fun r w' => Ext w w' ∧ (r = .int .i64 (heldBy s t : Int)) := by
  refine F35_call ?_
  unfold F35
  refine op_boxS ty45 rfl h0 e0 fun w1_ hx1_ hA2 hV2 => ?_
  refine loopC (min s.owner.length 6) (fun k us w' => us = [.int .i64 (heldTo s.owner t k : Int), .int .i64 (k : Int)] ∧ Ext w1_ w' ∧ (k = 0 ∨ 0 ≤ t)) (0) (by omega) ⟨by simp [heldTo], Ext.refl w1_, .inl rfl⟩ ?_
  rintro k m3 u3 w2_ hk3 ⟨hu, hx2_, hinv⟩
  simp only [List.map_cons, List.map_nil, List.cons.injEq, and_true] at hu
  obtain ⟨hu0, hu1⟩ := hu
  try rw [hu0]
  try rw [hu1]
  try clear hu0 hu1
  have hlt := heldTo_lt s.owner t k
  refine rd_geq ?_
  refine br (fun c1 => ?_) (fun c1 => ?_)
  · refine rd_fld fd45_1 ?_
    refine rd_load ty22 (at_DState_1 hA2) hx2_ fun v12 h12 => ?_
    have hln13 := is_len h12
    refine rd_len u22 h12 ?_
    refine rd_lss ?_
    refine br (fun c2 => ?_) (fun c2 => ?_)
    · refine rd_lss ?_
      refine br (fun c3 => ?_) (fun c3 => ?_)
      · refine rd_fld fd45_1 ?_
        refine rd_load ty22 (at_DState_1 hA2) hx2_ fun v23 h23 => ?_
        refine rd_indexN u22 ty3 h23 (by omega) fun b25 o25 h25 => ?_
        refine rd_loadI ty3 h25 hx2_ fun hI26 => ?_
        refine rd_eql ?_
        refine br (fun c4 => ?_) (fun c4 => ?_)
        · refine (l12Bit_ok (by omega)).mono ?_
          rintro _ w3_ ⟨hx3_, rfl⟩
          refine rd_or (by omega) (by have : 2 ^ k < 2 ^ 6 := Nat.pow_lt_pow_right (by omega) (by omega); omega) ?_
          refine rd_inc (by omega) ?_
          refine ⟨m3 - 1, by omega, k + 1, by omega, by rw [heldTo, if_pos ⟨by omega, by rw [List.getElem?_eq_getElem (by omega), c4]⟩], (hx2_.trans hx3_), ?_⟩
          exact .inr c1
        · refine rd_inc (by omega) ?_
          refine ⟨m3 - 1, by omega, k + 1, by omega, by rw [heldTo, if_neg (by rw [List.getElem?_eq_getElem (by omega)]; simp only [Option.some.injEq]; exact fun h => c4 h.2)], hx2_, ?_⟩
          exact .inr c1
      · refine ⟨(hx1_.trans hx2_), ?_⟩
        unfold heldBy
        rw [if_neg (by omega), heldTo_six _ _ _ (show 6 ≤ s.owner.length by omega), show k = 6 by omega]
    · refine ⟨(hx1_.trans hx2_), ?_⟩
      unfold heldBy
      rw [if_neg (by omega), show k = s.owner.length by omega]
  · refine ⟨(hx1_.trans hx2_), ?_⟩
    have : k = 0 := by omega
    subst this
    unfold heldBy
    rw [if_pos (by omega)]; rfl

theorem implHeldBy_ok {w : World} {v0 : Value} {W0 : World} {s : DState} {t : Int}  (h0 : Is W0 v0 s) (e0 : Ext W0 w)  :
    CALL Try.prog 36 [v0, .int .i64 t] w fun r w' => Ext w w' ∧ (r = .int .i64 (heldBy s t : Int)) := by
  refine F36_call ?_
  unfold F36
  refine op_boxS ty45 rfl h0 e0 fun w1_ hx1_ hA2 hV2 => ?_
  refine rd_lss ?_
  refine br (fun c1 => ?_) (fun c1 => ?_)
  · refine ⟨hx1_, ?_⟩
    unfold heldBy
    rw [if_pos c1]; rfl
  · refine rd_fld fd45_1 ?_
    refine rd_load ty22 (at_DState_1 hA2) (Ext.refl w1_) fun v11 h11 => ?_
    have hln12 := is_len h11
    refine rd_len u22 h11 ?_
    refine loopC (s.owner.length) (fun k us w' => us = [.int .i64 (heldTo s.owner t k : Int), .int .i64 (k : Int)] ∧ Ext w1_ w' ∧ (True)) (0) (by omega) ⟨by simp [heldTo], Ext.refl w1_, trivial⟩ ?_
    rintro k m5 u5 w2_ hk5 ⟨hu, hx2_, hinv⟩
    simp only [List.map_cons, List.map_nil, List.cons.injEq, and_true] at hu
    obtain ⟨hu0, hu1⟩ := hu
    try rw [hu0]
    try rw [hu1]
    try clear hu0 hu1
    have hlt := heldTo_lt s.owner t k
    refine rd_lss ?_
    refine br (fun c2 => ?_) (fun c2 => ?_)
    · refine rd_indexN u22 ty3 h11 (by omega) fun b16 o16 h16 => ?_
      refine rd_loadI ty3 h16 hx2_ fun hI17 => ?_
      refine rd_lss ?_
      refine br (fun c3 => ?_) (fun c3 => ?_)
      · refine rd_eql ?_
        refine br (fun c4 => ?_) (fun c4 => ?_)
        · refine rd_uint (by kernel_rfl) u62 (by omega) ?_
          refine rd_shl1 (by omega) ?_
          refine rd_or (by omega) (by have : 2 ^ k < 2 ^ 6 := Nat.pow_lt_pow_right (by omega) (by omega); omega) ?_
          refine rd_inc (by omega) ?_
          refine ⟨m5 - 1, by omega, k + 1, by omega, by rw [heldTo, if_pos ⟨by omega, by rw [List.getElem?_eq_getElem (by omega), c4]⟩], hx2_, ?_⟩
          trivial
        · refine rd_inc (by omega) ?_
          refine ⟨m5 - 1, by omega, k + 1, by omega, by rw [heldTo, if_neg (by rw [List.getElem?_eq_getElem (by omega)]; simp only [Option.some.injEq]; exact fun h => c4 h.2)], hx2_, ?_⟩
          trivial
      · refine rd_inc (by omega) ?_
        refine ⟨m5 - 1, by omega, k + 1, by omega, by rw [heldTo, if_neg (by omega)], hx2_, ?_⟩
        trivial
    · refine ⟨(hx1_.trans hx2_), ?_⟩
      unfold heldBy
      rw [if_neg (by omega), show k = s.owner.length by omega]


/-- how many bytes 10 -/
def linesIn (s : ByteArray) : Nat := (bts s).count 10
theorem count_take {l : List UInt8} {k : Nat} (hk : k < l.length) : (l.take (k + 1)).count 10 = (l.take k).count 10 + if ((l[k].toNat : Int) = 10) then 1 else 0 := by
  rw [List.take_succ_eq_append_getElem hk, List.count_append, List.count_singleton]
  congr 1
  have : (l[k] == 10) = decide ((l[k].toNat : Int) = 10) := by
    rw [Bool.eq_iff_iff]
    simp only [beq_iff_eq, decide_eq_true_eq]
    constructor
    · intro h; rw [h]; rfl
    · intro h; exact UInt8.toNat_inj.1 (by have : (10 : UInt8).toNat = 10 := rfl; omega)
  by_cases h : (l[k].toNat : Int) = 10 <;> simp [this, h]
theorem specLinesIn_ok {w : World} {s : ByteArray}   (hs : s.size ≤ 1048576) :
    CALL Try.prog 37 [.string s] w fun r w' => Ext w w' ∧ (r = .int .i64 (linesIn s : Int)) := by
  refine F37_call ?_
  unfold F37
  refine loopC (s.size) (fun k us w' => us = [.int .i64 (((bts s).take k).count 10 : Int), .int .i64 (k : Int)] ∧ Ext w w' ∧ (True)) (0) (by omega) ⟨by simp, Ext.refl w, trivial⟩ ?_
  rintro k m3 u3 w1_ hk3 ⟨hu, hx1_, hinv⟩
  simp only [List.map_cons, List.map_nil, List.cons.injEq, and_true] at hu
  obtain ⟨hu0, hu1⟩ := hu
  try rw [hu0]
  try rw [hu1]
  try clear hu0 hu1
  have hcl : ((bts s).take k).count 10 ≤ k := Nat.le_trans List.count_le_length (List.length_take_le _ _)
  refine rd_lenS u9 ?_
  refine rd_lss ?_
  refine br (fun c1 => ?_) (fun c1 => ?_)
  · refine rd_indexS u9 (by omega) ?_
    refine rd_eql ?_
    refine br (fun c2 => ?_) (fun c2 => ?_)
    · refine rd_inc (by omega) ?_
      refine rd_inc (by omega) ?_
      refine ⟨m3 - 1, by omega, k + 1, by omega, by rw [count_take (by rw [bts_len]; omega), if_pos c2], hx1_, ?_⟩
      trivial
    · refine rd_inc (by omega) ?_
      refine ⟨m3 - 1, by omega, k + 1, by omega, by rw [count_take (by rw [bts_len]; omega), if_neg c2]; simp, hx1_, ?_⟩
      trivial
  · refine ⟨hx1_, ?_⟩
    unfold linesIn
    rw [List.take_of_length_le (by rw [bts_len]; omega)]

theorem strCount_ok {w : World} {s : ByteArray} (hs : s.size ≤ 1048576) :
    CALL Try.prog 49 [.string s, .string (ByteArray.mk #[10])] w fun r w' => Ext w w' ∧ r = .int .i64 (linesIn s : Int) := by
  refine F49_call ?_
  unfold F49
  refine rd_lenS u9 ?_
  refine rd_eql ?_
  refine br (fun h => absurd h (by decide)) (fun _ => ?_)
  refine rd_lenS u9 ?_
  refine rd_eql ?_
  refine br (fun _ => ?_) (fun h => absurd rfl h)
  refine rd_indexS (i := 0) u9 (by decide) ?_
  refine OPN.value (.int .i64 (linesIn s : Int)) w ?_ ⟨Ext.refl w, rfl⟩
  rw [run_callFunc_extern (e := Extern.BytealgCount.count) Try.func57 (by kernel_rfl) (by kernel_rfl) (by kernel_rfl) (by kernel_rfl)]
  show ((Extern.BytealgCount.count #[.string s, .int .u8 10]).run Try.prog w).andThen _ = _
  rw [Lib.run_countString]
  rfl
theorem implLinesIn_ok {w : World} {s : ByteArray}   (hs : s.size ≤ 1048576) :
    CALL Try.prog 38 [.string s] w fun r w' => Ext w w' ∧ (r = .int .i64 (linesIn s : Int)) := by
  refine F38_call ?_
  unfold F38
  refine (strCount_ok (by omega)).mono ?_
  rintro _ w1_ ⟨hx1_, rfl⟩
  refine ⟨hx1_, ?_⟩
  rfl


theorem rd_eqlDRace {w w0 w1 : World} {K : Value → Prop} {x y : Operand} {v1 v2 : Value} {a b : DRace} (h1 : Is w0 v1 a) (h2 : Is w1 v2 b) (k : K (.bool (decide (a = b)))) : RD Try.prog (bin .eql 36 x y v1 v2) w K := by
  obtain ⟨rfl, _⟩ := is_race.1 h1
  obtain ⟨rfl, _⟩ := is_race.1 h2
  refine rd_of (fun w' _ => ?_) k
  have hg : Try.prog.eqGuardType Try.prog.depth 36 = false := by kernel_rfl
  have e0 : ∀ xs ys w, (eqGuard .eql 36 x y (.agg xs) (.agg ys)).run Try.prog w = .ok () w := fun xs ys w => run_eqGuard_agg (P := Try.prog) w .eql 36 x y xs ys hg
  have e1 : ∀ xs ys w, (Op.equalIn 10000 36 (.agg xs) (.agg ys)).run Try.prog w = (Op.eqFields 9999 xs ys (Try.prog.fieldsOf 36).toList).run Try.prog w := fun xs ys w => run_equalIn_struct w 9999 36 xs ys (by kernel_rfl) (by kernel_rfl)
  have e2 : (Try.prog.fieldsOf 36).toList.map (fun f => (f.name, f.type, f.offset)) = [("Global", 3, 0), ("A", 3, 1), ("B", 3, 2)] := by kernel_rfl
  have e3 : ∀ (c d : Int) (w : World), (Op.equalIn 9999 3 (.int .i64 c) (.int .i64 d)).run Try.prog w = .ok (c == d) w := fun c d w => run_equalIn_int w 9998 3 .i64 .i64 c d u3
  have hd : (a = b) ↔ (a.g = b.g ∧ a.a = b.a ∧ a.b = b.b) := ⟨fun e => by rw [e]; exact ⟨rfl, rfl, rfl⟩, fun ⟨x, y, z⟩ => by cases a; cases b; simp only at x y z; rw [x, y, z]⟩
  generalize hF : (Try.prog.fieldsOf 36).toList = fs at e1 e2
  match fs, e2 with
  | [f0, f1, f2], e2 =>
    simp only [List.map_cons, List.map_nil, List.cons.injEq, Prod.mk.injEq, and_true] at e2
    obtain ⟨⟨n0, t0, o0⟩, ⟨n1, t1, o1⟩, ⟨n2, t2, o2⟩⟩ := e2
    have p0 : ∀ (a b c : Value) (w : World), (part 3 #[a, b, c] 0).run Try.prog w = .ok a w := fun a b c w => by simp [part, run_isAgg ty3]
    have p1 : ∀ (a b c : Value) (w : World), (part 3 #[a, b, c] 1).run Try.prog w = .ok b w := fun a b c w => by simp [part, run_isAgg ty3]
    have p2 : ∀ (a b c : Value) (w : World), (part 3 #[a, b, c] 2).run Try.prog w = .ok c w := fun a b c w => by simp [part, run_isAgg ty3]
    simp only [bin, Sem.run_bind, e0, Result.andThen_ok, run_eql_struct, e1, Op.eqFields, n0, n1, n2, t0, t1, t2, o0, o1, o2]
    simp only [ne_eq, String.reduceEq, not_false_eq_true, if_true, Sem.run_bind, p0, p1, p2, Result.andThen_ok, e3, Sem.run_ite, Sem.run_pure, hd]
    by_cases x0 : a.g = b.g <;> by_cases x1 : a.a = b.a <;> by_cases x2 : a.b = b.b <;> simp [x0, x1, x2]
theorem mem_take_succR {l : List DRace} {k : Nat} {y : DRace} (hk : k < l.length) (h : y ∉ l.take k) (c : ¬ l[k] = y) : y ∉ l.take (k + 1) := by
  rw [List.take_succ_eq_append_getElem hk]
  simp only [List.mem_append, List.mem_cons, List.not_mem_nil, or_false, not_or]
  exact ⟨h, fun e => c e.symm⟩
theorem specToldRace_ok {w : World} {v0 : Value} {W0 : World} {l : (List DRace)} {v1 : Value} {W1 : World} {y : DRace}  (h0 : Is W0 v0 l) (e0 : Ext W0 w) (h1 : Is W1 v1 y) (e1 : Ext W1 w)  :
    CALL Try.prog 18 [v0, v1] w fun r w' => Ext w w' ∧ (r = .bool (decide (y ∈ l))) := by
  refine F18_call ?_
  unfold F18
  refine op_boxS ty36 rfl h1 e1 fun w1_ hx1_ hA3 hV3 => ?_
  refine loopC (l.length) (fun k us w' => us = [.int .i64 (k : Int)] ∧ Ext w1_ w' ∧ (y ∉ l.take k)) (0) (by omega) ⟨by simp, Ext.refl w1_, by simp⟩ ?_
  rintro k m2 u2 w2_ hk2 ⟨hu, hx2_, hinv⟩
  simp only [List.map_cons, List.map_nil, List.cons.injEq, and_true] at hu
  try rw [hu]
  try clear hu
  have hln8 := is_len h0
  refine rd_len u34 h0 ?_
  refine rd_lss ?_
  refine br (fun c1 => ?_) (fun c1 => ?_)
  · have hx3_ := ext_drew w2_
    refine rd_indexN u34 ty36 h0 (by omega) fun b14 o14 h14 => ?_
    refine rd_load ty36 h14 (e0.trans (hx1_.trans (hx2_.trans hx3_))) fun v15 h15 => ?_
    refine rd_var hV3 (hx2_.trans hx3_) ?_
    refine rd_eqlDRace h15 h1 ?_
    refine br (fun c2 => ?_) (fun c2 => ?_)
    · refine ⟨(hx1_.trans (hx2_.trans hx3_)), ?_⟩
      have : y ∈ l := c2 ▸ List.getElem_mem _
      simp [this]
    · refine rd_inc (by omega) ?_
      refine ⟨m2 - 1, by omega, k + 1, by omega, by simp, (hx2_.trans hx3_), ?_⟩
      exact mem_take_succR (by omega) hinv c2
  · refine ⟨(hx1_.trans hx2_), ?_⟩
    rw [List.take_of_length_le (by omega)] at hinv
    simp [hinv]

theorem indexRace_ok {w : World} {v0 : Value} {W0 : World} {l : (List DRace)} {v1 : Value} {W1 : World} {y : DRace}  (h0 : Is W0 v0 l) (e0 : Ext W0 w) (h1 : Is W1 v1 y) (e1 : Ext W1 w)  :
    CALL Try.prog 54 [v0, v1] w fun r w' => Ext w w' ∧ (∃ n : Int, r = .int .i64 n ∧ (0 ≤ n ↔ y ∈ l)) := by
  refine F54_call ?_
  unfold F54
  refine op_boxS ty36 rfl h1 e1 fun w1_ hx1_ hA3 hV3 => ?_
  have hln7 := is_len h0
  refine rd_len u34 h0 ?_
  refine loopC (l.length) (fun k us w' => us = [.int .i64 (k : Int)] ∧ Ext w1_ w' ∧ (y ∉ l.take k)) (0) (by omega) ⟨by simp, Ext.refl w1_, by simp⟩ ?_
  rintro k m2 u2 w2_ hk2 ⟨hu, hx2_, hinv⟩
  simp only [List.map_cons, List.map_nil, List.cons.injEq, and_true] at hu
  try rw [hu]
  try clear hu
  refine rd_lss ?_
  refine br (fun c1 => ?_) (fun c1 => ?_)
  · have hx3_ := ext_drew w2_
    refine rd_var hV3 (hx2_.trans hx3_) ?_
    refine rd_indexN u34 ty36 h0 (by omega) fun b14 o14 h14 => ?_
    refine rd_load ty36 h14 (e0.trans (hx1_.trans (hx2_.trans hx3_))) fun v15 h15 => ?_
    refine rd_eqlDRace h1 h15 ?_
    refine br (fun c2 => ?_) (fun c2 => ?_)
    · refine ⟨(hx1_.trans (hx2_.trans hx3_)), ?_⟩
      have : y ∈ l := c2 ▸ List.getElem_mem _
      exact ⟨_, rfl, by simp [this]⟩
    · refine rd_inc (by omega) ?_
      refine ⟨m2 - 1, by omega, k + 1, by omega, by simp, (hx2_.trans hx3_), ?_⟩
      exact mem_take_succR (by omega) hinv (fun e => c2 e.symm)
  · refine ⟨(hx1_.trans hx2_), ?_⟩
    rw [List.take_of_length_le (by omega)] at hinv
    exact ⟨-1, rfl, by simp [hinv]⟩

theorem containsRace_ok {w : World} {v0 : Value} {W0 : World} {l : (List DRace)} {v1 : Value} {W1 : World} {y : DRace}  (h0 : Is W0 v0 l) (e0 : Ext W0 w) (h1 : Is W1 v1 y) (e1 : Ext W1 w)  :
    CALL Try.prog 42 [v0, v1] w fun r w' => Ext w w' ∧ (r = .bool (decide (y ∈ l))) := by
  refine F42_call ?_
  unfold F42
  refine op_boxS ty36 rfl h1 e1 fun w1_ hx1_ hA3 hV3 => ?_
  refine rd_var hV3 (Ext.refl w1_) ?_
  refine (indexRace_ok h0 (e0.trans hx1_) h1 (e1.trans hx1_)).mono ?_
  rintro _ w2_ ⟨hx2_, n7, rfl, hn7⟩
  refine rd_geq ?_
  refine ⟨(hx1_.trans hx2_), ?_⟩
  simp [hn7]

theorem implToldRace_ok {w : World} {v0 : Value} {W0 : World} {l : (List DRace)} {v1 : Value} {W1 : World} {y : DRace}  (h0 : Is W0 v0 l) (e0 : Ext W0 w) (h1 : Is W1 v1 y) (e1 : Ext W1 w)  :
    CALL Try.prog 21 [v0, v1] w fun r w' => Ext w w' ∧ (r = .bool (decide (y ∈ l))) := by
  refine F21_call ?_
  unfold F21
  refine op_boxS ty36 rfl h1 e1 fun w1_ hx1_ hA3 hV3 => ?_
  refine rd_var hV3 (Ext.refl w1_) ?_
  refine (containsRace_ok h0 (e0.trans hx1_) h1 (e1.trans hx1_)).mono ?_
  rintro _ w2_ ⟨hx2_, rfl⟩
  refine ⟨(hx1_.trans hx2_), ?_⟩
  rfl

end Go.Proofs.Ythieonacgnppiaa
