/-
  A step leaves a right state; a program begins in one.
-/
import Derived.Test.YteephmhilnlkpaaGreatStep
import Derived.Test.YteephmhilnlkpaaGreatStart
namespace Go.Proofs.YteephmhilnlkpaaGreat
open Go Go.Sh Go.Proofs
set_option linter.unusedVariables false
set_option linter.unusedSimpArgs false

theorem mem_set {α : Type} {l : List α} {i : Nat} {x y : α} (h : y ∈ l.set i x) : y = x ∨ y ∈ l := by
  rcases List.mem_or_eq_of_mem_set h with h | h
  · exact .inr h
  · exact .inl h
theorem start_right {c : DCode} (hc : CodeR c) : StateR c (startD c) := by
  obtain ⟨hp0, hp1⟩ := main_lt hc
  have hl := hc.f.lt _ hp1
  have h0 := hc.f.nonneg hp1
  refine ⟨by simp [startD], by simp [startD], by simp [startD], fun v hv => ?_, fun o ho => ?_, fun l hl' => ?_⟩
  · have := List.eq_of_mem_replicate hv; omega
  · have := List.eq_of_mem_replicate ho; simp only [startD, List.length_cons, List.length_nil]; omega
  · simp only [startD, List.mem_cons, List.not_mem_nil, or_false] at hl'
    subst hl'
    refine ⟨by simp, fun i hi => ?_, fun i hi => by simp at hi⟩
    have : i = 0 := by simp at hi; omega
    subst this
    simp only [st, List.getD_cons_zero]
    omega
theorem st_set {l : List Int} {i j : Nat} {x : Int} (hi : i < l.length) : st (l.set i x) j = if i = j then x else st l j := by
  unfold st
  rw [List.getD_eq_getElem?_getD, List.getD_eq_getElem?_getD, List.getElem?_set]
  by_cases h : i = j
  · subst h; simp [hi]
  · simp [h]
theorem st_take {l : List Int} {k j : Nat} (hj : j < k) : st (l.take k) j = st l j := by
  unfold st
  rw [List.getD_eq_getElem?_getD, List.getD_eq_getElem?_getD, List.getElem?_take, if_pos hj]
theorem st_push {l : List Int} {j : Nat} {x : Int} : st (l ++ [x]) j = if j = l.length then x else st l j := by
  unfold st
  rw [List.getD_eq_getElem?_getD, List.getD_eq_getElem?_getD, List.getElem?_append]
  by_cases h : j < l.length
  · rw [if_pos h, if_neg (by omega)]
  · by_cases h2 : j = l.length
    · subst h2; simp
    · rw [if_neg h, if_neg h2, List.getElem?_eq_none (by simp; omega), List.getElem?_eq_none (by omega)]
/-- the place behind one that is no end lies in the same procedure -/
theorem proc_next {c : DCode} (hc : CodeR c) {a : Int} (h0 : 0 ≤ a) (h1 : a < c.ins.length) (ho : (insAt c a.toNat).op ≠ 9) : a + 1 < c.ins.length ∧ procOf c (a + 1) = procOf c a := by
  obtain ⟨i, hi, h2, h3, h4⟩ := hc.f.find hc.1.procs8.2 h0 h1
  have h5 := (hc.2.1.2.2.2 a.toNat (by omega))
  rw [Int.toNat_of_nonneg h0, h4, endOf_eq] at h5
  have h6 : endB c i - 1 ≠ a := fun e => ho (h5.2 e)
  have h7 := (hc.f.lt i hi).2
  exact ⟨by omega, by rw [h4]; exact hc.f.proc hi (by omega) (by omega)⟩
/-- where a jump leads lies in the same procedure -/
theorem proc_to {c : DCode} (hc : CodeR c) {a : Int} (h0 : 0 ≤ a) (h1 : a < c.ins.length) (ho : (insAt c a.toNat).op = 2 ∨ (insAt c a.toNat).op = 3) :
    0 ≤ (insAt c a.toNat).to ∧ (insAt c a.toNat).to < c.ins.length ∧ procOf c (insAt c a.toNat).to = procOf c a := by
  obtain ⟨i, hi, h2, h3, h4⟩ := hc.f.find hc.1.procs8.2 h0 h1
  have h5 := (ins_right hc (j := a.toNat) (by omega)).2.2.2
  rw [if_pos ho, Int.toNat_of_nonneg h0, h4, endOf_eq, Int.toNat_natCast] at h5
  have h6 := hc.f.nonneg hi
  have h7 := (hc.f.lt i hi).2
  exact ⟨by omega, by omega, by rw [h4]; exact hc.f.proc hi h5.1 (by omega)⟩
theorem proc_en {c : DCode} (hc : CodeR c) {i : Nat} (hi : i < c.entry.length) : 0 ≤ en c i ∧ en c i < c.ins.length ∧ procOf c (en c i) = i := by
  have h6 := hc.f.nonneg hi
  have h7 := hc.f.lt i hi
  exact ⟨h6, by omega, hc.f.proc hi (Int.le_refl _) h7.1⟩
theorem stackR_nil (c : DCode) : StackR c [] := ⟨by simp, fun i hi => by simp at hi, fun i hi => by simp at hi⟩
theorem stackR_one {c : DCode} {n : Int} (h0 : 0 ≤ n) (h1 : n < c.ins.length) : StackR c [n] := by
  refine ⟨by simp, fun i hi => ?_, fun i hi => by simp at hi⟩
  have : i = 0 := by simp at hi; omega
  subst this
  exact ⟨h0, h1⟩
theorem stackR_top {c : DCode} {l : List Int} {n : Int} (h : StackR c l) (hl : 0 < l.length) (h0 : 0 ≤ n) (h1 : n < c.ins.length) (hp : procOf c n = procOf c (st l (l.length - 1))) : StackR c (l.set (l.length - 1) n) := by
  have hs : ∀ j, st (l.set (l.length - 1) n) j = if l.length - 1 = j then n else st l j := fun j => st_set (by omega)
  refine ⟨by rw [List.length_set]; exact h.1, fun i hi => ?_, fun i hi => ?_⟩
  · rw [List.length_set] at hi
    rw [hs]
    split
    · exact ⟨h0, h1⟩
    · exact h.2.1 i hi
  · rw [List.length_set] at hi
    have h2 := h.2.2 i hi
    rw [hs i, if_neg (by omega)]
    refine ⟨h2.1, ?_⟩
    rw [hs (i + 1)]
    split
    · rename_i he
      rw [hp, he]; exact h2.2
    · exact h2.2
theorem stackR_push {c : DCode} {l : List Int} {n : Int} (h : StackR c l) (hl : l.length < 8) (h0 : 0 ≤ n) (h1 : n < c.ins.length) (hp : 0 < l.length → (insAt c (st l (l.length - 1)).toNat).op = 4 ∧ procOf c n = (insAt c (st l (l.length - 1)).toNat).arg) : StackR c (l ++ [n]) := by
  refine ⟨by simp; omega, fun i hi => ?_, fun i hi => ?_⟩
  · rw [st_push]
    split
    · exact ⟨h0, h1⟩
    · exact h.2.1 i (by simp at hi; omega)
  · simp only [List.length_append, List.length_cons, List.length_nil] at hi
    rw [st_push, st_push, if_neg (by omega)]
    by_cases e : i + 1 = l.length
    · rw [if_pos e]
      have : i = l.length - 1 := by omega
      subst this
      exact hp (by omega)
    · rw [if_neg e]
      exact h.2.2 i (by omega)
theorem stackR_take {c : DCode} {l : List Int} (h : StackR c l) (k : Nat) : StackR c (l.take k) := by
  refine ⟨by rw [List.length_take]; have := h.1; omega, fun i hi => ?_, fun i hi => ?_⟩
  · rw [List.length_take] at hi
    rw [st_take (by omega)]
    exact h.2.1 i (by omega)
  · rw [List.length_take] at hi
    rw [st_take (by omega), st_take (by omega)]
    exact h.2.2 i (by omega)
theorem stackR_pop {c : DCode} (hc : CodeR c) {l : List Int} (h : StackR c l) (hl : 0 < l.length) : StackR c (popped l) := by
  unfold popped
  split
  · exact stackR_nil c
  · rename_i h1
    have h2 := h.2.2 (l.length - 2) (by omega)
    have h3 := h.2.1 (l.length - 2) (by omega)
    obtain ⟨h4, h5⟩ := proc_next hc h3.1 h3.2 (by omega)
    have h6 := stackR_top (n := st l (l.length - 2) + 1) (stackR_take h (l.length - 1)) (by rw [List.length_take]; omega) (by omega) h4 (by
      rw [List.length_take, st_take (by omega), h5]
      congr 2
      omega)
    rw [List.length_take] at h6
    rw [show min (l.length - 1) l.length - 1 = l.length - 2 by omega] at h6
    exact h6
theorem stateR_set {c : DCode} {s : DState} (hs : StateR c s) {k : Nat} {l : List Int} (hl : StackR c l) : StateR c ⟨s.vars, s.owner, s.stacks.set k l⟩ := by
  refine ⟨hs.1, hs.2.1, by simp only [List.length_set]; exact hs.2.2.1, hs.2.2.2.1, by simp only [List.length_set]; exact hs.2.2.2.2.1, fun x hx => ?_⟩
  rcases mem_set hx with rfl | hx
  · exact hl
  · exact hs.2.2.2.2.2 x hx
theorem restOf_right {c : DCode} {s : DState} {t : Int} (hc : CodeR c) (hs : StateR c s) (hgo : GoR c s t) : StateR c (restOf c s t) := by
  have hth := at_thread hgo.1
  unfold restOf
  split
  · refine ⟨by simp only [List.length_set]; exact hs.1, hs.2.1, hs.2.2.1, fun v hv => ?_, hs.2.2.2.2.1, hs.2.2.2.2.2⟩
    rcases mem_set hv with rfl | hv
    · exact workT_range _ _ _ _
    · exact hs.2.2.2.1 v hv
  · split
    · split
      · rename_i h1 h5 h6
        have hp := proc_arg hc hs hgo.1 (.inr h5)
        refine ⟨hs.1, hs.2.1, by simp only [List.length_append, List.length_cons, List.length_nil]; omega, hs.2.2.2.1, fun o ho => ?_, fun x hx => ?_⟩
        · have := hs.2.2.2.2.1 o ho
          simp only [List.length_append, List.length_cons, List.length_nil]; omega
        · rcases List.mem_append.1 hx with hx | hx
          · exact hs.2.2.2.2.2 x hx
          · simp only [List.mem_cons, List.not_mem_nil, or_false] at hx
            subst hx
            obtain ⟨h7, h8, _⟩ := proc_en hc hp.2
            exact stackR_one h7 h8
      · exact hs
    · split
      · refine ⟨hs.1, by simp only [List.length_set]; exact hs.2.1, hs.2.2.1, hs.2.2.2.1, fun o ho => ?_, hs.2.2.2.2.2⟩
        rcases mem_set ho with rfl | ho
        · simp only; omega
        · exact hs.2.2.2.2.1 o ho
      · split
        · split
          · refine ⟨hs.1, by simp only [List.length_set]; exact hs.2.1, hs.2.2.1, hs.2.2.2.1, fun o ho => ?_, hs.2.2.2.2.2⟩
            rcases mem_set ho with rfl | ho
            · simp only; omega
            · exact hs.2.2.2.2.1 o ho
          · exact hs
        · exact hs
theorem step_right {c : DCode} {s : DState} {t : Int} (hc : CodeR c) (hs : StateR c s) (hgo : GoR c s t) : StateR c (stepD c s t) := by
  have hth := at_thread hgo.1
  obtain ⟨tn, rfl, htn, hne, hl8, hat⟩ := go_facts hs hgo.1
  have hpos := List.length_pos_iff.2 hne
  have hk := hs.2.2.2.2.2 (stk s tn) (by rw [← stk_get (by omega)]; exact List.getElem_mem _)
  have hlt := at_lt hs tn
  unfold stepD
  split
  · rename_i h4
    have hp := proc_arg hc hs hgo.1 (.inl h4)
    obtain ⟨h7, h8, h9⟩ := proc_en hc hp.2
    have h10 := hgo.2.2 h4
    refine stateR_set hs (stackR_push hk (by omega) h7 h8 fun _ => ?_)
    rw [← hat]
    refine ⟨h4, ?_⟩
    rw [h9]
    have := hp.1
    unfold atI at this ⊢
    omega
  · split
    · exact stateR_set hs (stackR_pop hc hk hpos)
    · rename_i h4 h9
      have hn := proc_next hc hgo.1 hlt.2 h9
      have key : 0 ≤ nextOf c s tn ∧ nextOf c s tn < c.ins.length ∧ procOf c (nextOf c s tn) = procOf c (atOf s tn) := by
        unfold nextOf
        have hnx : 0 ≤ atOf s tn + 1 ∧ atOf s tn + 1 < c.ins.length ∧ procOf c (atOf s tn + 1) = procOf c (atOf s tn) := ⟨by have := hgo.1; omega, hn.1, hn.2⟩
        split
        · rename_i h2
          split
          · exact proc_to hc hgo.1 hlt.2 (.inl h2)
          · exact hnx
        · split
          · rename_i h3
            exact proc_to hc hgo.1 hlt.2 (.inr h3)
          · exact hnx
      refine stateR_set (restOf_right hc hs hgo) (stackR_top hk hpos key.1 key.2.1 ?_)
      rw [key.2.2, hat]
end Go.Proofs.YteephmhilnlkpaaGreat
