/-
  Plain: all states of a program, a step behind one another.
-/
import Derived.Test.YteephmhilnlkpaaGreatKeep
namespace Go.Proofs.YteephmhilnlkpaaGreat
open Go Go.Sh Go.Proofs
set_option linter.unusedVariables false
set_option linter.unusedSimpArgs false

/-- where something stands first in a list; -1: nowhere -/
def plcG {α : Type} [DecidableEq α] (s : α) : List α → Int
  | [] => -1
  | x :: l => if x = s then 0 else if plcG s l < 0 then -1 else plcG s l + 1
section
variable {α : Type} [DecidableEq α] {s : α}
theorem plcG_none {l : List α} (h : s ∉ l) : plcG s l = -1 := by
  induction l with
  | nil => rfl
  | cons x l ih =>
    simp only [List.mem_cons, not_or] at h
    rw [plcG, if_neg (fun e => h.1 e.symm), ih h.2]; rfl
theorem plcG_at : ∀ {l : List α} {k : Nat} (hk : k < l.length), s ∉ l.take k → l[k] = s → plcG s l = k
  | x :: l, 0, _, _, h => by simp only [List.getElem_cons_zero] at h; rw [plcG, if_pos h]; rfl
  | x :: l, k + 1, hk, hn, h => by
    simp only [List.take_succ_cons, List.mem_cons, not_or] at hn
    have ih := plcG_at (by simpa using hk) hn.2 (by simpa using h)
    rw [plcG, if_neg (fun e => hn.1 e.symm), ih, if_neg (by omega)]
    omega
theorem plcG_lt {l : List α} : -1 ≤ plcG s l ∧ plcG s l < l.length := by
  induction l with
  | nil => simp [plcG]
  | cons x l ih =>
    rw [plcG]
    split
    · simp only [List.length_cons]; omega
    · split <;> simp only [List.length_cons] <;> omega
theorem plcG_iff {l : List α} : 0 ≤ plcG s l ↔ s ∈ l := by
  induction l with
  | nil => simp [plcG]
  | cons x l ih =>
    rw [plcG]
    split
    · rename_i h; simp [h]
    · rename_i h
      rw [List.mem_cons, ← ih]
      have : ¬ s = x := fun e => h e.symm
      simp only [this, false_or]
      split <;> omega
omit [DecidableEq α] in
theorem mem_take_succG {l : List α} {k : Nat} {y : α} (hk : k < l.length) (h : y ∉ l.take k) (c : ¬ l[k] = y) : y ∉ l.take (k + 1) := by
  rw [List.take_succ_eq_append_getElem hk]
  simp only [List.mem_append, List.mem_cons, List.not_mem_nil, or_false, not_or]
  exact ⟨h, fun e => c e.symm⟩
end
/-- what a search has met: the states, from which one each was met and by which thread; are these all? -/
structure Tr where
  states : List DState
  ahead : List Int
  went : List Int
  whole : Bool
def stAt (f : Tr) (i : Nat) : DState := f.states.getD i ⟨[], [], []⟩
theorem stAt_get {f : Tr} {i : Nat} (h : i < f.states.length) : f.states[i] = stAt f i := by
  unfold stAt; rw [List.getD_eq_getElem?_getD, List.getElem?_eq_getElem h]; rfl
def visit (c : DCode) (M i t : Nat) (f : Tr) : Tr × Bool :=
  if GoR c (stAt f i) t then
    if stepD c (stAt f i) t ∈ f.states then (f, false)
    else if f.states.length = M then (⟨f.states, f.ahead, f.went, false⟩, true)
    else (⟨f.states ++ [stepD c (stAt f i) t], f.ahead ++ [(i : Int)], f.went ++ [(t : Int)], f.whole⟩, false)
  else (f, false)
def rowGo (c : DCode) (M i : Nat) : Nat → Nat → Tr → Tr × Bool
  | 0, _, f => (f, false)
  | n + 1, t, f => if (visit c M i t f).2 then visit c M i t f else rowGo c M i n (t + 1) (visit c M i t f).1
def lookGo (c : DCode) (M : Nat) : Nat → Nat → Tr → Tr
  | 0, _, f => f
  | n + 1, i, f => if i < f.states.length then
      if (rowGo c M i (stAt f i).stacks.length 0 f).2 then (rowGo c M i (stAt f i).stacks.length 0 f).1
      else lookGo c M n (i + 1) (rowGo c M i (stAt f i).stacks.length 0 f).1
    else f
def lookD (c : DCode) (M : Nat) : Tr := lookGo c M M 0 ⟨[startD c], [-1], [-1], true⟩
/-- what holds of a search all the way -/
structure TrOk (c : DCode) (M : Nat) (f : Tr) : Prop where
  right : ∀ s ∈ f.states, StateR c s
  la : f.ahead.length = f.states.length
  lw : f.went.length = f.states.length
  many : 1 ≤ f.states.length ∧ f.states.length ≤ M
  back : ∀ k (h : k < f.ahead.length), (k = 0 → f.ahead[k] = -1) ∧ (0 < k → 0 ≤ f.ahead[k] ∧ f.ahead[k] < k)
  by_ : ∀ x ∈ f.went, -1 ≤ x ∧ x ≤ 6
theorem start_ok {c : DCode} (hc : CodeR c) {M : Nat} (hM : 1 ≤ M) : TrOk c M ⟨[startD c], [-1], [-1], true⟩ where
  right s hs := by simp only [List.mem_cons, List.not_mem_nil, or_false] at hs; exact hs ▸ start_right hc
  la := rfl
  lw := rfl
  many := ⟨Nat.le_refl _, hM⟩
  back k h := by
    have : k = 0 := by simpa using h
    subst this
    exact ⟨fun _ => rfl, fun h => by omega⟩
  by_ x hx := by simp only [List.mem_cons, List.not_mem_nil, or_false] at hx; omega
theorem TrOk.push {c : DCode} {M i t : Nat} {f : Tr} (h : TrOk c M f) (hc : CodeR c) (hi : i < f.states.length) (hg : GoR c (stAt f i) t) (ht : t ≤ 6) (hM : f.states.length ≠ M) :
    TrOk c M ⟨f.states ++ [stepD c (stAt f i) t], f.ahead ++ [(i : Int)], f.went ++ [(t : Int)], f.whole⟩ where
  right s hs := by
    rcases List.mem_append.1 hs with hs | hs
    · exact h.right s hs
    · simp only [List.mem_cons, List.not_mem_nil, or_false] at hs
      rw [hs]
      exact step_right hc (h.right _ (by rw [← stAt_get hi]; exact List.getElem_mem hi)) hg
  la := by simp [h.la]
  lw := by simp [h.lw]
  many := by
    have := h.many
    simp only [List.length_append, List.length_cons, List.length_nil]
    omega
  back k hk := by
    have hla := h.la
    simp only [List.length_append, List.length_cons, List.length_nil] at hk
    rcases Nat.lt_or_ge k f.ahead.length with hl | hl
    · simp only [List.getElem_append_left hl]
      exact h.back k hl
    · have he : k = f.ahead.length := by omega
      have h1 := h.many
      subst he
      simp only [List.getElem_append_right (Nat.le_refl _), Nat.sub_self, List.getElem_cons_zero]
      exact ⟨fun h => by omega, fun _ => by omega⟩
  by_ x hx := by
    rcases List.mem_append.1 hx with hx | hx
    · exact h.by_ x hx
    · simp only [List.mem_cons, List.not_mem_nil, or_false] at hx; omega
theorem TrOk.not {c : DCode} {M : Nat} {f : Tr} (h : TrOk c M f) : TrOk c M ⟨f.states, f.ahead, f.went, false⟩ := ⟨h.right, h.la, h.lw, h.many, h.back, h.by_⟩
section
variable {c : DCode} {M i t q n : Nat} {f : Tr}
theorem rowGo_stop (h : (visit c M i t f).2 = true) : rowGo c M i (q + 1) t f = visit c M i t f := by rw [rowGo, if_pos h]
theorem rowGo_go {f' : Tr} (h : visit c M i t f = (f', false)) : rowGo c M i (q + 1) t f = rowGo c M i q (t + 1) f' := by rw [rowGo, h]; simp
theorem visit_no (h : ¬ GoR c (stAt f i) t) : visit c M i t f = (f, false) := if_neg h
theorem visit_old (h : GoR c (stAt f i) t) (h2 : stepD c (stAt f i) t ∈ f.states) : visit c M i t f = (f, false) := by rw [visit, if_pos h, if_pos h2]
theorem visit_full (h : GoR c (stAt f i) t) (h2 : stepD c (stAt f i) t ∉ f.states) (h3 : f.states.length = M) : visit c M i t f = (⟨f.states, f.ahead, f.went, false⟩, true) := by rw [visit, if_pos h, if_neg h2, if_pos h3]
theorem visit_new (h : GoR c (stAt f i) t) (h2 : stepD c (stAt f i) t ∉ f.states) (h3 : ¬ f.states.length = M) : visit c M i t f = (⟨f.states ++ [stepD c (stAt f i) t], f.ahead ++ [(i : Int)], f.went ++ [(t : Int)], f.whole⟩, false) := by rw [visit, if_pos h, if_neg h2, if_neg h3]
theorem lookGo_stop (hi : i < f.states.length) {f' : Tr} (h : rowGo c M i (stAt f i).stacks.length 0 f = (f', true)) : lookGo c M (n + 1) i f = f' := by rw [lookGo, if_pos hi, h]; simp
theorem lookGo_next (hi : i < f.states.length) {f' : Tr} (h : rowGo c M i (stAt f i).stacks.length 0 f = (f', false)) : lookGo c M (n + 1) i f = lookGo c M n (i + 1) f' := by rw [lookGo, if_pos hi, h]; simp
theorem lookGo_end (hi : f.states.length ≤ i) : lookGo c M n i f = f := by
  cases n with
  | zero => rfl
  | succ n => rw [lookGo, if_neg (by omega)]
theorem stAt_push {s : DState} {a b : List Int} {w : Bool} (hi : i < f.states.length) : stAt ⟨f.states ++ [s], a, b, w⟩ i = stAt f i := by
  unfold stAt
  simp only [List.getD_eq_getElem?_getD]
  rw [List.getElem?_append_left hi]
end
/-- how many states are looked for -/
def brought (n lo hi : Int) : Int := if n < lo ∨ hi < lo then lo else min n hi
theorem brought_in (n : Int) : 1 ≤ brought n 1 150 ∧ brought n 1 150 ≤ 150 := by
  unfold brought
  split <;> omega
/-- the way back -/
def backD (f : Tr) : Nat → Int → List Int
  | 0, _ => []
  | n + 1, a => if 0 < a then f.went.getD a.toNat 0 :: backD f n (f.ahead.getD a.toNat 0) else []
end Go.Proofs.YteephmhilnlkpaaGreat
