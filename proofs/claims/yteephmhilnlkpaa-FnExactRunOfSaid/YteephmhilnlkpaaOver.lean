/-
  Is all over; are two states the same.
-/
import Derived.Test.YteephmhilnlkpaaConv
namespace Go.Proofs.Yteephmhilnlkpaa
open Go Go.Sh Go.Proofs
set_option linter.unusedVariables false

def overIn (s : DState) : Prop := ∀ x ∈ s.stacks, x = []
instance (s : DState) : Decidable (overIn s) := inferInstanceAs (Decidable (∀ x ∈ s.stacks, x = []))
theorem over_not {s : DState} {i : Nat} (h : i < s.stacks.length) (c : 0 < (s.stacks[i].length : Int)) : ¬ overIn s := fun ho => by
  have := ho _ (List.getElem_mem h)
  rw [this] at c; simp at c
theorem over_step {s : DState} {k : Nat} (hk : k < s.stacks.length) (hinv : ∀ x ∈ s.stacks.take k, x = []) (c : ¬ 0 < (s.stacks[k].length : Int)) : ∀ x ∈ s.stacks.take (k + 1), x = [] := by
  intro x hx
  rw [List.take_succ_eq_append_getElem hk] at hx
  rcases List.mem_append.1 hx with hx | hx
  · exact hinv x hx
  · simp only [List.mem_cons, List.not_mem_nil, or_false] at hx
    subst hx
    exact List.eq_nil_of_length_eq_zero (by omega)
theorem over_all {s : DState} {k : Nat} (hk : s.stacks.length ≤ k) (hinv : ∀ x ∈ s.stacks.take k, x = []) : overIn s := by
  rw [List.take_of_length_le hk] at hinv; exact hinv

end Go.Proofs.Yteephmhilnlkpaa
