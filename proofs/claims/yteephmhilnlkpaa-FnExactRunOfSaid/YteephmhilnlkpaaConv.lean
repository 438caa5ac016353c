/-
  The copies that the laws make of their arguments.
-/
import Derived.Test.YteephmhilnlkpaaSmall
namespace Go.Proofs.Yteephmhilnlkpaa
open Go Go.Sh Go.Proofs
set_option linter.unusedVariables false

theorem rep_int {w : World} {x : Int} (h : I64 x) : Rep.rep [] w [.int .i64 x] x := ⟨rfl, rfl, h⟩

theorem zlState : zeroL Try.prog 30 = some [.slice none 0 0, .slice none 0 0, .slice none 0 0] := by kernel_rfl
/-- each list of a state has at most so many elements -/
def StOk (s : DState) : Prop := s.vars.length ≤ 1048576 ∧ s.owner.length ≤ 1048576 ∧ s.stacks.length ≤ 1048576 ∧ ∀ x ∈ s.stacks, x.length ≤ 1048576
theorem nodup_far {F G : List Nat} {m : Nat} (h1 : F.Nodup) (h2 : G.Nodup) (hF : ∀ b ∈ F, b < m) (hG : ∀ b ∈ G, m ≤ b) : (F ++ G).Nodup := by
  rw [List.nodup_append]
  refine ⟨h1, h2, fun a ha c hc e => ?_⟩
  subst e
  have := hF a ha
  have := hG a hc
  omega
end Go.Proofs.Yteephmhilnlkpaa
