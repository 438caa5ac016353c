/- The reading of the functions, printed by program (decomp.py); each equation is checked by the kernel. -/
import Derived.Test.YteephmhilnlkpaaBody
import Derived.Test.YteephmhilnlkpaaProg
import Derived.KernelRfl
set_option linter.unusedVariables false
namespace Go.Proofs.Yteephmhilnlkpaa
open Go Go.Sh Go.Proofs
def extL : List Nat := [0, 1, 101, 102, 103, 104, 105, 106, 107, 108, 109, 110, 111, 112, 113, 114, 115, 116]
set_option maxRecDepth 100000 in
theorem entAll : ((List.range 117).all fun f => extL.elem f || enters Try.prog f) = true := by kernel_rfl
theorem ent : ∀ f, f < 117 → extL.elem f = false → enters Try.prog f = true := fun f hf hx => by
  have := List.all_eq_true.1 entAll f (List.mem_range.2 hf)
  rw [hx, Bool.false_or] at this
  exact this
theorem mixed : Try.prog.follows .mixedOrders = true := by kernel_rfl
end Go.Proofs.Yteephmhilnlkpaa
