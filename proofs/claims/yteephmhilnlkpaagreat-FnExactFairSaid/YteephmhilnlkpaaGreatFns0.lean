/- The reading of the functions, printed by program (decomp.py); each equation is checked by the kernel. -/
import Derived.Test.YteephmhilnlkpaaGreatBody
import Derived.Test.YteephmhilnlkpaaGreatProg
import Derived.KernelRfl
set_option linter.unusedVariables false
namespace Go.Proofs.YteephmhilnlkpaaGreat
open Go Go.Sh Go.Proofs
def extL : List Nat := [0, 1, 308, 309, 310, 311, 312, 313, 314, 315, 316, 317, 318, 319, 320, 321, 322, 323]
set_option maxRecDepth 100000 in
theorem entAll : ((List.range 324).all fun f => extL.elem f || enters Tryz.prog f) = true := by kernel_rfl
theorem ent : ∀ f, f < 324 → extL.elem f = false → enters Tryz.prog f = true := fun f hf hx => by
  have := List.all_eq_true.1 entAll f (List.mem_range.2 hf)
  rw [hx, Bool.false_or] at this
  exact this
theorem mixed : Tryz.prog.follows .mixedOrders = true := by kernel_rfl
end Go.Proofs.YteephmhilnlkpaaGreat
