/- The reading of the functions, printed by program (decomp.py); each equation is checked by the kernel. -/
import Derived.Test.YtokppocbfpjngaaBody
import Derived.Test.YtokppocbfpjngaaProg
import Derived.KernelRfl
set_option linter.unusedVariables false
namespace Go.Proofs.Ytokppocbfpjngaa
open Go Go.Sh Go.Proofs
def extL : List Nat := [0, 1, 160, 161, 162, 163, 164, 165, 166, 167, 168, 169, 170, 171, 172, 173, 174, 175]
set_option maxRecDepth 100000 in
theorem entAll : ((List.range 176).all fun f => extL.elem f || enters Try.prog f) = true := by kernel_rfl
theorem ent : ∀ f, f < 176 → extL.elem f = false → enters Try.prog f = true := fun f hf hx => by
  have := List.all_eq_true.1 entAll f (List.mem_range.2 hf)
  rw [hx, Bool.false_or] at this
  exact this
theorem mixed : Try.prog.follows .mixedOrders = true := by kernel_rfl
end Go.Proofs.Ytokppocbfpjngaa
