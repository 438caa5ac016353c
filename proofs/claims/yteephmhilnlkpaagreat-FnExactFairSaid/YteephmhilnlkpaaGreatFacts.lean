/- What a great program is asked once: facts that the kernel works out. -/
import Derived.Test.YteephmhilnlkpaaGreatRows
import Derived.Test.YteephmhilnlkpaaGreatProg
import Derived.ProofKit
import Derived.JoinedOf
import Derived.KernelRfl
namespace Go.Proofs.YteephmhilnlkpaaGreat
open Go
theorem and_tt {a b : Bool} (h : a = true) (k : b = true) : (a && b) = true := by rw [h, k]; rfl
theorem fa_laid : laidOutB Tryz.prog = true := by kernel_rfl
theorem fa_maps : mapsRowed Tryz.prog = true := by kernel_rfl
theorem fa_plain : (Rows.fnExactStatesOfRow.plainKeys == Tryz.prog.plainKeys) = true := by kernel_rfl
theorem fa_heard : Tryz.prog.stopsHeard = true := by kernel_rfl
theorem fa_may : Tryz.prog.mayEnter = true := by kernel_rfl
theorem fa_lift : (Rows.fnExactStatesOfRow.lifted == Tryz.prog.liftsFinal) = true := by kernel_rfl
theorem fa_make : (Tryz.prog.make == some Rows.fnExactStatesOfRow.make) = true := by kernel_rfl
end Go.Proofs.YteephmhilnlkpaaGreat
