/-
  What the laws' arguments read as.
-/
import Derived.Test.YteephmhilnlkpaaGreatTypes
import Derived.Test.YteephmhilnlkpaaGreatData
import Derived.Test.YteephmhilnlkpaaGreatReads
namespace Go.Proofs.YteephmhilnlkpaaGreat
open Go Go.Sh Go.Proofs

theorem rdInts : ∀ n, Reads Tryz.prog 23 (List Int) n := reads_all_slice u23 (by kernel_rfl) (reads_int u3)
theorem rdIntss : ∀ n, Reads Tryz.prog 27 (List (List Int)) n := reads_all_slice u27 (by kernel_rfl) rdInts
theorem rdState : ∀ n, Reads Tryz.prog 29 DState n := fun n =>
  reads_via (g := fun p => ⟨p.1, p.2.1, p.2.2⟩) (fun _ => rfl) (reads_all_struct (α := List Int × List Int × List (List Int)) us29 (by kernel_rfl)
    (fun n => .cons rfl (by kernel_rfl) (rdInts n) (.cons rfl (by kernel_rfl) (rdInts n) (.one rfl (by kernel_rfl) (rdIntss n)))) n)
end Go.Proofs.YteephmhilnlkpaaGreat
