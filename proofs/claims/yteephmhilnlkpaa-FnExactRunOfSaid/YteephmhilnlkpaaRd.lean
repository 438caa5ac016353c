/-
  What the laws' arguments read as.
-/
import Derived.Test.YteephmhilnlkpaaTypes
import Derived.Test.YteephmhilnlkpaaData
import Derived.Test.YteephmhilnlkpaaReads
namespace Go.Proofs.Yteephmhilnlkpaa
open Go Go.Sh Go.Proofs

theorem rdInts : ∀ n, Reads Try.prog 23 (List Int) n := reads_all_slice u23 (by kernel_rfl) (reads_int u3)
theorem rdIntss : ∀ n, Reads Try.prog 28 (List (List Int)) n := reads_all_slice u28 (by kernel_rfl) rdInts
end Go.Proofs.Yteephmhilnlkpaa
