/-
  What the laws' arguments read as.
-/
import Derived.Test.YthieonacgnppiaaTypes
import Derived.Test.YthieonacgnppiaaData
import Derived.Test.YthieonacgnppiaaReads
namespace Go.Proofs.Ythieonacgnppiaa
open Go Go.Sh Go.Proofs

theorem rdInts : ∀ n, Reads Try.prog 22 (List Int) n := reads_all_slice u22 (by kernel_rfl) (reads_int u3)
theorem rdIntss : ∀ n, Reads Try.prog 40 (List (List Int)) n := reads_all_slice u40 (by kernel_rfl) rdInts
theorem rdState : ∀ n, Reads Try.prog 42 DState n := fun n =>
  reads_via (g := fun p => ⟨p.1, p.2.1, p.2.2⟩) (fun _ => rfl) (reads_all_struct (α := List Int × List Int × List (List Int)) us42 (by kernel_rfl)
    (fun n => .cons rfl (by kernel_rfl) (rdInts n) (.cons rfl (by kernel_rfl) (rdInts n) (.one rfl (by kernel_rfl) (rdIntss n)))) n)
theorem rdRace : ∀ n, Reads Try.prog 31 DRace n := fun n =>
  reads_via (g := fun p => ⟨p.1, p.2.1, p.2.2⟩) (fun _ => rfl) (reads_all_struct (α := Int × Int × Int) us31 (by kernel_rfl)
    (fun n => .cons rfl (by kernel_rfl) (reads_int u3 n) (.cons rfl (by kernel_rfl) (reads_int u3 n) (.one rfl (by kernel_rfl) (reads_int u3 n)))) n)
theorem rdRaces : ∀ n, Reads Try.prog 29 (List DRace) n := reads_all_slice u29 (by kernel_rfl) rdRace
end Go.Proofs.Ythieonacgnppiaa
