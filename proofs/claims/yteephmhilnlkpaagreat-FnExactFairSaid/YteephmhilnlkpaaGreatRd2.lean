/-
  What the laws' arguments read as: code.
-/
import Derived.Test.YteephmhilnlkpaaGreatTypes
import Derived.Test.YteephmhilnlkpaaGreatTerm
namespace Go.Proofs.YteephmhilnlkpaaGreat
open Go Go.Sh Go.Proofs

theorem rdTerm : ∀ n, Reads Tryz.prog 128 DTerm n ∧ Reads Tryz.prog 126 (List DTerm) n
  | 0 => ⟨reads_zero, reads_zero⟩
  | n + 1 => ⟨reads_tup (reads_struct (α := Int × Int × ByteArray × List DTerm) us128 (by kernel_rfl)
      (.cons rfl (by kernel_rfl) (reads_int u3 n) (.cons rfl (by kernel_rfl) (reads_int u3 n) (.cons rfl (by kernel_rfl) (reads_str u9 n) (.one rfl (by kernel_rfl) (rdTerm n).2))))),
    reads_slice u126 (by kernel_rfl) (rdTerm n).1⟩
theorem rdStrs : ∀ n, Reads Tryz.prog 22 (List ByteArray) n := reads_all_slice u22 (by kernel_rfl) (reads_str u9)
theorem rdIns : ∀ n, Reads Tryz.prog 130 DIns n := fun n =>
  reads_via (g := fun p => ⟨p.1, p.2.1, p.2.2.1, p.2.2.2⟩) (fun _ => rfl) (reads_all_struct (α := Int × Int × DTerm × Int) us130 (by kernel_rfl)
    (fun n => .cons rfl (by kernel_rfl) (reads_int u3 n) (.cons rfl (by kernel_rfl) (reads_int u3 n) (.cons rfl (by kernel_rfl) (rdTerm n).1 (.one rfl (by kernel_rfl) (reads_int u3 n))))) n)
theorem rdInss : ∀ n, Reads Tryz.prog 24 (List DIns) n := reads_all_slice u24 (by kernel_rfl) rdIns
theorem rdIntsC : ∀ n, Reads Tryz.prog 23 (List Int) n := reads_all_slice u23 (by kernel_rfl) (reads_int u3)
theorem rdCode : ∀ n, Reads Tryz.prog 26 DCode n := fun n =>
  reads_via (g := fun p => ⟨p.1, p.2.1, p.2.2.1, p.2.2.2.1, p.2.2.2.2⟩) (fun _ => rfl) (reads_all_struct (α := List ByteArray × List ByteArray × List ByteArray × List Int × List DIns) us26 (by kernel_rfl)
    (fun n => .cons rfl (by kernel_rfl) (rdStrs n) (.cons rfl (by kernel_rfl) (rdStrs n) (.cons rfl (by kernel_rfl) (rdStrs n) (.cons rfl (by kernel_rfl) (rdIntsC n) (.one rfl (by kernel_rfl) (rdInss n)))))) n)
end Go.Proofs.YteephmhilnlkpaaGreat
