/-
  NARROWER THAN 'FOR EVERY INPUT', by the rows' own cells (each row's printed sentence says how): FnExactRoundLine: loops · FnExactStateOk: loops · FnExactStartOf: loops · FnExactTouchedAt: loops · FnExactWaitsFor: loops · FnExactCanGo: loops · FnExactStoppedIn: loops · FnExactReadyIn: loops · FnExactKnotOf: loops · FnExactKnotIn: loops · FnExactRunOf: loops.
  DERIVED. THE GIVEN ROWS OF THIS SEAT. 11 by the template 'for every input the law returns true; each argument reads behind the call as it read before'; 0 by the template 'total and deterministic' (their statements: YtokppocbfpjngaaTotals.lean).
  GIVEN WITH THE SEED: the statements are not yours to turn. If you find one false, say at which input.
  Laid BY PROGRAM, IN A SANDBOX (cutbox-rows.mjs): the forced cells as the released guide's own fill.sh prints them over the translation b0845fe6f18bef70… (all of the seat's roots in one cut). By AI agents, Wed Nov 11 2026. No macro, syntax, notation, axiom, sorry.
-/
import Derived.Test.YtokppocbfpjngaaChecked
import GoSem.Claim
import GoSem.ClaimJoined
import GoSem.ClaimMapViews
import Derived.JoinedTies
import Derived.KernelRfl
namespace Go.Proofs.Ytokppocbfpjngaa
/- THE CELL 'sum', in the pinned program and in every row, IS THE sha256 OF THE DUMP (.gsa) THAT YtokppocbfpjngaaProg.lean LOADS. Nothing in Lean hashes anything: it is a label: what it is worth is what the hold of that sum in a sandbox is worth. -/
noncomputable def Try.pinned : Pinned := { name := "ytokppocbfpjngaa", sum := "b0845fe6f18bef7017435af116f35fd241898d361aeeb6b7c9a1e203c4df066b", checked := Try.checked }
namespace Rows
def none {H : Type} : Left H := { results := [], args := [] }

/-- 'laws.FnExactRoundLine': WHATEVER THE INPUT: true; the input reads as it did. -/
def fnExactRoundLineSpec : ChangeSpec := { name := "fnExactRoundLine", fn := fun _ => fun
  | [d1, d2] => { results := [.lit (.bool true)], args := [d1, d2] }
  | _ => none }
def fnExactRoundLineRow : OpenClaim := { program := "ytokppocbfpjngaa", sum := "b0845fe6f18bef7017435af116f35fd241898d361aeeb6b7c9a1e203c4df066b", func := "loop.example/g00966/laws.FnExactRoundLine", spec := "fnExactRoundLine", recurses := true, loops := true, apart := false }
def FnExactRoundLineSaid : Prop := fnExactRoundLineRow.holds Try.pinned (OpenSpec.ofChange fnExactRoundLineSpec)

/-- ITS FALSE NEIGHBOUR: 'it returns false'. Refute it at one input. -/
def fnExactRoundLineWrong : ChangeSpec := { name := "fnExactRoundLine", fn := fun _ => fun
  | [d1, d2] => { results := [.lit (.bool false)], args := [d1, d2] }
  | _ => none }
def FnExactRoundLineWrongFalsely : Prop := fnExactRoundLineRow.holds Try.pinned (OpenSpec.ofChange fnExactRoundLineWrong)

/-- 'laws.FnExactStateOk': WHATEVER THE INPUT: true; the input reads as it did. -/
def fnExactStateOkSpec : ChangeSpec := { name := "fnExactStateOk", fn := fun _ => fun
  | [d1, d2] => { results := [.lit (.bool true)], args := [d1, d2] }
  | _ => none }
def fnExactStateOkRow : OpenClaim := { program := "ytokppocbfpjngaa", sum := "b0845fe6f18bef7017435af116f35fd241898d361aeeb6b7c9a1e203c4df066b", func := "loop.example/g00966/laws.FnExactStateOk", spec := "fnExactStateOk", recurses := true, loops := true, apart := false }
def FnExactStateOkSaid : Prop := fnExactStateOkRow.holds Try.pinned (OpenSpec.ofChange fnExactStateOkSpec)

/-- ITS FALSE NEIGHBOUR: 'it returns false'. Refute it at one input. -/
def fnExactStateOkWrong : ChangeSpec := { name := "fnExactStateOk", fn := fun _ => fun
  | [d1, d2] => { results := [.lit (.bool false)], args := [d1, d2] }
  | _ => none }
def FnExactStateOkWrongFalsely : Prop := fnExactStateOkRow.holds Try.pinned (OpenSpec.ofChange fnExactStateOkWrong)

/-- 'laws.FnExactStartOf': WHATEVER THE INPUT: true; the input reads as it did. -/
def fnExactStartOfSpec : ChangeSpec := { name := "fnExactStartOf", fn := fun _ => fun
  | [d] => { results := [.lit (.bool true)], args := [d] }
  | _ => none }
def fnExactStartOfRow : OpenClaim := { program := "ytokppocbfpjngaa", sum := "b0845fe6f18bef7017435af116f35fd241898d361aeeb6b7c9a1e203c4df066b", func := "loop.example/g00966/laws.FnExactStartOf", spec := "fnExactStartOf", recurses := true, loops := true, apart := false }
def FnExactStartOfSaid : Prop := fnExactStartOfRow.holds Try.pinned (OpenSpec.ofChange fnExactStartOfSpec)

/-- ITS FALSE NEIGHBOUR: 'it returns false'. Refute it at one input. -/
def fnExactStartOfWrong : ChangeSpec := { name := "fnExactStartOf", fn := fun _ => fun
  | [d] => { results := [.lit (.bool false)], args := [d] }
  | _ => none }
def FnExactStartOfWrongFalsely : Prop := fnExactStartOfRow.holds Try.pinned (OpenSpec.ofChange fnExactStartOfWrong)

/-- 'laws.FnExactTouchedAt': WHATEVER THE INPUT: true; the input reads as it did. -/
def fnExactTouchedAtSpec : ChangeSpec := { name := "fnExactTouchedAt", fn := fun _ => fun
  | [d1, d2] => { results := [.lit (.bool true)], args := [d1, d2] }
  | _ => none }
def fnExactTouchedAtRow : OpenClaim := { program := "ytokppocbfpjngaa", sum := "b0845fe6f18bef7017435af116f35fd241898d361aeeb6b7c9a1e203c4df066b", func := "loop.example/g00966/laws.FnExactTouchedAt", spec := "fnExactTouchedAt", recurses := true, loops := true, apart := false }
def FnExactTouchedAtSaid : Prop := fnExactTouchedAtRow.holds Try.pinned (OpenSpec.ofChange fnExactTouchedAtSpec)

/-- ITS FALSE NEIGHBOUR: 'it returns false'. Refute it at one input. -/
def fnExactTouchedAtWrong : ChangeSpec := { name := "fnExactTouchedAt", fn := fun _ => fun
  | [d1, d2] => { results := [.lit (.bool false)], args := [d1, d2] }
  | _ => none }
def FnExactTouchedAtWrongFalsely : Prop := fnExactTouchedAtRow.holds Try.pinned (OpenSpec.ofChange fnExactTouchedAtWrong)

/-- 'laws.FnExactWaitsFor': WHATEVER THE INPUT: true; the input reads as it did. -/
def fnExactWaitsForSpec : ChangeSpec := { name := "fnExactWaitsFor", fn := fun _ => fun
  | [d1, d2, d3] => { results := [.lit (.bool true)], args := [d1, d2, d3] }
  | _ => none }
def fnExactWaitsForRow : OpenClaim := { program := "ytokppocbfpjngaa", sum := "b0845fe6f18bef7017435af116f35fd241898d361aeeb6b7c9a1e203c4df066b", func := "loop.example/g00966/laws.FnExactWaitsFor", spec := "fnExactWaitsFor", recurses := true, loops := true, apart := false }
def FnExactWaitsForSaid : Prop := fnExactWaitsForRow.holds Try.pinned (OpenSpec.ofChange fnExactWaitsForSpec)

/-- ITS FALSE NEIGHBOUR: 'it returns false'. Refute it at one input. -/
def fnExactWaitsForWrong : ChangeSpec := { name := "fnExactWaitsFor", fn := fun _ => fun
  | [d1, d2, d3] => { results := [.lit (.bool false)], args := [d1, d2, d3] }
  | _ => none }
def FnExactWaitsForWrongFalsely : Prop := fnExactWaitsForRow.holds Try.pinned (OpenSpec.ofChange fnExactWaitsForWrong)

/-- 'laws.FnExactCanGo': WHATEVER THE INPUT: true; the input reads as it did. -/
def fnExactCanGoSpec : ChangeSpec := { name := "fnExactCanGo", fn := fun _ => fun
  | [d1, d2, d3] => { results := [.lit (.bool true)], args := [d1, d2, d3] }
  | _ => none }
def fnExactCanGoRow : OpenClaim := { program := "ytokppocbfpjngaa", sum := "b0845fe6f18bef7017435af116f35fd241898d361aeeb6b7c9a1e203c4df066b", func := "loop.example/g00966/laws.FnExactCanGo", spec := "fnExactCanGo", recurses := true, loops := true, apart := false }
def FnExactCanGoSaid : Prop := fnExactCanGoRow.holds Try.pinned (OpenSpec.ofChange fnExactCanGoSpec)

/-- ITS FALSE NEIGHBOUR: 'it returns false'. Refute it at one input. -/
def fnExactCanGoWrong : ChangeSpec := { name := "fnExactCanGo", fn := fun _ => fun
  | [d1, d2, d3] => { results := [.lit (.bool false)], args := [d1, d2, d3] }
  | _ => none }
def FnExactCanGoWrongFalsely : Prop := fnExactCanGoRow.holds Try.pinned (OpenSpec.ofChange fnExactCanGoWrong)

/-- 'laws.FnExactStoppedIn': WHATEVER THE INPUT: true; the input reads as it did. -/
def fnExactStoppedInSpec : ChangeSpec := { name := "fnExactStoppedIn", fn := fun _ => fun
  | [d1, d2] => { results := [.lit (.bool true)], args := [d1, d2] }
  | _ => none }
def fnExactStoppedInRow : OpenClaim := { program := "ytokppocbfpjngaa", sum := "b0845fe6f18bef7017435af116f35fd241898d361aeeb6b7c9a1e203c4df066b", func := "loop.example/g00966/laws.FnExactStoppedIn", spec := "fnExactStoppedIn", recurses := true, loops := true, apart := false }
def FnExactStoppedInSaid : Prop := fnExactStoppedInRow.holds Try.pinned (OpenSpec.ofChange fnExactStoppedInSpec)

/-- ITS FALSE NEIGHBOUR: 'it returns false'. Refute it at one input. -/
def fnExactStoppedInWrong : ChangeSpec := { name := "fnExactStoppedIn", fn := fun _ => fun
  | [d1, d2] => { results := [.lit (.bool false)], args := [d1, d2] }
  | _ => none }
def FnExactStoppedInWrongFalsely : Prop := fnExactStoppedInRow.holds Try.pinned (OpenSpec.ofChange fnExactStoppedInWrong)

/-- 'laws.FnExactReadyIn': WHATEVER THE INPUT: true; the input reads as it did. -/
def fnExactReadyInSpec : ChangeSpec := { name := "fnExactReadyIn", fn := fun _ => fun
  | [d1, d2] => { results := [.lit (.bool true)], args := [d1, d2] }
  | _ => none }
def fnExactReadyInRow : OpenClaim := { program := "ytokppocbfpjngaa", sum := "b0845fe6f18bef7017435af116f35fd241898d361aeeb6b7c9a1e203c4df066b", func := "loop.example/g00966/laws.FnExactReadyIn", spec := "fnExactReadyIn", recurses := true, loops := true, apart := false }
def FnExactReadyInSaid : Prop := fnExactReadyInRow.holds Try.pinned (OpenSpec.ofChange fnExactReadyInSpec)

/-- ITS FALSE NEIGHBOUR: 'it returns false'. Refute it at one input. -/
def fnExactReadyInWrong : ChangeSpec := { name := "fnExactReadyIn", fn := fun _ => fun
  | [d1, d2] => { results := [.lit (.bool false)], args := [d1, d2] }
  | _ => none }
def FnExactReadyInWrongFalsely : Prop := fnExactReadyInRow.holds Try.pinned (OpenSpec.ofChange fnExactReadyInWrong)

/-- 'laws.FnExactKnotOf': WHATEVER THE INPUT: true; the input reads as it did. -/
def fnExactKnotOfSpec : ChangeSpec := { name := "fnExactKnotOf", fn := fun _ => fun
  | [d1, d2, d3] => { results := [.lit (.bool true)], args := [d1, d2, d3] }
  | _ => none }
def fnExactKnotOfRow : OpenClaim := { program := "ytokppocbfpjngaa", sum := "b0845fe6f18bef7017435af116f35fd241898d361aeeb6b7c9a1e203c4df066b", func := "loop.example/g00966/laws.FnExactKnotOf", spec := "fnExactKnotOf", recurses := true, loops := true, apart := false }
def FnExactKnotOfSaid : Prop := fnExactKnotOfRow.holds Try.pinned (OpenSpec.ofChange fnExactKnotOfSpec)

/-- ITS FALSE NEIGHBOUR: 'it returns false'. Refute it at one input. -/
def fnExactKnotOfWrong : ChangeSpec := { name := "fnExactKnotOf", fn := fun _ => fun
  | [d1, d2, d3] => { results := [.lit (.bool false)], args := [d1, d2, d3] }
  | _ => none }
def FnExactKnotOfWrongFalsely : Prop := fnExactKnotOfRow.holds Try.pinned (OpenSpec.ofChange fnExactKnotOfWrong)

/-- 'laws.FnExactKnotIn': WHATEVER THE INPUT: true; the input reads as it did. -/
def fnExactKnotInSpec : ChangeSpec := { name := "fnExactKnotIn", fn := fun _ => fun
  | [d1, d2] => { results := [.lit (.bool true)], args := [d1, d2] }
  | _ => none }
def fnExactKnotInRow : OpenClaim := { program := "ytokppocbfpjngaa", sum := "b0845fe6f18bef7017435af116f35fd241898d361aeeb6b7c9a1e203c4df066b", func := "loop.example/g00966/laws.FnExactKnotIn", spec := "fnExactKnotIn", recurses := true, loops := true, apart := false }
def FnExactKnotInSaid : Prop := fnExactKnotInRow.holds Try.pinned (OpenSpec.ofChange fnExactKnotInSpec)

/-- ITS FALSE NEIGHBOUR: 'it returns false'. Refute it at one input. -/
def fnExactKnotInWrong : ChangeSpec := { name := "fnExactKnotIn", fn := fun _ => fun
  | [d1, d2] => { results := [.lit (.bool false)], args := [d1, d2] }
  | _ => none }
def FnExactKnotInWrongFalsely : Prop := fnExactKnotInRow.holds Try.pinned (OpenSpec.ofChange fnExactKnotInWrong)

/-- 'laws.FnExactRunOf': WHATEVER THE INPUT: true; the input reads as it did. -/
def fnExactRunOfSpec : ChangeSpec := { name := "fnExactRunOf", fn := fun _ => fun
  | [d1, d2] => { results := [.lit (.bool true)], args := [d1, d2] }
  | _ => none }
def fnExactRunOfRow : OpenClaim := { program := "ytokppocbfpjngaa", sum := "b0845fe6f18bef7017435af116f35fd241898d361aeeb6b7c9a1e203c4df066b", func := "loop.example/g00966/laws.FnExactRunOf", spec := "fnExactRunOf", recurses := true, loops := true, apart := false }
def FnExactRunOfSaid : Prop := fnExactRunOfRow.holds Try.pinned (OpenSpec.ofChange fnExactRunOfSpec)

/-- ITS FALSE NEIGHBOUR: 'it returns false'. Refute it at one input. -/
def fnExactRunOfWrong : ChangeSpec := { name := "fnExactRunOf", fn := fun _ => fun
  | [d1, d2] => { results := [.lit (.bool false)], args := [d1, d2] }
  | _ => none }
def FnExactRunOfWrongFalsely : Prop := fnExactRunOfRow.holds Try.pinned (OpenSpec.ofChange fnExactRunOfWrong)

/- THE SECOND FORM. 'bulk': how many values and letters a reading holds, each counted each time it is reached (what is shared counts as often as it is met; a slice's spare places count too). A statement '..UptoSaid' is the law's where the arguments, and the package variables that the reading takes, are together of bulk at most 1048576: NARROWER than '..Said'. Prove '..Said' where nothing that the law and all that it calls make is longer than what came in: it says more and counts as full. Else prove '..UptoSaid'. A law counts once. -/
mutual
def uptoBulk {H : Type} : DataW H → Nat
  | .lit (.string bytes) => bytes.length + 1
  | .lit _ => 1
  | .nil => 1
  | .ptr d => uptoBulk d + 1
  | .slice elems spare => uptoBulkAll elems + uptoBulkAll spare + 1
  | .agg parts => uptoBulkAll parts + 1
  | .iface _ d => uptoBulk d + 1
  | .map entries => uptoBulkEntries entries + 1
  | .held _ => 1
def uptoBulkAll {H : Type} : List (DataW H) → Nat
  | [] => 0
  | d :: r => uptoBulk d + uptoBulkAll r
def uptoBulkEntries {H : Type} : List (Lit × DataW H) → Nat
  | [] => 0
  | x :: r => uptoBulkEntry x + uptoBulkEntries r
def uptoBulkEntry {H : Type} : Lit × DataW H → Nat
  | (.string bytes, d) => bytes.length + uptoBulk d + 1
  | (_, d) => uptoBulk d + 1
 end
def uptoSmall : (H : Type) → List (DataW H) → Bool := fun _ ds => decide (uptoBulkAll ds ≤ 1048576)
def OpenSpec.upto (s : _root_.Go.ChangeSpec) : _root_.Go.OpenSpec := { _root_.Go.OpenSpec.ofChange s with cond := some uptoSmall }

/-- 'laws.FnExactRoundLine', WHERE WHAT IT READS IS OF BULK AT MOST 1048576: true; the input reads as it did. -/
def fnExactRoundLineUptoRow : OpenClaim := { program := "ytokppocbfpjngaa", sum := "b0845fe6f18bef7017435af116f35fd241898d361aeeb6b7c9a1e203c4df066b", func := "loop.example/g00966/laws.FnExactRoundLine", spec := "fnExactRoundLine", recurses := true, loops := true, apart := false, narrowed := true }
def FnExactRoundLineUptoSaid : Prop := fnExactRoundLineUptoRow.holds Try.pinned (OpenSpec.upto fnExactRoundLineSpec)

/-- 'laws.FnExactStateOk', WHERE WHAT IT READS IS OF BULK AT MOST 1048576: true; the input reads as it did. -/
def fnExactStateOkUptoRow : OpenClaim := { program := "ytokppocbfpjngaa", sum := "b0845fe6f18bef7017435af116f35fd241898d361aeeb6b7c9a1e203c4df066b", func := "loop.example/g00966/laws.FnExactStateOk", spec := "fnExactStateOk", recurses := true, loops := true, apart := false, narrowed := true }
def FnExactStateOkUptoSaid : Prop := fnExactStateOkUptoRow.holds Try.pinned (OpenSpec.upto fnExactStateOkSpec)

/-- 'laws.FnExactStartOf', WHERE WHAT IT READS IS OF BULK AT MOST 1048576: true; the input reads as it did. -/
def fnExactStartOfUptoRow : OpenClaim := { program := "ytokppocbfpjngaa", sum := "b0845fe6f18bef7017435af116f35fd241898d361aeeb6b7c9a1e203c4df066b", func := "loop.example/g00966/laws.FnExactStartOf", spec := "fnExactStartOf", recurses := true, loops := true, apart := false, narrowed := true }
def FnExactStartOfUptoSaid : Prop := fnExactStartOfUptoRow.holds Try.pinned (OpenSpec.upto fnExactStartOfSpec)

/-- 'laws.FnExactTouchedAt', WHERE WHAT IT READS IS OF BULK AT MOST 1048576: true; the input reads as it did. -/
def fnExactTouchedAtUptoRow : OpenClaim := { program := "ytokppocbfpjngaa", sum := "b0845fe6f18bef7017435af116f35fd241898d361aeeb6b7c9a1e203c4df066b", func := "loop.example/g00966/laws.FnExactTouchedAt", spec := "fnExactTouchedAt", recurses := true, loops := true, apart := false, narrowed := true }
def FnExactTouchedAtUptoSaid : Prop := fnExactTouchedAtUptoRow.holds Try.pinned (OpenSpec.upto fnExactTouchedAtSpec)

/-- 'laws.FnExactWaitsFor', WHERE WHAT IT READS IS OF BULK AT MOST 1048576: true; the input reads as it did. -/
def fnExactWaitsForUptoRow : OpenClaim := { program := "ytokppocbfpjngaa", sum := "b0845fe6f18bef7017435af116f35fd241898d361aeeb6b7c9a1e203c4df066b", func := "loop.example/g00966/laws.FnExactWaitsFor", spec := "fnExactWaitsFor", recurses := true, loops := true, apart := false, narrowed := true }
def FnExactWaitsForUptoSaid : Prop := fnExactWaitsForUptoRow.holds Try.pinned (OpenSpec.upto fnExactWaitsForSpec)

/-- 'laws.FnExactCanGo', WHERE WHAT IT READS IS OF BULK AT MOST 1048576: true; the input reads as it did. -/
def fnExactCanGoUptoRow : OpenClaim := { program := "ytokppocbfpjngaa", sum := "b0845fe6f18bef7017435af116f35fd241898d361aeeb6b7c9a1e203c4df066b", func := "loop.example/g00966/laws.FnExactCanGo", spec := "fnExactCanGo", recurses := true, loops := true, apart := false, narrowed := true }
def FnExactCanGoUptoSaid : Prop := fnExactCanGoUptoRow.holds Try.pinned (OpenSpec.upto fnExactCanGoSpec)

/-- 'laws.FnExactStoppedIn', WHERE WHAT IT READS IS OF BULK AT MOST 1048576: true; the input reads as it did. -/
def fnExactStoppedInUptoRow : OpenClaim := { program := "ytokppocbfpjngaa", sum := "b0845fe6f18bef7017435af116f35fd241898d361aeeb6b7c9a1e203c4df066b", func := "loop.example/g00966/laws.FnExactStoppedIn", spec := "fnExactStoppedIn", recurses := true, loops := true, apart := false, narrowed := true }
def FnExactStoppedInUptoSaid : Prop := fnExactStoppedInUptoRow.holds Try.pinned (OpenSpec.upto fnExactStoppedInSpec)

/-- 'laws.FnExactReadyIn', WHERE WHAT IT READS IS OF BULK AT MOST 1048576: true; the input reads as it did. -/
def fnExactReadyInUptoRow : OpenClaim := { program := "ytokppocbfpjngaa", sum := "b0845fe6f18bef7017435af116f35fd241898d361aeeb6b7c9a1e203c4df066b", func := "loop.example/g00966/laws.FnExactReadyIn", spec := "fnExactReadyIn", recurses := true, loops := true, apart := false, narrowed := true }
def FnExactReadyInUptoSaid : Prop := fnExactReadyInUptoRow.holds Try.pinned (OpenSpec.upto fnExactReadyInSpec)

/-- 'laws.FnExactKnotOf', WHERE WHAT IT READS IS OF BULK AT MOST 1048576: true; the input reads as it did. -/
def fnExactKnotOfUptoRow : OpenClaim := { program := "ytokppocbfpjngaa", sum := "b0845fe6f18bef7017435af116f35fd241898d361aeeb6b7c9a1e203c4df066b", func := "loop.example/g00966/laws.FnExactKnotOf", spec := "fnExactKnotOf", recurses := true, loops := true, apart := false, narrowed := true }
def FnExactKnotOfUptoSaid : Prop := fnExactKnotOfUptoRow.holds Try.pinned (OpenSpec.upto fnExactKnotOfSpec)

/-- 'laws.FnExactKnotIn', WHERE WHAT IT READS IS OF BULK AT MOST 1048576: true; the input reads as it did. -/
def fnExactKnotInUptoRow : OpenClaim := { program := "ytokppocbfpjngaa", sum := "b0845fe6f18bef7017435af116f35fd241898d361aeeb6b7c9a1e203c4df066b", func := "loop.example/g00966/laws.FnExactKnotIn", spec := "fnExactKnotIn", recurses := true, loops := true, apart := false, narrowed := true }
def FnExactKnotInUptoSaid : Prop := fnExactKnotInUptoRow.holds Try.pinned (OpenSpec.upto fnExactKnotInSpec)

/-- 'laws.FnExactRunOf', WHERE WHAT IT READS IS OF BULK AT MOST 1048576: true; the input reads as it did. -/
def fnExactRunOfUptoRow : OpenClaim := { program := "ytokppocbfpjngaa", sum := "b0845fe6f18bef7017435af116f35fd241898d361aeeb6b7c9a1e203c4df066b", func := "loop.example/g00966/laws.FnExactRunOf", spec := "fnExactRunOf", recurses := true, loops := true, apart := false, narrowed := true }
def FnExactRunOfUptoSaid : Prop := fnExactRunOfUptoRow.holds Try.pinned (OpenSpec.upto fnExactRunOfSpec)

end Rows
end Go.Proofs.Ytokppocbfpjngaa
