/-
  No cell of these rows narrows 'for every input' (looked for: loops, veiled, ifaces, maps, wideKeys, modest, calm, conditions, laid).
  DERIVED. THE GIVEN ROWS OF THIS SEAT. 8 by the template 'for every input the law returns true; each argument reads behind the call as it read before'; 0 by the template 'total and deterministic' (their statements: YthieonacgnppiaaTotals.lean).
  GIVEN WITH THE SEED: the statements are not yours to turn. If you find one false, say at which input.
  Laid BY PROGRAM, IN A SANDBOX (cutbox-rows.mjs): the forced cells as the released guide's own fill.sh prints them over the translation 830e0dd4b41df160… (all of the seat's roots in one cut). By AI agents, Wed Nov 11 2026. No macro, syntax, notation, axiom, sorry.
-/
import Derived.Test.YthieonacgnppiaaChecked
import GoSem.Claim
import GoSem.ClaimJoined
import GoSem.ClaimMapViews
import Derived.JoinedTies
import Derived.KernelRfl
namespace Go.Proofs.Ythieonacgnppiaa
/- THE CELL 'sum', in the pinned program and in every row, IS THE sha256 OF THE DUMP (.gsa) THAT YthieonacgnppiaaProg.lean LOADS. Nothing in Lean hashes anything: it is a label: what it is worth is what the hold of that sum in a sandbox is worth. -/
noncomputable def Try.pinned : Pinned := { name := "ythieonacgnppiaa", sum := "830e0dd4b41df1608adfbf46a8d5e05db9d3460c65c4d71d7eb7d4b92f1eb1c8", checked := Try.checked }
namespace Rows
def none {H : Type} : Left H := { results := [], args := [] }

/-- 'laws.FnExactTakeFront': WHATEVER THE INPUT: true; the input reads as it did. -/
def fnExactTakeFrontSpec : ChangeSpec := { name := "fnExactTakeFront", fn := fun _ => fun
  | [d] => { results := [.lit (.bool true)], args := [d] }
  | _ => none }
def fnExactTakeFrontRow : OpenClaim := { program := "ythieonacgnppiaa", sum := "830e0dd4b41df1608adfbf46a8d5e05db9d3460c65c4d71d7eb7d4b92f1eb1c8", func := "loop.example/g00966/laws.FnExactTakeFront", spec := "fnExactTakeFront", apart := false }
def FnExactTakeFrontSaid : Prop := fnExactTakeFrontRow.holds Try.pinned (OpenSpec.ofChange fnExactTakeFrontSpec)

/-- ITS FALSE NEIGHBOUR: 'it returns false'. Refute it at one input. -/
def fnExactTakeFrontWrong : ChangeSpec := { name := "fnExactTakeFront", fn := fun _ => fun
  | [d] => { results := [.lit (.bool false)], args := [d] }
  | _ => none }
def FnExactTakeFrontWrongFalsely : Prop := fnExactTakeFrontRow.holds Try.pinned (OpenSpec.ofChange fnExactTakeFrontWrong)

/-- 'laws.FnExactToldRace': WHATEVER THE INPUT: true; the input reads as it did. -/
def fnExactToldRaceSpec : ChangeSpec := { name := "fnExactToldRace", fn := fun _ => fun
  | [d1, d2] => { results := [.lit (.bool true)], args := [d1, d2] }
  | _ => none }
def fnExactToldRaceRow : OpenClaim := { program := "ythieonacgnppiaa", sum := "830e0dd4b41df1608adfbf46a8d5e05db9d3460c65c4d71d7eb7d4b92f1eb1c8", func := "loop.example/g00966/laws.FnExactToldRace", spec := "fnExactToldRace", apart := false }
def FnExactToldRaceSaid : Prop := fnExactToldRaceRow.holds Try.pinned (OpenSpec.ofChange fnExactToldRaceSpec)

/-- ITS FALSE NEIGHBOUR: 'it returns false'. Refute it at one input. -/
def fnExactToldRaceWrong : ChangeSpec := { name := "fnExactToldRace", fn := fun _ => fun
  | [d1, d2] => { results := [.lit (.bool false)], args := [d1, d2] }
  | _ => none }
def FnExactToldRaceWrongFalsely : Prop := fnExactToldRaceRow.holds Try.pinned (OpenSpec.ofChange fnExactToldRaceWrong)

/-- 'laws.FnExactAtOf': WHATEVER THE INPUT: true; the input reads as it did. -/
def fnExactAtOfSpec : ChangeSpec := { name := "fnExactAtOf", fn := fun _ => fun
  | [d1, d2] => { results := [.lit (.bool true)], args := [d1, d2] }
  | _ => none }
def fnExactAtOfRow : OpenClaim := { program := "ythieonacgnppiaa", sum := "830e0dd4b41df1608adfbf46a8d5e05db9d3460c65c4d71d7eb7d4b92f1eb1c8", func := "loop.example/g00966/laws.FnExactAtOf", spec := "fnExactAtOf", apart := false }
def FnExactAtOfSaid : Prop := fnExactAtOfRow.holds Try.pinned (OpenSpec.ofChange fnExactAtOfSpec)

/-- ITS FALSE NEIGHBOUR: 'it returns false'. Refute it at one input. -/
def fnExactAtOfWrong : ChangeSpec := { name := "fnExactAtOf", fn := fun _ => fun
  | [d1, d2] => { results := [.lit (.bool false)], args := [d1, d2] }
  | _ => none }
def FnExactAtOfWrongFalsely : Prop := fnExactAtOfRow.holds Try.pinned (OpenSpec.ofChange fnExactAtOfWrong)

/-- 'laws.FnExactOverIn': WHATEVER THE INPUT: true; the input reads as it did. -/
def fnExactOverInSpec : ChangeSpec := { name := "fnExactOverIn", fn := fun _ => fun
  | [d] => { results := [.lit (.bool true)], args := [d] }
  | _ => none }
def fnExactOverInRow : OpenClaim := { program := "ythieonacgnppiaa", sum := "830e0dd4b41df1608adfbf46a8d5e05db9d3460c65c4d71d7eb7d4b92f1eb1c8", func := "loop.example/g00966/laws.FnExactOverIn", spec := "fnExactOverIn", apart := false }
def FnExactOverInSaid : Prop := fnExactOverInRow.holds Try.pinned (OpenSpec.ofChange fnExactOverInSpec)

/-- ITS FALSE NEIGHBOUR: 'it returns false'. Refute it at one input. -/
def fnExactOverInWrong : ChangeSpec := { name := "fnExactOverIn", fn := fun _ => fun
  | [d] => { results := [.lit (.bool false)], args := [d] }
  | _ => none }
def FnExactOverInWrongFalsely : Prop := fnExactOverInRow.holds Try.pinned (OpenSpec.ofChange fnExactOverInWrong)

/-- 'laws.FnExactToldKnot': WHATEVER THE INPUT: true; the input reads as it did. -/
def fnExactToldKnotSpec : ChangeSpec := { name := "fnExactToldKnot", fn := fun _ => fun
  | [d1, d2] => { results := [.lit (.bool true)], args := [d1, d2] }
  | _ => none }
def fnExactToldKnotRow : OpenClaim := { program := "ythieonacgnppiaa", sum := "830e0dd4b41df1608adfbf46a8d5e05db9d3460c65c4d71d7eb7d4b92f1eb1c8", func := "loop.example/g00966/laws.FnExactToldKnot", spec := "fnExactToldKnot", apart := false }
def FnExactToldKnotSaid : Prop := fnExactToldKnotRow.holds Try.pinned (OpenSpec.ofChange fnExactToldKnotSpec)

/-- ITS FALSE NEIGHBOUR: 'it returns false'. Refute it at one input. -/
def fnExactToldKnotWrong : ChangeSpec := { name := "fnExactToldKnot", fn := fun _ => fun
  | [d1, d2] => { results := [.lit (.bool false)], args := [d1, d2] }
  | _ => none }
def FnExactToldKnotWrongFalsely : Prop := fnExactToldKnotRow.holds Try.pinned (OpenSpec.ofChange fnExactToldKnotWrong)

/-- 'laws.FnExactHeldBy': WHATEVER THE INPUT: true; the input reads as it did. -/
def fnExactHeldBySpec : ChangeSpec := { name := "fnExactHeldBy", fn := fun _ => fun
  | [d1, d2] => { results := [.lit (.bool true)], args := [d1, d2] }
  | _ => none }
def fnExactHeldByRow : OpenClaim := { program := "ythieonacgnppiaa", sum := "830e0dd4b41df1608adfbf46a8d5e05db9d3460c65c4d71d7eb7d4b92f1eb1c8", func := "loop.example/g00966/laws.FnExactHeldBy", spec := "fnExactHeldBy", apart := false }
def FnExactHeldBySaid : Prop := fnExactHeldByRow.holds Try.pinned (OpenSpec.ofChange fnExactHeldBySpec)

/-- ITS FALSE NEIGHBOUR: 'it returns false'. Refute it at one input. -/
def fnExactHeldByWrong : ChangeSpec := { name := "fnExactHeldBy", fn := fun _ => fun
  | [d1, d2] => { results := [.lit (.bool false)], args := [d1, d2] }
  | _ => none }
def FnExactHeldByWrongFalsely : Prop := fnExactHeldByRow.holds Try.pinned (OpenSpec.ofChange fnExactHeldByWrong)

/-- 'laws.FnExactLinesIn': WHATEVER THE INPUT: true; the input reads as it did. -/
def fnExactLinesInSpec : ChangeSpec := { name := "fnExactLinesIn", fn := fun _ => fun
  | [d] => { results := [.lit (.bool true)], args := [d] }
  | _ => none }
def fnExactLinesInRow : OpenClaim := { program := "ythieonacgnppiaa", sum := "830e0dd4b41df1608adfbf46a8d5e05db9d3460c65c4d71d7eb7d4b92f1eb1c8", func := "loop.example/g00966/laws.FnExactLinesIn", spec := "fnExactLinesIn", inPlace := ["internal/bytealg.CountString", "internal/bytealg.IndexByteString", "internal/bytealg.IndexString"], named := ["internal/bytealg.MaxLen"], apart := false }
def FnExactLinesInSaid : Prop := fnExactLinesInRow.holds Try.pinned (OpenSpec.ofChange fnExactLinesInSpec)

/-- ITS FALSE NEIGHBOUR: 'it returns false'. Refute it at one input. -/
def fnExactLinesInWrong : ChangeSpec := { name := "fnExactLinesIn", fn := fun _ => fun
  | [d] => { results := [.lit (.bool false)], args := [d] }
  | _ => none }
def FnExactLinesInWrongFalsely : Prop := fnExactLinesInRow.holds Try.pinned (OpenSpec.ofChange fnExactLinesInWrong)

/-- 'laws.FnExactSameState': WHATEVER THE INPUT: true; the input reads as it did. -/
def fnExactSameStateSpec : ChangeSpec := { name := "fnExactSameState", fn := fun _ => fun
  | [d1, d2] => { results := [.lit (.bool true)], args := [d1, d2] }
  | _ => none }
def fnExactSameStateRow : OpenClaim := { program := "ythieonacgnppiaa", sum := "830e0dd4b41df1608adfbf46a8d5e05db9d3460c65c4d71d7eb7d4b92f1eb1c8", func := "loop.example/g00966/laws.FnExactSameState", spec := "fnExactSameState", unfollowed := true, recurses := true, apart := false }
def FnExactSameStateSaid : Prop := fnExactSameStateRow.holds Try.pinned (OpenSpec.ofChange fnExactSameStateSpec)

/-- ITS FALSE NEIGHBOUR: 'it returns false'. Refute it at one input. -/
def fnExactSameStateWrong : ChangeSpec := { name := "fnExactSameState", fn := fun _ => fun
  | [d1, d2] => { results := [.lit (.bool false)], args := [d1, d2] }
  | _ => none }
def FnExactSameStateWrongFalsely : Prop := fnExactSameStateRow.holds Try.pinned (OpenSpec.ofChange fnExactSameStateWrong)

/- THE SECOND FORM. 'bulk': how many values and letters a reading holds, each counted each time it is reached (what is shared counts as often as it is met; a slice's spare places count too). A statement '..UptoSaid' is the law's where the arguments, and the package variables that the reading takes, are together of bulk at most 1048576: NARROWER than '..Said'. Prove '..Said' where nothing that the law and all that it calls make is longer than what came in: it says more and counts as full. Else prove '..UptoSaid'. A law counts once. -/
mutual
def uptoBulk {H : Type} : DataW H → Nat
  | .lit (.string bytes) => bytes.length + 1
  | .lit _ => 1
  | .nil => 1
  | .ptr d => uptoBulk d + 1
  | .slice elems spare => uptoBulkAll elems + uptoBulkAll spare + 1
  | .agg parts => uptoBulkAll parts + 1
  | .iface _ d => uptoBulk d + 1
  | .map entries => uptoBulkEntries entries + 1
  | .held _ => 1
def uptoBulkAll {H : Type} : List (DataW H) → Nat
  | [] => 0
  | d :: r => uptoBulk d + uptoBulkAll r
def uptoBulkEntries {H : Type} : List (Lit × DataW H) → Nat
  | [] => 0
  | x :: r => uptoBulkEntry x + uptoBulkEntries r
def uptoBulkEntry {H : Type} : Lit × DataW H → Nat
  | (.string bytes, d) => bytes.length + uptoBulk d + 1
  | (_, d) => uptoBulk d + 1
 end
def uptoSmall : (H : Type) → List (DataW H) → Bool := fun _ ds => decide (uptoBulkAll ds ≤ 1048576)
def OpenSpec.upto (s : _root_.Go.ChangeSpec) : _root_.Go.OpenSpec := { _root_.Go.OpenSpec.ofChange s with cond := some uptoSmall }

/-- 'laws.FnExactTakeFront', WHERE WHAT IT READS IS OF BULK AT MOST 1048576: true; the input reads as it did. -/
def fnExactTakeFrontUptoRow : OpenClaim := { program := "ythieonacgnppiaa", sum := "830e0dd4b41df1608adfbf46a8d5e05db9d3460c65c4d71d7eb7d4b92f1eb1c8", func := "loop.example/g00966/laws.FnExactTakeFront", spec := "fnExactTakeFront", apart := false, narrowed := true }
def FnExactTakeFrontUptoSaid : Prop := fnExactTakeFrontUptoRow.holds Try.pinned (OpenSpec.upto fnExactTakeFrontSpec)

/-- 'laws.FnExactToldRace', WHERE WHAT IT READS IS OF BULK AT MOST 1048576: true; the input reads as it did. -/
def fnExactToldRaceUptoRow : OpenClaim := { program := "ythieonacgnppiaa", sum := "830e0dd4b41df1608adfbf46a8d5e05db9d3460c65c4d71d7eb7d4b92f1eb1c8", func := "loop.example/g00966/laws.FnExactToldRace", spec := "fnExactToldRace", apart := false, narrowed := true }
def FnExactToldRaceUptoSaid : Prop := fnExactToldRaceUptoRow.holds Try.pinned (OpenSpec.upto fnExactToldRaceSpec)

/-- 'laws.FnExactAtOf', WHERE WHAT IT READS IS OF BULK AT MOST 1048576: true; the input reads as it did. -/
def fnExactAtOfUptoRow : OpenClaim := { program := "ythieonacgnppiaa", sum := "830e0dd4b41df1608adfbf46a8d5e05db9d3460c65c4d71d7eb7d4b92f1eb1c8", func := "loop.example/g00966/laws.FnExactAtOf", spec := "fnExactAtOf", apart := false, narrowed := true }
def FnExactAtOfUptoSaid : Prop := fnExactAtOfUptoRow.holds Try.pinned (OpenSpec.upto fnExactAtOfSpec)

/-- 'laws.FnExactOverIn', WHERE WHAT IT READS IS OF BULK AT MOST 1048576: true; the input reads as it did. -/
def fnExactOverInUptoRow : OpenClaim := { program := "ythieonacgnppiaa", sum := "830e0dd4b41df1608adfbf46a8d5e05db9d3460c65c4d71d7eb7d4b92f1eb1c8", func := "loop.example/g00966/laws.FnExactOverIn", spec := "fnExactOverIn", apart := false, narrowed := true }
def FnExactOverInUptoSaid : Prop := fnExactOverInUptoRow.holds Try.pinned (OpenSpec.upto fnExactOverInSpec)

/-- 'laws.FnExactToldKnot', WHERE WHAT IT READS IS OF BULK AT MOST 1048576: true; the input reads as it did. -/
def fnExactToldKnotUptoRow : OpenClaim := { program := "ythieonacgnppiaa", sum := "830e0dd4b41df1608adfbf46a8d5e05db9d3460c65c4d71d7eb7d4b92f1eb1c8", func := "loop.example/g00966/laws.FnExactToldKnot", spec := "fnExactToldKnot", apart := false, narrowed := true }
def FnExactToldKnotUptoSaid : Prop := fnExactToldKnotUptoRow.holds Try.pinned (OpenSpec.upto fnExactToldKnotSpec)

/-- 'laws.FnExactHeldBy', WHERE WHAT IT READS IS OF BULK AT MOST 1048576: true; the input reads as it did. -/
def fnExactHeldByUptoRow : OpenClaim := { program := "ythieonacgnppiaa", sum := "830e0dd4b41df1608adfbf46a8d5e05db9d3460c65c4d71d7eb7d4b92f1eb1c8", func := "loop.example/g00966/laws.FnExactHeldBy", spec := "fnExactHeldBy", apart := false, narrowed := true }
def FnExactHeldByUptoSaid : Prop := fnExactHeldByUptoRow.holds Try.pinned (OpenSpec.upto fnExactHeldBySpec)

/-- 'laws.FnExactLinesIn', WHERE WHAT IT READS IS OF BULK AT MOST 1048576: true; the input reads as it did. -/
def fnExactLinesInUptoRow : OpenClaim := { program := "ythieonacgnppiaa", sum := "830e0dd4b41df1608adfbf46a8d5e05db9d3460c65c4d71d7eb7d4b92f1eb1c8", func := "loop.example/g00966/laws.FnExactLinesIn", spec := "fnExactLinesIn", inPlace := ["internal/bytealg.CountString", "internal/bytealg.IndexByteString", "internal/bytealg.IndexString"], named := ["internal/bytealg.MaxLen"], apart := false, narrowed := true }
def FnExactLinesInUptoSaid : Prop := fnExactLinesInUptoRow.holds Try.pinned (OpenSpec.upto fnExactLinesInSpec)

/-- 'laws.FnExactSameState', WHERE WHAT IT READS IS OF BULK AT MOST 1048576: true; the input reads as it did. -/
def fnExactSameStateUptoRow : OpenClaim := { program := "ythieonacgnppiaa", sum := "830e0dd4b41df1608adfbf46a8d5e05db9d3460c65c4d71d7eb7d4b92f1eb1c8", func := "loop.example/g00966/laws.FnExactSameState", spec := "fnExactSameState", unfollowed := true, recurses := true, apart := false, narrowed := true }
def FnExactSameStateUptoSaid : Prop := fnExactSameStateUptoRow.holds Try.pinned (OpenSpec.upto fnExactSameStateSpec)

end Rows
end Go.Proofs.Ythieonacgnppiaa
