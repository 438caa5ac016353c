/-
  NARROWER THAN 'FOR EVERY INPUT', by the rows' own cells (each row's printed sentence says how): FnExactRanked: loops · FnExactRoundsOf: loops · FnExactRacesOn: loops · FnExactMissed: loops.
  DERIVED. THE GIVEN ROWS OF THIS SEAT. 4 by the template 'for every input the law returns true; each argument reads behind the call as it read before'; 0 by the template 'total and deterministic' (their statements: YtifonhplnmpgaaaGreatTotals.lean).
  GIVEN WITH THE SEED: the statements are not yours to turn. If you find one false, say at which input.
  Laid BY PROGRAM, IN A SANDBOX (cutbox-rows.mjs): the forced cells as the released guide's own fill.sh prints them over the translation 5ab163c3b73a4d82… (all of the seat's roots in one cut). By AI agents, Wed Nov 11 2026. No macro, syntax, notation, axiom, sorry.
-/
import Derived.Test.YtifonhplnmpgaaaGreatChecked
import GoSem.Claim
import GoSem.ClaimJoined
import GoSem.ClaimMapViews
import Derived.JoinedTies
import Derived.KernelRfl
namespace Go.Proofs.YtifonhplnmpgaaaGreat
/- THE CELL 'sum', in the pinned program and in every row, IS THE sha256 OF THE DUMP (.gsa) THAT YtifonhplnmpgaaaGreatProg.lean LOADS. Nothing in Lean hashes anything: it is a label: what it is worth is what the hold of that sum in a sandbox is worth. -/
noncomputable def Tryz.pinned : Pinned := { name := "ytifonhplnmpgaaagreat", sum := "5ab163c3b73a4d823c27e2e43921869d9c1440e7ec006efcbdc79aa39a448c61", checked := Tryz.checked }
namespace Rows
def none {H : Type} : Left H := { results := [], args := [] }

/-- 'laws.FnExactRanked': WHATEVER THE INPUT: true; the input reads as it did. -/
def fnExactRankedSpec : ChangeSpec := { name := "fnExactRanked", fn := fun _ => fun
  | [d] => { results := [.lit (.bool true)], args := [d] }
  | _ => none }
def fnExactRankedRow : OpenClaim := { program := "ytifonhplnmpgaaagreat", sum := "5ab163c3b73a4d823c27e2e43921869d9c1440e7ec006efcbdc79aa39a448c61", func := "loop.example/g00966/laws.FnExactRanked", spec := "fnExactRanked", unfollowed := true, recurses := true, loops := true, apart := false }
def FnExactRankedSaid : Prop := fnExactRankedRow.holds Tryz.pinned (OpenSpec.ofChange fnExactRankedSpec)

/-- ITS FALSE NEIGHBOUR: 'it returns false'. Refute it at one input. -/
def fnExactRankedWrong : ChangeSpec := { name := "fnExactRanked", fn := fun _ => fun
  | [d] => { results := [.lit (.bool false)], args := [d] }
  | _ => none }
def FnExactRankedWrongFalsely : Prop := fnExactRankedRow.holds Tryz.pinned (OpenSpec.ofChange fnExactRankedWrong)

/-- 'laws.FnExactRoundsOf': WHATEVER THE INPUT: true; the input reads as it did. -/
def fnExactRoundsOfSpec : ChangeSpec := { name := "fnExactRoundsOf", fn := fun _ => fun
  | [d] => { results := [.lit (.bool true)], args := [d] }
  | _ => none }
def fnExactRoundsOfRow : OpenClaim := { program := "ytifonhplnmpgaaagreat", sum := "5ab163c3b73a4d823c27e2e43921869d9c1440e7ec006efcbdc79aa39a448c61", func := "loop.example/g00966/laws.FnExactRoundsOf", spec := "fnExactRoundsOf", unfollowed := true, recurses := true, loops := true, apart := false }
def FnExactRoundsOfSaid : Prop := fnExactRoundsOfRow.holds Tryz.pinned (OpenSpec.ofChange fnExactRoundsOfSpec)

/-- ITS FALSE NEIGHBOUR: 'it returns false'. Refute it at one input. -/
def fnExactRoundsOfWrong : ChangeSpec := { name := "fnExactRoundsOf", fn := fun _ => fun
  | [d] => { results := [.lit (.bool false)], args := [d] }
  | _ => none }
def FnExactRoundsOfWrongFalsely : Prop := fnExactRoundsOfRow.holds Tryz.pinned (OpenSpec.ofChange fnExactRoundsOfWrong)

/-- 'laws.FnExactRacesOn': WHATEVER THE INPUT: true; the input reads as it did. -/
def fnExactRacesOnSpec : ChangeSpec := { name := "fnExactRacesOn", fn := fun _ => fun
  | [d1, d2] => { results := [.lit (.bool true)], args := [d1, d2] }
  | _ => none }
def fnExactRacesOnRow : OpenClaim := { program := "ytifonhplnmpgaaagreat", sum := "5ab163c3b73a4d823c27e2e43921869d9c1440e7ec006efcbdc79aa39a448c61", func := "loop.example/g00966/laws.FnExactRacesOn", spec := "fnExactRacesOn", unfollowed := true, recurses := true, loops := true, apart := false }
def FnExactRacesOnSaid : Prop := fnExactRacesOnRow.holds Tryz.pinned (OpenSpec.ofChange fnExactRacesOnSpec)

/-- ITS FALSE NEIGHBOUR: 'it returns false'. Refute it at one input. -/
def fnExactRacesOnWrong : ChangeSpec := { name := "fnExactRacesOn", fn := fun _ => fun
  | [d1, d2] => { results := [.lit (.bool false)], args := [d1, d2] }
  | _ => none }
def FnExactRacesOnWrongFalsely : Prop := fnExactRacesOnRow.holds Tryz.pinned (OpenSpec.ofChange fnExactRacesOnWrong)

/-- 'laws.FnExactMissed': WHATEVER THE INPUT: true; the input reads as it did. -/
def fnExactMissedSpec : ChangeSpec := { name := "fnExactMissed", fn := fun _ => fun
  | [d1, d2] => { results := [.lit (.bool true)], args := [d1, d2] }
  | _ => none }
def fnExactMissedRow : OpenClaim := { program := "ytifonhplnmpgaaagreat", sum := "5ab163c3b73a4d823c27e2e43921869d9c1440e7ec006efcbdc79aa39a448c61", func := "loop.example/g00966/laws.FnExactMissed", spec := "fnExactMissed", unfollowed := true, recurses := true, loops := true, apart := false }
def FnExactMissedSaid : Prop := fnExactMissedRow.holds Tryz.pinned (OpenSpec.ofChange fnExactMissedSpec)

/-- ITS FALSE NEIGHBOUR: 'it returns false'. Refute it at one input. -/
def fnExactMissedWrong : ChangeSpec := { name := "fnExactMissed", fn := fun _ => fun
  | [d1, d2] => { results := [.lit (.bool false)], args := [d1, d2] }
  | _ => none }
def FnExactMissedWrongFalsely : Prop := fnExactMissedRow.holds Tryz.pinned (OpenSpec.ofChange fnExactMissedWrong)

/- THE SECOND FORM. 'bulk': how many values and letters a reading holds, each counted each time it is reached (what is shared counts as often as it is met; a slice's spare places count too). A statement '..UptoSaid' is the law's where the arguments, and the package variables that the reading takes, are together of bulk at most 1048576: NARROWER than '..Said'. Prove '..Said' where nothing that the law and all that it calls make is longer than what came in: it says more and counts as full. Else prove '..UptoSaid'. A law counts once. -/
mutual
def uptoBulk {H : Type} : DataW H → Nat
  | .lit (.string bytes) => bytes.length + 1
  | .lit _ => 1
  | .nil => 1
  | .ptr d => uptoBulk d + 1
  | .slice elems spare => uptoBulkAll elems + uptoBulkAll spare + 1
  | .agg parts => uptoBulkAll parts + 1
  | .iface _ d => uptoBulk d + 1
  | .map entries => uptoBulkEntries entries + 1
  | .held _ => 1
def uptoBulkAll {H : Type} : List (DataW H) → Nat
  | [] => 0
  | d :: r => uptoBulk d + uptoBulkAll r
def uptoBulkEntries {H : Type} : List (Lit × DataW H) → Nat
  | [] => 0
  | x :: r => uptoBulkEntry x + uptoBulkEntries r
def uptoBulkEntry {H : Type} : Lit × DataW H → Nat
  | (.string bytes, d) => bytes.length + uptoBulk d + 1
  | (_, d) => uptoBulk d + 1
 end
def uptoSmall : (H : Type) → List (DataW H) → Bool := fun _ ds => decide (uptoBulkAll ds ≤ 1048576)
def OpenSpec.upto (s : _root_.Go.ChangeSpec) : _root_.Go.OpenSpec := { _root_.Go.OpenSpec.ofChange s with cond := some uptoSmall }

/-- 'laws.FnExactRanked', WHERE WHAT IT READS IS OF BULK AT MOST 1048576: true; the input reads as it did. -/
def fnExactRankedUptoRow : OpenClaim := { program := "ytifonhplnmpgaaagreat", sum := "5ab163c3b73a4d823c27e2e43921869d9c1440e7ec006efcbdc79aa39a448c61", func := "loop.example/g00966/laws.FnExactRanked", spec := "fnExactRanked", unfollowed := true, recurses := true, loops := true, apart := false, narrowed := true }
def FnExactRankedUptoSaid : Prop := fnExactRankedUptoRow.holds Tryz.pinned (OpenSpec.upto fnExactRankedSpec)

/-- 'laws.FnExactRoundsOf', WHERE WHAT IT READS IS OF BULK AT MOST 1048576: true; the input reads as it did. -/
def fnExactRoundsOfUptoRow : OpenClaim := { program := "ytifonhplnmpgaaagreat", sum := "5ab163c3b73a4d823c27e2e43921869d9c1440e7ec006efcbdc79aa39a448c61", func := "loop.example/g00966/laws.FnExactRoundsOf", spec := "fnExactRoundsOf", unfollowed := true, recurses := true, loops := true, apart := false, narrowed := true }
def FnExactRoundsOfUptoSaid : Prop := fnExactRoundsOfUptoRow.holds Tryz.pinned (OpenSpec.upto fnExactRoundsOfSpec)

/-- 'laws.FnExactRacesOn', WHERE WHAT IT READS IS OF BULK AT MOST 1048576: true; the input reads as it did. -/
def fnExactRacesOnUptoRow : OpenClaim := { program := "ytifonhplnmpgaaagreat", sum := "5ab163c3b73a4d823c27e2e43921869d9c1440e7ec006efcbdc79aa39a448c61", func := "loop.example/g00966/laws.FnExactRacesOn", spec := "fnExactRacesOn", unfollowed := true, recurses := true, loops := true, apart := false, narrowed := true }
def FnExactRacesOnUptoSaid : Prop := fnExactRacesOnUptoRow.holds Tryz.pinned (OpenSpec.upto fnExactRacesOnSpec)

/-- 'laws.FnExactMissed', WHERE WHAT IT READS IS OF BULK AT MOST 1048576: true; the input reads as it did. -/
def fnExactMissedUptoRow : OpenClaim := { program := "ytifonhplnmpgaaagreat", sum := "5ab163c3b73a4d823c27e2e43921869d9c1440e7ec006efcbdc79aa39a448c61", func := "loop.example/g00966/laws.FnExactMissed", spec := "fnExactMissed", unfollowed := true, recurses := true, loops := true, apart := false, narrowed := true }
def FnExactMissedUptoSaid : Prop := fnExactMissedUptoRow.holds Tryz.pinned (OpenSpec.upto fnExactMissedSpec)

end Rows
end Go.Proofs.YtifonhplnmpgaaaGreat
