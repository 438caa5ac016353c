/-
  NARROWER THAN 'FOR EVERY INPUT', by the rows' own cells (each row's printed sentence says how): FnExactStepOf: loops · FnExactStatesOf: loops · FnExactWayTo: loops · FnExactEndsOf: loops · FnExactHeldRight: loops · FnExactFair: loops · FnExactAskedIn: loops · FnExactMeetingsIn: loops · FnExactOrdersOf: loops · FnExactRanked: loops · FnExactRoundsOf: loops.
  DERIVED. THE GIVEN ROWS OF THIS SEAT. 11 by the template 'for every input the law returns true; each argument reads behind the call as it read before'; 0 by the template 'total and deterministic' (their statements: YteephmhilnlkpaaGreatTotals.lean).
  GIVEN WITH THE SEED: the statements are not yours to turn. If you find one false, say at which input.
  Laid BY PROGRAM, IN A SANDBOX (cutbox-rows.mjs): the forced cells as the released guide's own fill.sh prints them over the translation ecd86ce57ffa6759… (all of the seat's roots in one cut). By AI agents, Wed Nov 11 2026. No macro, syntax, notation, axiom, sorry.
-/
import Derived.Test.YteephmhilnlkpaaGreatChecked
import GoSem.Claim
import GoSem.ClaimJoined
import GoSem.ClaimMapViews
import Derived.JoinedTies
import Derived.KernelRfl
namespace Go.Proofs.YteephmhilnlkpaaGreat
/- THE CELL 'sum', in the pinned program and in every row, IS THE sha256 OF THE DUMP (.gsa) THAT YteephmhilnlkpaaGreatProg.lean LOADS. Nothing in Lean hashes anything: it is a label: what it is worth is what the hold of that sum in a sandbox is worth. -/
noncomputable def Tryz.pinned : Pinned := { name := "yteephmhilnlkpaagreat", sum := "ecd86ce57ffa6759964d2578e1bf017da89accaeba5cb94eb4a688ea05ed52b2", checked := Tryz.checked }
namespace Rows
def none {H : Type} : Left H := { results := [], args := [] }

/-- 'laws.FnExactStepOf': WHATEVER THE INPUT: true; the input reads as it did. -/
def fnExactStepOfSpec : ChangeSpec := { name := "fnExactStepOf", fn := fun _ => fun
  | [d1, d2, d3] => { results := [.lit (.bool true)], args := [d1, d2, d3] }
  | _ => none }
def fnExactStepOfRow : OpenClaim := { program := "yteephmhilnlkpaagreat", sum := "ecd86ce57ffa6759964d2578e1bf017da89accaeba5cb94eb4a688ea05ed52b2", func := "loop.example/g00966/laws.FnExactStepOf", spec := "fnExactStepOf", recurses := true, loops := true, apart := false }
def FnExactStepOfSaid : Prop := fnExactStepOfRow.holds Tryz.pinned (OpenSpec.ofChange fnExactStepOfSpec)

/-- ITS FALSE NEIGHBOUR: 'it returns false'. Refute it at one input. -/
def fnExactStepOfWrong : ChangeSpec := { name := "fnExactStepOf", fn := fun _ => fun
  | [d1, d2, d3] => { results := [.lit (.bool false)], args := [d1, d2, d3] }
  | _ => none }
def FnExactStepOfWrongFalsely : Prop := fnExactStepOfRow.holds Tryz.pinned (OpenSpec.ofChange fnExactStepOfWrong)

/-- 'laws.FnExactStatesOf': WHATEVER THE INPUT: true; the input reads as it did. -/
def fnExactStatesOfSpec : ChangeSpec := { name := "fnExactStatesOf", fn := fun _ => fun
  | [d1, d2] => { results := [.lit (.bool true)], args := [d1, d2] }
  | _ => none }
def fnExactStatesOfRow : OpenClaim := { program := "yteephmhilnlkpaagreat", sum := "ecd86ce57ffa6759964d2578e1bf017da89accaeba5cb94eb4a688ea05ed52b2", func := "loop.example/g00966/laws.FnExactStatesOf", spec := "fnExactStatesOf", unfollowed := true, recurses := true, loops := true, apart := false }
def FnExactStatesOfSaid : Prop := fnExactStatesOfRow.holds Tryz.pinned (OpenSpec.ofChange fnExactStatesOfSpec)

/-- ITS FALSE NEIGHBOUR: 'it returns false'. Refute it at one input. -/
def fnExactStatesOfWrong : ChangeSpec := { name := "fnExactStatesOf", fn := fun _ => fun
  | [d1, d2] => { results := [.lit (.bool false)], args := [d1, d2] }
  | _ => none }
def FnExactStatesOfWrongFalsely : Prop := fnExactStatesOfRow.holds Tryz.pinned (OpenSpec.ofChange fnExactStatesOfWrong)

/-- 'laws.FnExactWayTo': WHATEVER THE INPUT: true; the input reads as it did. -/
def fnExactWayToSpec : ChangeSpec := { name := "fnExactWayTo", fn := fun _ => fun
  | [d1, d2, d3] => { results := [.lit (.bool true)], args := [d1, d2, d3] }
  | _ => none }
def fnExactWayToRow : OpenClaim := { program := "yteephmhilnlkpaagreat", sum := "ecd86ce57ffa6759964d2578e1bf017da89accaeba5cb94eb4a688ea05ed52b2", func := "loop.example/g00966/laws.FnExactWayTo", spec := "fnExactWayTo", unfollowed := true, recurses := true, loops := true, apart := false }
def FnExactWayToSaid : Prop := fnExactWayToRow.holds Tryz.pinned (OpenSpec.ofChange fnExactWayToSpec)

/-- ITS FALSE NEIGHBOUR: 'it returns false'. Refute it at one input. -/
def fnExactWayToWrong : ChangeSpec := { name := "fnExactWayTo", fn := fun _ => fun
  | [d1, d2, d3] => { results := [.lit (.bool false)], args := [d1, d2, d3] }
  | _ => none }
def FnExactWayToWrongFalsely : Prop := fnExactWayToRow.holds Tryz.pinned (OpenSpec.ofChange fnExactWayToWrong)

/-- 'laws.FnExactEndsOf': WHATEVER THE INPUT: true; the input reads as it did. -/
def fnExactEndsOfSpec : ChangeSpec := { name := "fnExactEndsOf", fn := fun _ => fun
  | [d1, d2] => { results := [.lit (.bool true)], args := [d1, d2] }
  | _ => none }
def fnExactEndsOfRow : OpenClaim := { program := "yteephmhilnlkpaagreat", sum := "ecd86ce57ffa6759964d2578e1bf017da89accaeba5cb94eb4a688ea05ed52b2", func := "loop.example/g00966/laws.FnExactEndsOf", spec := "fnExactEndsOf", unfollowed := true, recurses := true, loops := true, apart := false }
def FnExactEndsOfSaid : Prop := fnExactEndsOfRow.holds Tryz.pinned (OpenSpec.ofChange fnExactEndsOfSpec)

/-- ITS FALSE NEIGHBOUR: 'it returns false'. Refute it at one input. -/
def fnExactEndsOfWrong : ChangeSpec := { name := "fnExactEndsOf", fn := fun _ => fun
  | [d1, d2] => { results := [.lit (.bool false)], args := [d1, d2] }
  | _ => none }
def FnExactEndsOfWrongFalsely : Prop := fnExactEndsOfRow.holds Tryz.pinned (OpenSpec.ofChange fnExactEndsOfWrong)

/-- 'laws.FnExactHeldRight': WHATEVER THE INPUT: true; the input reads as it did. -/
def fnExactHeldRightSpec : ChangeSpec := { name := "fnExactHeldRight", fn := fun _ => fun
  | [d1, d2] => { results := [.lit (.bool true)], args := [d1, d2] }
  | _ => none }
def fnExactHeldRightRow : OpenClaim := { program := "yteephmhilnlkpaagreat", sum := "ecd86ce57ffa6759964d2578e1bf017da89accaeba5cb94eb4a688ea05ed52b2", func := "loop.example/g00966/laws.FnExactHeldRight", spec := "fnExactHeldRight", unfollowed := true, recurses := true, loops := true, apart := false }
def FnExactHeldRightSaid : Prop := fnExactHeldRightRow.holds Tryz.pinned (OpenSpec.ofChange fnExactHeldRightSpec)

/-- ITS FALSE NEIGHBOUR: 'it returns false'. Refute it at one input. -/
def fnExactHeldRightWrong : ChangeSpec := { name := "fnExactHeldRight", fn := fun _ => fun
  | [d1, d2] => { results := [.lit (.bool false)], args := [d1, d2] }
  | _ => none }
def FnExactHeldRightWrongFalsely : Prop := fnExactHeldRightRow.holds Tryz.pinned (OpenSpec.ofChange fnExactHeldRightWrong)

/-- 'laws.FnExactFair': WHATEVER THE INPUT: true; the input reads as it did. -/
def fnExactFairSpec : ChangeSpec := { name := "fnExactFair", fn := fun _ => fun
  | [d1, d2] => { results := [.lit (.bool true)], args := [d1, d2] }
  | _ => none }
def fnExactFairRow : OpenClaim := { program := "yteephmhilnlkpaagreat", sum := "ecd86ce57ffa6759964d2578e1bf017da89accaeba5cb94eb4a688ea05ed52b2", func := "loop.example/g00966/laws.FnExactFair", spec := "fnExactFair", unfollowed := true, recurses := true, loops := true, apart := false }
def FnExactFairSaid : Prop := fnExactFairRow.holds Tryz.pinned (OpenSpec.ofChange fnExactFairSpec)

/-- ITS FALSE NEIGHBOUR: 'it returns false'. Refute it at one input. -/
def fnExactFairWrong : ChangeSpec := { name := "fnExactFair", fn := fun _ => fun
  | [d1, d2] => { results := [.lit (.bool false)], args := [d1, d2] }
  | _ => none }
def FnExactFairWrongFalsely : Prop := fnExactFairRow.holds Tryz.pinned (OpenSpec.ofChange fnExactFairWrong)

/-- 'laws.FnExactAskedIn': WHATEVER THE INPUT: true; the input reads as it did. -/
def fnExactAskedInSpec : ChangeSpec := { name := "fnExactAskedIn", fn := fun _ => fun
  | [d1, d2] => { results := [.lit (.bool true)], args := [d1, d2] }
  | _ => none }
def fnExactAskedInRow : OpenClaim := { program := "yteephmhilnlkpaagreat", sum := "ecd86ce57ffa6759964d2578e1bf017da89accaeba5cb94eb4a688ea05ed52b2", func := "loop.example/g00966/laws.FnExactAskedIn", spec := "fnExactAskedIn", unfollowed := true, recurses := true, loops := true, apart := false }
def FnExactAskedInSaid : Prop := fnExactAskedInRow.holds Tryz.pinned (OpenSpec.ofChange fnExactAskedInSpec)

/-- ITS FALSE NEIGHBOUR: 'it returns false'. Refute it at one input. -/
def fnExactAskedInWrong : ChangeSpec := { name := "fnExactAskedIn", fn := fun _ => fun
  | [d1, d2] => { results := [.lit (.bool false)], args := [d1, d2] }
  | _ => none }
def FnExactAskedInWrongFalsely : Prop := fnExactAskedInRow.holds Tryz.pinned (OpenSpec.ofChange fnExactAskedInWrong)

/-- 'laws.FnExactMeetingsIn': WHATEVER THE INPUT: true; the input reads as it did. -/
def fnExactMeetingsInSpec : ChangeSpec := { name := "fnExactMeetingsIn", fn := fun _ => fun
  | [d1, d2] => { results := [.lit (.bool true)], args := [d1, d2] }
  | _ => none }
def fnExactMeetingsInRow : OpenClaim := { program := "yteephmhilnlkpaagreat", sum := "ecd86ce57ffa6759964d2578e1bf017da89accaeba5cb94eb4a688ea05ed52b2", func := "loop.example/g00966/laws.FnExactMeetingsIn", spec := "fnExactMeetingsIn", unfollowed := true, recurses := true, loops := true, apart := false }
def FnExactMeetingsInSaid : Prop := fnExactMeetingsInRow.holds Tryz.pinned (OpenSpec.ofChange fnExactMeetingsInSpec)

/-- ITS FALSE NEIGHBOUR: 'it returns false'. Refute it at one input. -/
def fnExactMeetingsInWrong : ChangeSpec := { name := "fnExactMeetingsIn", fn := fun _ => fun
  | [d1, d2] => { results := [.lit (.bool false)], args := [d1, d2] }
  | _ => none }
def FnExactMeetingsInWrongFalsely : Prop := fnExactMeetingsInRow.holds Tryz.pinned (OpenSpec.ofChange fnExactMeetingsInWrong)

/-- 'laws.FnExactOrdersOf': WHATEVER THE INPUT: true; the input reads as it did. -/
def fnExactOrdersOfSpec : ChangeSpec := { name := "fnExactOrdersOf", fn := fun _ => fun
  | [d] => { results := [.lit (.bool true)], args := [d] }
  | _ => none }
def fnExactOrdersOfRow : OpenClaim := { program := "yteephmhilnlkpaagreat", sum := "ecd86ce57ffa6759964d2578e1bf017da89accaeba5cb94eb4a688ea05ed52b2", func := "loop.example/g00966/laws.FnExactOrdersOf", spec := "fnExactOrdersOf", unfollowed := true, recurses := true, loops := true, apart := false }
def FnExactOrdersOfSaid : Prop := fnExactOrdersOfRow.holds Tryz.pinned (OpenSpec.ofChange fnExactOrdersOfSpec)

/-- ITS FALSE NEIGHBOUR: 'it returns false'. Refute it at one input. -/
def fnExactOrdersOfWrong : ChangeSpec := { name := "fnExactOrdersOf", fn := fun _ => fun
  | [d] => { results := [.lit (.bool false)], args := [d] }
  | _ => none }
def FnExactOrdersOfWrongFalsely : Prop := fnExactOrdersOfRow.holds Tryz.pinned (OpenSpec.ofChange fnExactOrdersOfWrong)

/-- 'laws.FnExactRanked': WHATEVER THE INPUT: true; the input reads as it did. -/
def fnExactRankedSpec : ChangeSpec := { name := "fnExactRanked", fn := fun _ => fun
  | [d] => { results := [.lit (.bool true)], args := [d] }
  | _ => none }
def fnExactRankedRow : OpenClaim := { program := "yteephmhilnlkpaagreat", sum := "ecd86ce57ffa6759964d2578e1bf017da89accaeba5cb94eb4a688ea05ed52b2", func := "loop.example/g00966/laws.FnExactRanked", spec := "fnExactRanked", unfollowed := true, recurses := true, loops := true, apart := false }
def FnExactRankedSaid : Prop := fnExactRankedRow.holds Tryz.pinned (OpenSpec.ofChange fnExactRankedSpec)

/-- ITS FALSE NEIGHBOUR: 'it returns false'. Refute it at one input. -/
def fnExactRankedWrong : ChangeSpec := { name := "fnExactRanked", fn := fun _ => fun
  | [d] => { results := [.lit (.bool false)], args := [d] }
  | _ => none }
def FnExactRankedWrongFalsely : Prop := fnExactRankedRow.holds Tryz.pinned (OpenSpec.ofChange fnExactRankedWrong)

/-- 'laws.FnExactRoundsOf': WHATEVER THE INPUT: true; the input reads as it did. -/
def fnExactRoundsOfSpec : ChangeSpec := { name := "fnExactRoundsOf", fn := fun _ => fun
  | [d] => { results := [.lit (.bool true)], args := [d] }
  | _ => none }
def fnExactRoundsOfRow : OpenClaim := { program := "yteephmhilnlkpaagreat", sum := "ecd86ce57ffa6759964d2578e1bf017da89accaeba5cb94eb4a688ea05ed52b2", func := "loop.example/g00966/laws.FnExactRoundsOf", spec := "fnExactRoundsOf", unfollowed := true, recurses := true, loops := true, apart := false }
def FnExactRoundsOfSaid : Prop := fnExactRoundsOfRow.holds Tryz.pinned (OpenSpec.ofChange fnExactRoundsOfSpec)

/-- ITS FALSE NEIGHBOUR: 'it returns false'. Refute it at one input. -/
def fnExactRoundsOfWrong : ChangeSpec := { name := "fnExactRoundsOf", fn := fun _ => fun
  | [d] => { results := [.lit (.bool false)], args := [d] }
  | _ => none }
def FnExactRoundsOfWrongFalsely : Prop := fnExactRoundsOfRow.holds Tryz.pinned (OpenSpec.ofChange fnExactRoundsOfWrong)

/- THE SECOND FORM. 'bulk': how many values and letters a reading holds, each counted each time it is reached (what is shared counts as often as it is met; a slice's spare places count too). A statement '..UptoSaid' is the law's where the arguments, and the package variables that the reading takes, are together of bulk at most 1048576: NARROWER than '..Said'. Prove '..Said' where nothing that the law and all that it calls make is longer than what came in: it says more and counts as full. Else prove '..UptoSaid'. A law counts once. -/
mutual
def uptoBulk {H : Type} : DataW H → Nat
  | .lit (.string bytes) => bytes.length + 1
  | .lit _ => 1
  | .nil => 1
  | .ptr d => uptoBulk d + 1
  | .slice elems spare => uptoBulkAll elems + uptoBulkAll spare + 1
  | .agg parts => uptoBulkAll parts + 1
  | .iface _ d => uptoBulk d + 1
  | .map entries => uptoBulkEntries entries + 1
  | .held _ => 1
def uptoBulkAll {H : Type} : List (DataW H) → Nat
  | [] => 0
  | d :: r => uptoBulk d + uptoBulkAll r
def uptoBulkEntries {H : Type} : List (Lit × DataW H) → Nat
  | [] => 0
  | x :: r => uptoBulkEntry x + uptoBulkEntries r
def uptoBulkEntry {H : Type} : Lit × DataW H → Nat
  | (.string bytes, d) => bytes.length + uptoBulk d + 1
  | (_, d) => uptoBulk d + 1
 end
def uptoSmall : (H : Type) → List (DataW H) → Bool := fun _ ds => decide (uptoBulkAll ds ≤ 1048576)
def OpenSpec.upto (s : _root_.Go.ChangeSpec) : _root_.Go.OpenSpec := { _root_.Go.OpenSpec.ofChange s with cond := some uptoSmall }

/-- 'laws.FnExactStepOf', WHERE WHAT IT READS IS OF BULK AT MOST 1048576: true; the input reads as it did. -/
def fnExactStepOfUptoRow : OpenClaim := { program := "yteephmhilnlkpaagreat", sum := "ecd86ce57ffa6759964d2578e1bf017da89accaeba5cb94eb4a688ea05ed52b2", func := "loop.example/g00966/laws.FnExactStepOf", spec := "fnExactStepOf", recurses := true, loops := true, apart := false, narrowed := true }
def FnExactStepOfUptoSaid : Prop := fnExactStepOfUptoRow.holds Tryz.pinned (OpenSpec.upto fnExactStepOfSpec)

/-- 'laws.FnExactStatesOf', WHERE WHAT IT READS IS OF BULK AT MOST 1048576: true; the input reads as it did. -/
def fnExactStatesOfUptoRow : OpenClaim := { program := "yteephmhilnlkpaagreat", sum := "ecd86ce57ffa6759964d2578e1bf017da89accaeba5cb94eb4a688ea05ed52b2", func := "loop.example/g00966/laws.FnExactStatesOf", spec := "fnExactStatesOf", unfollowed := true, recurses := true, loops := true, apart := false, narrowed := true }
def FnExactStatesOfUptoSaid : Prop := fnExactStatesOfUptoRow.holds Tryz.pinned (OpenSpec.upto fnExactStatesOfSpec)

/-- 'laws.FnExactWayTo', WHERE WHAT IT READS IS OF BULK AT MOST 1048576: true; the input reads as it did. -/
def fnExactWayToUptoRow : OpenClaim := { program := "yteephmhilnlkpaagreat", sum := "ecd86ce57ffa6759964d2578e1bf017da89accaeba5cb94eb4a688ea05ed52b2", func := "loop.example/g00966/laws.FnExactWayTo", spec := "fnExactWayTo", unfollowed := true, recurses := true, loops := true, apart := false, narrowed := true }
def FnExactWayToUptoSaid : Prop := fnExactWayToUptoRow.holds Tryz.pinned (OpenSpec.upto fnExactWayToSpec)

/-- 'laws.FnExactEndsOf', WHERE WHAT IT READS IS OF BULK AT MOST 1048576: true; the input reads as it did. -/
def fnExactEndsOfUptoRow : OpenClaim := { program := "yteephmhilnlkpaagreat", sum := "ecd86ce57ffa6759964d2578e1bf017da89accaeba5cb94eb4a688ea05ed52b2", func := "loop.example/g00966/laws.FnExactEndsOf", spec := "fnExactEndsOf", unfollowed := true, recurses := true, loops := true, apart := false, narrowed := true }
def FnExactEndsOfUptoSaid : Prop := fnExactEndsOfUptoRow.holds Tryz.pinned (OpenSpec.upto fnExactEndsOfSpec)

/-- 'laws.FnExactHeldRight', WHERE WHAT IT READS IS OF BULK AT MOST 1048576: true; the input reads as it did. -/
def fnExactHeldRightUptoRow : OpenClaim := { program := "yteephmhilnlkpaagreat", sum := "ecd86ce57ffa6759964d2578e1bf017da89accaeba5cb94eb4a688ea05ed52b2", func := "loop.example/g00966/laws.FnExactHeldRight", spec := "fnExactHeldRight", unfollowed := true, recurses := true, loops := true, apart := false, narrowed := true }
def FnExactHeldRightUptoSaid : Prop := fnExactHeldRightUptoRow.holds Tryz.pinned (OpenSpec.upto fnExactHeldRightSpec)

/-- 'laws.FnExactFair', WHERE WHAT IT READS IS OF BULK AT MOST 1048576: true; the input reads as it did. -/
def fnExactFairUptoRow : OpenClaim := { program := "yteephmhilnlkpaagreat", sum := "ecd86ce57ffa6759964d2578e1bf017da89accaeba5cb94eb4a688ea05ed52b2", func := "loop.example/g00966/laws.FnExactFair", spec := "fnExactFair", unfollowed := true, recurses := true, loops := true, apart := false, narrowed := true }
def FnExactFairUptoSaid : Prop := fnExactFairUptoRow.holds Tryz.pinned (OpenSpec.upto fnExactFairSpec)

/-- 'laws.FnExactAskedIn', WHERE WHAT IT READS IS OF BULK AT MOST 1048576: true; the input reads as it did. -/
def fnExactAskedInUptoRow : OpenClaim := { program := "yteephmhilnlkpaagreat", sum := "ecd86ce57ffa6759964d2578e1bf017da89accaeba5cb94eb4a688ea05ed52b2", func := "loop.example/g00966/laws.FnExactAskedIn", spec := "fnExactAskedIn", unfollowed := true, recurses := true, loops := true, apart := false, narrowed := true }
def FnExactAskedInUptoSaid : Prop := fnExactAskedInUptoRow.holds Tryz.pinned (OpenSpec.upto fnExactAskedInSpec)

/-- 'laws.FnExactMeetingsIn', WHERE WHAT IT READS IS OF BULK AT MOST 1048576: true; the input reads as it did. -/
def fnExactMeetingsInUptoRow : OpenClaim := { program := "yteephmhilnlkpaagreat", sum := "ecd86ce57ffa6759964d2578e1bf017da89accaeba5cb94eb4a688ea05ed52b2", func := "loop.example/g00966/laws.FnExactMeetingsIn", spec := "fnExactMeetingsIn", unfollowed := true, recurses := true, loops := true, apart := false, narrowed := true }
def FnExactMeetingsInUptoSaid : Prop := fnExactMeetingsInUptoRow.holds Tryz.pinned (OpenSpec.upto fnExactMeetingsInSpec)

/-- 'laws.FnExactOrdersOf', WHERE WHAT IT READS IS OF BULK AT MOST 1048576: true; the input reads as it did. -/
def fnExactOrdersOfUptoRow : OpenClaim := { program := "yteephmhilnlkpaagreat", sum := "ecd86ce57ffa6759964d2578e1bf017da89accaeba5cb94eb4a688ea05ed52b2", func := "loop.example/g00966/laws.FnExactOrdersOf", spec := "fnExactOrdersOf", unfollowed := true, recurses := true, loops := true, apart := false, narrowed := true }
def FnExactOrdersOfUptoSaid : Prop := fnExactOrdersOfUptoRow.holds Tryz.pinned (OpenSpec.upto fnExactOrdersOfSpec)

/-- 'laws.FnExactRanked', WHERE WHAT IT READS IS OF BULK AT MOST 1048576: true; the input reads as it did. -/
def fnExactRankedUptoRow : OpenClaim := { program := "yteephmhilnlkpaagreat", sum := "ecd86ce57ffa6759964d2578e1bf017da89accaeba5cb94eb4a688ea05ed52b2", func := "loop.example/g00966/laws.FnExactRanked", spec := "fnExactRanked", unfollowed := true, recurses := true, loops := true, apart := false, narrowed := true }
def FnExactRankedUptoSaid : Prop := fnExactRankedUptoRow.holds Tryz.pinned (OpenSpec.upto fnExactRankedSpec)

/-- 'laws.FnExactRoundsOf', WHERE WHAT IT READS IS OF BULK AT MOST 1048576: true; the input reads as it did. -/
def fnExactRoundsOfUptoRow : OpenClaim := { program := "yteephmhilnlkpaagreat", sum := "ecd86ce57ffa6759964d2578e1bf017da89accaeba5cb94eb4a688ea05ed52b2", func := "loop.example/g00966/laws.FnExactRoundsOf", spec := "fnExactRoundsOf", unfollowed := true, recurses := true, loops := true, apart := false, narrowed := true }
def FnExactRoundsOfUptoSaid : Prop := fnExactRoundsOfUptoRow.holds Tryz.pinned (OpenSpec.upto fnExactRoundsOfSpec)

end Rows
end Go.Proofs.YteephmhilnlkpaaGreat
