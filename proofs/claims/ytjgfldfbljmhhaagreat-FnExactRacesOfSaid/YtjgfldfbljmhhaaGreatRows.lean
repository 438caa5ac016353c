/-
  NARROWER THAN 'FOR EVERY INPUT', by the rows' own cells (each row's printed sentence says how): FnExactHeldRight: loops · FnExactAskedIn: loops · FnExactOrdersOf: loops · FnExactRanked: loops · FnExactRoundsOf: loops · FnExactSeenAll: loops · FnExactRacesOf: loops · FnExactRacesOn: loops · FnExactMissed: loops.
  DERIVED. THE GIVEN ROWS OF THIS SEAT. 9 by the template 'for every input the law returns true; each argument reads behind the call as it read before'; 0 by the template 'total and deterministic' (their statements: YtjgfldfbljmhhaaGreatTotals.lean).
  GIVEN WITH THE SEED: the statements are not yours to turn. If you find one false, say at which input.
  Laid BY PROGRAM, IN A SANDBOX (cutbox-rows.mjs): the forced cells as the released guide's own fill.sh prints them over the translation 185d53bded9c1f6a… (all of the seat's roots in one cut). By AI agents, Wed Nov 11 2026. No macro, syntax, notation, axiom, sorry.
-/
import Derived.Test.YtjgfldfbljmhhaaGreatChecked
import GoSem.Claim
import GoSem.ClaimJoined
import GoSem.ClaimMapViews
import Derived.JoinedTies
import Derived.KernelRfl
namespace Go.Proofs.YtjgfldfbljmhhaaGreat
/- THE CELL 'sum', in the pinned program and in every row, IS THE sha256 OF THE DUMP (.gsa) THAT YtjgfldfbljmhhaaGreatProg.lean LOADS. Nothing in Lean hashes anything: it is a label: what it is worth is what the hold of that sum in a sandbox is worth. -/
noncomputable def Tryz.pinned : Pinned := { name := "ytjgfldfbljmhhaagreat", sum := "185d53bded9c1f6aa2066cf1c539a12e5c1480b08af6dc3e53c89d6e835ee42c", checked := Tryz.checked }
namespace Rows
def none {H : Type} : Left H := { results := [], args := [] }

/-- 'laws.FnExactHeldRight': WHATEVER THE INPUT: true; the input reads as it did. -/
def fnExactHeldRightSpec : ChangeSpec := { name := "fnExactHeldRight", fn := fun _ => fun
  | [d1, d2] => { results := [.lit (.bool true)], args := [d1, d2] }
  | _ => none }
def fnExactHeldRightRow : OpenClaim := { program := "ytjgfldfbljmhhaagreat", sum := "185d53bded9c1f6aa2066cf1c539a12e5c1480b08af6dc3e53c89d6e835ee42c", func := "loop.example/g00966/laws.FnExactHeldRight", spec := "fnExactHeldRight", unfollowed := true, recurses := true, loops := true, apart := false }
def FnExactHeldRightSaid : Prop := fnExactHeldRightRow.holds Tryz.pinned (OpenSpec.ofChange fnExactHeldRightSpec)

/-- ITS FALSE NEIGHBOUR: 'it returns false'. Refute it at one input. -/
def fnExactHeldRightWrong : ChangeSpec := { name := "fnExactHeldRight", fn := fun _ => fun
  | [d1, d2] => { results := [.lit (.bool false)], args := [d1, d2] }
  | _ => none }
def FnExactHeldRightWrongFalsely : Prop := fnExactHeldRightRow.holds Tryz.pinned (OpenSpec.ofChange fnExactHeldRightWrong)

/-- 'laws.FnExactAskedIn': WHATEVER THE INPUT: true; the input reads as it did. -/
def fnExactAskedInSpec : ChangeSpec := { name := "fnExactAskedIn", fn := fun _ => fun
  | [d1, d2] => { results := [.lit (.bool true)], args := [d1, d2] }
  | _ => none }
def fnExactAskedInRow : OpenClaim := { program := "ytjgfldfbljmhhaagreat", sum := "185d53bded9c1f6aa2066cf1c539a12e5c1480b08af6dc3e53c89d6e835ee42c", func := "loop.example/g00966/laws.FnExactAskedIn", spec := "fnExactAskedIn", unfollowed := true, recurses := true, loops := true, apart := false }
def FnExactAskedInSaid : Prop := fnExactAskedInRow.holds Tryz.pinned (OpenSpec.ofChange fnExactAskedInSpec)

/-- ITS FALSE NEIGHBOUR: 'it returns false'. Refute it at one input. -/
def fnExactAskedInWrong : ChangeSpec := { name := "fnExactAskedIn", fn := fun _ => fun
  | [d1, d2] => { results := [.lit (.bool false)], args := [d1, d2] }
  | _ => none }
def FnExactAskedInWrongFalsely : Prop := fnExactAskedInRow.holds Tryz.pinned (OpenSpec.ofChange fnExactAskedInWrong)

/-- 'laws.FnExactOrdersOf': WHATEVER THE INPUT: true; the input reads as it did. -/
def fnExactOrdersOfSpec : ChangeSpec := { name := "fnExactOrdersOf", fn := fun _ => fun
  | [d] => { results := [.lit (.bool true)], args := [d] }
  | _ => none }
def fnExactOrdersOfRow : OpenClaim := { program := "ytjgfldfbljmhhaagreat", sum := "185d53bded9c1f6aa2066cf1c539a12e5c1480b08af6dc3e53c89d6e835ee42c", func := "loop.example/g00966/laws.FnExactOrdersOf", spec := "fnExactOrdersOf", unfollowed := true, recurses := true, loops := true, apart := false }
def FnExactOrdersOfSaid : Prop := fnExactOrdersOfRow.holds Tryz.pinned (OpenSpec.ofChange fnExactOrdersOfSpec)

/-- ITS FALSE NEIGHBOUR: 'it returns false'. Refute it at one input. -/
def fnExactOrdersOfWrong : ChangeSpec := { name := "fnExactOrdersOf", fn := fun _ => fun
  | [d] => { results := [.lit (.bool false)], args := [d] }
  | _ => none }
def FnExactOrdersOfWrongFalsely : Prop := fnExactOrdersOfRow.holds Tryz.pinned (OpenSpec.ofChange fnExactOrdersOfWrong)

/-- 'laws.FnExactRanked': WHATEVER THE INPUT: true; the input reads as it did. -/
def fnExactRankedSpec : ChangeSpec := { name := "fnExactRanked", fn := fun _ => fun
  | [d] => { results := [.lit (.bool true)], args := [d] }
  | _ => none }
def fnExactRankedRow : OpenClaim := { program := "ytjgfldfbljmhhaagreat", sum := "185d53bded9c1f6aa2066cf1c539a12e5c1480b08af6dc3e53c89d6e835ee42c", func := "loop.example/g00966/laws.FnExactRanked", spec := "fnExactRanked", unfollowed := true, recurses := true, loops := true, apart := false }
def FnExactRankedSaid : Prop := fnExactRankedRow.holds Tryz.pinned (OpenSpec.ofChange fnExactRankedSpec)

/-- ITS FALSE NEIGHBOUR: 'it returns false'. Refute it at one input. -/
def fnExactRankedWrong : ChangeSpec := { name := "fnExactRanked", fn := fun _ => fun
  | [d] => { results := [.lit (.bool false)], args := [d] }
  | _ => none }
def FnExactRankedWrongFalsely : Prop := fnExactRankedRow.holds Tryz.pinned (OpenSpec.ofChange fnExactRankedWrong)

/-- 'laws.FnExactRoundsOf': WHATEVER THE INPUT: true; the input reads as it did. -/
def fnExactRoundsOfSpec : ChangeSpec := { name := "fnExactRoundsOf", fn := fun _ => fun
  | [d] => { results := [.lit (.bool true)], args := [d] }
  | _ => none }
def fnExactRoundsOfRow : OpenClaim := { program := "ytjgfldfbljmhhaagreat", sum := "185d53bded9c1f6aa2066cf1c539a12e5c1480b08af6dc3e53c89d6e835ee42c", func := "loop.example/g00966/laws.FnExactRoundsOf", spec := "fnExactRoundsOf", unfollowed := true, recurses := true, loops := true, apart := false }
def FnExactRoundsOfSaid : Prop := fnExactRoundsOfRow.holds Tryz.pinned (OpenSpec.ofChange fnExactRoundsOfSpec)

/-- ITS FALSE NEIGHBOUR: 'it returns false'. Refute it at one input. -/
def fnExactRoundsOfWrong : ChangeSpec := { name := "fnExactRoundsOf", fn := fun _ => fun
  | [d] => { results := [.lit (.bool false)], args := [d] }
  | _ => none }
def FnExactRoundsOfWrongFalsely : Prop := fnExactRoundsOfRow.holds Tryz.pinned (OpenSpec.ofChange fnExactRoundsOfWrong)

/-- 'laws.FnExactSeenAll': WHATEVER THE INPUT: true; the input reads as it did. -/
def fnExactSeenAllSpec : ChangeSpec := { name := "fnExactSeenAll", fn := fun _ => fun
  | [d1, d2] => { results := [.lit (.bool true)], args := [d1, d2] }
  | _ => none }
def fnExactSeenAllRow : OpenClaim := { program := "ytjgfldfbljmhhaagreat", sum := "185d53bded9c1f6aa2066cf1c539a12e5c1480b08af6dc3e53c89d6e835ee42c", func := "loop.example/g00966/laws.FnExactSeenAll", spec := "fnExactSeenAll", unfollowed := true, recurses := true, loops := true, apart := false }
def FnExactSeenAllSaid : Prop := fnExactSeenAllRow.holds Tryz.pinned (OpenSpec.ofChange fnExactSeenAllSpec)

/-- ITS FALSE NEIGHBOUR: 'it returns false'. Refute it at one input. -/
def fnExactSeenAllWrong : ChangeSpec := { name := "fnExactSeenAll", fn := fun _ => fun
  | [d1, d2] => { results := [.lit (.bool false)], args := [d1, d2] }
  | _ => none }
def FnExactSeenAllWrongFalsely : Prop := fnExactSeenAllRow.holds Tryz.pinned (OpenSpec.ofChange fnExactSeenAllWrong)

/-- 'laws.FnExactRacesOf': WHATEVER THE INPUT: true; the input reads as it did. -/
def fnExactRacesOfSpec : ChangeSpec := { name := "fnExactRacesOf", fn := fun _ => fun
  | [d] => { results := [.lit (.bool true)], args := [d] }
  | _ => none }
def fnExactRacesOfRow : OpenClaim := { program := "ytjgfldfbljmhhaagreat", sum := "185d53bded9c1f6aa2066cf1c539a12e5c1480b08af6dc3e53c89d6e835ee42c", func := "loop.example/g00966/laws.FnExactRacesOf", spec := "fnExactRacesOf", unfollowed := true, recurses := true, loops := true, apart := false }
def FnExactRacesOfSaid : Prop := fnExactRacesOfRow.holds Tryz.pinned (OpenSpec.ofChange fnExactRacesOfSpec)

/-- ITS FALSE NEIGHBOUR: 'it returns false'. Refute it at one input. -/
def fnExactRacesOfWrong : ChangeSpec := { name := "fnExactRacesOf", fn := fun _ => fun
  | [d] => { results := [.lit (.bool false)], args := [d] }
  | _ => none }
def FnExactRacesOfWrongFalsely : Prop := fnExactRacesOfRow.holds Tryz.pinned (OpenSpec.ofChange fnExactRacesOfWrong)

/-- 'laws.FnExactRacesOn': WHATEVER THE INPUT: true; the input reads as it did. -/
def fnExactRacesOnSpec : ChangeSpec := { name := "fnExactRacesOn", fn := fun _ => fun
  | [d1, d2] => { results := [.lit (.bool true)], args := [d1, d2] }
  | _ => none }
def fnExactRacesOnRow : OpenClaim := { program := "ytjgfldfbljmhhaagreat", sum := "185d53bded9c1f6aa2066cf1c539a12e5c1480b08af6dc3e53c89d6e835ee42c", func := "loop.example/g00966/laws.FnExactRacesOn", spec := "fnExactRacesOn", unfollowed := true, recurses := true, loops := true, apart := false }
def FnExactRacesOnSaid : Prop := fnExactRacesOnRow.holds Tryz.pinned (OpenSpec.ofChange fnExactRacesOnSpec)

/-- ITS FALSE NEIGHBOUR: 'it returns false'. Refute it at one input. -/
def fnExactRacesOnWrong : ChangeSpec := { name := "fnExactRacesOn", fn := fun _ => fun
  | [d1, d2] => { results := [.lit (.bool false)], args := [d1, d2] }
  | _ => none }
def FnExactRacesOnWrongFalsely : Prop := fnExactRacesOnRow.holds Tryz.pinned (OpenSpec.ofChange fnExactRacesOnWrong)

/-- 'laws.FnExactMissed': WHATEVER THE INPUT: true; the input reads as it did. -/
def fnExactMissedSpec : ChangeSpec := { name := "fnExactMissed", fn := fun _ => fun
  | [d1, d2] => { results := [.lit (.bool true)], args := [d1, d2] }
  | _ => none }
def fnExactMissedRow : OpenClaim := { program := "ytjgfldfbljmhhaagreat", sum := "185d53bded9c1f6aa2066cf1c539a12e5c1480b08af6dc3e53c89d6e835ee42c", func := "loop.example/g00966/laws.FnExactMissed", spec := "fnExactMissed", unfollowed := true, recurses := true, loops := true, apart := false }
def FnExactMissedSaid : Prop := fnExactMissedRow.holds Tryz.pinned (OpenSpec.ofChange fnExactMissedSpec)

/-- ITS FALSE NEIGHBOUR: 'it returns false'. Refute it at one input. -/
def fnExactMissedWrong : ChangeSpec := { name := "fnExactMissed", fn := fun _ => fun
  | [d1, d2] => { results := [.lit (.bool false)], args := [d1, d2] }
  | _ => none }
def FnExactMissedWrongFalsely : Prop := fnExactMissedRow.holds Tryz.pinned (OpenSpec.ofChange fnExactMissedWrong)

/- THE SECOND FORM. 'bulk': how many values and letters a reading holds, each counted each time it is reached (what is shared counts as often as it is met; a slice's spare places count too). A statement '..UptoSaid' is the law's where the arguments, and the package variables that the reading takes, are together of bulk at most 1048576: NARROWER than '..Said'. Prove '..Said' where nothing that the law and all that it calls make is longer than what came in: it says more and counts as full. Else prove '..UptoSaid'. A law counts once. -/
mutual
def uptoBulk {H : Type} : DataW H → Nat
  | .lit (.string bytes) => bytes.length + 1
  | .lit _ => 1
  | .nil => 1
  | .ptr d => uptoBulk d + 1
  | .slice elems spare => uptoBulkAll elems + uptoBulkAll spare + 1
  | .agg parts => uptoBulkAll parts + 1
  | .iface _ d => uptoBulk d + 1
  | .map entries => uptoBulkEntries entries + 1
  | .held _ => 1
def uptoBulkAll {H : Type} : List (DataW H) → Nat
  | [] => 0
  | d :: r => uptoBulk d + uptoBulkAll r
def uptoBulkEntries {H : Type} : List (Lit × DataW H) → Nat
  | [] => 0
  | x :: r => uptoBulkEntry x + uptoBulkEntries r
def uptoBulkEntry {H : Type} : Lit × DataW H → Nat
  | (.string bytes, d) => bytes.length + uptoBulk d + 1
  | (_, d) => uptoBulk d + 1
 end
def uptoSmall : (H : Type) → List (DataW H) → Bool := fun _ ds => decide (uptoBulkAll ds ≤ 1048576)
def OpenSpec.upto (s : _root_.Go.ChangeSpec) : _root_.Go.OpenSpec := { _root_.Go.OpenSpec.ofChange s with cond := some uptoSmall }

/-- 'laws.FnExactHeldRight', WHERE WHAT IT READS IS OF BULK AT MOST 1048576: true; the input reads as it did. -/
def fnExactHeldRightUptoRow : OpenClaim := { program := "ytjgfldfbljmhhaagreat", sum := "185d53bded9c1f6aa2066cf1c539a12e5c1480b08af6dc3e53c89d6e835ee42c", func := "loop.example/g00966/laws.FnExactHeldRight", spec := "fnExactHeldRight", unfollowed := true, recurses := true, loops := true, apart := false, narrowed := true }
def FnExactHeldRightUptoSaid : Prop := fnExactHeldRightUptoRow.holds Tryz.pinned (OpenSpec.upto fnExactHeldRightSpec)

/-- 'laws.FnExactAskedIn', WHERE WHAT IT READS IS OF BULK AT MOST 1048576: true; the input reads as it did. -/
def fnExactAskedInUptoRow : OpenClaim := { program := "ytjgfldfbljmhhaagreat", sum := "185d53bded9c1f6aa2066cf1c539a12e5c1480b08af6dc3e53c89d6e835ee42c", func := "loop.example/g00966/laws.FnExactAskedIn", spec := "fnExactAskedIn", unfollowed := true, recurses := true, loops := true, apart := false, narrowed := true }
def FnExactAskedInUptoSaid : Prop := fnExactAskedInUptoRow.holds Tryz.pinned (OpenSpec.upto fnExactAskedInSpec)

/-- 'laws.FnExactOrdersOf', WHERE WHAT IT READS IS OF BULK AT MOST 1048576: true; the input reads as it did. -/
def fnExactOrdersOfUptoRow : OpenClaim := { program := "ytjgfldfbljmhhaagreat", sum := "185d53bded9c1f6aa2066cf1c539a12e5c1480b08af6dc3e53c89d6e835ee42c", func := "loop.example/g00966/laws.FnExactOrdersOf", spec := "fnExactOrdersOf", unfollowed := true, recurses := true, loops := true, apart := false, narrowed := true }
def FnExactOrdersOfUptoSaid : Prop := fnExactOrdersOfUptoRow.holds Tryz.pinned (OpenSpec.upto fnExactOrdersOfSpec)

/-- 'laws.FnExactRanked', WHERE WHAT IT READS IS OF BULK AT MOST 1048576: true; the input reads as it did. -/
def fnExactRankedUptoRow : OpenClaim := { program := "ytjgfldfbljmhhaagreat", sum := "185d53bded9c1f6aa2066cf1c539a12e5c1480b08af6dc3e53c89d6e835ee42c", func := "loop.example/g00966/laws.FnExactRanked", spec := "fnExactRanked", unfollowed := true, recurses := true, loops := true, apart := false, narrowed := true }
def FnExactRankedUptoSaid : Prop := fnExactRankedUptoRow.holds Tryz.pinned (OpenSpec.upto fnExactRankedSpec)

/-- 'laws.FnExactRoundsOf', WHERE WHAT IT READS IS OF BULK AT MOST 1048576: true; the input reads as it did. -/
def fnExactRoundsOfUptoRow : OpenClaim := { program := "ytjgfldfbljmhhaagreat", sum := "185d53bded9c1f6aa2066cf1c539a12e5c1480b08af6dc3e53c89d6e835ee42c", func := "loop.example/g00966/laws.FnExactRoundsOf", spec := "fnExactRoundsOf", unfollowed := true, recurses := true, loops := true, apart := false, narrowed := true }
def FnExactRoundsOfUptoSaid : Prop := fnExactRoundsOfUptoRow.holds Tryz.pinned (OpenSpec.upto fnExactRoundsOfSpec)

/-- 'laws.FnExactSeenAll', WHERE WHAT IT READS IS OF BULK AT MOST 1048576: true; the input reads as it did. -/
def fnExactSeenAllUptoRow : OpenClaim := { program := "ytjgfldfbljmhhaagreat", sum := "185d53bded9c1f6aa2066cf1c539a12e5c1480b08af6dc3e53c89d6e835ee42c", func := "loop.example/g00966/laws.FnExactSeenAll", spec := "fnExactSeenAll", unfollowed := true, recurses := true, loops := true, apart := false, narrowed := true }
def FnExactSeenAllUptoSaid : Prop := fnExactSeenAllUptoRow.holds Tryz.pinned (OpenSpec.upto fnExactSeenAllSpec)

/-- 'laws.FnExactRacesOf', WHERE WHAT IT READS IS OF BULK AT MOST 1048576: true; the input reads as it did. -/
def fnExactRacesOfUptoRow : OpenClaim := { program := "ytjgfldfbljmhhaagreat", sum := "185d53bded9c1f6aa2066cf1c539a12e5c1480b08af6dc3e53c89d6e835ee42c", func := "loop.example/g00966/laws.FnExactRacesOf", spec := "fnExactRacesOf", unfollowed := true, recurses := true, loops := true, apart := false, narrowed := true }
def FnExactRacesOfUptoSaid : Prop := fnExactRacesOfUptoRow.holds Tryz.pinned (OpenSpec.upto fnExactRacesOfSpec)

/-- 'laws.FnExactRacesOn', WHERE WHAT IT READS IS OF BULK AT MOST 1048576: true; the input reads as it did. -/
def fnExactRacesOnUptoRow : OpenClaim := { program := "ytjgfldfbljmhhaagreat", sum := "185d53bded9c1f6aa2066cf1c539a12e5c1480b08af6dc3e53c89d6e835ee42c", func := "loop.example/g00966/laws.FnExactRacesOn", spec := "fnExactRacesOn", unfollowed := true, recurses := true, loops := true, apart := false, narrowed := true }
def FnExactRacesOnUptoSaid : Prop := fnExactRacesOnUptoRow.holds Tryz.pinned (OpenSpec.upto fnExactRacesOnSpec)

/-- 'laws.FnExactMissed', WHERE WHAT IT READS IS OF BULK AT MOST 1048576: true; the input reads as it did. -/
def fnExactMissedUptoRow : OpenClaim := { program := "ytjgfldfbljmhhaagreat", sum := "185d53bded9c1f6aa2066cf1c539a12e5c1480b08af6dc3e53c89d6e835ee42c", func := "loop.example/g00966/laws.FnExactMissed", spec := "fnExactMissed", unfollowed := true, recurses := true, loops := true, apart := false, narrowed := true }
def FnExactMissedUptoSaid : Prop := fnExactMissedUptoRow.holds Tryz.pinned (OpenSpec.upto fnExactMissedSpec)

end Rows
end Go.Proofs.YtjgfldfbljmhhaaGreat
