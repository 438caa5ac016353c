/-
  DERIVED. GIVEN WITH THE SEED: THE CARDS: each row of YtcaakhmhlfgogaaGreatDoorRows.lean that lists a variable, with what it lists TIED to the program's text (the seventh form; the later family's looks); each row that meets fmt, with fmt's text TOLD by the authors' own Lean function (tested against real Go, not proved from fmt's source: count such statements apart). THE CARD IS WHAT COUNTS. Prove the row's statement (the work); the ties are given (YtcaakhmhlfgogaaGreatDoorTie.lean); close each card by the builder's one call (the guide's Derived/Test/ToyasCard.lean, 'card_holds'). Laid BY PROGRAM, IN A SANDBOX (cutbox-door.mjs). By AI agents, Wed Nov 11 2026. No macro, syntax, notation, axiom, sorry.
-/
import Derived.Test.YtcaakhmhlfgogaaGreatDoorRows
import GoSem.ClaimSeven
namespace Go.Proofs.YtcaakhmhlfgogaaGreatDoor
namespace Rows

/-- THE TIED CARD OF 'laws.FnExactWatch'. -/
def fnExactWatchCard : Claim7 := { stood := { row := fnExactWatchRow, standIns := [], harness := (true, "55badfacb674a85fd4674e6f02129e863fd56cac3e398ad3dafeb1a289da2336"), looks := false }, kinds := [], alts := [], laidByText := true, laidKinds := [.data, .data, .data], laidTests := true, laidLooks := .later }
def FnExactWatchCardSaid : Prop := Claim7.holds Tryz.pinned (.plain (OpenSpec.ofChange fnExactWatchSpec)) fnExactWatchCard

/-- THE TIED CARD OF 'laws.FnReports'. -/
def fnReportsCard : Claim7 := { stood := { row := fnReportsRow, standIns := [], harness := (true, "55badfacb674a85fd4674e6f02129e863fd56cac3e398ad3dafeb1a289da2336"), looks := false }, kinds := [], alts := [], laidByText := true, laidKinds := [.data, .data, .data], laidTests := true, laidLooks := .later }
def FnReportsCardSaid : Prop := Claim7.holds Tryz.pinned (.plain (OpenSpec.ofChange fnReportsSpec)) fnReportsCard

/-- THE SECOND FORM's CARD OF 'laws.FnExactWatch'. -/
def fnExactWatchUptoCard : Claim7 := { stood := { row := fnExactWatchUptoRow, standIns := [], harness := (true, "55badfacb674a85fd4674e6f02129e863fd56cac3e398ad3dafeb1a289da2336"), looks := false }, kinds := [], alts := [], laidByText := true, laidKinds := [.data, .data, .data], laidTests := true, laidLooks := .later }
def FnExactWatchUptoCardSaid : Prop := Claim7.holds Tryz.pinned (.plain (OpenSpec.upto fnExactWatchSpec)) fnExactWatchUptoCard

/-- THE SECOND FORM's CARD OF 'laws.FnReports'. -/
def fnReportsUptoCard : Claim7 := { stood := { row := fnReportsUptoRow, standIns := [], harness := (true, "55badfacb674a85fd4674e6f02129e863fd56cac3e398ad3dafeb1a289da2336"), looks := false }, kinds := [], alts := [], laidByText := true, laidKinds := [.data, .data, .data], laidTests := true, laidLooks := .later }
def FnReportsUptoCardSaid : Prop := Claim7.holds Tryz.pinned (.plain (OpenSpec.upto fnReportsSpec)) fnReportsUptoCard
end Rows
end Go.Proofs.YtcaakhmhlfgogaaGreatDoor
