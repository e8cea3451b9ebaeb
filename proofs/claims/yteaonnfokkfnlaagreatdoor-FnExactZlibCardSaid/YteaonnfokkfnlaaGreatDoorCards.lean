/-
  DERIVED. GIVEN WITH THE SEED: THE CARDS: each row of YteaonnfokkfnlaaGreatDoorRows.lean that lists a variable, with what it lists TIED to the program's text (the seventh form; the later family's looks); each row that meets fmt, with fmt's text TOLD by the authors' own Lean function (tested against real Go, not proved from fmt's source: count such statements apart). THE CARD IS WHAT COUNTS. Prove the row's statement (the work); the ties are given (YteaonnfokkfnlaaGreatDoorTie.lean); close each card by the builder's one call (the guide's Derived/Test/ToyasCard.lean, 'card_holds'). Laid BY PROGRAM, IN A SANDBOX (cutbox-door.mjs). By AI agents, Wed Nov 11 2026. No macro, syntax, notation, axiom, sorry.
-/
import Derived.Test.YteaonnfokkfnlaaGreatDoorRows
import GoSem.ClaimSeven
namespace Go.Proofs.YteaonnfokkfnlaaGreatDoor
namespace Rows

/-- THE TIED CARD OF 'laws.FnExactZlib'. -/
def fnExactZlibCard : Claim7 := { stood := { row := fnExactZlibRow, standIns := [], harness := (true, "6d609f3478490edd326bb06c0dd8c4aae5f8da21156b7c1209b9c2bb84714c97"), looks := true }, kinds := [], alts := [], goes := true, laidByText := true, laidKinds := [.handle, .data, .data, .data, .data, .data], laidTests := true, laidLooks := .later }
def FnExactZlibCardSaid : Prop := Claim7.holds Tryz.pinned (.plain (OpenSpec.ofChange fnExactZlibSpec)) fnExactZlibCard

/-- THE TIED CARD OF 'laws.FnExactGzip'. -/
def fnExactGzipCard : Claim7 := { stood := { row := fnExactGzipRow, standIns := [], harness := (true, "6d609f3478490edd326bb06c0dd8c4aae5f8da21156b7c1209b9c2bb84714c97"), looks := true }, kinds := [], alts := [], goes := true, laidByText := true, laidKinds := [.handle, .data, .data, .data, .data], laidTests := true, laidLooks := .later }
def FnExactGzipCardSaid : Prop := Claim7.holds Tryz.pinned (.plain (OpenSpec.ofChange fnExactGzipSpec)) fnExactGzipCard

/-- THE TIED CARD OF 'laws.FnZlib'. -/
def fnZlibCard : Claim7 := { stood := { row := fnZlibRow, standIns := [], harness := (true, "6d609f3478490edd326bb06c0dd8c4aae5f8da21156b7c1209b9c2bb84714c97"), looks := true }, kinds := [], alts := [], goes := true, laidByText := true, laidKinds := [.handle, .data, .data, .data, .data, .data], laidTests := true, laidLooks := .later }
def FnZlibCardSaid : Prop := Claim7.holds Tryz.pinned (.plain (OpenSpec.ofChange fnZlibSpec)) fnZlibCard

/-- THE TIED CARD OF 'laws.FnGzip'. -/
def fnGzipCard : Claim7 := { stood := { row := fnGzipRow, standIns := [], harness := (true, "6d609f3478490edd326bb06c0dd8c4aae5f8da21156b7c1209b9c2bb84714c97"), looks := true }, kinds := [], alts := [], goes := true, laidByText := true, laidKinds := [.handle, .data, .data, .data, .data], laidTests := true, laidLooks := .later }
def FnGzipCardSaid : Prop := Claim7.holds Tryz.pinned (.plain (OpenSpec.ofChange fnGzipSpec)) fnGzipCard

/-- THE TIED CARD OF 'laws.FnPrefixes'. -/
def fnPrefixesCard : Claim7 := { stood := { row := fnPrefixesRow, standIns := [], harness := (true, "6d609f3478490edd326bb06c0dd8c4aae5f8da21156b7c1209b9c2bb84714c97"), looks := true }, kinds := [], alts := [], goes := true, laidByText := true, laidKinds := [.handle, .data, .data, .data, .data, .data], laidTests := true, laidLooks := .later }
def FnPrefixesCardSaid : Prop := Claim7.holds Tryz.pinned (.plain (OpenSpec.ofChange fnPrefixesSpec)) fnPrefixesCard

/-- THE TIED CARD OF 'laws.FnChanged'. -/
def fnChangedCard : Claim7 := { stood := { row := fnChangedRow, standIns := [], harness := (true, "6d609f3478490edd326bb06c0dd8c4aae5f8da21156b7c1209b9c2bb84714c97"), looks := true }, kinds := [], alts := [], goes := true, laidByText := true, laidKinds := [.handle, .data, .data, .data, .data, .data], laidTests := true, laidLooks := .later }
def FnChangedCardSaid : Prop := Claim7.holds Tryz.pinned (.plain (OpenSpec.ofChange fnChangedSpec)) fnChangedCard

/-- THE SECOND FORM's CARD OF 'laws.FnExactZlib'. -/
def fnExactZlibUptoCard : Claim7 := { stood := { row := fnExactZlibUptoRow, standIns := [], harness := (true, "6d609f3478490edd326bb06c0dd8c4aae5f8da21156b7c1209b9c2bb84714c97"), looks := true }, kinds := [], alts := [], goes := true, laidByText := true, laidKinds := [.handle, .data, .data, .data, .data, .data], laidTests := true, laidLooks := .later }
def FnExactZlibUptoCardSaid : Prop := Claim7.holds Tryz.pinned (.plain (OpenSpec.upto fnExactZlibSpec)) fnExactZlibUptoCard

/-- THE SECOND FORM's CARD OF 'laws.FnExactGzip'. -/
def fnExactGzipUptoCard : Claim7 := { stood := { row := fnExactGzipUptoRow, standIns := [], harness := (true, "6d609f3478490edd326bb06c0dd8c4aae5f8da21156b7c1209b9c2bb84714c97"), looks := true }, kinds := [], alts := [], goes := true, laidByText := true, laidKinds := [.handle, .data, .data, .data, .data], laidTests := true, laidLooks := .later }
def FnExactGzipUptoCardSaid : Prop := Claim7.holds Tryz.pinned (.plain (OpenSpec.upto fnExactGzipSpec)) fnExactGzipUptoCard

/-- THE SECOND FORM's CARD OF 'laws.FnZlib'. -/
def fnZlibUptoCard : Claim7 := { stood := { row := fnZlibUptoRow, standIns := [], harness := (true, "6d609f3478490edd326bb06c0dd8c4aae5f8da21156b7c1209b9c2bb84714c97"), looks := true }, kinds := [], alts := [], goes := true, laidByText := true, laidKinds := [.handle, .data, .data, .data, .data, .data], laidTests := true, laidLooks := .later }
def FnZlibUptoCardSaid : Prop := Claim7.holds Tryz.pinned (.plain (OpenSpec.upto fnZlibSpec)) fnZlibUptoCard

/-- THE SECOND FORM's CARD OF 'laws.FnGzip'. -/
def fnGzipUptoCard : Claim7 := { stood := { row := fnGzipUptoRow, standIns := [], harness := (true, "6d609f3478490edd326bb06c0dd8c4aae5f8da21156b7c1209b9c2bb84714c97"), looks := true }, kinds := [], alts := [], goes := true, laidByText := true, laidKinds := [.handle, .data, .data, .data, .data], laidTests := true, laidLooks := .later }
def FnGzipUptoCardSaid : Prop := Claim7.holds Tryz.pinned (.plain (OpenSpec.upto fnGzipSpec)) fnGzipUptoCard

/-- THE SECOND FORM's CARD OF 'laws.FnPrefixes'. -/
def fnPrefixesUptoCard : Claim7 := { stood := { row := fnPrefixesUptoRow, standIns := [], harness := (true, "6d609f3478490edd326bb06c0dd8c4aae5f8da21156b7c1209b9c2bb84714c97"), looks := true }, kinds := [], alts := [], goes := true, laidByText := true, laidKinds := [.handle, .data, .data, .data, .data, .data], laidTests := true, laidLooks := .later }
def FnPrefixesUptoCardSaid : Prop := Claim7.holds Tryz.pinned (.plain (OpenSpec.upto fnPrefixesSpec)) fnPrefixesUptoCard

/-- THE SECOND FORM's CARD OF 'laws.FnChanged'. -/
def fnChangedUptoCard : Claim7 := { stood := { row := fnChangedUptoRow, standIns := [], harness := (true, "6d609f3478490edd326bb06c0dd8c4aae5f8da21156b7c1209b9c2bb84714c97"), looks := true }, kinds := [], alts := [], goes := true, laidByText := true, laidKinds := [.handle, .data, .data, .data, .data, .data], laidTests := true, laidLooks := .later }
def FnChangedUptoCardSaid : Prop := Claim7.holds Tryz.pinned (.plain (OpenSpec.upto fnChangedSpec)) fnChangedUptoCard
end Rows
end Go.Proofs.YteaonnfokkfnlaaGreatDoor
