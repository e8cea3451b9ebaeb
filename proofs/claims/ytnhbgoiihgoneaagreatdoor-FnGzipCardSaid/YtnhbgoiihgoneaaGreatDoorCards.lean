/-
  DERIVED. GIVEN WITH THE SEED: THE CARDS: each row of YtnhbgoiihgoneaaGreatDoorRows.lean that lists a variable, with what it lists TIED to the program's text (the seventh form; the later family's looks); each row that meets fmt, with fmt's text TOLD by the authors' own Lean function (tested against real Go, not proved from fmt's source: count such statements apart). THE CARD IS WHAT COUNTS. Prove the row's statement (the work); the ties are given (YtnhbgoiihgoneaaGreatDoorTie.lean); close each card by the builder's one call (the guide's Derived/Test/ToyasCard.lean, 'card_holds'). Laid BY PROGRAM, IN A SANDBOX (cutbox-door.mjs). By AI agents, Wed Nov 11 2026. No macro, syntax, notation, axiom, sorry.
-/
import Derived.Test.YtnhbgoiihgoneaaGreatDoorRows
import GoSem.ClaimSeven
namespace Go.Proofs.YtnhbgoiihgoneaaGreatDoor
namespace Rows

/-- THE TIED CARD OF 'laws.FnGzip'. -/
def fnGzipCard : Claim7 := { stood := { row := fnGzipRow, standIns := [], harness := (true, "720dcc95c72e5cabb97ed47e6f3d30aed77853889fe442ca0eb387042b3d86ff"), looks := true }, kinds := [], alts := [], goes := true, laidByText := true, laidKinds := [.handle, .data, .data, .data, .data], laidTests := true, laidLooks := .later }
def FnGzipCardSaid : Prop := Claim7.holds Tryz.pinned (.plain (OpenSpec.ofChange fnGzipSpec)) fnGzipCard

/-- THE SECOND FORM's CARD OF 'laws.FnGzip'. -/
def fnGzipUptoCard : Claim7 := { stood := { row := fnGzipUptoRow, standIns := [], harness := (true, "720dcc95c72e5cabb97ed47e6f3d30aed77853889fe442ca0eb387042b3d86ff"), looks := true }, kinds := [], alts := [], goes := true, laidByText := true, laidKinds := [.handle, .data, .data, .data, .data], laidTests := true, laidLooks := .later }
def FnGzipUptoCardSaid : Prop := Claim7.holds Tryz.pinned (.plain (OpenSpec.upto fnGzipSpec)) fnGzipUptoCard
end Rows
end Go.Proofs.YtnhbgoiihgoneaaGreatDoor
