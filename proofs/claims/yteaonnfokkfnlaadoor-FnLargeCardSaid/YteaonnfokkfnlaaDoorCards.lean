/-
  DERIVED. GIVEN WITH THE SEED: THE CARDS: each row of YteaonnfokkfnlaaDoorRows.lean that lists a variable, with what it lists TIED to the program's text (the seventh form; the later family's looks); each row that meets fmt, with fmt's text TOLD by the authors' own Lean function (tested against real Go, not proved from fmt's source: count such statements apart). THE CARD IS WHAT COUNTS. Prove the row's statement (the work); the ties are given (YteaonnfokkfnlaaDoorTie.lean); close each card by the builder's one call (the guide's Derived/Test/ToyasCard.lean, 'card_holds'). Laid BY PROGRAM, IN A SANDBOX (cutbox-door.mjs). By AI agents, Wed Nov 11 2026. No macro, syntax, notation, axiom, sorry.
-/
import Derived.Test.YteaonnfokkfnlaaDoorRows
import GoSem.ClaimSeven
namespace Go.Proofs.YteaonnfokkfnlaaDoor
namespace Rows

/-- THE TIED CARD OF 'laws.FnLarge'. -/
def fnLargeCard : Claim7 := { stood := { row := fnLargeRow, standIns := [], harness := (true, "e349b29b3e1a00f20e045010f7bf50db4a1938323dcbfa421fb8900607c93789"), looks := true }, kinds := [], alts := [], laidByText := true, laidKinds := [.handle, .data, .data, .data], laidTests := true, laidLooks := .later }
def FnLargeCardSaid : Prop := Claim7.holds Tryd.pinned (.plain (OpenSpec.ofChange fnLargeSpec)) fnLargeCard

/-- THE TIED CARD OF 'laws.FnEncode'. -/
def fnEncodeCard : Claim7 := { stood := { row := fnEncodeRow, standIns := [], harness := (true, "e349b29b3e1a00f20e045010f7bf50db4a1938323dcbfa421fb8900607c93789"), looks := true }, kinds := [], alts := [], laidByText := true, laidKinds := [.handle, .data, .data, .data], laidTests := true, laidLooks := .later }
def FnEncodeCardSaid : Prop := Claim7.holds Tryd.pinned (.plain (OpenSpec.ofChange fnEncodeSpec)) fnEncodeCard

/-- THE SECOND FORM's CARD OF 'laws.FnLarge'. -/
def fnLargeUptoCard : Claim7 := { stood := { row := fnLargeUptoRow, standIns := [], harness := (true, "e349b29b3e1a00f20e045010f7bf50db4a1938323dcbfa421fb8900607c93789"), looks := true }, kinds := [], alts := [], laidByText := true, laidKinds := [.handle, .data, .data, .data], laidTests := true, laidLooks := .later }
def FnLargeUptoCardSaid : Prop := Claim7.holds Tryd.pinned (.plain (OpenSpec.upto fnLargeSpec)) fnLargeUptoCard

/-- THE SECOND FORM's CARD OF 'laws.FnEncode'. -/
def fnEncodeUptoCard : Claim7 := { stood := { row := fnEncodeUptoRow, standIns := [], harness := (true, "e349b29b3e1a00f20e045010f7bf50db4a1938323dcbfa421fb8900607c93789"), looks := true }, kinds := [], alts := [], laidByText := true, laidKinds := [.handle, .data, .data, .data], laidTests := true, laidLooks := .later }
def FnEncodeUptoCardSaid : Prop := Claim7.holds Tryd.pinned (.plain (OpenSpec.upto fnEncodeSpec)) fnEncodeUptoCard
end Rows
end Go.Proofs.YteaonnfokkfnlaaDoor
