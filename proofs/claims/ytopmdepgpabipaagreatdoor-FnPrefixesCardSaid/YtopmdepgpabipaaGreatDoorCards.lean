/-
  DERIVED. GIVEN WITH THE SEED: THE CARDS: each row of YtopmdepgpabipaaGreatDoorRows.lean that lists a variable, with what it lists TIED to the program's text (the seventh form; the later family's looks); each row that meets fmt, with fmt's text TOLD by the authors' own Lean function (tested against real Go, not proved from fmt's source: count such statements apart). THE CARD IS WHAT COUNTS. Prove the row's statement (the work); the ties are given (YtopmdepgpabipaaGreatDoorTie.lean); close each card by the builder's one call (the guide's Derived/Test/ToyasCard.lean, 'card_holds'). Laid BY PROGRAM, IN A SANDBOX (cutbox-door.mjs). By AI agents, Wed Nov 11 2026. No macro, syntax, notation, axiom, sorry.
-/
import Derived.Test.YtopmdepgpabipaaGreatDoorRows
import GoSem.ClaimSeven
namespace Go.Proofs.YtopmdepgpabipaaGreatDoor
namespace Rows

/-- THE TIED CARD OF 'laws.FnPrefixes'. -/
def fnPrefixesCard : Claim7 := { stood := { row := fnPrefixesRow, standIns := [], harness := (true, "8c3fbcddc69b8e58f41fc174ad4e4b44cf10e5f4b21e2e93a6cae2a8378fe73f"), looks := true }, kinds := [], alts := [], goes := true, laidByText := true, laidKinds := [.handle, .data, .data, .data, .data, .data], laidTests := true, laidLooks := .later }
def FnPrefixesCardSaid : Prop := Claim7.holds Tryz.pinned (.plain (OpenSpec.ofChange fnPrefixesSpec)) fnPrefixesCard

/-- THE SECOND FORM's CARD OF 'laws.FnPrefixes'. -/
def fnPrefixesUptoCard : Claim7 := { stood := { row := fnPrefixesUptoRow, standIns := [], harness := (true, "8c3fbcddc69b8e58f41fc174ad4e4b44cf10e5f4b21e2e93a6cae2a8378fe73f"), looks := true }, kinds := [], alts := [], goes := true, laidByText := true, laidKinds := [.handle, .data, .data, .data, .data, .data], laidTests := true, laidLooks := .later }
def FnPrefixesUptoCardSaid : Prop := Claim7.holds Tryz.pinned (.plain (OpenSpec.upto fnPrefixesSpec)) fnPrefixesUptoCard
end Rows
end Go.Proofs.YtopmdepgpabipaaGreatDoor
