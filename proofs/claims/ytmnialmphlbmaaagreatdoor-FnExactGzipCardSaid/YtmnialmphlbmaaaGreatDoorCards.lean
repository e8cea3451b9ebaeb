/-
  DERIVED. GIVEN WITH THE SEED: THE CARDS: each row of YtmnialmphlbmaaaGreatDoorRows.lean that lists a variable, with what it lists TIED to the program's text (the seventh form; the later family's looks); each row that meets fmt, with fmt's text TOLD by the authors' own Lean function (tested against real Go, not proved from fmt's source: count such statements apart). THE CARD IS WHAT COUNTS. Prove the row's statement (the work); the ties are given (YtmnialmphlbmaaaGreatDoorTie.lean); close each card by the builder's one call (the guide's Derived/Test/ToyasCard.lean, 'card_holds'). Laid BY PROGRAM, IN A SANDBOX (cutbox-door.mjs). By AI agents, Wed Nov 11 2026. No macro, syntax, notation, axiom, sorry.
-/
import Derived.Test.YtmnialmphlbmaaaGreatDoorRows
import GoSem.ClaimSeven
namespace Go.Proofs.YtmnialmphlbmaaaGreatDoor
namespace Rows

/-- THE TIED CARD OF 'laws.FnExactZlib'. -/
def fnExactZlibCard : Claim7 := { stood := { row := fnExactZlibRow, standIns := [], harness := (true, "bcf61653490c876026da75f0c54cb4699e402dea30987c2054024bb084eac50d"), looks := true }, kinds := [], alts := [], goes := true, laidByText := true, laidKinds := [.handle, .data, .data, .data, .data, .data], laidTests := true, laidLooks := .later }
def FnExactZlibCardSaid : Prop := Claim7.holds Tryz.pinned (.plain (OpenSpec.ofChange fnExactZlibSpec)) fnExactZlibCard

/-- THE TIED CARD OF 'laws.FnExactGzip'. -/
def fnExactGzipCard : Claim7 := { stood := { row := fnExactGzipRow, standIns := [], harness := (true, "bcf61653490c876026da75f0c54cb4699e402dea30987c2054024bb084eac50d"), looks := true }, kinds := [], alts := [], goes := true, laidByText := true, laidKinds := [.handle, .data, .data, .data, .data], laidTests := true, laidLooks := .later }
def FnExactGzipCardSaid : Prop := Claim7.holds Tryz.pinned (.plain (OpenSpec.ofChange fnExactGzipSpec)) fnExactGzipCard

/-- THE SECOND FORM's CARD OF 'laws.FnExactZlib'. -/
def fnExactZlibUptoCard : Claim7 := { stood := { row := fnExactZlibUptoRow, standIns := [], harness := (true, "bcf61653490c876026da75f0c54cb4699e402dea30987c2054024bb084eac50d"), looks := true }, kinds := [], alts := [], goes := true, laidByText := true, laidKinds := [.handle, .data, .data, .data, .data, .data], laidTests := true, laidLooks := .later }
def FnExactZlibUptoCardSaid : Prop := Claim7.holds Tryz.pinned (.plain (OpenSpec.upto fnExactZlibSpec)) fnExactZlibUptoCard

/-- THE SECOND FORM's CARD OF 'laws.FnExactGzip'. -/
def fnExactGzipUptoCard : Claim7 := { stood := { row := fnExactGzipUptoRow, standIns := [], harness := (true, "bcf61653490c876026da75f0c54cb4699e402dea30987c2054024bb084eac50d"), looks := true }, kinds := [], alts := [], goes := true, laidByText := true, laidKinds := [.handle, .data, .data, .data, .data], laidTests := true, laidLooks := .later }
def FnExactGzipUptoCardSaid : Prop := Claim7.holds Tryz.pinned (.plain (OpenSpec.upto fnExactGzipSpec)) fnExactGzipUptoCard
end Rows
end Go.Proofs.YtmnialmphlbmaaaGreatDoor
