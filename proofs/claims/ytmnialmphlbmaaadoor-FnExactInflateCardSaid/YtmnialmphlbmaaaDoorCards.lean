/-
  DERIVED. GIVEN WITH THE SEED: THE CARDS: each row of YtmnialmphlbmaaaDoorRows.lean that lists a variable, with what it lists TIED to the program's text (the seventh form; the later family's looks); each row that meets fmt, with fmt's text TOLD by the authors' own Lean function (tested against real Go, not proved from fmt's source: count such statements apart). THE CARD IS WHAT COUNTS. Prove the row's statement (the work); the ties are given (YtmnialmphlbmaaaDoorTie.lean); close each card by the builder's one call (the guide's Derived/Test/ToyasCard.lean, 'card_holds'). Laid BY PROGRAM, IN A SANDBOX (cutbox-door.mjs). By AI agents, Wed Nov 11 2026. No macro, syntax, notation, axiom, sorry.
-/
import Derived.Test.YtmnialmphlbmaaaDoorRows
import GoSem.ClaimSeven
namespace Go.Proofs.YtmnialmphlbmaaaDoor
namespace Rows

/-- THE TIED CARD OF 'laws.FnLarge'. -/
def fnLargeCard : Claim7 := { stood := { row := fnLargeRow, standIns := [], harness := (true, "e4b3ecee5a80536c772142141c1b6b1847857614854f27bd8ead63cf45967e05"), looks := true }, kinds := [], alts := [], laidByText := true, laidKinds := [.handle, .data, .data, .data], laidTests := true, laidLooks := .later }
def FnLargeCardSaid : Prop := Claim7.holds Tryd.pinned (.plain (OpenSpec.ofChange fnLargeSpec)) fnLargeCard

/-- THE TIED CARD OF 'laws.FnEncode'. -/
def fnEncodeCard : Claim7 := { stood := { row := fnEncodeRow, standIns := [], harness := (true, "e4b3ecee5a80536c772142141c1b6b1847857614854f27bd8ead63cf45967e05"), looks := true }, kinds := [], alts := [], laidByText := true, laidKinds := [.handle, .data, .data, .data], laidTests := true, laidLooks := .later }
def FnEncodeCardSaid : Prop := Claim7.holds Tryd.pinned (.plain (OpenSpec.ofChange fnEncodeSpec)) fnEncodeCard

/-- THE TIED CARD OF 'laws.FnExactReadLens'. -/
def fnExactReadLensCard : Claim7 := { stood := { row := fnExactReadLensRow, standIns := [], harness := (true, "e4b3ecee5a80536c772142141c1b6b1847857614854f27bd8ead63cf45967e05"), looks := true }, kinds := [], alts := [], laidByText := true, laidKinds := [.handle, .data, .data], laidTests := true, laidLooks := .later }
def FnExactReadLensCardSaid : Prop := Claim7.holds Tryd.pinned (.plain (OpenSpec.ofChange fnExactReadLensSpec)) fnExactReadLensCard

/-- THE TIED CARD OF 'laws.FnExactInflate'. -/
def fnExactInflateCard : Claim7 := { stood := { row := fnExactInflateRow, standIns := [], harness := (true, "e4b3ecee5a80536c772142141c1b6b1847857614854f27bd8ead63cf45967e05"), looks := true }, kinds := [], alts := [], laidByText := true, laidKinds := [.handle, .data, .data, .data], laidTests := true, laidLooks := .later }
def FnExactInflateCardSaid : Prop := Claim7.holds Tryd.pinned (.plain (OpenSpec.ofChange fnExactInflateSpec)) fnExactInflateCard

/-- THE SECOND FORM's CARD OF 'laws.FnLarge'. -/
def fnLargeUptoCard : Claim7 := { stood := { row := fnLargeUptoRow, standIns := [], harness := (true, "e4b3ecee5a80536c772142141c1b6b1847857614854f27bd8ead63cf45967e05"), looks := true }, kinds := [], alts := [], laidByText := true, laidKinds := [.handle, .data, .data, .data], laidTests := true, laidLooks := .later }
def FnLargeUptoCardSaid : Prop := Claim7.holds Tryd.pinned (.plain (OpenSpec.upto fnLargeSpec)) fnLargeUptoCard

/-- THE SECOND FORM's CARD OF 'laws.FnEncode'. -/
def fnEncodeUptoCard : Claim7 := { stood := { row := fnEncodeUptoRow, standIns := [], harness := (true, "e4b3ecee5a80536c772142141c1b6b1847857614854f27bd8ead63cf45967e05"), looks := true }, kinds := [], alts := [], laidByText := true, laidKinds := [.handle, .data, .data, .data], laidTests := true, laidLooks := .later }
def FnEncodeUptoCardSaid : Prop := Claim7.holds Tryd.pinned (.plain (OpenSpec.upto fnEncodeSpec)) fnEncodeUptoCard

/-- THE SECOND FORM's CARD OF 'laws.FnExactReadLens'. -/
def fnExactReadLensUptoCard : Claim7 := { stood := { row := fnExactReadLensUptoRow, standIns := [], harness := (true, "e4b3ecee5a80536c772142141c1b6b1847857614854f27bd8ead63cf45967e05"), looks := true }, kinds := [], alts := [], laidByText := true, laidKinds := [.handle, .data, .data], laidTests := true, laidLooks := .later }
def FnExactReadLensUptoCardSaid : Prop := Claim7.holds Tryd.pinned (.plain (OpenSpec.upto fnExactReadLensSpec)) fnExactReadLensUptoCard

/-- THE SECOND FORM's CARD OF 'laws.FnExactInflate'. -/
def fnExactInflateUptoCard : Claim7 := { stood := { row := fnExactInflateUptoRow, standIns := [], harness := (true, "e4b3ecee5a80536c772142141c1b6b1847857614854f27bd8ead63cf45967e05"), looks := true }, kinds := [], alts := [], laidByText := true, laidKinds := [.handle, .data, .data, .data], laidTests := true, laidLooks := .later }
def FnExactInflateUptoCardSaid : Prop := Claim7.holds Tryd.pinned (.plain (OpenSpec.upto fnExactInflateSpec)) fnExactInflateUptoCard
end Rows
end Go.Proofs.YtmnialmphlbmaaaDoor
