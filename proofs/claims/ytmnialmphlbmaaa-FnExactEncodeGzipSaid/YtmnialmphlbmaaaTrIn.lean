-- printed by a generator of my own (wip/eng/Gen) from the translation
import Derived.Test.YtmnialmphlbmaaaEng2
import Derived.Test.YtmnialmphlbmaaaChecked
import Derived.Test.YtmnialmphlbmaaaNums
set_option linter.unusedVariables false
set_option linter.unusedSimpArgs false
namespace Go.Proofs.Ytmnialmphlbmaaa
open Go Go.Eng
def tabIn : List (TypeId × TyD) := []
set_option maxRecDepth 100000 in
theorem tabInOk : TabOk Try.prog tabIn := tabOk_of (by kernel_rfl)
theorem mixedIn : Try.prog.follows .mixedOrders = true := by kernel_rfl
end Go.Proofs.Ytmnialmphlbmaaa
