import Derived.Test.YteaonnfokkfnlaaDoorKInts
import Derived.Test.YteaonnfokkfnlaaDoorEng2
import Derived.Test.YteaonnfokkfnlaaDoorChecked
import Derived.Test.YteaonnfokkfnlaaDoorNums
set_option linter.unusedVariables false
set_option linter.unusedSimpArgs false
namespace Go.Proofs.YteaonnfokkfnlaaDoor
open Go Go.Eng Go.IntWalk
variable {S : Shared} {h : Eng.Heap} {v w : Value} {xs : List Int}

abbrev tI : Ty Value (List Int) := tySl .i64
def smI (xs : List Int) : Prop := xs.length ≤ 1099511627776
def limI (xs : List Int) : Prop := xs.length ≤ 1048576
theorem limI_sm {xs : List Int} (H : limI xs) : smI xs := Nat.le_trans H (by decide)
def cntI (xs : List Int) : Nat := xs.length
theorem cntI_le {xs : List Int} (H : smI xs) : cntI xs ≤ 1125899906842 := Nat.le_trans H (by decide)
theorem tI_F {h : Eng.Heap} {v : Value} {xs : List Int} (H : tI.R h v xs) : ∃ a c, v = .slice a xs.length c := by obtain ⟨a, c, rfl, _⟩ := H; exact ⟨a, c, rfl⟩

end Go.Proofs.YteaonnfokkfnlaaDoor
