import Derived.Test.YteaonnfokkfnlaaDoorKMarksP
set_option linter.unusedVariables false
set_option linter.unusedSimpArgs false
namespace Go.Proofs.YteaonnfokkfnlaaDoor
open Go Go.Eng Go.IntWalk
variable {S : Shared} {h : Eng.Heap} {v w : Value} {xs : List Int}

abbrev tB : Ty Value (List Int) := tySl .u8
def mkB (k : Int) (xs : List Int) : List Int := marks k xs.length
theorem mkB_len {k : Int} {xs : List Int} : (mkB k xs).length = xs.length := marks_len _ _

def smB (xs : List Int) : Prop := xs.length ≤ 1099511627776
def limB (xs : List Int) : Prop := xs.length ≤ 1048576
theorem limB_sm {xs : List Int} (H : limB xs) : smB xs := Nat.le_trans H (by decide)
def cntB (xs : List Int) : Nat := xs.length
theorem cntB_le {xs : List Int} (H : smB xs) : cntB xs ≤ 1125899906842 := Nat.le_trans H (by decide)
theorem tB_F {h : Eng.Heap} {v : Value} {xs : List Int} (H : tB.R h v xs) : ∃ a c, v = .slice a xs.length c := by obtain ⟨a, c, rfl, _⟩ := H; exact ⟨a, c, rfl⟩
theorem tB_form (H : tB.R h v xs) : ∃ a c, v = .slice a xs.length c := by obtain ⟨a, c, rfl, _⟩ := H; exact ⟨a, c, rfl⟩

end Go.Proofs.YteaonnfokkfnlaaDoor
