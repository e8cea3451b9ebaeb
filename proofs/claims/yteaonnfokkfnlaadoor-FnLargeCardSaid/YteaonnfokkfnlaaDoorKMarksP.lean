import Derived.Test.YteaonnfokkfnlaaDoorKMarks
set_option linter.unusedVariables false
set_option linter.unusedSimpArgs false
namespace Go.Proofs.YteaonnfokkfnlaaDoor
open Go Go.Eng Go.IntWalk
variable {S : Shared} {h : Eng.Heap}

theorem marked_set3 {pr xs sp : List Int} {k : Int} {i : Nat} (hi : i < xs.length) :
    (pr ++ (marks k i ++ xs.drop i ++ sp)).set (pr.length + i) (IntKind.u8.wrap (k + (i : Int))) = pr ++ (marks k (i + 1) ++ xs.drop (i + 1) ++ sp) := by
  rw [List.set_append_right _ _ (by omega), Nat.add_sub_cancel_left, marked_set hi]

end Go.Proofs.YteaonnfokkfnlaaDoor
