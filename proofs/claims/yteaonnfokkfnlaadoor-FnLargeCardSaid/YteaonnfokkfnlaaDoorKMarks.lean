import Derived.Test.YteaonnfokkfnlaaDoorKBytes
set_option linter.unusedVariables false
set_option linter.unusedSimpArgs false
namespace Go.Proofs.YteaonnfokkfnlaaDoor
open Go Go.Eng Go.IntWalk
variable {S : Shared} {h : Eng.Heap}

def marks (k : Int) (n : Nat) : List Int := (List.range n).map fun (i : Nat) => IntKind.u8.wrap (k + (i : Int))

theorem marks_len (k : Int) (n : Nat) : (marks k n).length = n := by simp [marks]
theorem marks_succ (k : Int) (n : Nat) : marks k (n + 1) = marks k n ++ [IntKind.u8.wrap (k + (n : Int))] := by simp [marks, List.range_succ]
theorem marks_get {k : Int} {n i : Nat} (h : i < n) : (marks k n)[i]? = some (IntKind.u8.wrap (k + (i : Int))) := by simp [marks, h]

theorem marked_set {xs sp : List Int} {k : Int} {i : Nat} (hi : i < xs.length) :
    (marks k i ++ xs.drop i ++ sp).set i (IntKind.u8.wrap (k + (i : Int))) = marks k (i + 1) ++ xs.drop (i + 1) ++ sp := by
  rw [marks_succ, List.append_assoc, List.set_append_right _ _ (by rw [marks_len]; omega), marks_len, Nat.sub_self, List.drop_eq_getElem_cons hi]
  simp only [List.cons_append, List.set_cons_zero, List.append_assoc, List.nil_append]

end Go.Proofs.YteaonnfokkfnlaaDoor
