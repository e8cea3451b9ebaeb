import Derived.Test.YteaonnfokkfnlaaDoorEng2
import Derived.Test.YteaonnfokkfnlaaDoorChecked
import Derived.Test.YteaonnfokkfnlaaDoorNums
import Derived.Test.YteaonnfokkfnlaaDoorEng3
import Derived.IntWalk
set_option linter.unusedVariables false
set_option linter.unusedSimpArgs false
namespace Go.Proofs.YteaonnfokkfnlaaDoor
open Go Go.Eng Go.IntWalk
variable {S : Shared} {h : Eng.Heap}

theorem i64_of_wf {n : Int} (H : (Lit.int .i64 n).wf = true) : -9223372036854775808 ≤ n ∧ n ≤ 9223372036854775807 := by
  have e1 : IntKind.i64.min = -9223372036854775808 := by rfl
  have e2 : IntKind.i64.max = 9223372036854775807 := by rfl
  simp [Lit.wf, e1, e2] at H; exact H

end Go.Proofs.YteaonnfokkfnlaaDoor
