import Derived.Test.YteaonnfokkfnlaaDoorTyI
import Derived.Test.YteaonnfokkfnlaaDoorTrHC
import Derived.Test.YteaonnfokkfnlaaDoorEng3
set_option linter.unusedVariables false
set_option linter.unusedSimpArgs false
namespace Go.Proofs.YteaonnfokkfnlaaDoor
open Go Go.Eng Go.IntWalk
variable {S : Shared} {h : Eng.Heap} {v w : Value} {ps : List (Int × Int)}

abbrev tCodes : Ty Value (List (Int × Int)) := tySlP
def smCodes (ps : List (Int × Int)) : Prop := ps.length ≤ 1099511627776
def cntCodes (ps : List (Int × Int)) : Nat := 2 * ps.length
theorem cntCodes_le (H : smCodes ps) : cntCodes ps ≤ 1125899906842624 := by have : ps.length ≤ 1099511627776 := H; unfold cntCodes; omega
def mpair (k : Int) (i : Nat) : Int × Int := (k + 2 * i, IntKind.u64.wrap (k + 2 * i + 1))
def mks (k : Int) (n : Nat) : List (Int × Int) := (List.range n).map (mpair k)
theorem mks_len {k : Int} {n : Nat} : (mks k n).length = n := by simp [mks]
theorem mks_get {k : Int} {n i : Nat} (h : i < n) : (mks k n)[i]? = some (mpair k i) := by simp [mks, h]
theorem mks_succ {k : Int} {n : Nat} : mks k (n + 1) = mks k n ++ [mpair k n] := by simp [mks, List.range_succ]
def mkCodes (k : Int) (ps : List (Int × Int)) : List (Int × Int) := mks k ps.length
theorem tCodes_F (H : tCodes.R h v ps) : ∃ a c, v = .slice a ps.length c := by obtain ⟨a, c, rfl, _⟩ := H; exact ⟨a, c, rfl⟩

end Go.Proofs.YteaonnfokkfnlaaDoor
