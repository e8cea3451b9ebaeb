import Derived.Test.YteaonnfokkfnlaaDoorEng3
import Derived.Test.YteaonnfokkfnlaaDoorChecked
import Derived.Test.YteaonnfokkfnlaaDoorRows
import Derived.WalkKit
import Derived.ProofKit
import Derived.OpenShut
import Derived.ShutString
import Derived.ChangeOld
import Derived.Below
import Derived.Carry
import Derived.SizedLaws
import Derived.Lib.SmallJoins
set_option linter.unusedVariables false
set_option linter.unusedSimpArgs false
namespace Go.Proofs.YteaonnfokkfnlaaDoor
open Go Go.Eng Go.ChangeShapes Go.WideShapes Go.ChangeAt Go.RowKit

theorem hcell_wheap (W : World) (a : Addr) : hcell (wheap W) a = W.cell? a := rfl

section
variable {H : Type} {enc : TypeId × Value → H} {W : World}

/-- A slice of numbers that came in, as the contracts speak of it. -/
theorem openInts {t e : TypeId} {k : IntKind} {fuel : Nat} {v : Value} {y : DataW H × List MemPlace} (ht : Tryd.prog.underlying t = some (.slice e)) (he : Tryd.prog.underlying e = some (.int k)) (hc : Tryd.prog.cellsOf e = 1)
    (h : DataW.trod enc Tryd.prog W 0 (fun _ => true) true fuel t [v] = some y) : ∃ a c xs, v = .slice a xs.length c ∧ HInts (wheap W) k a xs ∧ xs.length ≤ maxLen ∧ (∀ x ∈ xs, (Lit.int k x).wf = true) := by
  rcases open_ints ht he hc h with ⟨hcs, _⟩ | ⟨a, len, cap, zs, hcs, _, hl, hm, hz, _, hcell, hwz⟩
  · simp only [List.cons.injEq, and_true] at hcs
    subst hcs
    exact ⟨none, 0, [], rfl, fun i x hx => by simp at hx, Nat.zero_le _, fun x hx => by simp at hx⟩
  · simp only [List.cons.injEq, and_true] at hcs
    simp only [if_true] at hz
    subst hcs
    have hlen : (zs.take len).length = len := by rw [List.length_take]; omega
    refine ⟨some a, cap, zs.take len, by rw [hlen], fun i x hx => ⟨a, rfl, ?_⟩, by rw [hlen]; omega, fun x hx => hwz x (List.mem_of_mem_take hx)⟩
    have hi : i < len := by
      have := (List.getElem?_eq_some_iff.1 hx).1
      omega
    rw [hcell_wheap, hcell i (by omega)]
    rw [List.getElem?_take, if_pos hi] at hx
    rw [List.getD_eq_getElem?_getD, hx]
    rfl

set_option maxRecDepth 100000 in
theorem openIntsArg {base : Nat} {t e : TypeId} {k : IntKind} {v : Value} {d : DataW H} {p : List MemPlace} (ht : Tryd.prog.underlying t = some (.slice e)) (he : Tryd.prog.underlying e = some (.int k)) (hc : Tryd.prog.cellsOf e = 1)
    (hv : Value.okWide Tryd.prog W .any base t v) (h : DataW.Trod enc Tryd.prog W 0 (fun _ => true) true t v d p) : ∃ a c xs, v = .slice a xs.length c ∧ HInts (wheap W) k a xs ∧ xs.length ≤ maxLen ∧ (∀ x ∈ xs, (Lit.int k x).wf = true) := by
  obtain ⟨a, l, c, rfl⟩ := okWide_slice ht hv
  obtain ⟨fuel, hf⟩ := h
  exact openInts ht he hc (by simpa [Value.cells] using hf)
end
set_option maxRecDepth 100000 in
theorem Try_own : ownKnob Tryd.prog.godebug = none := by kernel_rfl
set_option maxRecDepth 100000 in
theorem Try_laidOut : laidOutB Tryd.prog = true := by kernel_rfl
end Go.Proofs.YteaonnfokkfnlaaDoor
