import Derived.Test.YteaonnfokkfnlaaDoorTrAs
import Derived.Test.YteaonnfokkfnlaaDoorEng3
import Derived.KernelRfl
set_option linter.unusedVariables false
set_option linter.unusedSimpArgs false
namespace Go.Proofs.YteaonnfokkfnlaaDoor
open Go Go.Eng

/-! ### errors.As, at the program's own class of errors: what the reflecting functions do -/
abbrev tCl : TypeId := 73
abbrev tPC : TypeId := 75
abbrev tRt : TypeId := 110
abbrev tEr : TypeId := 51
/-- A type's handle. -/
def hdl (t : TypeId) : Value := .pointer (some ⟨4, t, none⟩)
/-- A type, as a reflecting one. -/
def rty (t : TypeId) : Value := .iface tRt (.agg #[hdl t])

section
variable {S : Shared} {h : Eng.Heap} {B : Nat} {w : World} {K : Next → World → Prop}
theorem x_ofPtr (t : Addr) : driveW Tryd.prog S h B (callFunc F_internal_reflectlite_ValueOf #[.iface tPC (.pointer (some t))]) [] w K =
    (True ∧ K (.value (.agg #[hdl tPC, .pointer (some ⟨w.heap.size, 0, none⟩), .int .u64 150])) { w with heap := w.heap.push (.cells #[.pointer (some t)] tPC) }) := by kernel_rfl
theorem x_ofErr (k : Int) : driveW Tryd.prog S h B (callFunc F_internal_reflectlite_ValueOf #[.iface tCl (.agg #[.int .i64 k])]) [] w K =
    (True ∧ K (.value (.agg #[hdl tCl, .pointer (some ⟨w.heap.size, 0, none⟩), .int .u64 153])) { w with heap := w.heap.push (.cells #[.int .i64 k] tCl) }) := by kernel_rfl
theorem x_type (a : Addr) : driveW Tryd.prog S h B (callFunc F__internal_reflectlite_Value__Type #[.agg #[hdl tPC, .pointer (some a), .int .u64 150]]) [] w K = (True ∧ K (.value (rty tPC)) w) := by kernel_rfl
theorem m_kind (t : Nat) : plainS Tryd.prog (method (Tryd.prog.types.size + Made.depth) tRt (.agg #[hdl t]) "Kind") = some (F___internal_abi_Type__Kind, hdl t) := by kernel_rfl
theorem m_elem (t : Nat) : plainS Tryd.prog (method (Tryd.prog.types.size + Made.depth) tRt (.agg #[hdl t]) "Elem") = some (F__internal_reflectlite_rtype__Elem, .agg #[hdl t]) := by kernel_rfl
theorem m_impl (t : Nat) : plainS Tryd.prog (method (Tryd.prog.types.size + Made.depth) tRt (.agg #[hdl t]) "Implements") = some (F__internal_reflectlite_rtype__Implements, .agg #[hdl t]) := by kernel_rfl
theorem m_asgn (t : Nat) : plainS Tryd.prog (method (Tryd.prog.types.size + Made.depth) tRt (.agg #[hdl t]) "AssignableTo") = some (F__internal_reflectlite_rtype__AssignableTo, .agg #[hdl t]) := by kernel_rfl
theorem x_kindP : driveW Tryd.prog S h B (callFunc F___internal_abi_Type__Kind #[hdl tPC]) [] w K = (True ∧ K (.value (.int .u8 22)) w) := by kernel_rfl
theorem x_kindC : driveW Tryd.prog S h B (callFunc F___internal_abi_Type__Kind #[hdl tCl]) [] w K = (True ∧ K (.value (.int .u8 25)) w) := by kernel_rfl
theorem x_elem : driveW Tryd.prog S h B (callFunc F__internal_reflectlite_rtype__Elem #[.agg #[hdl tPC]]) [] w K = (True ∧ K (.value (rty tCl)) w) := by kernel_rfl
theorem x_impl : driveW Tryd.prog S h B (callFunc F__internal_reflectlite_rtype__Implements #[.agg #[hdl tCl], rty tEr]) [] w K = (True ∧ K (.value (.bool true)) w) := by kernel_rfl
theorem x_typeOf (v : Value) : driveW Tryd.prog S h B (callFunc F_internal_reflectlite_TypeOf #[.iface tCl v]) [] w K = (True ∧ K (.value (rty tCl)) w) := by kernel_rfl
theorem x_asgn : driveW Tryd.prog S h B (callFunc F__internal_reflectlite_rtype__AssignableTo #[.agg #[hdl tCl], rty tCl]) [] w K = (True ∧ K (.value (.bool true)) w) := by kernel_rfl
theorem x_isNil (a p : Addr) : driveW Tryd.prog S h B (callFunc F__internal_reflectlite_Value__IsNil #[.agg #[hdl tPC, .pointer (some a), .int .u64 150]]) [.pointer (some p)] w K =
    (True ∧ Mode.plain = .plain ∧ (h a.block ≠ none ∨ B ≤ a.block) ∧ w.cell? a = some (.pointer (some p)) ∧ K (.value (.bool false)) w) := by kernel_rfl
theorem x_elemV (a p : Addr) : driveW Tryd.prog S h B (callFunc F__internal_reflectlite_Value__Elem #[.agg #[hdl tPC, .pointer (some a), .int .u64 150]]) [.pointer (some p)] w K =
    (True ∧ Mode.plain = .plain ∧ (h a.block ≠ none ∨ B ≤ a.block) ∧ w.cell? a = some (.pointer (some p)) ∧ K (.value (.agg #[hdl tCl, .pointer (some p), .int .u64 409])) w) := by kernel_rfl
theorem x_set (t b : Addr) (k : Int) : driveW Tryd.prog S h B (callFunc F__internal_reflectlite_Value__Set #[.agg #[hdl tCl, .pointer (some t), .int .u64 409], .agg #[hdl tCl, .pointer (some b), .int .u64 153]]) [.int .i64 k] w K =
    (True ∧ Mode.plain = .plain ∧ (h b.block ≠ none ∨ B ≤ b.block) ∧ w.cell? b = some (.int .i64 k) ∧
      Mode.plain = .plain ∧ (h t.block ≠ none ∨ B ≤ t.block) ∧ ¬ S t.block ∧ (∃ u, w.cell? t = some u) ∧ w.frozen? t = false ∧ (Value.int .i64 k).cells = #[.int .i64 k] ∧ (∀ x, Value.int .i64 k ≠ .tuple x) ∧ (∀ x, Value.int .i64 k ≠ .agg x) ∧
      K (.value (.tuple #[])) (w.setCell t (.int .i64 k))) := by kernel_rfl
end
end Go.Proofs.YteaonnfokkfnlaaDoor
