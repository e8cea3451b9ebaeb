/-
  DERIVED. GIVEN WITH THE SEED: THE PROGRAM's TIES (one call each: nine closed facts by the kernel) AND EACH ROW's TIE, after the 31st guide's Derived/Test/Toyas{Tie, Card}.lean. No idea stands in it: it is a product of the set-up. Laid BY PROGRAM, IN A SANDBOX (cutbox-door.mjs). By AI agents, Wed Nov 11 2026. No macro, syntax, notation, axiom, sorry.
-/
import Derived.Test.YtopmdepgpabipaaGreatDoorRows
import Derived.LaidByTextLater
import Derived.SevenTiedAt
import Derived.LaidSub
import Derived.LaidOnce
namespace Go.Proofs.YtopmdepgpabipaaGreatDoor
open Go
set_option maxRecDepth 100000
theorem seatTie1 : Tryz.prog.laidByTextLater [("errors.errorType", Rows.laid_errors_errorType), ("loop.example/s02972/impl.errShort", Rows.laid_loop_example_s02972_impl_errShort), ("loop.example/s02972/impl.errBad", Rows.laid_loop_example_s02972_impl_errBad), ("loop.example/s02972/impl.errLarge", Rows.laid_loop_example_s02972_impl_errLarge), ("loop.example/s02972/impl.errSum", Rows.laid_loop_example_s02972_impl_errSum), ("loop.example/s02972/impl.errDict", Rows.laid_loop_example_s02972_impl_errDict)] [.handle, .data, .data, .data, .data, .data] true :=
  Program.laidByTextLater_by_one 41 8 2 (by kernel_rfl) (by kernel_rfl) (by kernel_rfl) (by kernel_rfl) (by kernel_rfl) (by kernel_rfl) (fun _ _ => by kernel_rfl)
theorem noOwnUnsafe : Tryz.pinned.checked.prog.headLifts.contains "ownunsafe" = false := by kernel_rfl
theorem tie : Tryz.prog.laidByTextLater [("errors.errorType", Rows.laid_errors_errorType), ("loop.example/s02972/impl.errShort", Rows.laid_loop_example_s02972_impl_errShort), ("loop.example/s02972/impl.errBad", Rows.laid_loop_example_s02972_impl_errBad), ("loop.example/s02972/impl.errLarge", Rows.laid_loop_example_s02972_impl_errLarge), ("loop.example/s02972/impl.errSum", Rows.laid_loop_example_s02972_impl_errSum), ("loop.example/s02972/impl.errDict", Rows.laid_loop_example_s02972_impl_errDict)] [.handle, .data, .data, .data, .data, .data] true :=
  Program.laidByTextLater.sub seatTie1 ["errors.errorType", "loop.example/s02972/impl.errShort", "loop.example/s02972/impl.errBad", "loop.example/s02972/impl.errLarge", "loop.example/s02972/impl.errSum", "loop.example/s02972/impl.errDict"] (by kernel_rfl) (by kernel_rfl)
theorem fnPrefixes_row_tie : Rows.fnPrefixesRow.laidByTextAt .later Tryz.pinned [.handle, .data, .data, .data, .data, .data] true :=
  OpenClaim.laidByTextAt_later rfl rfl tie noOwnUnsafe
theorem fnPrefixesUpto_row_tie : Rows.fnPrefixesUptoRow.laidByTextAt .later Tryz.pinned [.handle, .data, .data, .data, .data, .data] true :=
  OpenClaim.laidByTextAt_later rfl rfl tie noOwnUnsafe
end Go.Proofs.YtopmdepgpabipaaGreatDoor
