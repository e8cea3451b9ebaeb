/-
  NARROWER THAN 'FOR EVERY INPUT', by the rows' own cells (each row's printed sentence says how): FnLarge: laid · FnEncode: laid.
  DERIVED. THE GIVEN ROWS OF THIS SEAT. 2 by the template 'for every input the law returns true; each argument reads behind the call as it read before'; 0 by the template 'total and deterministic' (their statements: YteaonnfokkfnlaaDoorTotals.lean).
  GIVEN WITH THE SEED: the statements are not yours to turn. If you find one false, say at which input.
  Laid BY PROGRAM, IN A SANDBOX (cutbox-rows.mjs): the forced cells as the released guide's own fill.sh prints them over the translation cd7be60cc26c5f6c… (all of the seat's roots in one cut). By AI agents, Wed Nov 11 2026. No macro, syntax, notation, axiom, sorry.
-/
import Derived.Test.YteaonnfokkfnlaaDoorChecked
import GoSem.Claim
import GoSem.ClaimJoined
import GoSem.ClaimMapViews
import Derived.JoinedTies
import Derived.KernelRfl
namespace Go.Proofs.YteaonnfokkfnlaaDoor
/- THE CELL 'sum', in the pinned program and in every row, IS THE sha256 OF THE DUMP (.gsa) THAT YteaonnfokkfnlaaDoorProg.lean LOADS. Nothing in Lean hashes anything: it is a label: what it is worth is what the hold of that sum in a sandbox is worth. -/
noncomputable def Tryd.pinned : Pinned := { name := "yteaonnfokkfnlaadoor", sum := "cd7be60cc26c5f6c99beb0011898182530083636607e0b86454a2640b2e7fbc4", checked := Tryd.checked }
namespace Rows
def none {H : Type} : Left H := { results := [], args := [] }

/- WHAT THE LISTED PACKAGE-LEVEL VARIABLES READ AS WHEN THE CALL BEGINS. Each datum BY PROGRAM (the guide's laid-datum.mjs) off the statement by which the dump's own 'gosem.cut.vars' lays the variable. In a bare row this is a premise. The card (YteaonnfokkfnlaaDoorCards.lean) ties it to the program's text. -/
def laid_errors_errorType {H : Type} : DataW H := .iface "internal/reflectlite.rtype" (.agg [.ptr (.lit (.string [101, 114, 114, 111, 114]))])
def laid_loop_example_s02972_impl_errShort {H : Type} : DataW H := .agg [.lit (.int .i64 2)]
def laid_loop_example_s02972_impl_errBad {H : Type} : DataW H := .agg [.lit (.int .i64 3)]
def laid_loop_example_s02972_impl_errLarge {H : Type} : DataW H := .agg [.lit (.int .i64 6)]

/-- 'laws.FnLarge': WHATEVER THE INPUT: true; the input reads as it did. -/
def fnLargeSpec : ChangeSpec := { name := "fnLarge", vars := ["loop.example/s02972/impl.errBad", "loop.example/s02972/impl.errShort", "loop.example/s02972/impl.errLarge"], fn := fun _ => fun
  | [d, g1, g2, g3] => { results := [.lit (.bool true)], args := [d], vars := [g1, g2, g3] }
  | _ => none }
def fnLargeRow : OpenClaim := { program := "yteaonnfokkfnlaadoor", sum := "cd7be60cc26c5f6c99beb0011898182530083636607e0b86454a2640b2e7fbc4", func := "loop.example/s02972/laws.FnLarge", spec := "fnLarge", inPlace := ["internal/reflectlite.ValueOf", "(internal/reflectlite.Value).Type", "(internal/reflectlite.Value).IsNil", "internal/reflectlite.TypeOf", "(internal/reflectlite.Value).Elem", "(internal/reflectlite.Value).Set"], unfollowed := true, recurses := true, named := ["loop.example/s02972/impl.errBad", "loop.example/s02972/impl.errShort", "loop.example/s02972/impl.errLarge", "errors.errorType"], apart := false, laid := [("errors.errorType", laid_errors_errorType), ("loop.example/s02972/impl.errShort", laid_loop_example_s02972_impl_errShort), ("loop.example/s02972/impl.errBad", laid_loop_example_s02972_impl_errBad), ("loop.example/s02972/impl.errLarge", laid_loop_example_s02972_impl_errLarge)] }
def FnLargeSaid : Prop := fnLargeRow.holds Tryd.pinned (OpenSpec.ofChange fnLargeSpec)

/-- ITS FALSE NEIGHBOUR: 'it returns false'. Refute it at one input. -/
def fnLargeWrong : ChangeSpec := { name := "fnLarge", vars := ["loop.example/s02972/impl.errBad", "loop.example/s02972/impl.errShort", "loop.example/s02972/impl.errLarge"], fn := fun _ => fun
  | [d, g1, g2, g3] => { results := [.lit (.bool false)], args := [d], vars := [g1, g2, g3] }
  | _ => none }
def FnLargeWrongFalsely : Prop := fnLargeRow.holds Tryd.pinned (OpenSpec.ofChange fnLargeWrong)

/-- 'laws.FnEncode': WHATEVER THE INPUT: true; the input reads as it did. -/
def fnEncodeSpec : ChangeSpec := { name := "fnEncode", vars := ["loop.example/s02972/impl.errBad", "loop.example/s02972/impl.errShort", "loop.example/s02972/impl.errLarge"], fn := fun _ => fun
  | [d, g1, g2, g3] => { results := [.lit (.bool true)], args := [d], vars := [g1, g2, g3] }
  | _ => none }
def fnEncodeRow : OpenClaim := { program := "yteaonnfokkfnlaadoor", sum := "cd7be60cc26c5f6c99beb0011898182530083636607e0b86454a2640b2e7fbc4", func := "loop.example/s02972/laws.FnEncode", spec := "fnEncode", inPlace := ["internal/reflectlite.ValueOf", "(internal/reflectlite.Value).Type", "(internal/reflectlite.Value).IsNil", "internal/reflectlite.TypeOf", "(internal/reflectlite.Value).Elem", "(internal/reflectlite.Value).Set"], unfollowed := true, recurses := true, named := ["loop.example/s02972/impl.errBad", "loop.example/s02972/impl.errShort", "loop.example/s02972/impl.errLarge", "errors.errorType"], apart := false, laid := [("errors.errorType", laid_errors_errorType), ("loop.example/s02972/impl.errShort", laid_loop_example_s02972_impl_errShort), ("loop.example/s02972/impl.errBad", laid_loop_example_s02972_impl_errBad), ("loop.example/s02972/impl.errLarge", laid_loop_example_s02972_impl_errLarge)] }
def FnEncodeSaid : Prop := fnEncodeRow.holds Tryd.pinned (OpenSpec.ofChange fnEncodeSpec)

/-- ITS FALSE NEIGHBOUR: 'it returns false'. Refute it at one input. -/
def fnEncodeWrong : ChangeSpec := { name := "fnEncode", vars := ["loop.example/s02972/impl.errBad", "loop.example/s02972/impl.errShort", "loop.example/s02972/impl.errLarge"], fn := fun _ => fun
  | [d, g1, g2, g3] => { results := [.lit (.bool false)], args := [d], vars := [g1, g2, g3] }
  | _ => none }
def FnEncodeWrongFalsely : Prop := fnEncodeRow.holds Tryd.pinned (OpenSpec.ofChange fnEncodeWrong)

/- THE SECOND FORM. 'bulk': how many values and letters a reading holds, each counted each time it is reached (what is shared counts as often as it is met; a slice's spare places count too). A statement '..UptoSaid' is the law's where the arguments, and the package variables that the reading takes, are together of bulk at most 1048576: NARROWER than '..Said'. Prove '..Said' where nothing that the law and all that it calls make is longer than what came in: it says more and counts as full. Else prove '..UptoSaid'. A law counts once. -/
mutual
def uptoBulk {H : Type} : DataW H → Nat
  | .lit (.string bytes) => bytes.length + 1
  | .lit _ => 1
  | .nil => 1
  | .ptr d => uptoBulk d + 1
  | .slice elems spare => uptoBulkAll elems + uptoBulkAll spare + 1
  | .agg parts => uptoBulkAll parts + 1
  | .iface _ d => uptoBulk d + 1
  | .map entries => uptoBulkEntries entries + 1
  | .held _ => 1
def uptoBulkAll {H : Type} : List (DataW H) → Nat
  | [] => 0
  | d :: r => uptoBulk d + uptoBulkAll r
def uptoBulkEntries {H : Type} : List (Lit × DataW H) → Nat
  | [] => 0
  | x :: r => uptoBulkEntry x + uptoBulkEntries r
def uptoBulkEntry {H : Type} : Lit × DataW H → Nat
  | (.string bytes, d) => bytes.length + uptoBulk d + 1
  | (_, d) => uptoBulk d + 1
 end
def uptoSmall : (H : Type) → List (DataW H) → Bool := fun _ ds => decide (uptoBulkAll ds ≤ 1048576)
def OpenSpec.upto (s : _root_.Go.ChangeSpec) : _root_.Go.OpenSpec := { _root_.Go.OpenSpec.ofChange s with cond := some uptoSmall }

/-- 'laws.FnLarge', WHERE WHAT IT READS IS OF BULK AT MOST 1048576: true; the input reads as it did. -/
def fnLargeUptoRow : OpenClaim := { program := "yteaonnfokkfnlaadoor", sum := "cd7be60cc26c5f6c99beb0011898182530083636607e0b86454a2640b2e7fbc4", func := "loop.example/s02972/laws.FnLarge", spec := "fnLarge", inPlace := ["internal/reflectlite.ValueOf", "(internal/reflectlite.Value).Type", "(internal/reflectlite.Value).IsNil", "internal/reflectlite.TypeOf", "(internal/reflectlite.Value).Elem", "(internal/reflectlite.Value).Set"], unfollowed := true, recurses := true, named := ["loop.example/s02972/impl.errBad", "loop.example/s02972/impl.errShort", "loop.example/s02972/impl.errLarge", "errors.errorType"], apart := false, laid := [("errors.errorType", laid_errors_errorType), ("loop.example/s02972/impl.errShort", laid_loop_example_s02972_impl_errShort), ("loop.example/s02972/impl.errBad", laid_loop_example_s02972_impl_errBad), ("loop.example/s02972/impl.errLarge", laid_loop_example_s02972_impl_errLarge)], narrowed := true }
def FnLargeUptoSaid : Prop := fnLargeUptoRow.holds Tryd.pinned (OpenSpec.upto fnLargeSpec)

/-- 'laws.FnEncode', WHERE WHAT IT READS IS OF BULK AT MOST 1048576: true; the input reads as it did. -/
def fnEncodeUptoRow : OpenClaim := { program := "yteaonnfokkfnlaadoor", sum := "cd7be60cc26c5f6c99beb0011898182530083636607e0b86454a2640b2e7fbc4", func := "loop.example/s02972/laws.FnEncode", spec := "fnEncode", inPlace := ["internal/reflectlite.ValueOf", "(internal/reflectlite.Value).Type", "(internal/reflectlite.Value).IsNil", "internal/reflectlite.TypeOf", "(internal/reflectlite.Value).Elem", "(internal/reflectlite.Value).Set"], unfollowed := true, recurses := true, named := ["loop.example/s02972/impl.errBad", "loop.example/s02972/impl.errShort", "loop.example/s02972/impl.errLarge", "errors.errorType"], apart := false, laid := [("errors.errorType", laid_errors_errorType), ("loop.example/s02972/impl.errShort", laid_loop_example_s02972_impl_errShort), ("loop.example/s02972/impl.errBad", laid_loop_example_s02972_impl_errBad), ("loop.example/s02972/impl.errLarge", laid_loop_example_s02972_impl_errLarge)], narrowed := true }
def FnEncodeUptoSaid : Prop := fnEncodeUptoRow.holds Tryd.pinned (OpenSpec.upto fnEncodeSpec)

end Rows
end Go.Proofs.YteaonnfokkfnlaaDoor
