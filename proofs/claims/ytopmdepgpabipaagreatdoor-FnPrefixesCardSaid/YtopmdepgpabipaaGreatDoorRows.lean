/-
  NARROWER THAN 'FOR EVERY INPUT', by the rows' own cells (each row's printed sentence says how): FnPrefixes: laid.
  DERIVED. THE GIVEN ROWS OF THIS SEAT. 1 by the template 'for every input the law returns true; each argument reads behind the call as it read before'; 0 by the template 'total and deterministic' (their statements: YtopmdepgpabipaaGreatDoorTotals.lean).
  GIVEN WITH THE SEED: the statements are not yours to turn. If you find one false, say at which input.
  Laid BY PROGRAM, IN A SANDBOX (cutbox-rows.mjs): the forced cells as the released guide's own fill.sh prints them over the translation 73fd4971b44c50a3… (all of the seat's roots in one cut). By AI agents, Wed Nov 11 2026. No macro, syntax, notation, axiom, sorry.
-/
import Derived.Test.YtopmdepgpabipaaGreatDoorChecked
import GoSem.Claim
import GoSem.ClaimJoined
import GoSem.ClaimMapViews
import Derived.JoinedTies
import Derived.KernelRfl
namespace Go.Proofs.YtopmdepgpabipaaGreatDoor
/- THE CELL 'sum', in the pinned program and in every row, IS THE sha256 OF THE DUMP (.gsa) THAT YtopmdepgpabipaaGreatDoorProg.lean LOADS. Nothing in Lean hashes anything: it is a label: what it is worth is what the hold of that sum in a sandbox is worth. -/
noncomputable def Tryz.pinned : Pinned := { name := "ytopmdepgpabipaagreatdoor", sum := "73fd4971b44c50a37fdf8331030c7123853e2fc04de9661bf02d082385d0a03b", checked := Tryz.checked }
namespace Rows
def none {H : Type} : Left H := { results := [], args := [] }

/- WHAT THE LISTED PACKAGE-LEVEL VARIABLES READ AS WHEN THE CALL BEGINS. Each datum BY PROGRAM (the guide's laid-datum.mjs) off the statement by which the dump's own 'gosem.cut.vars' lays the variable. In a bare row this is a premise. The card (YtopmdepgpabipaaGreatDoorCards.lean) ties it to the program's text. -/
def laid_errors_errorType {H : Type} : DataW H := .iface "internal/reflectlite.rtype" (.agg [.ptr (.lit (.string [101, 114, 114, 111, 114]))])
def laid_loop_example_s02972_impl_errShort {H : Type} : DataW H := .agg [.lit (.int .i64 2)]
def laid_loop_example_s02972_impl_errBad {H : Type} : DataW H := .agg [.lit (.int .i64 3)]
def laid_loop_example_s02972_impl_errLarge {H : Type} : DataW H := .agg [.lit (.int .i64 6)]
def laid_loop_example_s02972_impl_errSum {H : Type} : DataW H := .agg [.lit (.int .i64 4)]
def laid_loop_example_s02972_impl_errDict {H : Type} : DataW H := .agg [.lit (.int .i64 5)]

/-- 'laws.FnPrefixes': WHATEVER THE INPUT: true; the input reads as it did. -/
def fnPrefixesSpec : ChangeSpec := { name := "fnPrefixes", vars := ["loop.example/s02972/impl.errBad", "loop.example/s02972/impl.errShort", "loop.example/s02972/impl.errLarge", "loop.example/s02972/impl.errDict", "loop.example/s02972/impl.errSum"], fn := fun _ => fun
  | [d1, d2, g1, g2, g3, g4, g5] => { results := [.lit (.bool true)], args := [d1, d2], vars := [g1, g2, g3, g4, g5] }
  | _ => none }
def fnPrefixesRow : OpenClaim := { program := "ytopmdepgpabipaagreatdoor", sum := "73fd4971b44c50a37fdf8331030c7123853e2fc04de9661bf02d082385d0a03b", func := "loop.example/s02972/laws.FnPrefixes", spec := "fnPrefixes", inPlace := ["internal/reflectlite.ValueOf", "(internal/reflectlite.Value).Type", "(internal/reflectlite.Value).IsNil", "internal/reflectlite.TypeOf", "(internal/reflectlite.Value).Elem", "(internal/reflectlite.Value).Set", "(*sync.WaitGroup).Add", "internal/race.ReleaseMerge", "internal/race.Disable", "internal/race.Enable", "internal/synctest.IsInBubble", "internal/synctest.Associate[sync.WaitGroup]", "sync.fatal", "sync/atomic.OrUint64", "sync/atomic.AddUint64", "internal/race.Read", "sync/atomic.LoadUint64", "sync/atomic.StoreUint64", "internal/synctest.Disassociate[sync.WaitGroup]", "sync.runtime_Semrelease", "(*sync.WaitGroup).Done", "(*sync.WaitGroup).Wait", "internal/race.Acquire", "internal/synctest.IsAssociated[sync.WaitGroup]", "sync/atomic.CompareAndSwapUint64", "internal/race.Write", "sync.runtime_SemacquireWaitGroup"], unfollowed := true, recurses := true, named := ["loop.example/s02972/impl.errBad", "loop.example/s02972/impl.errShort", "loop.example/s02972/impl.errLarge", "errors.errorType", "loop.example/s02972/impl.errDict", "loop.example/s02972/impl.errSum"], leaving := true, apart := false, laid := [("errors.errorType", laid_errors_errorType), ("loop.example/s02972/impl.errShort", laid_loop_example_s02972_impl_errShort), ("loop.example/s02972/impl.errBad", laid_loop_example_s02972_impl_errBad), ("loop.example/s02972/impl.errLarge", laid_loop_example_s02972_impl_errLarge), ("loop.example/s02972/impl.errSum", laid_loop_example_s02972_impl_errSum), ("loop.example/s02972/impl.errDict", laid_loop_example_s02972_impl_errDict)] }
def FnPrefixesSaid : Prop := fnPrefixesRow.holds Tryz.pinned (OpenSpec.ofChange fnPrefixesSpec)

/-- ITS FALSE NEIGHBOUR: 'it returns false'. Refute it at one input. -/
def fnPrefixesWrong : ChangeSpec := { name := "fnPrefixes", vars := ["loop.example/s02972/impl.errBad", "loop.example/s02972/impl.errShort", "loop.example/s02972/impl.errLarge", "loop.example/s02972/impl.errDict", "loop.example/s02972/impl.errSum"], fn := fun _ => fun
  | [d1, d2, g1, g2, g3, g4, g5] => { results := [.lit (.bool false)], args := [d1, d2], vars := [g1, g2, g3, g4, g5] }
  | _ => none }
def FnPrefixesWrongFalsely : Prop := fnPrefixesRow.holds Tryz.pinned (OpenSpec.ofChange fnPrefixesWrong)

/- THE SECOND FORM. 'bulk': how many values and letters a reading holds, each counted each time it is reached (what is shared counts as often as it is met; a slice's spare places count too). A statement '..UptoSaid' is the law's where the arguments, and the package variables that the reading takes, are together of bulk at most 1048576: NARROWER than '..Said'. Prove '..Said' where nothing that the law and all that it calls make is longer than what came in: it says more and counts as full. Else prove '..UptoSaid'. A law counts once. -/
mutual
def uptoBulk {H : Type} : DataW H → Nat
  | .lit (.string bytes) => bytes.length + 1
  | .lit _ => 1
  | .nil => 1
  | .ptr d => uptoBulk d + 1
  | .slice elems spare => uptoBulkAll elems + uptoBulkAll spare + 1
  | .agg parts => uptoBulkAll parts + 1
  | .iface _ d => uptoBulk d + 1
  | .map entries => uptoBulkEntries entries + 1
  | .held _ => 1
def uptoBulkAll {H : Type} : List (DataW H) → Nat
  | [] => 0
  | d :: r => uptoBulk d + uptoBulkAll r
def uptoBulkEntries {H : Type} : List (Lit × DataW H) → Nat
  | [] => 0
  | x :: r => uptoBulkEntry x + uptoBulkEntries r
def uptoBulkEntry {H : Type} : Lit × DataW H → Nat
  | (.string bytes, d) => bytes.length + uptoBulk d + 1
  | (_, d) => uptoBulk d + 1
 end
def uptoSmall : (H : Type) → List (DataW H) → Bool := fun _ ds => decide (uptoBulkAll ds ≤ 1048576)
def OpenSpec.upto (s : _root_.Go.ChangeSpec) : _root_.Go.OpenSpec := { _root_.Go.OpenSpec.ofChange s with cond := some uptoSmall }

/-- 'laws.FnPrefixes', WHERE WHAT IT READS IS OF BULK AT MOST 1048576: true; the input reads as it did. -/
def fnPrefixesUptoRow : OpenClaim := { program := "ytopmdepgpabipaagreatdoor", sum := "73fd4971b44c50a37fdf8331030c7123853e2fc04de9661bf02d082385d0a03b", func := "loop.example/s02972/laws.FnPrefixes", spec := "fnPrefixes", inPlace := ["internal/reflectlite.ValueOf", "(internal/reflectlite.Value).Type", "(internal/reflectlite.Value).IsNil", "internal/reflectlite.TypeOf", "(internal/reflectlite.Value).Elem", "(internal/reflectlite.Value).Set", "(*sync.WaitGroup).Add", "internal/race.ReleaseMerge", "internal/race.Disable", "internal/race.Enable", "internal/synctest.IsInBubble", "internal/synctest.Associate[sync.WaitGroup]", "sync.fatal", "sync/atomic.OrUint64", "sync/atomic.AddUint64", "internal/race.Read", "sync/atomic.LoadUint64", "sync/atomic.StoreUint64", "internal/synctest.Disassociate[sync.WaitGroup]", "sync.runtime_Semrelease", "(*sync.WaitGroup).Done", "(*sync.WaitGroup).Wait", "internal/race.Acquire", "internal/synctest.IsAssociated[sync.WaitGroup]", "sync/atomic.CompareAndSwapUint64", "internal/race.Write", "sync.runtime_SemacquireWaitGroup"], unfollowed := true, recurses := true, named := ["loop.example/s02972/impl.errBad", "loop.example/s02972/impl.errShort", "loop.example/s02972/impl.errLarge", "errors.errorType", "loop.example/s02972/impl.errDict", "loop.example/s02972/impl.errSum"], leaving := true, apart := false, laid := [("errors.errorType", laid_errors_errorType), ("loop.example/s02972/impl.errShort", laid_loop_example_s02972_impl_errShort), ("loop.example/s02972/impl.errBad", laid_loop_example_s02972_impl_errBad), ("loop.example/s02972/impl.errLarge", laid_loop_example_s02972_impl_errLarge), ("loop.example/s02972/impl.errSum", laid_loop_example_s02972_impl_errSum), ("loop.example/s02972/impl.errDict", laid_loop_example_s02972_impl_errDict)], narrowed := true }
def FnPrefixesUptoSaid : Prop := fnPrefixesUptoRow.holds Tryz.pinned (OpenSpec.upto fnPrefixesSpec)

end Rows
end Go.Proofs.YtopmdepgpabipaaGreatDoor
