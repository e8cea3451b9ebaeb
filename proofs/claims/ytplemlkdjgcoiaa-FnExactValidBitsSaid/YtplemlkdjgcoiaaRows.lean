/-
  No cell of these rows narrows 'for every input' (looked for: loops, veiled, ifaces, maps, wideKeys, modest, calm, conditions, laid).
  DERIVED. THE GIVEN ROWS OF THIS SEAT. 5 by the template 'for every input the law returns true; each argument reads behind the call as it read before'; 0 by the template 'total and deterministic' (their statements: YtplemlkdjgcoiaaTotals.lean).
  GIVEN WITH THE SEED: the statements are not yours to turn. If you find one false, say at which input.
  Laid BY PROGRAM, IN A SANDBOX (cutbox-rows.mjs): the forced cells as the released guide's own fill.sh prints them over the translation aae2179e0c0f6760… (all of the seat's roots in one cut). By AI agents, Wed Nov 11 2026. No macro, syntax, notation, axiom, sorry.
-/
import Derived.Test.YtplemlkdjgcoiaaChecked
import GoSem.Claim
import GoSem.ClaimJoined
import GoSem.ClaimMapViews
import Derived.JoinedTies
import Derived.KernelRfl
namespace Go.Proofs.Ytplemlkdjgcoiaa
/- THE CELL 'sum', in the pinned program and in every row, IS THE sha256 OF THE DUMP (.gsa) THAT YtplemlkdjgcoiaaProg.lean LOADS. Nothing in Lean hashes anything: it is a label: what it is worth is what the hold of that sum in a sandbox is worth. -/
noncomputable def Try.pinned : Pinned := { name := "ytplemlkdjgcoiaa", sum := "aae2179e0c0f67603f2febbc05c24be72d42fdfb00d9679a8421e295c765c640", checked := Try.checked }
namespace Rows
def none {H : Type} : Left H := { results := [], args := [] }

/-- 'laws.FnExactConstants': WHATEVER THE INPUT: true; the input reads as it did. -/
def fnExactConstantsSpec : ChangeSpec := { name := "fnExactConstants", fn := fun _ => fun
  | [] => { results := [.lit (.bool true)], args := [] }
  | _ => none }
def fnExactConstantsRow : OpenClaim := { program := "ytplemlkdjgcoiaa", sum := "aae2179e0c0f67603f2febbc05c24be72d42fdfb00d9679a8421e295c765c640", func := "loop.example/s02972/laws.FnExactConstants", spec := "fnExactConstants", apart := false }
def FnExactConstantsSaid : Prop := fnExactConstantsRow.holds Try.pinned (OpenSpec.ofChange fnExactConstantsSpec)

/-- ITS FALSE NEIGHBOUR: 'it returns false'. Refute it at one input. -/
def fnExactConstantsWrong : ChangeSpec := { name := "fnExactConstants", fn := fun _ => fun
  | [] => { results := [.lit (.bool false)], args := [] }
  | _ => none }
def FnExactConstantsWrongFalsely : Prop := fnExactConstantsRow.holds Try.pinned (OpenSpec.ofChange fnExactConstantsWrong)

/-- 'laws.FnExactAdlerJoin': WHATEVER THE INPUT: true; the input reads as it did. -/
def fnExactAdlerJoinSpec : ChangeSpec := { name := "fnExactAdlerJoin", fn := fun _ => fun
  | [d1, d2, d3] => { results := [.lit (.bool true)], args := [d1, d2, d3] }
  | _ => none }
def fnExactAdlerJoinRow : OpenClaim := { program := "ytplemlkdjgcoiaa", sum := "aae2179e0c0f67603f2febbc05c24be72d42fdfb00d9679a8421e295c765c640", func := "loop.example/s02972/laws.FnExactAdlerJoin", spec := "fnExactAdlerJoin", apart := false }
def FnExactAdlerJoinSaid : Prop := fnExactAdlerJoinRow.holds Try.pinned (OpenSpec.ofChange fnExactAdlerJoinSpec)

/-- ITS FALSE NEIGHBOUR: 'it returns false'. Refute it at one input. -/
def fnExactAdlerJoinWrong : ChangeSpec := { name := "fnExactAdlerJoin", fn := fun _ => fun
  | [d1, d2, d3] => { results := [.lit (.bool false)], args := [d1, d2, d3] }
  | _ => none }
def FnExactAdlerJoinWrongFalsely : Prop := fnExactAdlerJoinRow.holds Try.pinned (OpenSpec.ofChange fnExactAdlerJoinWrong)

/-- 'laws.FnExactCrcJoin': WHATEVER THE INPUT: true; the input reads as it did. -/
def fnExactCrcJoinSpec : ChangeSpec := { name := "fnExactCrcJoin", fn := fun _ => fun
  | [d1, d2, d3] => { results := [.lit (.bool true)], args := [d1, d2, d3] }
  | _ => none }
def fnExactCrcJoinRow : OpenClaim := { program := "ytplemlkdjgcoiaa", sum := "aae2179e0c0f67603f2febbc05c24be72d42fdfb00d9679a8421e295c765c640", func := "loop.example/s02972/laws.FnExactCrcJoin", spec := "fnExactCrcJoin", apart := false }
def FnExactCrcJoinSaid : Prop := fnExactCrcJoinRow.holds Try.pinned (OpenSpec.ofChange fnExactCrcJoinSpec)

/-- ITS FALSE NEIGHBOUR: 'it returns false'. Refute it at one input. -/
def fnExactCrcJoinWrong : ChangeSpec := { name := "fnExactCrcJoin", fn := fun _ => fun
  | [d1, d2, d3] => { results := [.lit (.bool false)], args := [d1, d2, d3] }
  | _ => none }
def FnExactCrcJoinWrongFalsely : Prop := fnExactCrcJoinRow.holds Try.pinned (OpenSpec.ofChange fnExactCrcJoinWrong)

/-- 'laws.FnExactValidWindow': WHATEVER THE INPUT: true; the input reads as it did. -/
def fnExactValidWindowSpec : ChangeSpec := { name := "fnExactValidWindow", fn := fun _ => fun
  | [d] => { results := [.lit (.bool true)], args := [d] }
  | _ => none }
def fnExactValidWindowRow : OpenClaim := { program := "ytplemlkdjgcoiaa", sum := "aae2179e0c0f67603f2febbc05c24be72d42fdfb00d9679a8421e295c765c640", func := "loop.example/s02972/laws.FnExactValidWindow", spec := "fnExactValidWindow", apart := false }
def FnExactValidWindowSaid : Prop := fnExactValidWindowRow.holds Try.pinned (OpenSpec.ofChange fnExactValidWindowSpec)

/-- ITS FALSE NEIGHBOUR: 'it returns false'. Refute it at one input. -/
def fnExactValidWindowWrong : ChangeSpec := { name := "fnExactValidWindow", fn := fun _ => fun
  | [d] => { results := [.lit (.bool false)], args := [d] }
  | _ => none }
def FnExactValidWindowWrongFalsely : Prop := fnExactValidWindowRow.holds Try.pinned (OpenSpec.ofChange fnExactValidWindowWrong)

/-- 'laws.FnExactValidBits': WHATEVER THE INPUT: true; the input reads as it did. -/
def fnExactValidBitsSpec : ChangeSpec := { name := "fnExactValidBits", fn := fun _ => fun
  | [d] => { results := [.lit (.bool true)], args := [d] }
  | _ => none }
def fnExactValidBitsRow : OpenClaim := { program := "ytplemlkdjgcoiaa", sum := "aae2179e0c0f67603f2febbc05c24be72d42fdfb00d9679a8421e295c765c640", func := "loop.example/s02972/laws.FnExactValidBits", spec := "fnExactValidBits", apart := false }
def FnExactValidBitsSaid : Prop := fnExactValidBitsRow.holds Try.pinned (OpenSpec.ofChange fnExactValidBitsSpec)

/-- ITS FALSE NEIGHBOUR: 'it returns false'. Refute it at one input. -/
def fnExactValidBitsWrong : ChangeSpec := { name := "fnExactValidBits", fn := fun _ => fun
  | [d] => { results := [.lit (.bool false)], args := [d] }
  | _ => none }
def FnExactValidBitsWrongFalsely : Prop := fnExactValidBitsRow.holds Try.pinned (OpenSpec.ofChange fnExactValidBitsWrong)

/- THE SECOND FORM. 'bulk': how many values and letters a reading holds, each counted each time it is reached (what is shared counts as often as it is met; a slice's spare places count too). A statement '..UptoSaid' is the law's where the arguments, and the package variables that the reading takes, are together of bulk at most 1048576: NARROWER than '..Said'. Prove '..Said' where nothing that the law and all that it calls make is longer than what came in: it says more and counts as full. Else prove '..UptoSaid'. A law counts once. -/
mutual
def uptoBulk {H : Type} : DataW H → Nat
  | .lit (.string bytes) => bytes.length + 1
  | .lit _ => 1
  | .nil => 1
  | .ptr d => uptoBulk d + 1
  | .slice elems spare => uptoBulkAll elems + uptoBulkAll spare + 1
  | .agg parts => uptoBulkAll parts + 1
  | .iface _ d => uptoBulk d + 1
  | .map entries => uptoBulkEntries entries + 1
  | .held _ => 1
def uptoBulkAll {H : Type} : List (DataW H) → Nat
  | [] => 0
  | d :: r => uptoBulk d + uptoBulkAll r
def uptoBulkEntries {H : Type} : List (Lit × DataW H) → Nat
  | [] => 0
  | x :: r => uptoBulkEntry x + uptoBulkEntries r
def uptoBulkEntry {H : Type} : Lit × DataW H → Nat
  | (.string bytes, d) => bytes.length + uptoBulk d + 1
  | (_, d) => uptoBulk d + 1
 end
def uptoSmall : (H : Type) → List (DataW H) → Bool := fun _ ds => decide (uptoBulkAll ds ≤ 1048576)
def OpenSpec.upto (s : _root_.Go.ChangeSpec) : _root_.Go.OpenSpec := { _root_.Go.OpenSpec.ofChange s with cond := some uptoSmall }

/-- 'laws.FnExactConstants', WHERE WHAT IT READS IS OF BULK AT MOST 1048576: true; the input reads as it did. -/
def fnExactConstantsUptoRow : OpenClaim := { program := "ytplemlkdjgcoiaa", sum := "aae2179e0c0f67603f2febbc05c24be72d42fdfb00d9679a8421e295c765c640", func := "loop.example/s02972/laws.FnExactConstants", spec := "fnExactConstants", apart := false, narrowed := true }
def FnExactConstantsUptoSaid : Prop := fnExactConstantsUptoRow.holds Try.pinned (OpenSpec.upto fnExactConstantsSpec)

/-- 'laws.FnExactAdlerJoin', WHERE WHAT IT READS IS OF BULK AT MOST 1048576: true; the input reads as it did. -/
def fnExactAdlerJoinUptoRow : OpenClaim := { program := "ytplemlkdjgcoiaa", sum := "aae2179e0c0f67603f2febbc05c24be72d42fdfb00d9679a8421e295c765c640", func := "loop.example/s02972/laws.FnExactAdlerJoin", spec := "fnExactAdlerJoin", apart := false, narrowed := true }
def FnExactAdlerJoinUptoSaid : Prop := fnExactAdlerJoinUptoRow.holds Try.pinned (OpenSpec.upto fnExactAdlerJoinSpec)

/-- 'laws.FnExactCrcJoin', WHERE WHAT IT READS IS OF BULK AT MOST 1048576: true; the input reads as it did. -/
def fnExactCrcJoinUptoRow : OpenClaim := { program := "ytplemlkdjgcoiaa", sum := "aae2179e0c0f67603f2febbc05c24be72d42fdfb00d9679a8421e295c765c640", func := "loop.example/s02972/laws.FnExactCrcJoin", spec := "fnExactCrcJoin", apart := false, narrowed := true }
def FnExactCrcJoinUptoSaid : Prop := fnExactCrcJoinUptoRow.holds Try.pinned (OpenSpec.upto fnExactCrcJoinSpec)

/-- 'laws.FnExactValidWindow', WHERE WHAT IT READS IS OF BULK AT MOST 1048576: true; the input reads as it did. -/
def fnExactValidWindowUptoRow : OpenClaim := { program := "ytplemlkdjgcoiaa", sum := "aae2179e0c0f67603f2febbc05c24be72d42fdfb00d9679a8421e295c765c640", func := "loop.example/s02972/laws.FnExactValidWindow", spec := "fnExactValidWindow", apart := false, narrowed := true }
def FnExactValidWindowUptoSaid : Prop := fnExactValidWindowUptoRow.holds Try.pinned (OpenSpec.upto fnExactValidWindowSpec)

/-- 'laws.FnExactValidBits', WHERE WHAT IT READS IS OF BULK AT MOST 1048576: true; the input reads as it did. -/
def fnExactValidBitsUptoRow : OpenClaim := { program := "ytplemlkdjgcoiaa", sum := "aae2179e0c0f67603f2febbc05c24be72d42fdfb00d9679a8421e295c765c640", func := "loop.example/s02972/laws.FnExactValidBits", spec := "fnExactValidBits", apart := false, narrowed := true }
def FnExactValidBitsUptoSaid : Prop := fnExactValidBitsUptoRow.holds Try.pinned (OpenSpec.upto fnExactValidBitsSpec)

end Rows
end Go.Proofs.Ytplemlkdjgcoiaa
