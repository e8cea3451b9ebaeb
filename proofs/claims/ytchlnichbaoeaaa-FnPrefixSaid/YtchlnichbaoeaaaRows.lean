/-
  No cell of these rows narrows 'for every input' (looked for: loops, veiled, ifaces, maps, wideKeys, modest, calm, conditions, laid).
  DERIVED. THE GIVEN ROWS OF THIS SEAT. 13 by the template 'for every input the law returns true; each argument reads behind the call as it read before'; 0 by the template 'total and deterministic' (their statements: YtchlnichbaoeaaaTotals.lean).
  GIVEN WITH THE SEED: the statements are not yours to turn. If you find one false, say at which input.
  Laid BY PROGRAM, IN A SANDBOX (cutbox-rows.mjs): the forced cells as the released guide's own fill.sh prints them over the translation a9c7c3b3bdd3b8f0… (all of the seat's roots in one cut). By AI agents, Wed Nov 11 2026. No macro, syntax, notation, axiom, sorry.
-/
import Derived.Test.YtchlnichbaoeaaaChecked
import GoSem.Claim
import GoSem.ClaimJoined
import GoSem.ClaimMapViews
import Derived.JoinedTies
import Derived.KernelRfl
namespace Go.Proofs.Ytchlnichbaoeaaa
/- THE CELL 'sum', in the pinned program and in every row, IS THE sha256 OF THE DUMP (.gsa) THAT YtchlnichbaoeaaaProg.lean LOADS. Nothing in Lean hashes anything: it is a label: what it is worth is what the hold of that sum in a sandbox is worth. -/
noncomputable def Try.pinned : Pinned := { name := "ytchlnichbaoeaaa", sum := "a9c7c3b3bdd3b8f0cfc3af7db16fa3aec87485e258d952bde10923ed2b56b782", checked := Try.checked }
namespace Rows
def none {H : Type} : Left H := { results := [], args := [] }

/-- 'laws.FnExactWindowNew': WHATEVER THE INPUT: true; the input reads as it did. -/
def fnExactWindowNewSpec : ChangeSpec := { name := "fnExactWindowNew", fn := fun _ => fun
  | [d1, d2] => { results := [.lit (.bool true)], args := [d1, d2] }
  | _ => none }
def fnExactWindowNewRow : OpenClaim := { program := "ytchlnichbaoeaaa", sum := "a9c7c3b3bdd3b8f0cfc3af7db16fa3aec87485e258d952bde10923ed2b56b782", func := "loop.example/s02972/laws.FnExactWindowNew", spec := "fnExactWindowNew", apart := false }
def FnExactWindowNewSaid : Prop := fnExactWindowNewRow.holds Try.pinned (OpenSpec.ofChange fnExactWindowNewSpec)

/-- ITS FALSE NEIGHBOUR: 'it returns false'. Refute it at one input. -/
def fnExactWindowNewWrong : ChangeSpec := { name := "fnExactWindowNew", fn := fun _ => fun
  | [d1, d2] => { results := [.lit (.bool false)], args := [d1, d2] }
  | _ => none }
def FnExactWindowNewWrongFalsely : Prop := fnExactWindowNewRow.holds Try.pinned (OpenSpec.ofChange fnExactWindowNewWrong)

/-- 'laws.FnExactValidMember': WHATEVER THE INPUT: true; the input reads as it did. -/
def fnExactValidMemberSpec : ChangeSpec := { name := "fnExactValidMember", fn := fun _ => fun
  | [d] => { results := [.lit (.bool true)], args := [d] }
  | _ => none }
def fnExactValidMemberRow : OpenClaim := { program := "ytchlnichbaoeaaa", sum := "a9c7c3b3bdd3b8f0cfc3af7db16fa3aec87485e258d952bde10923ed2b56b782", func := "loop.example/s02972/laws.FnExactValidMember", spec := "fnExactValidMember", unfollowed := true, recurses := true, apart := false }
def FnExactValidMemberSaid : Prop := fnExactValidMemberRow.holds Try.pinned (OpenSpec.ofChange fnExactValidMemberSpec)

/-- ITS FALSE NEIGHBOUR: 'it returns false'. Refute it at one input. -/
def fnExactValidMemberWrong : ChangeSpec := { name := "fnExactValidMember", fn := fun _ => fun
  | [d] => { results := [.lit (.bool false)], args := [d] }
  | _ => none }
def FnExactValidMemberWrongFalsely : Prop := fnExactValidMemberRow.holds Try.pinned (OpenSpec.ofChange fnExactValidMemberWrong)

/-- 'laws.FnExactWindowPut': WHATEVER THE INPUT: true; the input reads as it did. -/
def fnExactWindowPutSpec : ChangeSpec := { name := "fnExactWindowPut", fn := fun _ => fun
  | [d1, d2] => { results := [.lit (.bool true)], args := [d1, d2] }
  | _ => none }
def fnExactWindowPutRow : OpenClaim := { program := "ytchlnichbaoeaaa", sum := "a9c7c3b3bdd3b8f0cfc3af7db16fa3aec87485e258d952bde10923ed2b56b782", func := "loop.example/s02972/laws.FnExactWindowPut", spec := "fnExactWindowPut", apart := false }
def FnExactWindowPutSaid : Prop := fnExactWindowPutRow.holds Try.pinned (OpenSpec.ofChange fnExactWindowPutSpec)

/-- ITS FALSE NEIGHBOUR: 'it returns false'. Refute it at one input. -/
def fnExactWindowPutWrong : ChangeSpec := { name := "fnExactWindowPut", fn := fun _ => fun
  | [d1, d2] => { results := [.lit (.bool false)], args := [d1, d2] }
  | _ => none }
def FnExactWindowPutWrongFalsely : Prop := fnExactWindowPutRow.holds Try.pinned (OpenSpec.ofChange fnExactWindowPutWrong)

/-- 'laws.FnExactBitsAlign': WHATEVER THE INPUT: true; the input reads as it did. -/
def fnExactBitsAlignSpec : ChangeSpec := { name := "fnExactBitsAlign", fn := fun _ => fun
  | [d] => { results := [.lit (.bool true)], args := [d] }
  | _ => none }
def fnExactBitsAlignRow : OpenClaim := { program := "ytchlnichbaoeaaa", sum := "a9c7c3b3bdd3b8f0cfc3af7db16fa3aec87485e258d952bde10923ed2b56b782", func := "loop.example/s02972/laws.FnExactBitsAlign", spec := "fnExactBitsAlign", apart := false }
def FnExactBitsAlignSaid : Prop := fnExactBitsAlignRow.holds Try.pinned (OpenSpec.ofChange fnExactBitsAlignSpec)

/-- ITS FALSE NEIGHBOUR: 'it returns false'. Refute it at one input. -/
def fnExactBitsAlignWrong : ChangeSpec := { name := "fnExactBitsAlign", fn := fun _ => fun
  | [d] => { results := [.lit (.bool false)], args := [d] }
  | _ => none }
def FnExactBitsAlignWrongFalsely : Prop := fnExactBitsAlignRow.holds Try.pinned (OpenSpec.ofChange fnExactBitsAlignWrong)

/-- 'laws.FnExactBitsTake': WHATEVER THE INPUT: true; the input reads as it did. -/
def fnExactBitsTakeSpec : ChangeSpec := { name := "fnExactBitsTake", fn := fun _ => fun
  | [d1, d2] => { results := [.lit (.bool true)], args := [d1, d2] }
  | _ => none }
def fnExactBitsTakeRow : OpenClaim := { program := "ytchlnichbaoeaaa", sum := "a9c7c3b3bdd3b8f0cfc3af7db16fa3aec87485e258d952bde10923ed2b56b782", func := "loop.example/s02972/laws.FnExactBitsTake", spec := "fnExactBitsTake", apart := false }
def FnExactBitsTakeSaid : Prop := fnExactBitsTakeRow.holds Try.pinned (OpenSpec.ofChange fnExactBitsTakeSpec)

/-- ITS FALSE NEIGHBOUR: 'it returns false'. Refute it at one input. -/
def fnExactBitsTakeWrong : ChangeSpec := { name := "fnExactBitsTake", fn := fun _ => fun
  | [d1, d2] => { results := [.lit (.bool false)], args := [d1, d2] }
  | _ => none }
def FnExactBitsTakeWrongFalsely : Prop := fnExactBitsTakeRow.holds Try.pinned (OpenSpec.ofChange fnExactBitsTakeWrong)

/-- 'laws.FnExactBitsBytes': WHATEVER THE INPUT: true; the input reads as it did. -/
def fnExactBitsBytesSpec : ChangeSpec := { name := "fnExactBitsBytes", fn := fun _ => fun
  | [d1, d2] => { results := [.lit (.bool true)], args := [d1, d2] }
  | _ => none }
def fnExactBitsBytesRow : OpenClaim := { program := "ytchlnichbaoeaaa", sum := "a9c7c3b3bdd3b8f0cfc3af7db16fa3aec87485e258d952bde10923ed2b56b782", func := "loop.example/s02972/laws.FnExactBitsBytes", spec := "fnExactBitsBytes", apart := false }
def FnExactBitsBytesSaid : Prop := fnExactBitsBytesRow.holds Try.pinned (OpenSpec.ofChange fnExactBitsBytesSpec)

/-- ITS FALSE NEIGHBOUR: 'it returns false'. Refute it at one input. -/
def fnExactBitsBytesWrong : ChangeSpec := { name := "fnExactBitsBytes", fn := fun _ => fun
  | [d1, d2] => { results := [.lit (.bool false)], args := [d1, d2] }
  | _ => none }
def FnExactBitsBytesWrongFalsely : Prop := fnExactBitsBytesRow.holds Try.pinned (OpenSpec.ofChange fnExactBitsBytesWrong)

/-- 'laws.FnExactWindowCopy': WHATEVER THE INPUT: true; the input reads as it did. -/
def fnExactWindowCopySpec : ChangeSpec := { name := "fnExactWindowCopy", fn := fun _ => fun
  | [d1, d2, d3] => { results := [.lit (.bool true)], args := [d1, d2, d3] }
  | _ => none }
def fnExactWindowCopyRow : OpenClaim := { program := "ytchlnichbaoeaaa", sum := "a9c7c3b3bdd3b8f0cfc3af7db16fa3aec87485e258d952bde10923ed2b56b782", func := "loop.example/s02972/laws.FnExactWindowCopy", spec := "fnExactWindowCopy", apart := false }
def FnExactWindowCopySaid : Prop := fnExactWindowCopyRow.holds Try.pinned (OpenSpec.ofChange fnExactWindowCopySpec)

/-- ITS FALSE NEIGHBOUR: 'it returns false'. Refute it at one input. -/
def fnExactWindowCopyWrong : ChangeSpec := { name := "fnExactWindowCopy", fn := fun _ => fun
  | [d1, d2, d3] => { results := [.lit (.bool false)], args := [d1, d2, d3] }
  | _ => none }
def FnExactWindowCopyWrongFalsely : Prop := fnExactWindowCopyRow.holds Try.pinned (OpenSpec.ofChange fnExactWindowCopyWrong)

/-- 'laws.FnExactHuffCodes': WHATEVER THE INPUT: true; the input reads as it did. -/
def fnExactHuffCodesSpec : ChangeSpec := { name := "fnExactHuffCodes", fn := fun _ => fun
  | [d] => { results := [.lit (.bool true)], args := [d] }
  | _ => none }
def fnExactHuffCodesRow : OpenClaim := { program := "ytchlnichbaoeaaa", sum := "a9c7c3b3bdd3b8f0cfc3af7db16fa3aec87485e258d952bde10923ed2b56b782", func := "loop.example/s02972/laws.FnExactHuffCodes", spec := "fnExactHuffCodes", apart := false }
def FnExactHuffCodesSaid : Prop := fnExactHuffCodesRow.holds Try.pinned (OpenSpec.ofChange fnExactHuffCodesSpec)

/-- ITS FALSE NEIGHBOUR: 'it returns false'. Refute it at one input. -/
def fnExactHuffCodesWrong : ChangeSpec := { name := "fnExactHuffCodes", fn := fun _ => fun
  | [d] => { results := [.lit (.bool false)], args := [d] }
  | _ => none }
def FnExactHuffCodesWrongFalsely : Prop := fnExactHuffCodesRow.holds Try.pinned (OpenSpec.ofChange fnExactHuffCodesWrong)

/-- 'laws.FnExactHuffNext': WHATEVER THE INPUT: true; the input reads as it did. -/
def fnExactHuffNextSpec : ChangeSpec := { name := "fnExactHuffNext", fn := fun _ => fun
  | [d1, d2, d3] => { results := [.lit (.bool true)], args := [d1, d2, d3] }
  | _ => none }
def fnExactHuffNextRow : OpenClaim := { program := "ytchlnichbaoeaaa", sum := "a9c7c3b3bdd3b8f0cfc3af7db16fa3aec87485e258d952bde10923ed2b56b782", func := "loop.example/s02972/laws.FnExactHuffNext", spec := "fnExactHuffNext", unfollowed := true, recurses := true, apart := false }
def FnExactHuffNextSaid : Prop := fnExactHuffNextRow.holds Try.pinned (OpenSpec.ofChange fnExactHuffNextSpec)

/-- ITS FALSE NEIGHBOUR: 'it returns false'. Refute it at one input. -/
def fnExactHuffNextWrong : ChangeSpec := { name := "fnExactHuffNext", fn := fun _ => fun
  | [d1, d2, d3] => { results := [.lit (.bool false)], args := [d1, d2, d3] }
  | _ => none }
def FnExactHuffNextWrongFalsely : Prop := fnExactHuffNextRow.holds Try.pinned (OpenSpec.ofChange fnExactHuffNextWrong)

/-- 'laws.FnExactEncodeFixed': WHATEVER THE INPUT: true; the input reads as it did. -/
def fnExactEncodeFixedSpec : ChangeSpec := { name := "fnExactEncodeFixed", fn := fun _ => fun
  | [d] => { results := [.lit (.bool true)], args := [d] }
  | _ => none }
def fnExactEncodeFixedRow : OpenClaim := { program := "ytchlnichbaoeaaa", sum := "a9c7c3b3bdd3b8f0cfc3af7db16fa3aec87485e258d952bde10923ed2b56b782", func := "loop.example/s02972/laws.FnExactEncodeFixed", spec := "fnExactEncodeFixed", unfollowed := true, recurses := true, apart := false }
def FnExactEncodeFixedSaid : Prop := fnExactEncodeFixedRow.holds Try.pinned (OpenSpec.ofChange fnExactEncodeFixedSpec)

/-- ITS FALSE NEIGHBOUR: 'it returns false'. Refute it at one input. -/
def fnExactEncodeFixedWrong : ChangeSpec := { name := "fnExactEncodeFixed", fn := fun _ => fun
  | [d] => { results := [.lit (.bool false)], args := [d] }
  | _ => none }
def FnExactEncodeFixedWrongFalsely : Prop := fnExactEncodeFixedRow.holds Try.pinned (OpenSpec.ofChange fnExactEncodeFixedWrong)

/-- 'laws.FnWindow': WHATEVER THE INPUT: true; the input reads as it did. -/
def fnWindowSpec : ChangeSpec := { name := "fnWindow", fn := fun _ => fun
  | [d1, d2] => { results := [.lit (.bool true)], args := [d1, d2] }
  | _ => none }
def fnWindowRow : OpenClaim := { program := "ytchlnichbaoeaaa", sum := "a9c7c3b3bdd3b8f0cfc3af7db16fa3aec87485e258d952bde10923ed2b56b782", func := "loop.example/s02972/laws.FnWindow", spec := "fnWindow", apart := false }
def FnWindowSaid : Prop := fnWindowRow.holds Try.pinned (OpenSpec.ofChange fnWindowSpec)

/-- ITS FALSE NEIGHBOUR: 'it returns false'. Refute it at one input. -/
def fnWindowWrong : ChangeSpec := { name := "fnWindow", fn := fun _ => fun
  | [d1, d2] => { results := [.lit (.bool false)], args := [d1, d2] }
  | _ => none }
def FnWindowWrongFalsely : Prop := fnWindowRow.holds Try.pinned (OpenSpec.ofChange fnWindowWrong)

/-- 'laws.FnFeed': WHATEVER THE INPUT: true; the input reads as it did. -/
def fnFeedSpec : ChangeSpec := { name := "fnFeed", fn := fun _ => fun
  | [d1, d2] => { results := [.lit (.bool true)], args := [d1, d2] }
  | _ => none }
def fnFeedRow : OpenClaim := { program := "ytchlnichbaoeaaa", sum := "a9c7c3b3bdd3b8f0cfc3af7db16fa3aec87485e258d952bde10923ed2b56b782", func := "loop.example/s02972/laws.FnFeed", spec := "fnFeed", apart := false }
def FnFeedSaid : Prop := fnFeedRow.holds Try.pinned (OpenSpec.ofChange fnFeedSpec)

/-- ITS FALSE NEIGHBOUR: 'it returns false'. Refute it at one input. -/
def fnFeedWrong : ChangeSpec := { name := "fnFeed", fn := fun _ => fun
  | [d1, d2] => { results := [.lit (.bool false)], args := [d1, d2] }
  | _ => none }
def FnFeedWrongFalsely : Prop := fnFeedRow.holds Try.pinned (OpenSpec.ofChange fnFeedWrong)

/-- 'laws.FnPrefix': WHATEVER THE INPUT: true; the input reads as it did. -/
def fnPrefixSpec : ChangeSpec := { name := "fnPrefix", fn := fun _ => fun
  | [d1, d2] => { results := [.lit (.bool true)], args := [d1, d2] }
  | _ => none }
def fnPrefixRow : OpenClaim := { program := "ytchlnichbaoeaaa", sum := "a9c7c3b3bdd3b8f0cfc3af7db16fa3aec87485e258d952bde10923ed2b56b782", func := "loop.example/s02972/laws.FnPrefix", spec := "fnPrefix", unfollowed := true, recurses := true, apart := false }
def FnPrefixSaid : Prop := fnPrefixRow.holds Try.pinned (OpenSpec.ofChange fnPrefixSpec)

/-- ITS FALSE NEIGHBOUR: 'it returns false'. Refute it at one input. -/
def fnPrefixWrong : ChangeSpec := { name := "fnPrefix", fn := fun _ => fun
  | [d1, d2] => { results := [.lit (.bool false)], args := [d1, d2] }
  | _ => none }
def FnPrefixWrongFalsely : Prop := fnPrefixRow.holds Try.pinned (OpenSpec.ofChange fnPrefixWrong)

/- THE SECOND FORM. 'bulk': how many values and letters a reading holds, each counted each time it is reached (what is shared counts as often as it is met; a slice's spare places count too). A statement '..UptoSaid' is the law's where the arguments, and the package variables that the reading takes, are together of bulk at most 1048576: NARROWER than '..Said'. Prove '..Said' where nothing that the law and all that it calls make is longer than what came in: it says more and counts as full. Else prove '..UptoSaid'. A law counts once. -/
mutual
def uptoBulk {H : Type} : DataW H → Nat
  | .lit (.string bytes) => bytes.length + 1
  | .lit _ => 1
  | .nil => 1
  | .ptr d => uptoBulk d + 1
  | .slice elems spare => uptoBulkAll elems + uptoBulkAll spare + 1
  | .agg parts => uptoBulkAll parts + 1
  | .iface _ d => uptoBulk d + 1
  | .map entries => uptoBulkEntries entries + 1
  | .held _ => 1
def uptoBulkAll {H : Type} : List (DataW H) → Nat
  | [] => 0
  | d :: r => uptoBulk d + uptoBulkAll r
def uptoBulkEntries {H : Type} : List (Lit × DataW H) → Nat
  | [] => 0
  | x :: r => uptoBulkEntry x + uptoBulkEntries r
def uptoBulkEntry {H : Type} : Lit × DataW H → Nat
  | (.string bytes, d) => bytes.length + uptoBulk d + 1
  | (_, d) => uptoBulk d + 1
 end
def uptoSmall : (H : Type) → List (DataW H) → Bool := fun _ ds => decide (uptoBulkAll ds ≤ 1048576)
def OpenSpec.upto (s : _root_.Go.ChangeSpec) : _root_.Go.OpenSpec := { _root_.Go.OpenSpec.ofChange s with cond := some uptoSmall }

/-- 'laws.FnExactWindowNew', WHERE WHAT IT READS IS OF BULK AT MOST 1048576: true; the input reads as it did. -/
def fnExactWindowNewUptoRow : OpenClaim := { program := "ytchlnichbaoeaaa", sum := "a9c7c3b3bdd3b8f0cfc3af7db16fa3aec87485e258d952bde10923ed2b56b782", func := "loop.example/s02972/laws.FnExactWindowNew", spec := "fnExactWindowNew", apart := false, narrowed := true }
def FnExactWindowNewUptoSaid : Prop := fnExactWindowNewUptoRow.holds Try.pinned (OpenSpec.upto fnExactWindowNewSpec)

/-- 'laws.FnExactValidMember', WHERE WHAT IT READS IS OF BULK AT MOST 1048576: true; the input reads as it did. -/
def fnExactValidMemberUptoRow : OpenClaim := { program := "ytchlnichbaoeaaa", sum := "a9c7c3b3bdd3b8f0cfc3af7db16fa3aec87485e258d952bde10923ed2b56b782", func := "loop.example/s02972/laws.FnExactValidMember", spec := "fnExactValidMember", unfollowed := true, recurses := true, apart := false, narrowed := true }
def FnExactValidMemberUptoSaid : Prop := fnExactValidMemberUptoRow.holds Try.pinned (OpenSpec.upto fnExactValidMemberSpec)

/-- 'laws.FnExactWindowPut', WHERE WHAT IT READS IS OF BULK AT MOST 1048576: true; the input reads as it did. -/
def fnExactWindowPutUptoRow : OpenClaim := { program := "ytchlnichbaoeaaa", sum := "a9c7c3b3bdd3b8f0cfc3af7db16fa3aec87485e258d952bde10923ed2b56b782", func := "loop.example/s02972/laws.FnExactWindowPut", spec := "fnExactWindowPut", apart := false, narrowed := true }
def FnExactWindowPutUptoSaid : Prop := fnExactWindowPutUptoRow.holds Try.pinned (OpenSpec.upto fnExactWindowPutSpec)

/-- 'laws.FnExactBitsAlign', WHERE WHAT IT READS IS OF BULK AT MOST 1048576: true; the input reads as it did. -/
def fnExactBitsAlignUptoRow : OpenClaim := { program := "ytchlnichbaoeaaa", sum := "a9c7c3b3bdd3b8f0cfc3af7db16fa3aec87485e258d952bde10923ed2b56b782", func := "loop.example/s02972/laws.FnExactBitsAlign", spec := "fnExactBitsAlign", apart := false, narrowed := true }
def FnExactBitsAlignUptoSaid : Prop := fnExactBitsAlignUptoRow.holds Try.pinned (OpenSpec.upto fnExactBitsAlignSpec)

/-- 'laws.FnExactBitsTake', WHERE WHAT IT READS IS OF BULK AT MOST 1048576: true; the input reads as it did. -/
def fnExactBitsTakeUptoRow : OpenClaim := { program := "ytchlnichbaoeaaa", sum := "a9c7c3b3bdd3b8f0cfc3af7db16fa3aec87485e258d952bde10923ed2b56b782", func := "loop.example/s02972/laws.FnExactBitsTake", spec := "fnExactBitsTake", apart := false, narrowed := true }
def FnExactBitsTakeUptoSaid : Prop := fnExactBitsTakeUptoRow.holds Try.pinned (OpenSpec.upto fnExactBitsTakeSpec)

/-- 'laws.FnExactBitsBytes', WHERE WHAT IT READS IS OF BULK AT MOST 1048576: true; the input reads as it did. -/
def fnExactBitsBytesUptoRow : OpenClaim := { program := "ytchlnichbaoeaaa", sum := "a9c7c3b3bdd3b8f0cfc3af7db16fa3aec87485e258d952bde10923ed2b56b782", func := "loop.example/s02972/laws.FnExactBitsBytes", spec := "fnExactBitsBytes", apart := false, narrowed := true }
def FnExactBitsBytesUptoSaid : Prop := fnExactBitsBytesUptoRow.holds Try.pinned (OpenSpec.upto fnExactBitsBytesSpec)

/-- 'laws.FnExactWindowCopy', WHERE WHAT IT READS IS OF BULK AT MOST 1048576: true; the input reads as it did. -/
def fnExactWindowCopyUptoRow : OpenClaim := { program := "ytchlnichbaoeaaa", sum := "a9c7c3b3bdd3b8f0cfc3af7db16fa3aec87485e258d952bde10923ed2b56b782", func := "loop.example/s02972/laws.FnExactWindowCopy", spec := "fnExactWindowCopy", apart := false, narrowed := true }
def FnExactWindowCopyUptoSaid : Prop := fnExactWindowCopyUptoRow.holds Try.pinned (OpenSpec.upto fnExactWindowCopySpec)

/-- 'laws.FnExactHuffCodes', WHERE WHAT IT READS IS OF BULK AT MOST 1048576: true; the input reads as it did. -/
def fnExactHuffCodesUptoRow : OpenClaim := { program := "ytchlnichbaoeaaa", sum := "a9c7c3b3bdd3b8f0cfc3af7db16fa3aec87485e258d952bde10923ed2b56b782", func := "loop.example/s02972/laws.FnExactHuffCodes", spec := "fnExactHuffCodes", apart := false, narrowed := true }
def FnExactHuffCodesUptoSaid : Prop := fnExactHuffCodesUptoRow.holds Try.pinned (OpenSpec.upto fnExactHuffCodesSpec)

/-- 'laws.FnExactHuffNext', WHERE WHAT IT READS IS OF BULK AT MOST 1048576: true; the input reads as it did. -/
def fnExactHuffNextUptoRow : OpenClaim := { program := "ytchlnichbaoeaaa", sum := "a9c7c3b3bdd3b8f0cfc3af7db16fa3aec87485e258d952bde10923ed2b56b782", func := "loop.example/s02972/laws.FnExactHuffNext", spec := "fnExactHuffNext", unfollowed := true, recurses := true, apart := false, narrowed := true }
def FnExactHuffNextUptoSaid : Prop := fnExactHuffNextUptoRow.holds Try.pinned (OpenSpec.upto fnExactHuffNextSpec)

/-- 'laws.FnExactEncodeFixed', WHERE WHAT IT READS IS OF BULK AT MOST 1048576: true; the input reads as it did. -/
def fnExactEncodeFixedUptoRow : OpenClaim := { program := "ytchlnichbaoeaaa", sum := "a9c7c3b3bdd3b8f0cfc3af7db16fa3aec87485e258d952bde10923ed2b56b782", func := "loop.example/s02972/laws.FnExactEncodeFixed", spec := "fnExactEncodeFixed", unfollowed := true, recurses := true, apart := false, narrowed := true }
def FnExactEncodeFixedUptoSaid : Prop := fnExactEncodeFixedUptoRow.holds Try.pinned (OpenSpec.upto fnExactEncodeFixedSpec)

/-- 'laws.FnWindow', WHERE WHAT IT READS IS OF BULK AT MOST 1048576: true; the input reads as it did. -/
def fnWindowUptoRow : OpenClaim := { program := "ytchlnichbaoeaaa", sum := "a9c7c3b3bdd3b8f0cfc3af7db16fa3aec87485e258d952bde10923ed2b56b782", func := "loop.example/s02972/laws.FnWindow", spec := "fnWindow", apart := false, narrowed := true }
def FnWindowUptoSaid : Prop := fnWindowUptoRow.holds Try.pinned (OpenSpec.upto fnWindowSpec)

/-- 'laws.FnFeed', WHERE WHAT IT READS IS OF BULK AT MOST 1048576: true; the input reads as it did. -/
def fnFeedUptoRow : OpenClaim := { program := "ytchlnichbaoeaaa", sum := "a9c7c3b3bdd3b8f0cfc3af7db16fa3aec87485e258d952bde10923ed2b56b782", func := "loop.example/s02972/laws.FnFeed", spec := "fnFeed", apart := false, narrowed := true }
def FnFeedUptoSaid : Prop := fnFeedUptoRow.holds Try.pinned (OpenSpec.upto fnFeedSpec)

/-- 'laws.FnPrefix', WHERE WHAT IT READS IS OF BULK AT MOST 1048576: true; the input reads as it did. -/
def fnPrefixUptoRow : OpenClaim := { program := "ytchlnichbaoeaaa", sum := "a9c7c3b3bdd3b8f0cfc3af7db16fa3aec87485e258d952bde10923ed2b56b782", func := "loop.example/s02972/laws.FnPrefix", spec := "fnPrefix", unfollowed := true, recurses := true, apart := false, narrowed := true }
def FnPrefixUptoSaid : Prop := fnPrefixUptoRow.holds Try.pinned (OpenSpec.upto fnPrefixSpec)

end Rows
end Go.Proofs.Ytchlnichbaoeaaa
