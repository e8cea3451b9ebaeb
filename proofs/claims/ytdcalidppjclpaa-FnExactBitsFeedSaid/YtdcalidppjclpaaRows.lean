/-
  No cell of these rows narrows 'for every input' (looked for: loops, veiled, ifaces, maps, wideKeys, modest, calm, conditions, laid).
  DERIVED. THE GIVEN ROWS OF THIS SEAT. 9 by the template 'for every input the law returns true; each argument reads behind the call as it read before'; 0 by the template 'total and deterministic' (their statements: YtdcalidppjclpaaTotals.lean).
  GIVEN WITH THE SEED: the statements are not yours to turn. If you find one false, say at which input.
  Laid BY PROGRAM, IN A SANDBOX (cutbox-rows.mjs): the forced cells as the released guide's own fill.sh prints them over the translation dcebc14b6f83790a… (all of the seat's roots in one cut). By AI agents, Wed Nov 11 2026. No macro, syntax, notation, axiom, sorry.
-/
import Derived.Test.YtdcalidppjclpaaChecked
import GoSem.Claim
import GoSem.ClaimJoined
import GoSem.ClaimMapViews
import Derived.JoinedTies
import Derived.KernelRfl
namespace Go.Proofs.Ytdcalidppjclpaa
/- THE CELL 'sum', in the pinned program and in every row, IS THE sha256 OF THE DUMP (.gsa) THAT YtdcalidppjclpaaProg.lean LOADS. Nothing in Lean hashes anything: it is a label: what it is worth is what the hold of that sum in a sandbox is worth. -/
noncomputable def Try.pinned : Pinned := { name := "ytdcalidppjclpaa", sum := "dcebc14b6f83790ac92edb6bf747b65f8a2ba798dea3b483dba81dc417e2bd0c", checked := Try.checked }
namespace Rows
def none {H : Type} : Left H := { results := [], args := [] }

/-- 'laws.FnExactEncodeStored': WHATEVER THE INPUT: true; the input reads as it did. -/
def fnExactEncodeStoredSpec : ChangeSpec := { name := "fnExactEncodeStored", fn := fun _ => fun
  | [d1, d2] => { results := [.lit (.bool true)], args := [d1, d2] }
  | _ => none }
def fnExactEncodeStoredRow : OpenClaim := { program := "ytdcalidppjclpaa", sum := "dcebc14b6f83790ac92edb6bf747b65f8a2ba798dea3b483dba81dc417e2bd0c", func := "loop.example/s02972/laws.FnExactEncodeStored", spec := "fnExactEncodeStored", apart := false }
def FnExactEncodeStoredSaid : Prop := fnExactEncodeStoredRow.holds Try.pinned (OpenSpec.ofChange fnExactEncodeStoredSpec)

/-- ITS FALSE NEIGHBOUR: 'it returns false'. Refute it at one input. -/
def fnExactEncodeStoredWrong : ChangeSpec := { name := "fnExactEncodeStored", fn := fun _ => fun
  | [d1, d2] => { results := [.lit (.bool false)], args := [d1, d2] }
  | _ => none }
def FnExactEncodeStoredWrongFalsely : Prop := fnExactEncodeStoredRow.holds Try.pinned (OpenSpec.ofChange fnExactEncodeStoredWrong)

/-- 'laws.FnExactHuffKind': WHATEVER THE INPUT: true; the input reads as it did. -/
def fnExactHuffKindSpec : ChangeSpec := { name := "fnExactHuffKind", fn := fun _ => fun
  | [d] => { results := [.lit (.bool true)], args := [d] }
  | _ => none }
def fnExactHuffKindRow : OpenClaim := { program := "ytdcalidppjclpaa", sum := "dcebc14b6f83790ac92edb6bf747b65f8a2ba798dea3b483dba81dc417e2bd0c", func := "loop.example/s02972/laws.FnExactHuffKind", spec := "fnExactHuffKind", apart := false }
def FnExactHuffKindSaid : Prop := fnExactHuffKindRow.holds Try.pinned (OpenSpec.ofChange fnExactHuffKindSpec)

/-- ITS FALSE NEIGHBOUR: 'it returns false'. Refute it at one input. -/
def fnExactHuffKindWrong : ChangeSpec := { name := "fnExactHuffKind", fn := fun _ => fun
  | [d] => { results := [.lit (.bool false)], args := [d] }
  | _ => none }
def FnExactHuffKindWrongFalsely : Prop := fnExactHuffKindRow.holds Try.pinned (OpenSpec.ofChange fnExactHuffKindWrong)

/-- 'laws.FnExactWindowNew': WHATEVER THE INPUT: true; the input reads as it did. -/
def fnExactWindowNewSpec : ChangeSpec := { name := "fnExactWindowNew", fn := fun _ => fun
  | [d1, d2] => { results := [.lit (.bool true)], args := [d1, d2] }
  | _ => none }
def fnExactWindowNewRow : OpenClaim := { program := "ytdcalidppjclpaa", sum := "dcebc14b6f83790ac92edb6bf747b65f8a2ba798dea3b483dba81dc417e2bd0c", func := "loop.example/s02972/laws.FnExactWindowNew", spec := "fnExactWindowNew", apart := false }
def FnExactWindowNewSaid : Prop := fnExactWindowNewRow.holds Try.pinned (OpenSpec.ofChange fnExactWindowNewSpec)

/-- ITS FALSE NEIGHBOUR: 'it returns false'. Refute it at one input. -/
def fnExactWindowNewWrong : ChangeSpec := { name := "fnExactWindowNew", fn := fun _ => fun
  | [d1, d2] => { results := [.lit (.bool false)], args := [d1, d2] }
  | _ => none }
def FnExactWindowNewWrongFalsely : Prop := fnExactWindowNewRow.holds Try.pinned (OpenSpec.ofChange fnExactWindowNewWrong)

/-- 'laws.FnExactValidMember': WHATEVER THE INPUT: true; the input reads as it did. -/
def fnExactValidMemberSpec : ChangeSpec := { name := "fnExactValidMember", fn := fun _ => fun
  | [d] => { results := [.lit (.bool true)], args := [d] }
  | _ => none }
def fnExactValidMemberRow : OpenClaim := { program := "ytdcalidppjclpaa", sum := "dcebc14b6f83790ac92edb6bf747b65f8a2ba798dea3b483dba81dc417e2bd0c", func := "loop.example/s02972/laws.FnExactValidMember", spec := "fnExactValidMember", unfollowed := true, recurses := true, apart := false }
def FnExactValidMemberSaid : Prop := fnExactValidMemberRow.holds Try.pinned (OpenSpec.ofChange fnExactValidMemberSpec)

/-- ITS FALSE NEIGHBOUR: 'it returns false'. Refute it at one input. -/
def fnExactValidMemberWrong : ChangeSpec := { name := "fnExactValidMember", fn := fun _ => fun
  | [d] => { results := [.lit (.bool false)], args := [d] }
  | _ => none }
def FnExactValidMemberWrongFalsely : Prop := fnExactValidMemberRow.holds Try.pinned (OpenSpec.ofChange fnExactValidMemberWrong)

/-- 'laws.FnExactBitsFeed': WHATEVER THE INPUT: true; the input reads as it did. -/
def fnExactBitsFeedSpec : ChangeSpec := { name := "fnExactBitsFeed", fn := fun _ => fun
  | [d1, d2] => { results := [.lit (.bool true)], args := [d1, d2] }
  | _ => none }
def fnExactBitsFeedRow : OpenClaim := { program := "ytdcalidppjclpaa", sum := "dcebc14b6f83790ac92edb6bf747b65f8a2ba798dea3b483dba81dc417e2bd0c", func := "loop.example/s02972/laws.FnExactBitsFeed", spec := "fnExactBitsFeed", apart := false }
def FnExactBitsFeedSaid : Prop := fnExactBitsFeedRow.holds Try.pinned (OpenSpec.ofChange fnExactBitsFeedSpec)

/-- ITS FALSE NEIGHBOUR: 'it returns false'. Refute it at one input. -/
def fnExactBitsFeedWrong : ChangeSpec := { name := "fnExactBitsFeed", fn := fun _ => fun
  | [d1, d2] => { results := [.lit (.bool false)], args := [d1, d2] }
  | _ => none }
def FnExactBitsFeedWrongFalsely : Prop := fnExactBitsFeedRow.holds Try.pinned (OpenSpec.ofChange fnExactBitsFeedWrong)

/-- 'laws.FnExactWindowPut': WHATEVER THE INPUT: true; the input reads as it did. -/
def fnExactWindowPutSpec : ChangeSpec := { name := "fnExactWindowPut", fn := fun _ => fun
  | [d1, d2] => { results := [.lit (.bool true)], args := [d1, d2] }
  | _ => none }
def fnExactWindowPutRow : OpenClaim := { program := "ytdcalidppjclpaa", sum := "dcebc14b6f83790ac92edb6bf747b65f8a2ba798dea3b483dba81dc417e2bd0c", func := "loop.example/s02972/laws.FnExactWindowPut", spec := "fnExactWindowPut", apart := false }
def FnExactWindowPutSaid : Prop := fnExactWindowPutRow.holds Try.pinned (OpenSpec.ofChange fnExactWindowPutSpec)

/-- ITS FALSE NEIGHBOUR: 'it returns false'. Refute it at one input. -/
def fnExactWindowPutWrong : ChangeSpec := { name := "fnExactWindowPut", fn := fun _ => fun
  | [d1, d2] => { results := [.lit (.bool false)], args := [d1, d2] }
  | _ => none }
def FnExactWindowPutWrongFalsely : Prop := fnExactWindowPutRow.holds Try.pinned (OpenSpec.ofChange fnExactWindowPutWrong)

/-- 'laws.FnExactBitsAlign': WHATEVER THE INPUT: true; the input reads as it did. -/
def fnExactBitsAlignSpec : ChangeSpec := { name := "fnExactBitsAlign", fn := fun _ => fun
  | [d] => { results := [.lit (.bool true)], args := [d] }
  | _ => none }
def fnExactBitsAlignRow : OpenClaim := { program := "ytdcalidppjclpaa", sum := "dcebc14b6f83790ac92edb6bf747b65f8a2ba798dea3b483dba81dc417e2bd0c", func := "loop.example/s02972/laws.FnExactBitsAlign", spec := "fnExactBitsAlign", apart := false }
def FnExactBitsAlignSaid : Prop := fnExactBitsAlignRow.holds Try.pinned (OpenSpec.ofChange fnExactBitsAlignSpec)

/-- ITS FALSE NEIGHBOUR: 'it returns false'. Refute it at one input. -/
def fnExactBitsAlignWrong : ChangeSpec := { name := "fnExactBitsAlign", fn := fun _ => fun
  | [d] => { results := [.lit (.bool false)], args := [d] }
  | _ => none }
def FnExactBitsAlignWrongFalsely : Prop := fnExactBitsAlignRow.holds Try.pinned (OpenSpec.ofChange fnExactBitsAlignWrong)

/-- 'laws.FnExactBitsTake': WHATEVER THE INPUT: true; the input reads as it did. -/
def fnExactBitsTakeSpec : ChangeSpec := { name := "fnExactBitsTake", fn := fun _ => fun
  | [d1, d2] => { results := [.lit (.bool true)], args := [d1, d2] }
  | _ => none }
def fnExactBitsTakeRow : OpenClaim := { program := "ytdcalidppjclpaa", sum := "dcebc14b6f83790ac92edb6bf747b65f8a2ba798dea3b483dba81dc417e2bd0c", func := "loop.example/s02972/laws.FnExactBitsTake", spec := "fnExactBitsTake", apart := false }
def FnExactBitsTakeSaid : Prop := fnExactBitsTakeRow.holds Try.pinned (OpenSpec.ofChange fnExactBitsTakeSpec)

/-- ITS FALSE NEIGHBOUR: 'it returns false'. Refute it at one input. -/
def fnExactBitsTakeWrong : ChangeSpec := { name := "fnExactBitsTake", fn := fun _ => fun
  | [d1, d2] => { results := [.lit (.bool false)], args := [d1, d2] }
  | _ => none }
def FnExactBitsTakeWrongFalsely : Prop := fnExactBitsTakeRow.holds Try.pinned (OpenSpec.ofChange fnExactBitsTakeWrong)

/-- 'laws.FnExactHuffCodes': WHATEVER THE INPUT: true; the input reads as it did. -/
def fnExactHuffCodesSpec : ChangeSpec := { name := "fnExactHuffCodes", fn := fun _ => fun
  | [d] => { results := [.lit (.bool true)], args := [d] }
  | _ => none }
def fnExactHuffCodesRow : OpenClaim := { program := "ytdcalidppjclpaa", sum := "dcebc14b6f83790ac92edb6bf747b65f8a2ba798dea3b483dba81dc417e2bd0c", func := "loop.example/s02972/laws.FnExactHuffCodes", spec := "fnExactHuffCodes", apart := false }
def FnExactHuffCodesSaid : Prop := fnExactHuffCodesRow.holds Try.pinned (OpenSpec.ofChange fnExactHuffCodesSpec)

/-- ITS FALSE NEIGHBOUR: 'it returns false'. Refute it at one input. -/
def fnExactHuffCodesWrong : ChangeSpec := { name := "fnExactHuffCodes", fn := fun _ => fun
  | [d] => { results := [.lit (.bool false)], args := [d] }
  | _ => none }
def FnExactHuffCodesWrongFalsely : Prop := fnExactHuffCodesRow.holds Try.pinned (OpenSpec.ofChange fnExactHuffCodesWrong)

/- THE SECOND FORM. 'bulk': how many values and letters a reading holds, each counted each time it is reached (what is shared counts as often as it is met; a slice's spare places count too). A statement '..UptoSaid' is the law's where the arguments, and the package variables that the reading takes, are together of bulk at most 1048576: NARROWER than '..Said'. Prove '..Said' where nothing that the law and all that it calls make is longer than what came in: it says more and counts as full. Else prove '..UptoSaid'. A law counts once. -/
mutual
def uptoBulk {H : Type} : DataW H → Nat
  | .lit (.string bytes) => bytes.length + 1
  | .lit _ => 1
  | .nil => 1
  | .ptr d => uptoBulk d + 1
  | .slice elems spare => uptoBulkAll elems + uptoBulkAll spare + 1
  | .agg parts => uptoBulkAll parts + 1
  | .iface _ d => uptoBulk d + 1
  | .map entries => uptoBulkEntries entries + 1
  | .held _ => 1
def uptoBulkAll {H : Type} : List (DataW H) → Nat
  | [] => 0
  | d :: r => uptoBulk d + uptoBulkAll r
def uptoBulkEntries {H : Type} : List (Lit × DataW H) → Nat
  | [] => 0
  | x :: r => uptoBulkEntry x + uptoBulkEntries r
def uptoBulkEntry {H : Type} : Lit × DataW H → Nat
  | (.string bytes, d) => bytes.length + uptoBulk d + 1
  | (_, d) => uptoBulk d + 1
 end
def uptoSmall : (H : Type) → List (DataW H) → Bool := fun _ ds => decide (uptoBulkAll ds ≤ 1048576)
def OpenSpec.upto (s : _root_.Go.ChangeSpec) : _root_.Go.OpenSpec := { _root_.Go.OpenSpec.ofChange s with cond := some uptoSmall }

/-- 'laws.FnExactEncodeStored', WHERE WHAT IT READS IS OF BULK AT MOST 1048576: true; the input reads as it did. -/
def fnExactEncodeStoredUptoRow : OpenClaim := { program := "ytdcalidppjclpaa", sum := "dcebc14b6f83790ac92edb6bf747b65f8a2ba798dea3b483dba81dc417e2bd0c", func := "loop.example/s02972/laws.FnExactEncodeStored", spec := "fnExactEncodeStored", apart := false, narrowed := true }
def FnExactEncodeStoredUptoSaid : Prop := fnExactEncodeStoredUptoRow.holds Try.pinned (OpenSpec.upto fnExactEncodeStoredSpec)

/-- 'laws.FnExactHuffKind', WHERE WHAT IT READS IS OF BULK AT MOST 1048576: true; the input reads as it did. -/
def fnExactHuffKindUptoRow : OpenClaim := { program := "ytdcalidppjclpaa", sum := "dcebc14b6f83790ac92edb6bf747b65f8a2ba798dea3b483dba81dc417e2bd0c", func := "loop.example/s02972/laws.FnExactHuffKind", spec := "fnExactHuffKind", apart := false, narrowed := true }
def FnExactHuffKindUptoSaid : Prop := fnExactHuffKindUptoRow.holds Try.pinned (OpenSpec.upto fnExactHuffKindSpec)

/-- 'laws.FnExactWindowNew', WHERE WHAT IT READS IS OF BULK AT MOST 1048576: true; the input reads as it did. -/
def fnExactWindowNewUptoRow : OpenClaim := { program := "ytdcalidppjclpaa", sum := "dcebc14b6f83790ac92edb6bf747b65f8a2ba798dea3b483dba81dc417e2bd0c", func := "loop.example/s02972/laws.FnExactWindowNew", spec := "fnExactWindowNew", apart := false, narrowed := true }
def FnExactWindowNewUptoSaid : Prop := fnExactWindowNewUptoRow.holds Try.pinned (OpenSpec.upto fnExactWindowNewSpec)

/-- 'laws.FnExactValidMember', WHERE WHAT IT READS IS OF BULK AT MOST 1048576: true; the input reads as it did. -/
def fnExactValidMemberUptoRow : OpenClaim := { program := "ytdcalidppjclpaa", sum := "dcebc14b6f83790ac92edb6bf747b65f8a2ba798dea3b483dba81dc417e2bd0c", func := "loop.example/s02972/laws.FnExactValidMember", spec := "fnExactValidMember", unfollowed := true, recurses := true, apart := false, narrowed := true }
def FnExactValidMemberUptoSaid : Prop := fnExactValidMemberUptoRow.holds Try.pinned (OpenSpec.upto fnExactValidMemberSpec)

/-- 'laws.FnExactBitsFeed', WHERE WHAT IT READS IS OF BULK AT MOST 1048576: true; the input reads as it did. -/
def fnExactBitsFeedUptoRow : OpenClaim := { program := "ytdcalidppjclpaa", sum := "dcebc14b6f83790ac92edb6bf747b65f8a2ba798dea3b483dba81dc417e2bd0c", func := "loop.example/s02972/laws.FnExactBitsFeed", spec := "fnExactBitsFeed", apart := false, narrowed := true }
def FnExactBitsFeedUptoSaid : Prop := fnExactBitsFeedUptoRow.holds Try.pinned (OpenSpec.upto fnExactBitsFeedSpec)

/-- 'laws.FnExactWindowPut', WHERE WHAT IT READS IS OF BULK AT MOST 1048576: true; the input reads as it did. -/
def fnExactWindowPutUptoRow : OpenClaim := { program := "ytdcalidppjclpaa", sum := "dcebc14b6f83790ac92edb6bf747b65f8a2ba798dea3b483dba81dc417e2bd0c", func := "loop.example/s02972/laws.FnExactWindowPut", spec := "fnExactWindowPut", apart := false, narrowed := true }
def FnExactWindowPutUptoSaid : Prop := fnExactWindowPutUptoRow.holds Try.pinned (OpenSpec.upto fnExactWindowPutSpec)

/-- 'laws.FnExactBitsAlign', WHERE WHAT IT READS IS OF BULK AT MOST 1048576: true; the input reads as it did. -/
def fnExactBitsAlignUptoRow : OpenClaim := { program := "ytdcalidppjclpaa", sum := "dcebc14b6f83790ac92edb6bf747b65f8a2ba798dea3b483dba81dc417e2bd0c", func := "loop.example/s02972/laws.FnExactBitsAlign", spec := "fnExactBitsAlign", apart := false, narrowed := true }
def FnExactBitsAlignUptoSaid : Prop := fnExactBitsAlignUptoRow.holds Try.pinned (OpenSpec.upto fnExactBitsAlignSpec)

/-- 'laws.FnExactBitsTake', WHERE WHAT IT READS IS OF BULK AT MOST 1048576: true; the input reads as it did. -/
def fnExactBitsTakeUptoRow : OpenClaim := { program := "ytdcalidppjclpaa", sum := "dcebc14b6f83790ac92edb6bf747b65f8a2ba798dea3b483dba81dc417e2bd0c", func := "loop.example/s02972/laws.FnExactBitsTake", spec := "fnExactBitsTake", apart := false, narrowed := true }
def FnExactBitsTakeUptoSaid : Prop := fnExactBitsTakeUptoRow.holds Try.pinned (OpenSpec.upto fnExactBitsTakeSpec)

/-- 'laws.FnExactHuffCodes', WHERE WHAT IT READS IS OF BULK AT MOST 1048576: true; the input reads as it did. -/
def fnExactHuffCodesUptoRow : OpenClaim := { program := "ytdcalidppjclpaa", sum := "dcebc14b6f83790ac92edb6bf747b65f8a2ba798dea3b483dba81dc417e2bd0c", func := "loop.example/s02972/laws.FnExactHuffCodes", spec := "fnExactHuffCodes", apart := false, narrowed := true }
def FnExactHuffCodesUptoSaid : Prop := fnExactHuffCodesUptoRow.holds Try.pinned (OpenSpec.upto fnExactHuffCodesSpec)

end Rows
end Go.Proofs.Ytdcalidppjclpaa
