import Derived.Test.YteaonnfokkfnlaaGreatDoorChecked
import Derived.Conc.LeavingOf
import Derived.SevenTiedAt
import Derived.Test.YteaonnfokkfnlaaGreatDoorPz3
import Derived.Test.YteaonnfokkfnlaaGreatDoorPz4
import Derived.Test.YteaonnfokkfnlaaGreatDoorPz5
import Derived.Test.YteaonnfokkfnlaaGreatDoorPz6
import Derived.Test.YteaonnfokkfnlaaGreatDoorPz7
import Derived.Test.YteaonnfokkfnlaaGreatDoorPz8
import Derived.Test.YteaonnfokkfnlaaGreatDoorPz9
import Derived.Test.YteaonnfokkfnlaaGreatDoorPz10
set_option maxRecDepth 100000
set_option maxHeartbeats 8000000
set_option linter.unusedVariables false
set_option linter.unusedSimpArgs false
set_option linter.unusedSectionVars false
section
namespace Go.Proofs.YteaonnfokkfnlaaGreatDoor
open Go Go.Eng
abbrev jkk : GV := ⟨[], .junk⟩
def U5 : List (TypeId × TyD) := [(0, ⟨.oth, 1, 0, [], none, some []⟩), (1, ⟨.fnk, 1, 8, [.fnv], some [(1, .nilFn)], none⟩), (2, ⟨(.int .i64), 1, 8, [.int .i64], some [(1, (.int .i64 0))], none⟩), (3, ⟨(.int .i64), 1, 8, [.int .i64], some [(1, (.int .i64 0))], none⟩), (4, ⟨.bool, 1, 1, [.bool], some [(1, (.bool false))], none⟩), (5, ⟨(.int .u8), 1, 1, [.int .u8], some [(1, (.int .u8 0))], none⟩), (22, ⟨(.sl 5), 1, 24, [.slice], some [(1, .nilSl)], none⟩), (53, ⟨(.int .u32), 1, 4, [.int .u32], some [(1, (.int .u32 0))], none⟩), (98, ⟨(.int .u64), 1, 8, [.int .u64], some [(1, (.int .u64 0))], none⟩), (108, ⟨(.sl 2), 1, 24, [.slice], some [(1, .nilSl)], none⟩), (131, ⟨(.sl 53), 1, 24, [.slice], some [(1, .nilSl)], none⟩), (134, ⟨.fnk, 1, 8, [.fnv], some [(1, .nilFn)], none⟩), (178, ⟨(.st []), 0, 0, [], some [], none⟩), (179, ⟨(.st []), 0, 0, [], some [], none⟩), (180, ⟨(.st []), 0, 0, [], some [], none⟩), (182, ⟨(.st [(0, 179), (0, 180), (0, 98)]), 1, 8, [.int .u64], some [(1, (.int .u64 0))], none⟩), (184, ⟨(.st [(0, 178), (0, 182), (1, 53)]), 2, 16, [.int .u64, .int .u32], some [(1, (.int .u64 0)), (1, (.int .u32 0))], none⟩)]
theorem D9 : zx Tryz.prog U5 := G7 (by kernel_rfl)
theorem DC : Tryz.prog.follows .mixedOrders = true := by kernel_rfl
def cP : Cfg := ⟨U5, [], [3, 7, 9, 10, 11], [.tmp 4, .tmp 5]⟩
noncomputable def JZ : Code := Tryz.f97.body.getD .skip
noncomputable def U6 : List Code := match JZ with
 | .seq r0 (.seq r1 (.seq r2 (.seq r3 (.seq (.seq r4 (.block 0 (.loop (.seq r5 (.seq _ (.seq (.block 1 (.seq r6 (.seq r7 (.seq r8 (.seq r9 r10))))) r11)))))) (.seq r12 z))))) => [r0, r1, r2, r3, r4, r5, r6, r7, r8, r9, r10, r11, r12, z]
 | _ => []
noncomputable def rP (i : Nat) : Code := U6.getD i .skip
noncomputable def Ka : Code := .seq (rP 5) (.seq (.cond (.tmp 24) .skip (.exit 0)) (.seq (.block 1 (nest [rP 6, rP 7, rP 8] (.seq (rP 9) (rP 10)))) (rP 11)))
theorem Rx : JZ = nest [rP 0, rP 1, rP 2, rP 3] (.seq (.seq (rP 4) (.block 0 (.loop Ka))) (.seq (rP 12) (rP 13))) := by kernel_rfl
def Ry : St := { tmps := [⟨[], (.x (.var (.slice) 0))⟩, ⟨[], (.x (.var (.fnv) 1))⟩, jkk, ⟨[], (.x (.var (.addr) 2))⟩, ⟨[], (.x (.cst .nilSl))⟩, ⟨[], (.x (.cst .nilSl))⟩, ⟨[], (.x (.ar .quo .i64 (.ar .sub .i64 (.ar .add .i64 (.ln (.var (.slice) 0)) (.cst (.int .i64 32768))) (.cst (.int .i64 1))) (.cst (.int .i64 32768))))⟩, ⟨[], (.x (.var (.addr) 5))⟩, ⟨[], (.x (.var (.slice) 4))⟩, ⟨[], (.x (.var (.addr) 6))⟩, jkk, jkk, ⟨[], (.x (.var (.slice) 0))⟩, ⟨[], (.x (.ln (.var (.slice) 0)))⟩, ⟨[], (.x (.ar .add .i64 (.ln (.var (.slice) 0)) (.cst (.int .i64 32768))))⟩, ⟨[], (.x (.ar .sub .i64 (.ar .add .i64 (.ln (.var (.slice) 0)) (.cst (.int .i64 32768))) (.cst (.int .i64 1))))⟩, ⟨[], (.x (.ar .quo .i64 (.ar .sub .i64 (.ar .add .i64 (.ln (.var (.slice) 0)) (.cst (.int .i64 32768))) (.cst (.int .i64 1))) (.cst (.int .i64 32768))))⟩, ⟨[], (.x (.ar .quo .i64 (.ar .sub .i64 (.ar .add .i64 (.ln (.var (.slice) 0)) (.cst (.int .i64 32768))) (.cst (.int .i64 1))) (.cst (.int .i64 32768))))⟩, ⟨[], (.x (.var (.slice) 3))⟩, ⟨[], (.x (.ar .quo .i64 (.ar .sub .i64 (.ar .add .i64 (.ln (.var (.slice) 0)) (.cst (.int .i64 32768))) (.cst (.int .i64 1))) (.cst (.int .i64 32768))))⟩, ⟨[], (.x (.var (.slice) 4))⟩, ⟨[], (.agg [(.cst (.int .u64 0)), (.cst (.int .u32 0))])⟩, jkk, jkk, jkk, jkk, jkk, jkk, jkk, jkk, jkk, jkk, jkk, jkk, jkk, jkk, jkk, jkk, jkk, jkk, jkk, jkk, jkk, jkk, jkk, jkk, jkk], loc := [], n := 7, known := [], d := 0 }
def Rz : St := { tmps := [⟨[], (.x (.var (.slice) 0))⟩, ⟨[], (.x (.var (.fnv) 1))⟩, jkk, ⟨[], (.x (.var (.addr) 2))⟩, ⟨[], (.x (.cst .nilSl))⟩, ⟨[], (.x (.cst .nilSl))⟩, ⟨[], (.x (.ar .quo .i64 (.ar .sub .i64 (.ar .add .i64 (.ln (.var (.slice) 0)) (.cst (.int .i64 32768))) (.cst (.int .i64 1))) (.cst (.int .i64 32768))))⟩, ⟨[], (.x (.var (.addr) 4))⟩, ⟨[], (.x (.var (.slice) 5))⟩, ⟨[], (.x (.var (.addr) 6))⟩, jkk, jkk, ⟨[], (.x (.var (.slice) 0))⟩, ⟨[], (.x (.ln (.var (.slice) 0)))⟩, ⟨[], (.x (.ar .add .i64 (.ln (.var (.slice) 0)) (.cst (.int .i64 32768))))⟩, ⟨[], (.x (.ar .sub .i64 (.ar .add .i64 (.ln (.var (.slice) 0)) (.cst (.int .i64 32768))) (.cst (.int .i64 1))))⟩, ⟨[], (.x (.ar .quo .i64 (.ar .sub .i64 (.ar .add .i64 (.ln (.var (.slice) 0)) (.cst (.int .i64 32768))) (.cst (.int .i64 1))) (.cst (.int .i64 32768))))⟩, ⟨[], (.x (.ar .quo .i64 (.ar .sub .i64 (.ar .add .i64 (.ln (.var (.slice) 0)) (.cst (.int .i64 32768))) (.cst (.int .i64 1))) (.cst (.int .i64 32768))))⟩, ⟨[], (.x (.var (.slice) 3))⟩, ⟨[], (.x (.ar .quo .i64 (.ar .sub .i64 (.ar .add .i64 (.ln (.var (.slice) 0)) (.cst (.int .i64 32768))) (.cst (.int .i64 1))) (.cst (.int .i64 32768))))⟩, ⟨[], (.x (.var (.slice) 5))⟩, ⟨[], (.agg [(.cst (.int .u64 0)), (.cst (.int .u32 0))])⟩, jkk, jkk, jkk, jkk, jkk, jkk, jkk, jkk, jkk, jkk, jkk, jkk, jkk, jkk, jkk, jkk, jkk, jkk, jkk, jkk, jkk, jkk, jkk, jkk, jkk], loc := [], n := 7, known := [], d := 0 }
def R4 : St := { tmps := [⟨[], (.x (.var (.slice) 0))⟩, ⟨[], (.x (.var (.fnv) 1))⟩, jkk, ⟨[], (.x (.var (.addr) 2))⟩, ⟨[], (.x (.cst .nilSl))⟩, ⟨[], (.x (.cst .nilSl))⟩, ⟨[], (.x (.ar .quo .i64 (.ar .sub .i64 (.ar .add .i64 (.ln (.var (.slice) 0)) (.cst (.int .i64 32768))) (.cst (.int .i64 1))) (.cst (.int .i64 32768))))⟩, ⟨[], (.x (.var (.addr) 4))⟩, ⟨[], (.x (.var (.slice) 5))⟩, ⟨[], (.x (.var (.addr) 6))⟩, jkk, jkk, ⟨[], (.x (.var (.slice) 0))⟩, ⟨[], (.x (.ln (.var (.slice) 0)))⟩, ⟨[], (.x (.ar .add .i64 (.ln (.var (.slice) 0)) (.cst (.int .i64 32768))))⟩, ⟨[], (.x (.ar .sub .i64 (.ar .add .i64 (.ln (.var (.slice) 0)) (.cst (.int .i64 32768))) (.cst (.int .i64 1))))⟩, ⟨[], (.x (.ar .quo .i64 (.ar .sub .i64 (.ar .add .i64 (.ln (.var (.slice) 0)) (.cst (.int .i64 32768))) (.cst (.int .i64 1))) (.cst (.int .i64 32768))))⟩, ⟨[], (.x (.ar .quo .i64 (.ar .sub .i64 (.ar .add .i64 (.ln (.var (.slice) 0)) (.cst (.int .i64 32768))) (.cst (.int .i64 1))) (.cst (.int .i64 32768))))⟩, ⟨[], (.x (.var (.slice) 3))⟩, ⟨[], (.x (.ar .quo .i64 (.ar .sub .i64 (.ar .add .i64 (.ln (.var (.slice) 0)) (.cst (.int .i64 32768))) (.cst (.int .i64 1))) (.cst (.int .i64 32768))))⟩, ⟨[], (.x (.var (.slice) 5))⟩, ⟨[], (.agg [(.cst (.int .u64 0)), (.cst (.int .u32 0))])⟩, jkk, jkk, jkk, jkk, jkk, jkk, jkk, jkk, jkk, jkk, jkk, jkk, jkk, jkk, jkk, jkk, jkk, jkk, jkk, jkk, jkk, jkk, jkk, jkk, jkk], loc := [], n := 7, known := [], d := 0 }
def R8 : St := { tmps := [⟨[], (.x (.var (.slice) 0))⟩, ⟨[], (.x (.var (.fnv) 1))⟩, jkk, ⟨[], (.x (.var (.addr) 2))⟩, ⟨[], (.x (.cst .nilSl))⟩, ⟨[], (.x (.cst .nilSl))⟩, ⟨[], (.x (.ar .quo .i64 (.ar .sub .i64 (.ar .add .i64 (.ln (.var (.slice) 0)) (.cst (.int .i64 32768))) (.cst (.int .i64 1))) (.cst (.int .i64 32768))))⟩, ⟨[], (.x (.var (.addr) 5))⟩, ⟨[], (.x (.var (.slice) 3))⟩, ⟨[], (.x (.var (.addr) 6))⟩, jkk, jkk, ⟨[], (.x (.var (.slice) 0))⟩, ⟨[], (.x (.ln (.var (.slice) 0)))⟩, ⟨[], (.x (.ar .add .i64 (.ln (.var (.slice) 0)) (.cst (.int .i64 32768))))⟩, ⟨[], (.x (.ar .sub .i64 (.ar .add .i64 (.ln (.var (.slice) 0)) (.cst (.int .i64 32768))) (.cst (.int .i64 1))))⟩, ⟨[], (.x (.ar .quo .i64 (.ar .sub .i64 (.ar .add .i64 (.ln (.var (.slice) 0)) (.cst (.int .i64 32768))) (.cst (.int .i64 1))) (.cst (.int .i64 32768))))⟩, ⟨[], (.x (.ar .quo .i64 (.ar .sub .i64 (.ar .add .i64 (.ln (.var (.slice) 0)) (.cst (.int .i64 32768))) (.cst (.int .i64 1))) (.cst (.int .i64 32768))))⟩, ⟨[], (.x (.var (.slice) 4))⟩, ⟨[], (.x (.ar .quo .i64 (.ar .sub .i64 (.ar .add .i64 (.ln (.var (.slice) 0)) (.cst (.int .i64 32768))) (.cst (.int .i64 1))) (.cst (.int .i64 32768))))⟩, ⟨[], (.x (.var (.slice) 3))⟩, ⟨[], (.agg [(.cst (.int .u64 0)), (.cst (.int .u32 0))])⟩, jkk, jkk, jkk, jkk, jkk, jkk, jkk, jkk, jkk, jkk, jkk, jkk, jkk, jkk, jkk, jkk, jkk, jkk, jkk, jkk, jkk, jkk, jkk, jkk, jkk], loc := [], n := 7, known := [], d := 0 }
def R9 : St := { tmps := [⟨[], (.x (.var (.slice) 0))⟩, ⟨[], (.x (.var (.fnv) 1))⟩, jkk, ⟨[], (.x (.var (.addr) 2))⟩, ⟨[], (.x (.cst .nilSl))⟩, ⟨[], (.x (.cst .nilSl))⟩, ⟨[], (.x (.ar .quo .i64 (.ar .sub .i64 (.ar .add .i64 (.ln (.var (.slice) 0)) (.cst (.int .i64 32768))) (.cst (.int .i64 1))) (.cst (.int .i64 32768))))⟩, ⟨[], (.x (.var (.addr) 4))⟩, ⟨[], (.x (.var (.slice) 3))⟩, ⟨[], (.x (.var (.addr) 6))⟩, jkk, jkk, ⟨[], (.x (.var (.slice) 0))⟩, ⟨[], (.x (.ln (.var (.slice) 0)))⟩, ⟨[], (.x (.ar .add .i64 (.ln (.var (.slice) 0)) (.cst (.int .i64 32768))))⟩, ⟨[], (.x (.ar .sub .i64 (.ar .add .i64 (.ln (.var (.slice) 0)) (.cst (.int .i64 32768))) (.cst (.int .i64 1))))⟩, ⟨[], (.x (.ar .quo .i64 (.ar .sub .i64 (.ar .add .i64 (.ln (.var (.slice) 0)) (.cst (.int .i64 32768))) (.cst (.int .i64 1))) (.cst (.int .i64 32768))))⟩, ⟨[], (.x (.ar .quo .i64 (.ar .sub .i64 (.ar .add .i64 (.ln (.var (.slice) 0)) (.cst (.int .i64 32768))) (.cst (.int .i64 1))) (.cst (.int .i64 32768))))⟩, ⟨[], (.x (.var (.slice) 5))⟩, ⟨[], (.x (.ar .quo .i64 (.ar .sub .i64 (.ar .add .i64 (.ln (.var (.slice) 0)) (.cst (.int .i64 32768))) (.cst (.int .i64 1))) (.cst (.int .i64 32768))))⟩, ⟨[], (.x (.var (.slice) 3))⟩, ⟨[], (.agg [(.cst (.int .u64 0)), (.cst (.int .u32 0))])⟩, jkk, jkk, jkk, jkk, jkk, jkk, jkk, jkk, jkk, jkk, jkk, jkk, jkk, jkk, jkk, jkk, jkk, jkk, jkk, jkk, jkk, jkk, jkk, jkk, jkk], loc := [], n := 7, known := [], d := 0 }
def RD : St := { tmps := [⟨[], (.x (.var (.slice) 0))⟩, ⟨[], (.x (.var (.fnv) 1))⟩, jkk, ⟨[], (.x (.var (.addr) 2))⟩, ⟨[], (.x (.cst .nilSl))⟩, ⟨[], (.x (.cst .nilSl))⟩, ⟨[], (.x (.ar .quo .i64 (.ar .sub .i64 (.ar .add .i64 (.ln (.var (.slice) 0)) (.cst (.int .i64 32768))) (.cst (.int .i64 1))) (.cst (.int .i64 32768))))⟩, ⟨[], (.x (.var (.addr) 3))⟩, ⟨[], (.x (.var (.slice) 5))⟩, ⟨[], (.x (.var (.addr) 6))⟩, jkk, jkk, ⟨[], (.x (.var (.slice) 0))⟩, ⟨[], (.x (.ln (.var (.slice) 0)))⟩, ⟨[], (.x (.ar .add .i64 (.ln (.var (.slice) 0)) (.cst (.int .i64 32768))))⟩, ⟨[], (.x (.ar .sub .i64 (.ar .add .i64 (.ln (.var (.slice) 0)) (.cst (.int .i64 32768))) (.cst (.int .i64 1))))⟩, ⟨[], (.x (.ar .quo .i64 (.ar .sub .i64 (.ar .add .i64 (.ln (.var (.slice) 0)) (.cst (.int .i64 32768))) (.cst (.int .i64 1))) (.cst (.int .i64 32768))))⟩, ⟨[], (.x (.ar .quo .i64 (.ar .sub .i64 (.ar .add .i64 (.ln (.var (.slice) 0)) (.cst (.int .i64 32768))) (.cst (.int .i64 1))) (.cst (.int .i64 32768))))⟩, ⟨[], (.x (.var (.slice) 4))⟩, ⟨[], (.x (.ar .quo .i64 (.ar .sub .i64 (.ar .add .i64 (.ln (.var (.slice) 0)) (.cst (.int .i64 32768))) (.cst (.int .i64 1))) (.cst (.int .i64 32768))))⟩, ⟨[], (.x (.var (.slice) 5))⟩, ⟨[], (.agg [(.cst (.int .u64 0)), (.cst (.int .u32 0))])⟩, jkk, jkk, jkk, jkk, jkk, jkk, jkk, jkk, jkk, jkk, jkk, jkk, jkk, jkk, jkk, jkk, jkk, jkk, jkk, jkk, jkk, jkk, jkk, jkk, jkk], loc := [], n := 7, known := [], d := 0 }
def RE : St := { tmps := [⟨[], (.x (.var (.slice) 0))⟩, ⟨[], (.x (.var (.fnv) 1))⟩, jkk, ⟨[], (.x (.var (.addr) 2))⟩, ⟨[], (.x (.cst .nilSl))⟩, ⟨[], (.x (.cst .nilSl))⟩, ⟨[], (.x (.ar .quo .i64 (.ar .sub .i64 (.ar .add .i64 (.ln (.var (.slice) 0)) (.cst (.int .i64 32768))) (.cst (.int .i64 1))) (.cst (.int .i64 32768))))⟩, ⟨[], (.x (.var (.addr) 3))⟩, ⟨[], (.x (.var (.slice) 5))⟩, ⟨[], (.x (.var (.addr) 6))⟩, jkk, jkk, ⟨[], (.x (.var (.slice) 0))⟩, ⟨[], (.x (.ln (.var (.slice) 0)))⟩, ⟨[], (.x (.ar .add .i64 (.ln (.var (.slice) 0)) (.cst (.int .i64 32768))))⟩, ⟨[], (.x (.ar .sub .i64 (.ar .add .i64 (.ln (.var (.slice) 0)) (.cst (.int .i64 32768))) (.cst (.int .i64 1))))⟩, ⟨[], (.x (.ar .quo .i64 (.ar .sub .i64 (.ar .add .i64 (.ln (.var (.slice) 0)) (.cst (.int .i64 32768))) (.cst (.int .i64 1))) (.cst (.int .i64 32768))))⟩, ⟨[], (.x (.ar .quo .i64 (.ar .sub .i64 (.ar .add .i64 (.ln (.var (.slice) 0)) (.cst (.int .i64 32768))) (.cst (.int .i64 1))) (.cst (.int .i64 32768))))⟩, ⟨[], (.x (.var (.slice) 4))⟩, ⟨[], (.x (.ar .quo .i64 (.ar .sub .i64 (.ar .add .i64 (.ln (.var (.slice) 0)) (.cst (.int .i64 32768))) (.cst (.int .i64 1))) (.cst (.int .i64 32768))))⟩, ⟨[], (.x (.var (.slice) 5))⟩, ⟨[], (.agg [(.cst (.int .u64 0)), (.cst (.int .u32 0))])⟩, jkk, jkk, jkk, jkk, jkk, jkk, jkk, jkk, jkk, jkk, jkk, jkk, jkk, jkk, jkk, jkk, jkk, jkk, jkk, jkk, jkk, jkk, jkk, jkk, jkk], loc := [], n := 7, known := [], d := 0 }
def RF : St := { tmps := [⟨[], (.x (.var (.slice) 0))⟩, ⟨[], (.x (.var (.fnv) 1))⟩, jkk, ⟨[], (.x (.var (.addr) 2))⟩, ⟨[], (.x (.cst .nilSl))⟩, ⟨[], (.x (.cst .nilSl))⟩, ⟨[], (.x (.ar .quo .i64 (.ar .sub .i64 (.ar .add .i64 (.ln (.var (.slice) 0)) (.cst (.int .i64 32768))) (.cst (.int .i64 1))) (.cst (.int .i64 32768))))⟩, ⟨[], (.x (.var (.addr) 3))⟩, ⟨[], (.x (.var (.slice) 4))⟩, ⟨[], (.x (.var (.addr) 6))⟩, jkk, jkk, ⟨[], (.x (.var (.slice) 0))⟩, ⟨[], (.x (.ln (.var (.slice) 0)))⟩, ⟨[], (.x (.ar .add .i64 (.ln (.var (.slice) 0)) (.cst (.int .i64 32768))))⟩, ⟨[], (.x (.ar .sub .i64 (.ar .add .i64 (.ln (.var (.slice) 0)) (.cst (.int .i64 32768))) (.cst (.int .i64 1))))⟩, ⟨[], (.x (.ar .quo .i64 (.ar .sub .i64 (.ar .add .i64 (.ln (.var (.slice) 0)) (.cst (.int .i64 32768))) (.cst (.int .i64 1))) (.cst (.int .i64 32768))))⟩, ⟨[], (.x (.ar .quo .i64 (.ar .sub .i64 (.ar .add .i64 (.ln (.var (.slice) 0)) (.cst (.int .i64 32768))) (.cst (.int .i64 1))) (.cst (.int .i64 32768))))⟩, ⟨[], (.x (.var (.slice) 5))⟩, ⟨[], (.x (.ar .quo .i64 (.ar .sub .i64 (.ar .add .i64 (.ln (.var (.slice) 0)) (.cst (.int .i64 32768))) (.cst (.int .i64 1))) (.cst (.int .i64 32768))))⟩, ⟨[], (.x (.var (.slice) 4))⟩, ⟨[], (.agg [(.cst (.int .u64 0)), (.cst (.int .u32 0))])⟩, jkk, jkk, jkk, jkk, jkk, jkk, jkk, jkk, jkk, jkk, jkk, jkk, jkk, jkk, jkk, jkk, jkk, jkk, jkk, jkk, jkk, jkk, jkk, jkk, jkk], loc := [], n := 7, known := [], d := 0 }
def tA : Tr :=
(.hall 134 [(1, (.var (.fnv) 1))]
(.both
 (.mks 53 1 4 [(.int .u32 0)] (.ar .quo .i64 (.ar .sub .i64 (.ar .add .i64 (.ln (.var (.slice) 0)) (.cst (.int .i64 32768))) (.cst (.int .i64 1))) (.cst (.int .i64 32768))) (.ar .quo .i64 (.ar .sub .i64 (.ar .add .i64 (.ln (.var (.slice) 0)) (.cst (.int .i64 32768))) (.cst (.int .i64 1))) (.cst (.int .i64 32768)))
 (.both
  (.mks 2 1 8 [(.int .i64 0)] (.ar .quo .i64 (.ar .sub .i64 (.ar .add .i64 (.ln (.var (.slice) 0)) (.cst (.int .i64 32768))) (.cst (.int .i64 1))) (.cst (.int .i64 32768))) (.ar .quo .i64 (.ar .sub .i64 (.ar .add .i64 (.ln (.var (.slice) 0)) (.cst (.int .i64 32768))) (.cst (.int .i64 1))) (.cst (.int .i64 32768)))
  (.hall 131 [(1, (.cst .nilSl))]
  (.hsto (.var (.addr) 5) [(.var (.slice) 3)]
  (.hall 184 [(1, (.cst (.int .u64 0))), (1, (.cst (.int .u32 0)))]
  (.hsto (.var (.addr) 6) [(.cst (.int .u64 0)), (.cst (.int .u32 0))]
  (.leaf (.norm Ry)))))))
  (.hall 131 [(1, (.cst .nilSl))]
  (.both
   (.mks 2 1 8 [(.int .i64 0)] (.ar .quo .i64 (.ar .sub .i64 (.ar .add .i64 (.ln (.var (.slice) 0)) (.cst (.int .i64 32768))) (.cst (.int .i64 1))) (.cst (.int .i64 32768))) (.ar .quo .i64 (.ar .sub .i64 (.ar .add .i64 (.ln (.var (.slice) 0)) (.cst (.int .i64 32768))) (.cst (.int .i64 1))) (.cst (.int .i64 32768)))
   (.hsto (.var (.addr) 4) [(.var (.slice) 3)]
   (.hall 184 [(1, (.cst (.int .u64 0))), (1, (.cst (.int .u32 0)))]
   (.hsto (.var (.addr) 6) [(.cst (.int .u64 0)), (.cst (.int .u32 0))]
   (.leaf (.norm Rz))))))
   (.hsto (.var (.addr) 4) [(.var (.slice) 3)]
   (.mks 2 1 8 [(.int .i64 0)] (.ar .quo .i64 (.ar .sub .i64 (.ar .add .i64 (.ln (.var (.slice) 0)) (.cst (.int .i64 32768))) (.cst (.int .i64 1))) (.cst (.int .i64 32768))) (.ar .quo .i64 (.ar .sub .i64 (.ar .add .i64 (.ln (.var (.slice) 0)) (.cst (.int .i64 32768))) (.cst (.int .i64 1))) (.cst (.int .i64 32768)))
   (.hall 184 [(1, (.cst (.int .u64 0))), (1, (.cst (.int .u32 0)))]
   (.hsto (.var (.addr) 6) [(.cst (.int .u64 0)), (.cst (.int .u32 0))]
   (.leaf (.norm R4))))))))))
 (.both
  (.mks 2 1 8 [(.int .i64 0)] (.ar .quo .i64 (.ar .sub .i64 (.ar .add .i64 (.ln (.var (.slice) 0)) (.cst (.int .i64 32768))) (.cst (.int .i64 1))) (.cst (.int .i64 32768))) (.ar .quo .i64 (.ar .sub .i64 (.ar .add .i64 (.ln (.var (.slice) 0)) (.cst (.int .i64 32768))) (.cst (.int .i64 1))) (.cst (.int .i64 32768)))
  (.both
   (.mks 53 1 4 [(.int .u32 0)] (.ar .quo .i64 (.ar .sub .i64 (.ar .add .i64 (.ln (.var (.slice) 0)) (.cst (.int .i64 32768))) (.cst (.int .i64 1))) (.cst (.int .i64 32768))) (.ar .quo .i64 (.ar .sub .i64 (.ar .add .i64 (.ln (.var (.slice) 0)) (.cst (.int .i64 32768))) (.cst (.int .i64 1))) (.cst (.int .i64 32768)))
   (.hall 131 [(1, (.cst .nilSl))]
   (.hsto (.var (.addr) 5) [(.var (.slice) 4)]
   (.hall 184 [(1, (.cst (.int .u64 0))), (1, (.cst (.int .u32 0)))]
   (.hsto (.var (.addr) 6) [(.cst (.int .u64 0)), (.cst (.int .u32 0))]
   (.leaf (.norm R8)))))))
   (.hall 131 [(1, (.cst .nilSl))]
   (.mks 53 1 4 [(.int .u32 0)] (.ar .quo .i64 (.ar .sub .i64 (.ar .add .i64 (.ln (.var (.slice) 0)) (.cst (.int .i64 32768))) (.cst (.int .i64 1))) (.cst (.int .i64 32768))) (.ar .quo .i64 (.ar .sub .i64 (.ar .add .i64 (.ln (.var (.slice) 0)) (.cst (.int .i64 32768))) (.cst (.int .i64 1))) (.cst (.int .i64 32768)))
   (.hsto (.var (.addr) 4) [(.var (.slice) 5)]
   (.hall 184 [(1, (.cst (.int .u64 0))), (1, (.cst (.int .u32 0)))]
   (.hsto (.var (.addr) 6) [(.cst (.int .u64 0)), (.cst (.int .u32 0))]
   (.leaf (.norm R9)))))))))
  (.hall 131 [(1, (.cst .nilSl))]
  (.both
   (.mks 53 1 4 [(.int .u32 0)] (.ar .quo .i64 (.ar .sub .i64 (.ar .add .i64 (.ln (.var (.slice) 0)) (.cst (.int .i64 32768))) (.cst (.int .i64 1))) (.cst (.int .i64 32768))) (.ar .quo .i64 (.ar .sub .i64 (.ar .add .i64 (.ln (.var (.slice) 0)) (.cst (.int .i64 32768))) (.cst (.int .i64 1))) (.cst (.int .i64 32768)))
   (.both
    (.mks 2 1 8 [(.int .i64 0)] (.ar .quo .i64 (.ar .sub .i64 (.ar .add .i64 (.ln (.var (.slice) 0)) (.cst (.int .i64 32768))) (.cst (.int .i64 1))) (.cst (.int .i64 32768))) (.ar .quo .i64 (.ar .sub .i64 (.ar .add .i64 (.ln (.var (.slice) 0)) (.cst (.int .i64 32768))) (.cst (.int .i64 1))) (.cst (.int .i64 32768)))
    (.hsto (.var (.addr) 3) [(.var (.slice) 4)]
    (.hall 184 [(1, (.cst (.int .u64 0))), (1, (.cst (.int .u32 0)))]
    (.hsto (.var (.addr) 6) [(.cst (.int .u64 0)), (.cst (.int .u32 0))]
    (.leaf (.norm RD))))))
    (.hsto (.var (.addr) 3) [(.var (.slice) 4)]
    (.mks 2 1 8 [(.int .i64 0)] (.ar .quo .i64 (.ar .sub .i64 (.ar .add .i64 (.ln (.var (.slice) 0)) (.cst (.int .i64 32768))) (.cst (.int .i64 1))) (.cst (.int .i64 32768))) (.ar .quo .i64 (.ar .sub .i64 (.ar .add .i64 (.ln (.var (.slice) 0)) (.cst (.int .i64 32768))) (.cst (.int .i64 1))) (.cst (.int .i64 32768)))
    (.hall 184 [(1, (.cst (.int .u64 0))), (1, (.cst (.int .u32 0)))]
    (.hsto (.var (.addr) 6) [(.cst (.int .u64 0)), (.cst (.int .u32 0))]
    (.leaf (.norm RE))))))))
   (.mks 2 1 8 [(.int .i64 0)] (.ar .quo .i64 (.ar .sub .i64 (.ar .add .i64 (.ln (.var (.slice) 0)) (.cst (.int .i64 32768))) (.cst (.int .i64 1))) (.cst (.int .i64 32768))) (.ar .quo .i64 (.ar .sub .i64 (.ar .add .i64 (.ln (.var (.slice) 0)) (.cst (.int .i64 32768))) (.cst (.int .i64 1))) (.cst (.int .i64 32768)))
   (.mks 53 1 4 [(.int .u32 0)] (.ar .quo .i64 (.ar .sub .i64 (.ar .add .i64 (.ln (.var (.slice) 0)) (.cst (.int .i64 32768))) (.cst (.int .i64 1))) (.cst (.int .i64 32768))) (.ar .quo .i64 (.ar .sub .i64 (.ar .add .i64 (.ln (.var (.slice) 0)) (.cst (.int .i64 32768))) (.cst (.int .i64 1))) (.cst (.int .i64 32768)))
   (.hsto (.var (.addr) 3) [(.var (.slice) 5)]
   (.hall 184 [(1, (.cst (.int .u64 0))), (1, (.cst (.int .u32 0)))]
   (.hsto (.var (.addr) 6) [(.cst (.int .u64 0)), (.cst (.int .u32 0))]
   (.leaf (.norm RF))))))))))))
theorem sA : sxs cP [rP 0, rP 1, rP 2, rP 3] (CX 47 [(0, .slice), (1, .fnv)]) = some tA := by kernel_rfl
def U7 : St := { tmps := [⟨[], (.x (.var (.slice) 0))⟩, jkk, jkk, ⟨[], (.x (.var (.addr) 1))⟩, jkk, jkk, ⟨[], (.x (.var (.int .i64) 5))⟩, ⟨[], (.x (.var (.addr) 2))⟩, ⟨[], (.x (.var (.slice) 3))⟩, ⟨[], (.x (.var (.addr) 4))⟩, jkk, jkk, jkk, jkk, jkk, jkk, jkk, jkk, jkk, jkk, jkk, jkk, ⟨[], (.x (.var (.int .i64) 5))⟩, ⟨[], (.x (.cst (.int .i64 0)))⟩, jkk, jkk, jkk, jkk, jkk, jkk, jkk, jkk, jkk, jkk, jkk, jkk, jkk, jkk, jkk, jkk, jkk, jkk, jkk, jkk, jkk, jkk, jkk], loc := [], n := 6, known := [], d := 0 }
def t4 : Tr :=
(.leaf (.norm U7))
theorem s4 : sxs cP [rP 4] (CX 47 [(0, .slice), (3, .addr), (7, .addr), (8, .slice), (9, .addr), (6, .int .i64)]) = some t4 := by kernel_rfl
def RG : St := { tmps := [⟨[], (.x (.var (.slice) 0))⟩, jkk, jkk, ⟨[], (.x (.var (.addr) 1))⟩, jkk, jkk, jkk, ⟨[], (.x (.var (.addr) 2))⟩, ⟨[], (.x (.var (.slice) 3))⟩, ⟨[], (.x (.var (.addr) 4))⟩, jkk, jkk, jkk, jkk, jkk, jkk, jkk, jkk, jkk, jkk, jkk, jkk, ⟨[], (.x (.var (.int .i64) 5))⟩, ⟨[], (.x (.var (.int .i64) 6))⟩, ⟨[], (.x (.cm .lss (.var (.int .i64) 6) (.var (.int .i64) 5)))⟩, jkk, jkk, jkk, jkk, jkk, jkk, jkk, jkk, jkk, jkk, jkk, jkk, jkk, jkk, jkk, jkk, jkk, jkk, jkk, jkk, jkk, jkk], loc := [], n := 7, known := [], d := 0 }
def t5 : Tr :=
(.leaf (.norm RG))
theorem s5 : sxs cP [rP 5] (CX 47 [(0, .slice), (3, .addr), (7, .addr), (8, .slice), (9, .addr), (22, .int .i64), (23, .int .i64)]) = some t5 := by kernel_rfl
def Sd : St := { tmps := [⟨[], (.x (.var (.slice) 0))⟩, jkk, jkk, ⟨[], (.x (.var (.addr) 1))⟩, jkk, jkk, jkk, ⟨[], (.x (.var (.addr) 2))⟩, ⟨[], (.x (.var (.slice) 3))⟩, ⟨[], (.x (.var (.addr) 4))⟩, ⟨[], (.x (.var (.addr) 7))⟩, ⟨[], (.x (.var (.addr) 10))⟩, jkk, jkk, jkk, jkk, jkk, jkk, jkk, jkk, jkk, jkk, ⟨[], (.x (.var (.int .i64) 5))⟩, ⟨[], (.x (.var (.int .i64) 6))⟩, jkk, ⟨[], (.x (.var (.int .i64) 6))⟩, ⟨[], (.x (.var (.slice) 0))⟩, ⟨[], (.x (.var (.int .i64) 8))⟩, ⟨[], (.x (.ar .mul .i64 (.var (.int .i64) 8) (.cst (.int .i64 32768))))⟩, ⟨[], (.x (.var (.int .i64) 9))⟩, ⟨[], (.x (.ar .add .i64 (.var (.int .i64) 9) (.cst (.int .i64 1))))⟩, ⟨[], (.x (.ar .mul .i64 (.ar .add .i64 (.var (.int .i64) 9) (.cst (.int .i64 1))) (.cst (.int .i64 32768))))⟩, ⟨[], (.x (.var (.slice) 0))⟩, ⟨[], (.x (.ln (.var (.slice) 0)))⟩, ⟨[], (.x (.mn (.ar .mul .i64 (.ar .add .i64 (.var (.int .i64) 9) (.cst (.int .i64 1))) (.cst (.int .i64 32768))) (.ln (.var (.slice) 0))))⟩, ⟨[], (.x (.sub 1 (.var (.slice) 0) (.ar .mul .i64 (.var (.int .i64) 8) (.cst (.int .i64 32768))) (.mn (.ar .mul .i64 (.ar .add .i64 (.var (.int .i64) 9) (.cst (.int .i64 1))) (.cst (.int .i64 32768))) (.ln (.var (.slice) 0))) .nl))⟩, ⟨[], (.x (.var (.slice) 3))⟩, ⟨[], (.x (.var (.int .i64) 11))⟩, ⟨[], (.x (.var (.slice) 12))⟩, ⟨[], (.x (.ln (.var (.slice) 12)))⟩, ⟨[], (.x (.ix 1 (.var (.slice) 3) (.var (.int .i64) 11)))⟩, jkk, jkk, jkk, jkk, jkk, jkk], loc := [], n := 13, known := [], d := 0 }
def tBk : Tr :=
(.hall 3 [(1, (.cst (.int .i64 0)))]
(.hsto (.var (.addr) 7) [(.var (.int .i64) 6)]
(.load (.var (.addr) 7) [.int .i64]
(.load (.var (.addr) 7) [.int .i64]
(.need (.cm .leq (.cst (.int .i64 0)) (.mn (.ar .mul .i64 (.ar .add .i64 (.var (.int .i64) 9) (.cst (.int .i64 1))) (.cst (.int .i64 32768))) (.ln (.var (.slice) 0))))
(.need (.cm .leq (.mn (.ar .mul .i64 (.ar .add .i64 (.var (.int .i64) 9) (.cst (.int .i64 1))) (.cst (.int .i64 32768))) (.ln (.var (.slice) 0))) (.cp (.var (.slice) 0)))
(.need (.cm .leq (.cst (.int .i64 0)) (.ar .mul .i64 (.var (.int .i64) 8) (.cst (.int .i64 32768))))
(.need (.cm .leq (.ar .mul .i64 (.var (.int .i64) 8) (.cst (.int .i64 32768))) (.mn (.ar .mul .i64 (.ar .add .i64 (.var (.int .i64) 9) (.cst (.int .i64 1))) (.cst (.int .i64 32768))) (.ln (.var (.slice) 0))))
(.hall 22 [(1, (.cst .nilSl))]
(.hsto (.var (.addr) 10) [(.sub 1 (.var (.slice) 0) (.ar .mul .i64 (.var (.int .i64) 8) (.cst (.int .i64 32768))) (.mn (.ar .mul .i64 (.ar .add .i64 (.var (.int .i64) 9) (.cst (.int .i64 1))) (.cst (.int .i64 32768))) (.ln (.var (.slice) 0))) .nl)]
(.load (.var (.addr) 7) [.int .i64]
(.load (.var (.addr) 10) [.slice]
(.need (.nt (.nn (.var (.slice) 3)))
(.need (.cm .leq (.cst (.int .i64 0)) (.var (.int .i64) 11))
(.need (.cm .lss (.var (.int .i64) 11) (.ln (.var (.slice) 3)))
(.hsto (.ix 1 (.var (.slice) 3) (.var (.int .i64) 11)) [(.ln (.var (.slice) 12))]
(.leaf (.norm Sd))))))))))))))))))
theorem sBk : sxs cP [rP 6, rP 7, rP 8] (CX 47 [(0, .slice), (3, .addr), (7, .addr), (8, .slice), (9, .addr), (22, .int .i64), (23, .int .i64)]) = some tBk := by kernel_rfl
def NK : St := { tmps := [⟨[], (.x (.var (.slice) 0))⟩, jkk, jkk, ⟨[], (.x (.var (.addr) 1))⟩, jkk, jkk, jkk, ⟨[], (.x (.var (.addr) 2))⟩, ⟨[], (.x (.var (.slice) 3))⟩, ⟨[], (.x (.var (.addr) 4))⟩, jkk, jkk, jkk, jkk, jkk, jkk, jkk, jkk, jkk, jkk, jkk, jkk, ⟨[], (.x (.var (.int .i64) 5))⟩, ⟨[], (.x (.ar .add .i64 (.var (.int .i64) 6) (.cst (.int .i64 1))))⟩, jkk, jkk, jkk, jkk, jkk, jkk, jkk, jkk, jkk, jkk, jkk, jkk, jkk, jkk, jkk, jkk, jkk, jkk, jkk, ⟨[], (.x (.ar .add .i64 (.var (.int .i64) 6) (.cst (.int .i64 1))))⟩, jkk, jkk, jkk], loc := [], n := 7, known := [], d := 0 }
def t11 : Tr :=
(.leaf (.norm NK))
theorem s11 : sxs cP [rP 11] (CX 47 [(0, .slice), (3, .addr), (7, .addr), (8, .slice), (9, .addr), (22, .int .i64), (23, .int .i64)]) = some t11 := by kernel_rfl
def tZ : Tr :=
(.load (.var (.addr) 0) [.slice]
(.ret (.tup [(false, [(.var (.slice) 2)]), (false, [(.var (.slice) 1)])])))
theorem sZ : sxC cP (rP 13) (CX 47 [(7, .addr), (8, .slice)]) = some tZ := by kernel_rfl
end Go.Proofs.YteaonnfokkfnlaaGreatDoor
end
section
namespace Go.Proofs.YteaonnfokkfnlaaGreatDoor
open Go Go.Eng Go.Conc Go.RowKit Go.Conc.Lib Go.ConcR.Gen
open Go.ConcR (KK wgBlock WgAt stA smA rd wr DC0 Payload)
section
variable {S : Shared} {h : Eng.Heap}
theorem yE {h : Eng.Heap} {b x : Nat} {o : Obj} : upd h b o x = none ↔ x ≠ b ∧ h x = none := by
 unfold upd; by_cases e : x = b <;> simp [e]
theorem yA {h : Eng.Heap} {b : Nat} {o : Obj} : upd h b o b = some o := by simp [upd]
theorem yv {h : Eng.Heap} {b x : Nat} {o : Obj} (e : x ≠ b) : upd h b o x = h x := by simp [upd, e]
theorem CY {b : Nat} {u v : Value} {T : TypeId} {K : Eng.Heap → Prop} (hb : h b = some (.cells #[u] T)) (hS : ¬ S b) (k : K (upd h b (.cells #[v] T))) : yd S ⟨b, 0, none⟩ 0 [v] h K := by
 have e : z5 h (Addr.add ⟨b, 0, none⟩ 0) v = upd h b (.cells #[v] T) := by
  funext x
  by_cases hx : x = b
  ·subst hx; simp [z5, upd, Addr.add, hb]
  ·simp [z5, upd, Addr.add, hx]
 refine ⟨⟨⟨u, by simp [ze, Addr.add, hb]⟩, by simp [yB, Addr.add, hb], by simpa [Addr.add] using hS⟩, ?_⟩
 rw [e]; exact k
theorem F6 {b : Nat} {u u2 v v2 : Value} {T : TypeId} {K : Eng.Heap → Prop} (hb : h b = some (.cells #[u, u2] T)) (hS : ¬ S b) (k : K (upd h b (.cells #[v, v2] T))) : yd S ⟨b, 0, none⟩ 0 [v, v2] h K := by
 have e : z5 (z5 h (Addr.add ⟨b, 0, none⟩ 0) v) (Addr.add ⟨b, 0, none⟩ 1) v2 = upd h b (.cells #[v, v2] T) := by
  funext x
  by_cases hx : x = b
  ·subst hx; simp [z5, upd, Addr.add, hb]
  ·simp [z5, upd, Addr.add, hx]
 refine ⟨⟨⟨u, by simp [ze, Addr.add, hb]⟩, by simp [yB, Addr.add, hb], by simpa [Addr.add] using hS⟩, ⟨⟨u2, by simp [z5, ze, Addr.add, hb]⟩, by simp [z5, yB, Addr.add, hb], by simpa [Addr.add] using hS⟩, ?_⟩
 rw [e]; exact k
theorem VG {b j : Nat} {cs : Array Value} {v : Value} {T : TypeId} {K : Eng.Heap → Prop} (hb : h b = some (.cells cs T)) (hj : j < cs.size) (hS : ¬ S b) (k : K (upd h b (.cells (cs.setIfInBounds j v) T))) :
  yd S (((some (⟨b, 0, none⟩ : Addr)).getD default).add (((j : Int).toNat) * 1)) 0 [v] h K := by
 have ea : (((some (⟨b, 0, none⟩ : Addr)).getD default).add (((j : Int).toNat) * 1)).add 0 = ⟨b, j, none⟩ := by
  have e0 : ∀ (x : Addr), x.add 0 = x := fun x => by simp [Addr.add]
  rw [e0, Int.toNat_natCast, Nat.mul_one, Option.getD_some, zo, Nat.zero_add]
 refine ⟨⟨⟨cs[j], by rw [ea]; simp [ze, hb, hj]⟩, by rw [ea]; simp [yB, hb], by rw [ea]; exact hS⟩, ?_⟩
 have e : z5 h ((((some (⟨b, 0, none⟩ : Addr)).getD default).add (((j : Int).toNat) * 1)).add 0) v = upd h b (.cells (cs.setIfInBounds j v) T) := by
  rw [ea]
  funext x
  by_cases hx : x = b
  ·subst hx; simp [z5, upd, hb]
  ·simp [z5, upd, hx]
 rw [e]; exact k
theorem jz.intro {n : Nat} {is : List Nat} {R : (Nat → Value) → Eng.Heap → Prop} {env : List Value} {Ks : List Kt} (st : St) (h1 : st.loc = []) (h2 : st.dv = false) (h3 : st.tmps.length = n) (h4 : is.all (isX st) = true) (h5 : R (got st env) h) :
  jz n is R (.norm st) env h Ks := ⟨st, rfl, h1, h2, h3, h4, h5⟩
def RA (h : Eng.Heap) (da : Value) (fv : Value) (n : Nat) (f : Nat → Value) (h' : Eng.Heap) : Prop :=
 ∃ fb bC bS sb wg : Nat, f 0 = da ∧ f 3 = .pointer (some ⟨fb, 0, none⟩) ∧ f 6 = .int .i64 n ∧ f 7 = .pointer (some ⟨sb, 0, none⟩) ∧ f 8 = .slice (some ⟨bS, 0, none⟩) n n ∧ f 9 = .pointer (some ⟨wg, 0, none⟩) ∧
  [fb, bC, bS, sb, wg].Nodup ∧ (∀ b ∈ [fb, bC, bS, sb, wg], h b = none) ∧ Eng.Sub h h' ∧
  h' fb = some (.cells #[fv] 134) ∧ h' bC = some (.cells (yi n #[.int .u32 0]) 53) ∧ h' bS = some (.cells (yi n #[.int .i64 0]) 2) ∧
  h' sb = some (.cells #[.slice (some ⟨bC, 0, none⟩) n n] 131) ∧ h' wg = some (wgBlock 184 0 0)
theorem wpA {a : Option Addr} {l c : Nat} {fv : Value} (hfv : qM fv = fv) (hi : Inv S h) (hl : l < 2 ^ 40) {n : Nat} (hn : n = (l + 32767) / 32768) :
  tA.wp Tryz.prog S (jz 47 [0, 3, 6, 7, 8, 9] (RA h (.slice a l c) fv n)) (fun _ _ => True) [.slice a l c, fv] h [] := by
 have ns : ∀ b, h b = none → ¬ S b := fun b hb hS => hi b hS hb
 have e1 : IntKind.i64.wrap ((IntKind.i64.wrap (IntKind.i64.wrap ((l : Int) + 32768) - 1)).tdiv 32768) = (n : Int) := by
  have w1 : IntKind.i64.wrap ((l : Int) + 32768) = (l : Int) + 32768 := by rw [IntKind.wrap_i64]; omega
  have w2 : IntKind.i64.wrap ((l : Int) + 32768 - 1) = (l : Int) + 32767 := by rw [IntKind.wrap_i64]; omega
  rw [w1, w2, Int.tdiv_eq_ediv_of_nonneg (by omega), IntKind.wrap_i64]; omega
 have e2 : IntKind.i64.wrap (n : Int) = (n : Int) := by rw [IntKind.wrap_i64]; omega
 have hb4 : ((4 : Nat) : Int) * (n : Int) ≤ 2 ^ 48 := by omega
 have hb8 : ((8 : Nat) : Int) * (n : Int) ≤ 2 ^ 48 := by omega
 simp only [tA, Tr.wp, EC, Ex.ev, coerce, toInt_int, zi, zl, zj, zh, arith, Cst.val, yD, List.flatMap_cons, List.flatMap_nil, List.replicate_one, List.getD_cons_zero, List.getD_cons_succ, List.map_cons, List.map_nil, List.cons_append, List.nil_append, List.append_nil, e1, e2, Int.toNat_natCast, Nat.mul_one, hfv]
 have nn : (0 : Int) ≤ (n : Int) := by omega
 have sub5 : ∀ {h' : Eng.Heap}, (∀ x, (∀ b, h b = none → x ≠ b) → h' x = h x) → Eng.Sub h h' := by
  intro h' hx x o ho
  rw [hx x (fun b hb e => by subst e; rw [hb] at ho; cases ho)]
  exact ho
 intro fb g0
 refine ⟨⟨nn, Int.le_refl _, hb4, fun b1 g1 => ⟨⟨nn, Int.le_refl _, hb8, fun b2 g2 b3 g3 => ?_⟩, fun b2 g2 => ⟨⟨nn, Int.le_refl _, hb8, fun b3 g3 => ?_⟩, ?_⟩⟩⟩,
  ⟨⟨nn, Int.le_refl _, hb8, fun b1 g1 => ⟨⟨nn, Int.le_refl _, hb4, fun b2 g2 b3 g3 => ?_⟩, fun b2 g2 => ⟨nn, Int.le_refl _, hb4, fun b3 g3 => ?_⟩⟩⟩,
   fun b1 g1 => ⟨⟨nn, Int.le_refl _, hb4, fun b2 g2 => ⟨⟨nn, Int.le_refl _, hb8, fun b3 g3 => ?_⟩, ?_⟩⟩, ⟨nn, Int.le_refl _, hb8, fun b2 g2 => ⟨nn, Int.le_refl _, hb4, fun b3 g3 => ?_⟩⟩⟩⟩⟩
 have so : ∀ {T : TypeId} {b b' : Nat} {h : Eng.Heap} {o : Obj} {v : Value}, b' ≠ b → (upd h b (.cells #[v] T)) b' = h b' := fun e => yv e
 ·simp only [yE] at g1 g2 g3
  refine CY (b := b3) yA (ns _ (by first | exact g1.2 | exact g2.2.2 | exact g3.2.2.2)) ?_
  intro b4 g4
  simp only [yE] at g4
  refine F6 yA (ns _ (by simp only [g4])) ?_
  refine jz.intro Ry rfl rfl rfl rfl ⟨fb, b1, b2, b3, b4, rfl, rfl, ?_, rfl, rfl, rfl, ?_, ?_, ?_, ?_, ?_, ?_, ?_, ?_⟩
  all_goals first
   | (simp only [got, Ry, Ex.ev, coerce, toInt_int, zi, zl, zj, arith, Cst.val, List.getD_cons_zero, List.getElem?_cons_zero, List.getElem?_cons_succ]; rw [e1]; done)
   | (simp only [List.nodup_cons, List.mem_cons, List.not_mem_nil, or_false, not_or, not_false_eq_true, List.nodup_nil, and_true]; omega)
   | (intro b hb; simp only [List.mem_cons, List.not_mem_nil, or_false] at hb; rcases hb with rfl | rfl | rfl | rfl | rfl <;> first | exact g0 | exact g1.2 | exact g2.2.2 | exact g3.2.2.2 | exact g4.2.2.2.2.2 | exact g2.2.2.2 | exact g3.2.2.2.2)
   | (refine sub5 fun x hx => ?_; simp only [upd]; repeat rw [if_neg (hx _ (by first | exact g0 | exact g1.2 | exact g2.2.2 | exact g3.2.2.2 | exact g4.2.2.2.2.2 | exact g3.2.2.2.2))])
   | (simp only [upd, wgBlock]; repeat first | rw [if_pos trivial] | rw [if_pos rfl] | rw [if_neg (by omega)])
 ·simp only [yE] at g1 g2 g3
  refine CY (b := b2) ((yv (by omega)).trans yA) (ns _ (by first | exact g1.2 | exact g2.2.2 | exact g3.2.2.2)) ?_
  intro b4 g4
  simp only [yE] at g4
  refine F6 yA (ns _ (by simp only [g4])) ?_
  refine jz.intro Rz rfl rfl rfl rfl ⟨fb, b1, b3, b2, b4, rfl, rfl, ?_, rfl, rfl, rfl, ?_, ?_, ?_, ?_, ?_, ?_, ?_, ?_⟩
  all_goals first
   | (simp only [got, Rz, Ex.ev, coerce, toInt_int, zi, zl, zj, arith, Cst.val, List.getD_cons_zero, List.getElem?_cons_zero, List.getElem?_cons_succ]; rw [e1]; done)
   | (simp only [List.nodup_cons, List.mem_cons, List.not_mem_nil, or_false, not_or, not_false_eq_true, List.nodup_nil, and_true]; omega)
   | (intro b hb; simp only [List.mem_cons, List.not_mem_nil, or_false] at hb; rcases hb with rfl | rfl | rfl | rfl | rfl <;> first | exact g0 | exact g1.2 | exact g2.2.2 | exact g3.2.2.2 | exact g4.2.2.2.2.2 | exact g2.2.2.2 | exact g3.2.2.2.2)
   | (refine sub5 fun x hx => ?_; simp only [upd]; repeat rw [if_neg (hx _ (by first | exact g0 | exact g1.2 | exact g2.2.2 | exact g3.2.2.2 | exact g4.2.2.2.2.2 | exact g3.2.2.2.2))])
   | (simp only [upd, wgBlock]; repeat first | rw [if_pos trivial] | rw [if_pos rfl] | rw [if_neg (by omega)])
 ·simp only [yE] at g1 g2
  refine CY (b := b2) yA (ns _ (by first | exact g1.2 | exact g2.2.2)) ⟨nn, Int.le_refl _, hb8, fun b3 g3 => ?_⟩
  simp only [yE] at g3
  intro b4 g4
  simp only [yE] at g4
  refine F6 yA (ns _ (by simp only [g4])) ?_
  refine jz.intro R4 rfl rfl rfl rfl ⟨fb, b1, b3, b2, b4, rfl, rfl, ?_, rfl, rfl, rfl, ?_, ?_, ?_, ?_, ?_, ?_, ?_, ?_⟩
  all_goals first
   | (simp only [got, R4, Ex.ev, coerce, toInt_int, zi, zl, zj, arith, Cst.val, List.getD_cons_zero, List.getElem?_cons_zero, List.getElem?_cons_succ]; rw [e1]; done)
   | (simp only [List.nodup_cons, List.mem_cons, List.not_mem_nil, or_false, not_or, not_false_eq_true, List.nodup_nil, and_true]; omega)
   | (intro b hb; simp only [List.mem_cons, List.not_mem_nil, or_false] at hb; rcases hb with rfl | rfl | rfl | rfl | rfl <;> first | exact g0 | exact g1.2 | exact g2.2.2 | exact g3.2.2.2 | exact g4.2.2.2.2.2 | exact g2.2.2.2 | exact g3.2.2.2.2)
   | (refine sub5 fun x hx => ?_; simp only [upd]; repeat rw [if_neg (hx _ (by first | exact g0 | exact g1.2 | exact g2.2.2 | exact g3.2.2.2 | exact g4.2.2.2.2.2 | exact g3.2.2.2.2))])
   | (simp only [upd, wgBlock]; repeat first | rw [if_pos trivial] | rw [if_pos rfl] | rw [if_neg (by omega)])
 ·simp only [yE] at g1 g2 g3
  refine CY (b := b3) yA (ns _ (by first | exact g1.2 | exact g2.2.2 | exact g3.2.2.2)) ?_
  intro b4 g4
  simp only [yE] at g4
  refine F6 yA (ns _ (by simp only [g4])) ?_
  refine jz.intro R8 rfl rfl rfl rfl ⟨fb, b2, b1, b3, b4, rfl, rfl, ?_, rfl, rfl, rfl, ?_, ?_, ?_, ?_, ?_, ?_, ?_, ?_⟩
  all_goals first
   | (simp only [got, R8, Ex.ev, coerce, toInt_int, zi, zl, zj, arith, Cst.val, List.getD_cons_zero, List.getElem?_cons_zero, List.getElem?_cons_succ]; rw [e1]; done)
   | (simp only [List.nodup_cons, List.mem_cons, List.not_mem_nil, or_false, not_or, not_false_eq_true, List.nodup_nil, and_true]; omega)
   | (intro b hb; simp only [List.mem_cons, List.not_mem_nil, or_false] at hb; rcases hb with rfl | rfl | rfl | rfl | rfl <;> first | exact g0 | exact g1.2 | exact g2.2.2 | exact g3.2.2.2 | exact g4.2.2.2.2.2 | exact g2.2.2.2 | exact g3.2.2.2.2)
   | (refine sub5 fun x hx => ?_; simp only [upd]; repeat rw [if_neg (hx _ (by first | exact g0 | exact g1.2 | exact g2.2.2 | exact g3.2.2.2 | exact g4.2.2.2.2.2 | exact g3.2.2.2.2))])
   | (simp only [upd, wgBlock]; repeat first | rw [if_pos trivial] | rw [if_pos rfl] | rw [if_neg (by omega)])
 ·simp only [yE] at g1 g2 g3
  refine CY (b := b2) ((yv (by omega)).trans yA) (ns _ (by first | exact g1.2 | exact g2.2.2 | exact g3.2.2.2)) ?_
  intro b4 g4
  simp only [yE] at g4
  refine F6 yA (ns _ (by simp only [g4])) ?_
  refine jz.intro R9 rfl rfl rfl rfl ⟨fb, b3, b1, b2, b4, rfl, rfl, ?_, rfl, rfl, rfl, ?_, ?_, ?_, ?_, ?_, ?_, ?_, ?_⟩
  all_goals first
   | (simp only [got, R9, Ex.ev, coerce, toInt_int, zi, zl, zj, arith, Cst.val, List.getD_cons_zero, List.getElem?_cons_zero, List.getElem?_cons_succ]; rw [e1]; done)
   | (simp only [List.nodup_cons, List.mem_cons, List.not_mem_nil, or_false, not_or, not_false_eq_true, List.nodup_nil, and_true]; omega)
   | (intro b hb; simp only [List.mem_cons, List.not_mem_nil, or_false] at hb; rcases hb with rfl | rfl | rfl | rfl | rfl <;> first | exact g0 | exact g1.2 | exact g2.2.2 | exact g3.2.2.2 | exact g4.2.2.2.2.2 | exact g2.2.2.2 | exact g3.2.2.2.2)
   | (refine sub5 fun x hx => ?_; simp only [upd]; repeat rw [if_neg (hx _ (by first | exact g0 | exact g1.2 | exact g2.2.2 | exact g3.2.2.2 | exact g4.2.2.2.2.2 | exact g3.2.2.2.2))])
   | (simp only [upd, wgBlock]; repeat first | rw [if_pos trivial] | rw [if_pos rfl] | rw [if_neg (by omega)])
 ·simp only [yE] at g1 g2 g3
  refine CY (b := b1) ((yv (by omega)).trans ((yv (by omega)).trans yA)) (ns _ (by first | exact g1.2 | exact g2.2.2 | exact g3.2.2.2)) ?_
  intro b4 g4
  simp only [yE] at g4
  refine F6 yA (ns _ (by simp only [g4])) ?_
  refine jz.intro RD rfl rfl rfl rfl ⟨fb, b2, b3, b1, b4, rfl, rfl, ?_, rfl, rfl, rfl, ?_, ?_, ?_, ?_, ?_, ?_, ?_, ?_⟩
  all_goals first
   | (simp only [got, RD, Ex.ev, coerce, toInt_int, zi, zl, zj, arith, Cst.val, List.getD_cons_zero, List.getElem?_cons_zero, List.getElem?_cons_succ]; rw [e1]; done)
   | (simp only [List.nodup_cons, List.mem_cons, List.not_mem_nil, or_false, not_or, not_false_eq_true, List.nodup_nil, and_true]; omega)
   | (intro b hb; simp only [List.mem_cons, List.not_mem_nil, or_false] at hb; rcases hb with rfl | rfl | rfl | rfl | rfl <;> first | exact g0 | exact g1.2 | exact g2.2.2 | exact g3.2.2.2 | exact g4.2.2.2.2.2 | exact g2.2.2.2 | exact g3.2.2.2.2)
   | (refine sub5 fun x hx => ?_; simp only [upd]; repeat rw [if_neg (hx _ (by first | exact g0 | exact g1.2 | exact g2.2.2 | exact g3.2.2.2 | exact g4.2.2.2.2.2 | exact g3.2.2.2.2))])
   | (simp only [upd, wgBlock]; repeat first | rw [if_pos trivial] | rw [if_pos rfl] | rw [if_neg (by omega)])
 ·simp only [yE] at g1 g2
  refine CY (b := b1) ((yv (by omega)).trans yA) (ns _ (by first | exact g1.2 | exact g2.2.2)) ⟨nn, Int.le_refl _, hb8, fun b3 g3 => ?_⟩
  simp only [yE] at g3
  intro b4 g4
  simp only [yE] at g4
  refine F6 yA (ns _ (by simp only [g4])) ?_
  refine jz.intro RE rfl rfl rfl rfl ⟨fb, b2, b3, b1, b4, rfl, rfl, ?_, rfl, rfl, rfl, ?_, ?_, ?_, ?_, ?_, ?_, ?_, ?_⟩
  all_goals first
   | (simp only [got, RE, Ex.ev, coerce, toInt_int, zi, zl, zj, arith, Cst.val, List.getD_cons_zero, List.getElem?_cons_zero, List.getElem?_cons_succ]; rw [e1]; done)
   | (simp only [List.nodup_cons, List.mem_cons, List.not_mem_nil, or_false, not_or, not_false_eq_true, List.nodup_nil, and_true]; omega)
   | (intro b hb; simp only [List.mem_cons, List.not_mem_nil, or_false] at hb; rcases hb with rfl | rfl | rfl | rfl | rfl <;> first | exact g0 | exact g1.2 | exact g2.2.2 | exact g3.2.2.2 | exact g4.2.2.2.2.2 | exact g2.2.2.2 | exact g3.2.2.2.2)
   | (refine sub5 fun x hx => ?_; simp only [upd]; repeat rw [if_neg (hx _ (by first | exact g0 | exact g1.2 | exact g2.2.2 | exact g3.2.2.2 | exact g4.2.2.2.2.2 | exact g3.2.2.2.2))])
   | (simp only [upd, wgBlock]; repeat first | rw [if_pos trivial] | rw [if_pos rfl] | rw [if_neg (by omega)])
 ·simp only [yE] at g1 g2 g3
  refine CY (b := b1) ((yv (by omega)).trans ((yv (by omega)).trans yA)) (ns _ (by first | exact g1.2 | exact g2.2.2 | exact g3.2.2.2)) ?_
  intro b4 g4
  simp only [yE] at g4
  refine F6 yA (ns _ (by simp only [g4])) ?_
  refine jz.intro RF rfl rfl rfl rfl ⟨fb, b3, b2, b1, b4, rfl, rfl, ?_, rfl, rfl, rfl, ?_, ?_, ?_, ?_, ?_, ?_, ?_, ?_⟩
  all_goals first
   | (simp only [got, RF, Ex.ev, coerce, toInt_int, zi, zl, zj, arith, Cst.val, List.getD_cons_zero, List.getElem?_cons_zero, List.getElem?_cons_succ]; rw [e1]; done)
   | (simp only [List.nodup_cons, List.mem_cons, List.not_mem_nil, or_false, not_or, not_false_eq_true, List.nodup_nil, and_true]; omega)
   | (intro b hb; simp only [List.mem_cons, List.not_mem_nil, or_false] at hb; rcases hb with rfl | rfl | rfl | rfl | rfl <;> first | exact g0 | exact g1.2 | exact g2.2.2 | exact g3.2.2.2 | exact g4.2.2.2.2.2 | exact g2.2.2.2 | exact g3.2.2.2.2)
   | (refine sub5 fun x hx => ?_; simp only [upd]; repeat rw [if_neg (hx _ (by first | exact g0 | exact g1.2 | exact g2.2.2 | exact g3.2.2.2 | exact g4.2.2.2.2.2 | exact g3.2.2.2.2))])
   | (simp only [upd, wgBlock]; repeat first | rw [if_pos trivial] | rw [if_pos rfl] | rw [if_neg (by omega)])
def kO (l i : Nat) : Nat := min ((i + 1) * 32768) l - i * 32768
def partOf (xs : List Int) (i : Nat) : List Int := (xs.drop (i * 32768)).take (kO xs.length i)
theorem qK (xs : List Int) (i : Nat) : (partOf xs i).length = kO xs.length i := by
 unfold partOf kO; rw [List.length_take, List.length_drop]; omega
def szv (n l j : Nat) : Array Value := ((List.range n).map fun i => if i < j then Value.int .i64 (kO l i) else .int .i64 0).toArray
theorem RH (n l j : Nat) : (szv n l j).size = n := by simp [szv]
theorem RI (n l : Nat) : yi n #[.int .i64 0] = szv n l 0 := by
 apply Array.ext
 ·simp [yi, szv]
 ·intro i h1 h2
  simp [yi, szv, Nat.mod_one]
theorem Tp {n l j : Nat} (hj : j < n) : (szv n l j).setIfInBounds j (.int .i64 (kO l j)) = szv n l (j + 1) := by
 apply Array.ext
 ·simp [szv]
 ·intro i h1 h2
  simp only [szv]
  by_cases e : j = i
  ·subst e; simp
  ·have e2 : (i < j + 1) = (i < j) := by apply propext; omega
   simp [e, e2]
def RB (h0 h : Eng.Heap) (xs : List Int) (da : Value) (fb sb bS wg n j : Nat) (f : Nat → Value) (h' : Eng.Heap) : Prop :=
 ∃ (ib pb : Nat) (a' : Option Addr) (c' : Nat), f 0 = da ∧ f 3 = .pointer (some ⟨fb, 0, none⟩) ∧ f 7 = .pointer (some ⟨sb, 0, none⟩) ∧ f 8 = .slice (some ⟨bS, 0, none⟩) n n ∧ f 9 = .pointer (some ⟨wg, 0, none⟩) ∧
  f 10 = .pointer (some ⟨ib, 0, none⟩) ∧ f 11 = .pointer (some ⟨pb, 0, none⟩) ∧ f 22 = .int .i64 n ∧ f 23 = .int .i64 j ∧
  h ib = none ∧ h pb = none ∧ ib ≠ pb ∧ zn h0 .u8 a' (partOf xs j) ∧ h' ib = some (.cells #[.int .i64 j] 3) ∧ h' pb = some (.cells #[.slice a' (partOf xs j).length c'] 22) ∧
  h' bS = some (.cells (szv n xs.length (j + 1)) 2) ∧ ∀ x, x ≠ ib → x ≠ pb → x ≠ bS → h' x = h x
theorem wpB {h0 : Eng.Heap} {a : Option Addr} {c : Nat} {xs : List Int} (hx : zn h0 .u8 a xs) (hc : xs.length ≤ c) (hl : xs.length < 2 ^ 40) (hi : Inv S h) {n j : Nat} (hn : n = (xs.length + 32767) / 32768) (hj : j < n)
  {fb sb bS wg : Nat} (hS : ¬ S bS) (hbS : h bS = some (.cells (szv n xs.length j) 2)) :
  tBk.wp Tryz.prog S (jz 47 [0, 3, 7, 8, 9, 10, 11, 22, 23] (RB h0 h xs (.slice a xs.length c) fb sb bS wg n j)) (fun _ _ => True)
   [.slice a xs.length c, .pointer (some ⟨fb, 0, none⟩), .pointer (some ⟨sb, 0, none⟩), .slice (some ⟨bS, 0, none⟩) n n, .pointer (some ⟨wg, 0, none⟩), .int .i64 n, .int .i64 j] h [] := by
 have ns : ∀ b, h b = none → ¬ S b := fun b hb hS => hi b hS hb
 have w1 : IntKind.i64.wrap ((j : Int) * 32768) = ((j * 32768 : Nat) : Int) := by rw [IntKind.wrap_i64]; omega
 have w2 : IntKind.i64.wrap ((j : Int) + 1) = (j : Int) + 1 := by rw [IntKind.wrap_i64]; omega
 have w3 : IntKind.i64.wrap (((j : Int) + 1) * 32768) = (((j + 1) * 32768 : Nat) : Int) := by rw [IntKind.wrap_i64]; omega
 simp only [tBk, Tr.wp, Ex.ev, coerce, toInt_int, zb, zi, zl, zj, zh, yg, kK, Ak, Bt, z6, arith, Cst.val, yD, z4, zu, List.flatMap_cons, List.flatMap_nil, List.replicate_one, List.getD_cons_zero, List.getD_cons_succ, decide_eq_true_eq, List.map_cons, List.map_nil, List.cons_append, List.nil_append, List.append_nil, and_true]
 intro ib g0
 refine CY yA (ns _ g0) ?_
 have eM : (if (xs.length : Int) < (((j + 1) * 32768 : Nat) : Int) then (xs.length : Int) else (((j + 1) * 32768 : Nat) : Int)) = ((min ((j + 1) * 32768) xs.length : Nat) : Int) := by split <;> omega
 have cell1 : ∀ {h : Eng.Heap} {b : Nat} {v : Value} {T : TypeId}, h b = some (.cells #[v] T) → ze h (Addr.add ⟨b, 0, none⟩ 0) = some v := fun hb => by simp [ze, Addr.add, hb]
 refine ⟨j, cell1 yA, j, cell1 yA, ?_⟩
 simp only [w1, w2, w3, eM, Int.toNat_natCast]
 obtain ⟨a', es, hp⟩ := Bo hx (lo := j * 32768) (hi := min ((j + 1) * 32768) xs.length) (m := c) (by omega) (by omega) (by omega)
 rw [es]
 have ep : (xs.drop (j * 32768)).take (min ((j + 1) * 32768) xs.length - j * 32768) = partOf xs j := rfl
 rw [ep] at hp ⊢
 refine ⟨by omega, by omega, by omega, by omega, fun pb g1 => ?_⟩
 simp only [yE] at g1
 have hbi : bS ≠ ib := fun e => by subst e; rw [g0] at hbS; cases hbS
 have hbp : bS ≠ pb := fun e => by subst e; rw [g1.2.2] at hbS; cases hbS
 refine CY yA (ns _ g1.2.2) ?_
 refine ⟨j, cell1 ((yv (Ne.symm g1.1)).trans ((yv (Ne.symm g1.1)).trans yA)), a', _, _, cell1 yA, rfl, by omega, by omega, ?_⟩
 refine VG (cs := szv n xs.length j) (T := 2) ?_ (by rw [RH]; exact hj) hS ?_
 ·rw [yv hbp, yv hbp, yv hbi, yv hbi]; exact hbS
 refine jz.intro Sd rfl rfl rfl rfl ⟨ib, pb, a', c - j * 32768, rfl, rfl, rfl, rfl, rfl, rfl, rfl, rfl, rfl, g0, g1.2.2, Ne.symm g1.1, hp, ?_, ?_, ?_, ?_⟩
 ·rw [yv (Ne.symm hbi), yv (Ne.symm g1.1), yv (Ne.symm g1.1), yA]
 ·rw [yv (Ne.symm hbp), yA]
 ·rw [yA, qK, Tp hj]
 ·intro x h1 h2 h3
  rw [yv h3, yv h2, yv h2, yv h1, yv h1]
end
end Go.Proofs.YteaonnfokkfnlaaGreatDoor
end
section
namespace Go.Proofs.YteaonnfokkfnlaaGreatDoor
open Go Go.Eng Go.Conc Go.RowKit Go.Conc.Lib Go.ConcR.Gen
open Go.ConcR (KK wgBlock WgAt stA smA rd wr DC0 Payload)
def NN : List (Nat × Sh) := [(0, .slice), (3, .addr), (7, .addr), (8, .slice), (9, .addr), (22, .int .i64), (23, .int .i64)]
def RJ (da : Value) (fb sb bS wg n j : Nat) : List Value := [da, .pointer (some ⟨fb, 0, none⟩), .pointer (some ⟨sb, 0, none⟩), .slice (some ⟨bS, 0, none⟩) n n, .pointer (some ⟨wg, 0, none⟩), .int .i64 n, .int .i64 j]
structure AtL (a : Act) (da : Value) (fb sb bS wg n j : Nat) : Prop where
 sz : a.tmps.size = 47
 df : a.defers = []
 s0 : a.tmps.getD 0 undef = da
 s3 : a.tmps.getD 3 undef = .pointer (some ⟨fb, 0, none⟩)
 s7 : a.tmps.getD 7 undef = .pointer (some ⟨sb, 0, none⟩)
 s8 : a.tmps.getD 8 undef = .slice (some ⟨bS, 0, none⟩) n n
 s9 : a.tmps.getD 9 undef = .pointer (some ⟨wg, 0, none⟩)
 s22 : a.tmps.getD 22 undef = .int .i64 n
 s23 : a.tmps.getD 23 undef = .int .i64 j
theorem AtL.FZ {a : Act} {x : Option Addr} {l c fb sb bS wg n j : Nat} (A : AtL a (.slice x l c) fb sb bS wg n j) : qk a NN (RJ (.slice x l c) fb sb bS wg n j) :=
 ⟨A.s0, rfl, A.s3, rfl, A.s7, rfl, A.s8, rfl, A.s9, rfl, A.s22, rfl, A.s23, rfl, trivial⟩
theorem GX (a : Act) (d i : Nat) (v : Value) (hd : d < a.tmps.size) : (a.put (some d) v).tmps.getD i undef = if i = d then v else a.tmps.getD i undef := by
 by_cases e : i = d
 ·subst e; simp [Act.put, Array.getD_eq_getD_getElem?, hd]
 ·simp only [Act.put, Array.getD_eq_getD_getElem?, Array.getElem?_setIfInBounds_ne (Ne.symm e), if_neg e]
theorem RK (a : Act) (d : Nat) (v : Value) : (a.put (some d) v).tmps.size = a.tmps.size := by simp [Act.put]
theorem AtL.put {a : Act} {da : Value} {fb sb bS wg n j : Nat} (A : AtL a da fb sb bS wg n j) (d : Nat) (v : Value) (hd : d = 41 ∨ d = 42 ∨ d = 44) : AtL (a.put (some d) v) da fb sb bS wg n j := by
 have hs : d < a.tmps.size := by rw [A.sz]; omega
 have g : ∀ i, i ≠ d → (a.put (some d) v).tmps.getD i undef = a.tmps.getD i undef := fun i hi => by rw [GX a d i v hs, if_neg hi]
 exact ⟨by rw [RK]; exact A.sz, A.df, (g 0 (by omega)).trans A.s0, (g 3 (by omega)).trans A.s3, (g 7 (by omega)).trans A.s7, (g 8 (by omega)).trans A.s8, (g 9 (by omega)).trans A.s9, (g 22 (by omega)).trans A.s22, (g 23 (by omega)).trans A.s23⟩
def RS (h : Eng.Heap) (da : Value) (fb sb bS wg n j : Nat) (f : Nat → Value) (h' : Eng.Heap) : Prop :=
 f 0 = da ∧ f 3 = .pointer (some ⟨fb, 0, none⟩) ∧ f 7 = .pointer (some ⟨sb, 0, none⟩) ∧ f 8 = .slice (some ⟨bS, 0, none⟩) n n ∧ f 9 = .pointer (some ⟨wg, 0, none⟩) ∧ f 22 = .int .i64 n ∧ f 23 = .int .i64 j ∧ h' = h
noncomputable def xx (i : Nat) : Array Oper := match rP i with | .region _ ops _ => ops | _ => #[]
theorem rP9 : rP 9 = .region 9 (xx 9) false := by kernel_rfl
theorem VH : rP 10 = .region 10 (xx 10) false := by kernel_rfl
theorem VI : rP 12 = .region 12 (xx 12) false := by kernel_rfl
theorem Vu : (xx 9).size = 1 := by kernel_rfl
theorem U8 : (xx 10).size = 2 := by kernel_rfl
theorem U9 : (xx 12).size = 1 := by kernel_rfl
theorem Kb {ops : Array Oper} {i : Nat} {d : Option Tmp} {p : Op → Bool} (h1 : (ops[i]?.map fun o => (o.dst, o.guard)) = some (d, none)) {q : Op} (h2 : (ops[i]?.map fun o => o.op) = some q) :
  ∃ o, ops[i]? = some o ∧ o.dst = d ∧ o.guard = none ∧ o.op = q := by
 cases h : ops[i]? with
 | none => rw [h] at h1; cases h1
 | some o =>
  rw [h] at h1 h2
  simp only [Option.map_some, Option.some.injEq, Prod.mk.injEq] at h1 h2
  exact ⟨o, rfl, h1.1, h1.2, h2⟩
def NO (o : Option Oper) : Array TypeId := match o with | some o => (match o.op with | .call c => c.argTypes | .go c => c.argTypes | _ => #[]) | none => #[]
theorem c9a : ((xx 9)[0]?.map fun o => (o.dst, o.guard)) = some (some 41, none) := by kernel_rfl
theorem c9b : ((xx 9)[0]?.map fun o => o.op) = some (.call { callee := .value (.func 135), args := #[.tmp 9, .const (.int .i64 1)], argTypes := NO (xx 9)[0]? }) := by kernel_rfl
theorem VJ : ((xx 12)[0]?.map fun o => (o.dst, o.guard)) = some (some 44, none) := by kernel_rfl
theorem VK : ((xx 12)[0]?.map fun o => o.op) = some (.call { callee := .value (.func 138), args := #[.tmp 9], argTypes := NO (xx 12)[0]? }) := by kernel_rfl
theorem VL : ((xx 10)[0]?.map fun o => (o.dst, o.guard)) = some (some 42, none) := by kernel_rfl
theorem VM : ((xx 10)[0]?.map fun o => o.op) = some (.makeFunc (.func 136) #[] #[.tmp 9, .tmp 3, .tmp 11, .tmp 7, .tmp 10]) := by kernel_rfl
theorem VN : ((xx 10)[1]?.map fun o => (o.dst, o.guard)) = some (none, none) := by kernel_rfl
theorem VO : ((xx 10)[1]?.map fun o => o.op) = some (.go { callee := .value (.tmp 42), args := #[], argTypes := NO (xx 10)[1]? }) := by kernel_rfl
theorem Ip {P : Program} {b : Frame} {a : Act} {k : List Item} {cs : List Frame} {ops : Array Oper} {i : Nat} {rest : List Nat} {o : Oper} {f : FuncId} {fn : Func} {c : Code} {args : Array Operand} {ats : Array TypeId}
  (ho : ops[i]? = some o) (hw : Region.wanted o (yielded ops a.tmps) = true) (hk : b.kind ≠ .early) (hop : o.op = .call { callee := .value (.func f), args, argTypes := ats })
  (hf : P.funcs[f]? = some fn) (hname : (fn.name == "runtime.NumGoroutine") = false) (hb : fn.body = some c) (main : Bool) (w : World) :
  stepG P main (gor (b.at a (.inRegion ops (i :: rest) :: k)) cs) w = .go (gor ((base f).at { tmps := args.map a.eval ++ Array.replicate (fn.ntmps - (args.map a.eval).size) undef, defers := [] } [.code c]) (b.at a (.inRegion ops (i :: rest) :: k) :: cs)) w #[] :=
 Lv (goes_call ho hw hk hop hf hname hb ⟨rfl, rfl, rfl⟩)
theorem Vv (L : WgLink) : (addFn L).body = some (body_add L) := rfl
theorem UA (L : WgLink) : (waitFn L).body = some (body_wait L) := rfl
theorem Vw (L : WgLink) (x y : Value) : #[x, y] ++ Array.replicate ((addFn L).ntmps - (#[x, y] : Array Value).size) undef = #[x, y, undef, undef, undef, undef, undef, undef, undef, undef, undef, undef, undef, undef, undef, undef, undef, undef, undef, undef, undef, undef, undef, undef, undef, undef, undef, undef, undef, undef, undef, undef, undef, undef, undef, undef, undef, undef, undef, undef, undef, undef, undef, undef, undef, undef, undef, undef, undef, undef, undef, undef, undef, undef, undef, undef, undef, undef, undef, undef, undef, undef, undef, undef, undef, undef, undef, undef, undef, undef, undef, undef, undef, undef, undef, undef, undef, undef, undef, undef, undef, undef, undef, undef, undef, undef, undef, undef, undef, undef, undef, undef, undef, undef, undef, undef, undef, undef, undef, undef, undef, undef, undef, undef, undef, undef, undef, undef, undef, undef, undef, undef, undef, undef, undef, undef, undef] := by kernel_rfl
theorem UB (L : WgLink) (x : Value) : #[x] ++ Array.replicate ((waitFn L).ntmps - (#[x] : Array Value).size) undef = #[x, undef, undef, undef, undef, undef, undef, undef, undef, undef, undef, undef, undef, undef, undef, undef, undef, undef, undef, undef, undef, undef, undef, undef, undef, undef, undef, undef, undef, undef, undef, undef, undef, undef, undef, undef, undef, undef, undef, undef, undef, undef, undef, undef, undef, undef, undef, undef, undef, undef, undef, undef, undef, undef, undef, undef, undef, undef, undef, undef, undef, undef, undef, undef, undef, undef, undef, undef, undef, undef, undef, undef, undef, undef, undef, undef, undef, undef, undef, undef, undef, undef, undef, undef] := by kernel_rfl
section
variable {Φ : Ph} {b : Frame} {k : List Item} {cs : List Frame}
theorem VP (hty : Φ.ty = Tryz.link.tWg) (hCW : Φ.C ≠ Φ.Wg) (hk : b.kind ≠ .early) {a : Act} (h9 : a.tmps.getD 9 undef = .pointer (some ⟨Φ.Wg, 0, none⟩)) {Nx : Frame → List Frame → Prop}
  (hN : Nx (b.at (a.put (some 41) (.tuple #[])) (.inRegion (xx 9) [] :: k)) cs) : wZ Tryz.prog Φ Nx (b.at a (.inRegion (xx 9) [0] :: k)) cs := by
 obtain ⟨o, d1, d2, d3, d4⟩ := Kb (p := fun _ => true) c9a c9b
 by_cases hJ : ∃ w, Φ.J w
 ·obtain ⟨w, hw⟩ := hJ
  refine wZ.step (fun w => Ip d1 (by simp [Region.wanted, d3]) hk d4 Tryz.Ig.f_add (nm_add Tryz.link) (Vv Tryz.link) true w) ⟨100, ?_⟩
  have e : (#[Operand.tmp 9, .const (.int .i64 1)].map a.eval) = #[.pointer (some ⟨Φ.Wg, 0, none⟩), .int .i64 1] := by simp [Act.eval, h9]
  rw [e, Vw]
  have W := @Tl _ Tryz.prog Tryz.link Φ cs b a (xx 9) 0 [] k Tryz.Ig hCW Nx (by rw [d1]; simp only [Option.bind_some, d2]; exact hN) w hw
  exact Sil.of (w := w) W
 ·exact ⟨0, fun w w₁ h => absurd ⟨w₁, h⟩ hJ⟩
theorem UC (hty : Φ.ty = Tryz.link.tWg) (hCW : Φ.C ≠ Φ.Wg) (hk : b.kind ≠ .early) {a : Act} (h9 : a.tmps.getD 9 undef = .pointer (some ⟨Φ.Wg, 0, none⟩)) :
  kg Tryz.prog Φ (Lt Tryz.prog (b.at (a.put (some 44) (.tuple #[])) (.inRegion (xx 12) [] :: k)) cs) (b.at a (.inRegion (xx 12) [0] :: k)) cs := by
 obtain ⟨o, d1, d2, d3, d4⟩ := Kb (p := fun _ => true) VJ VK
 by_cases hJ : ∃ w, Φ.J w
 ·obtain ⟨w, hw⟩ := hJ
  refine kg.step (fun w => Ip d1 (by simp [Region.wanted, d3]) hk d4 Tryz.Ig.f_wait (nm_wait Tryz.link) (UA Tryz.link) true w) ?_
  have e : (#[Operand.tmp 9].map a.eval) = #[.pointer (some ⟨Φ.Wg, 0, none⟩)] := by simp [Act.eval, h9]
  rw [e, UB]
  have W := @Rs _ Tryz.prog Tryz.link Φ cs b a (xx 12) 0 [] k Tryz.Ig hCW w hw
  rw [d1] at W
  simp only [Option.bind_some, d2] at W
  exact W
 ·exact ⟨fun _ => True, fun g _ => ⟨0, fun w w₁ h => absurd ⟨w₁, h⟩ hJ⟩, 0, fun w w₁ h => absurd ⟨w₁, h⟩ hJ⟩
end
end Go.Proofs.YteaonnfokkfnlaaGreatDoor
end
section
namespace Go.Proofs.YteaonnfokkfnlaaGreatDoor
open Go Go.Eng Go.Conc Go.RowKit Go.Conc.Lib Go.ConcR.Gen
open Go.ConcR (KK wgBlock WgAt stA smA rd wr DC0 Payload)
section
variable {S : Shared} {Φ : Ph} {b : Frame} {k : List Item} {cs : List Frame}
theorem Tq {i fb pb sb ib : Nat} (hk : b.kind ≠ .early) {a : Act} (h42 : a.tmps.getD 42 undef = .func (.func 136) #[] (kH Φ.Wg fb pb sb ib)) {Nx : Frame → List Frame → Eng.Heap → Prop} {hh h1 hc : Eng.Heap}
  (s1 : Eng.Sub h1 hh) (sc : Eng.Sub hc hh) (hap : ∀ x, ¬ Φ.S x → hc x ≠ none → h1 x = none) (hro : ∀ x, Φ.S x → h1 x = hh x) (hW : Works Tryz.prog Φ i (JY (D8 Φ.Wg fb pb sb ib)) [] hc)
  (hN : Nx (b.at a (.inRegion (xx 10) [] :: k)) cs h1) : B0 Tryz.prog Φ i Nx (b.at a (.inRegion (xx 10) [1] :: k)) cs hh := by
 obtain ⟨o, d1, d2, d3, d4⟩ := Kb (p := fun _ => true) VN VO
 refine ⟨h1, hc, s1, sc, hap, hro, fun w hw hJ => ⟨_, _, _, _, ?_, hW, hN⟩⟩
 have hr : (execOp a.eval o).run Tryz.prog w = .ok (.spawn (D8 Φ.Wg fb pb sb ib)) w := by
  unfold execOp
  simp only [d4, resolve, Deferred.ofValue, Act.eval, h42]
  simp [D8, kH, go_sem]
 have he : (execOp a.eval o).events Tryz.prog w #[] = #[] := by
  unfold execOp
  simp only [d4, resolve, Deferred.ofValue, Act.eval, h42]
  simp [kH, go_sem]
 have st := stepG_spawn (P := Tryz.prog) (main := true) (b := b) (a := a) (k := k) (cs := cs) (w := w) (rest := []) d1 (by simp [Region.wanted, d3]) hk hr rfl
 unfold listed at st
 rw [he, seen_none, d2] at st
 exact st
theorem UD (hk : b.kind ≠ .early) {a : Act} {fb pb sb ib wg : Nat} {rest : List Nat} {Post : Frame → List Frame → Eng.Heap → Prop} {h : Eng.Heap}
  (h9 : a.tmps.getD 9 undef = .pointer (some ⟨wg, 0, none⟩)) (h3 : a.tmps.getD 3 undef = .pointer (some ⟨fb, 0, none⟩)) (h11 : a.tmps.getD 11 undef = .pointer (some ⟨pb, 0, none⟩)) (h7 : a.tmps.getD 7 undef = .pointer (some ⟨sb, 0, none⟩)) (h10 : a.tmps.getD 10 undef = .pointer (some ⟨ib, 0, none⟩))
  (K : Eng.Safe Tryz.prog S Post (b.at (a.put (some 42) (.func (.func 136) #[] (kH wg fb pb sb ib))) (.inRegion (xx 10) rest :: k)) cs h) : Eng.Safe Tryz.prog S Post (b.at a (.inRegion (xx 10) (0 :: rest) :: k)) cs h := by
 obtain ⟨o, d1, d2, d3, d4⟩ := Kb (p := fun _ => true) VL VM
 refine jx (.func (.func 136) #[] (kH wg fb pb sb ib)) d1 (by simp [Region.wanted, d3]) hk (fun w => ?_) (fun w => ?_) (by rw [d2]; exact K)
 ·unfold execOp
  simp [d4, Act.eval, h9, h3, h11, h7, h10, kH, go_sem]
 ·unfold execOp
  simp [d4, Act.eval, h9, h3, h11, h7, h10, go_sem]
theorem go5 {h : Eng.Heap} {x : Option Addr} {l c fb sb bS wg n j : Nat} {a : Act} {c0 : Code} (A : AtL a (.slice x l c) fb sb bS wg n j) (hi : Inv S h) :
  Eng.Safe Tryz.prog S (Eng.Reach S b 47 (.code c0 :: k) cs [0, 3, 7, 8, 9, 22, 23, 24] (fun f h' => RS h (.slice x l c) fb sb bS wg n j f h' ∧ f 24 = .bool (decide ((j : Int) < n)))) (b.at a (.code (.seq (rP 5) c0) :: k)) cs h := by
 refine Ei (rs := [rP 5]) (ps := NN) D9 DC s5 A.FZ A.sz A.df hi ?_
 simp only [t5, Tr.wp]
 exact jz.intro RG rfl rfl rfl rfl ⟨⟨rfl, rfl, rfl, rfl, rfl, rfl, rfl, rfl⟩, by simp only [got, RG, RJ, Ex.ev, coerce, toInt_int, z6, List.getD_cons_zero, List.getD_cons_succ, List.getElem?_cons_zero, List.getElem?_cons_succ]⟩
theorem VQ {h : Eng.Heap} {x : Option Addr} {l c fb sb bS wg n j : Nat} {a : Act} (A : AtL a (.slice x l c) fb sb bS wg n j) (hi : Inv S h) (hj : j < 2 ^ 40) :
  Eng.Safe Tryz.prog S (Eng.Reach S b 47 k cs [0, 3, 7, 8, 9, 22, 23] (RS h (.slice x l c) fb sb bS wg n (j + 1))) (b.at a (.code (rP 11) :: k)) cs h := by
 refine Uw (ps := NN) D9 DC s11 A.FZ A.sz A.df hi ?_
 simp only [t11, Tr.wp]
 have w2 : IntKind.i64.wrap ((j : Int) + 1) = ((j + 1 : Nat) : Int) := by rw [IntKind.wrap_i64]; omega
 exact jz.intro NK rfl rfl rfl rfl ⟨rfl, rfl, rfl, rfl, rfl, rfl, by simp only [got, NK, RJ, Ex.ev, coerce, toInt_int, arith, Cst.val, List.getD_cons_zero, List.getD_cons_succ, List.getElem?_cons_zero, List.getElem?_cons_succ, w2], rfl⟩
theorem AtL.reach {x : Value} {fb sb bS wg n j : Nat} {a : Act} {f : Nat → Value} {h h' : Eng.Heap} {is : List Nat} (hs : a.tmps.size = 47) (hd : a.defers = []) (hf : ∀ i ∈ is, a.tmps.getD i undef = f i)
  (hi : [0, 3, 7, 8, 9, 22, 23].all (fun i => is.contains i) = true) (R : RS h x fb sb bS wg n j f h') : AtL a x fb sb bS wg n j := by
 obtain ⟨r0, r3, r7, r8, r9, r22, r23, _⟩ := R
 have g : ∀ i, i ∈ ([0, 3, 7, 8, 9, 22, 23] : List Nat) → a.tmps.getD i undef = f i := fun i h => hf i (by simpa using List.all_eq_true.1 hi i h)
 exact ⟨hs, hd, (g 0 (by simp)).trans r0, (g 3 (by simp)).trans r3, (g 7 (by simp)).trans r7, (g 8 (by simp)).trans r8, (g 9 (by simp)).trans r9, (g 22 (by simp)).trans r22, (g 23 (by simp)).trans r23⟩
end
end Go.Proofs.YteaonnfokkfnlaaGreatDoor
end
section
namespace Go.Proofs.YteaonnfokkfnlaaGreatDoor
open Go Go.Eng Go.Conc Go.RowKit Go.Conc.Lib Go.ConcR.Gen
open Go.ConcR (KK wgBlock WgAt stA smA rd wr DC0 Payload)
section
variable {Φ : Ph} {b : Frame} {cs : List Frame}
theorem RL {h h' : Eng.Heap} {k : IntKind} {a : Option Addr} {xs : List Int} (H : zn h k a xs) (s : Eng.Sub h h') : zn h' k a xs := fun i x hx => by
 obtain ⟨ad, h1, h2⟩ := H i x hx
 refine ⟨ad, h1, ?_⟩
 unfold ze at h2 ⊢
 cases e : h (ad.add i).block with
 | none => rw [e] at h2; cases h2
 | some o => rw [e] at h2; rw [s _ _ e]; exact h2
theorem UE {H h0 : Eng.Heap} {n : Nat} (hty : Φ.ty = Tryz.link.tWg) (hCW : Φ.C ≠ Φ.Wg) (hnb : ∀ fr cs h Q, ¬ Φ.S.big fr cs h Q) (hΦn : Φ.n = n) {x : Option Addr} {c : Nat} {xs : List Int} (hx : zn h0 .u8 x xs) (hc : xs.length ≤ c)
  (hl : xs.length < 2 ^ 40) (hn : n = (xs.length + 32767) / 32768) {fb sb bS : Nat} {g : FuncId} {F : List Int → Int} (hSd : ∀ y, Φ.S y → H y ≠ none) (h0S : ∀ y o, h0 y = some o → Φ.S y ∧ H y = some o) (hSb : ¬ Φ.S bS)
  (hfS : Φ.S fb) (hsS : Φ.S sb) (hfb : H fb = some (.cells #[.func (.func g) #[] #[]] 134)) (hsb : H sb = some (.cells #[.slice (some ⟨Φ.C, 0, none⟩) n n] 131))
  (hval : ∀ i, i < n → Φ.val i = .int .u32 (F (partOf xs i)))
  (hsum : ∀ (h' : Eng.Heap) (a' : Option Addr) (c' : Nat) (ys : List Int), Inv Φ.S h' → zn h' .u8 a' ys → ys.length ≤ 32768 → (∀ y ∈ ys, y ∈ xs) → za Tryz.prog Φ.S g #[.slice a' ys.length c'] h' (fun v h'' => v = .int .u32 (F ys) ∧ Eng.Sub h' h''))
  (hk : b.kind ≠ .early) {Q : Frame → List Frame → Eng.Heap → Prop}
  (hQ : ∀ a hh, AtL a (.slice x xs.length c) fb sb bS Φ.Wg n n → (∀ y, Φ.S y → hh y = H y) → hh bS = some (.cells (szv n xs.length n) 2) →
   ∀ fr' cs', Lt Tryz.prog (b.at (a.put (some 44) (.tuple #[])) [.inRegion (xx 12) [], .code (rP 13)]) cs fr' cs' → Q fr' cs' hh) :
  ∀ r j, j + r = n → ∀ a hh, AtL a (.slice x xs.length c) fb sb bS Φ.Wg n j → (∀ y, Φ.S y → hh y = H y) → hh bS = some (.cells (szv n xs.length j) 2) →
   Sp Tryz.prog Φ Q r (b.at a [.code Ka, .inLoop Ka, .inBlock 0, .code (.seq (rP 12) (rP 13))]) cs hh := by
 have inv : ∀ {hh : Eng.Heap}, (∀ y, Φ.S y → hh y = H y) → Inv Φ.S hh := fun hro y hy => by rw [hro y hy]; exact hSd y hy
 have agr : ∀ {h' H' : Eng.Heap}, Eng.Sub h' H' → Inv Φ.S h' → ∀ y, Φ.S y → H' y = h' y := by
  intro h' H' s hi y hy
  cases e : h' y with
  | none => exact absurd e (hi y hy)
  | some o => exact s y o e
 intro r
 induction r with
 | zero =>
  intro j hj a hh A hro hbS
  have hjn : j = n := by omega
  subst hjn
  unfold Sp
  refine (go5 (c0 := _) A (inv hro)).bind ?_
  rintro _ _ H' ⟨rfl, a', f, h', rfl, hsz, hdf, hf, ⟨R, f24⟩, hsub, hinv⟩
  have A' := AtL.reach hsz hdf hf rfl R
  obtain ⟨_, _, _, _, _, _, _, rfl⟩ := R
  have e24 : a'.eval (.tmp 24) = .bool false := by
   show a'.tmps.getD 24 undef = _
   rw [hf 24 (by simp), f24]; simp
  refine .seq (.cond (t := false) e24 ?_)
  simp only [Bool.false_eq_true, if_false]
  refine .exit (k' := [.code (.seq (rP 12) (rP 13))]) (by simp [exitTo]) (.seq ?_)
  rw [VI]
  refine .region ?_
  rw [U9]
  have hro' : ∀ y, Φ.S y → H' y = H y := fun y hy => (agr hsub hinv y hy).trans (hro y hy)
  refine .done (kg.mono (fun fr' cs' hB => ?_) (UC hty hCW hk A'.s9))
  exact hQ a' H' A' hro' (hsub _ _ hbS) fr' cs' hB
 | succ r ih =>
  intro j hj a hh A hro hbS
  have hjn : j < n := by omega
  unfold Sp
  refine (go5 (c0 := _) A (inv hro)).bind ?_
  rintro _ _ H1 ⟨rfl, a1, f1, h1, rfl, hsz1, hdf1, hf1, ⟨R1, f24⟩, hsub1, hinv1⟩
  have A1 := AtL.reach hsz1 hdf1 hf1 rfl R1
  obtain ⟨_, _, _, _, _, _, _, rfl⟩ := R1
  have e24 : a1.eval (.tmp 24) = .bool true := by
   show a1.tmps.getD 24 undef = _
   rw [hf1 24 (by simp), f24]
   simp only [Value.bool.injEq, decide_eq_true_eq]
   omega
  have hro1 : ∀ y, Φ.S y → H1 y = H y := fun y hy => (agr hsub1 hinv1 y hy).trans (hro y hy)
  have hbS1 := hsub1 _ _ hbS
  refine .seq (.cond (t := true) e24 ?_)
  simp only [if_true]
  refine .skip (.seq (.block ?_))
  refine (Ei (rs := [rP 6, rP 7, rP 8]) (ps := NN) D9 DC sBk A1.FZ A1.sz A1.df (inv hro1) (wpB (S := Φ.S) (h := H1) (h0 := h0) (n := n) (j := j) (fb := fb) (sb := sb) (wg := Φ.Wg) hx hc hl (inv hro1) hn hjn hSb hbS1)).bind ?_
  rintro _ _ H2 ⟨rfl, a2, f2, h2, rfl, hsz2, hdf2, hf2, ⟨ib, pb, xa, xc, r0, r3, r7, r8, r9, r10, r11, r22, r23, nib, npb, hne, hpi, cib, cpb, cbS, crest⟩, hsub2, hinv2⟩
  have A2 : AtL a2 (.slice x xs.length c) fb sb bS Φ.Wg n j := ⟨hsz2, hdf2, (hf2 0 (by simp)).trans r0, (hf2 3 (by simp)).trans r3, (hf2 7 (by simp)).trans r7, (hf2 8 (by simp)).trans r8, (hf2 9 (by simp)).trans r9, (hf2 22 (by simp)).trans r22, (hf2 23 (by simp)).trans r23⟩
  have t10 := (hf2 10 (by simp)).trans r10
  have t11 := (hf2 11 (by simp)).trans r11
  have sne : ∀ y, Φ.S y → y ≠ ib ∧ y ≠ pb ∧ y ≠ bS := fun y hy =>
   ⟨fun e => by subst e; exact inv hro1 y hy nib, fun e => by subst e; exact inv hro1 y hy npb, fun e => by subst e; exact hSb hy⟩
  have hro2 : ∀ y, Φ.S y → H2 y = H y := fun y hy => by
   obtain ⟨e1, e2, e3⟩ := sne y hy
   rw [agr hsub2 hinv2 y hy, crest y e1 e2 e3, hro1 y hy]
  have hib2 := hsub2 _ _ cib
  have hpb2 := hsub2 _ _ cpb
  have hbS2 := hsub2 _ _ cbS
  have bne : bS ≠ ib ∧ bS ≠ pb := ⟨fun e => (by rw [e, nib] at hbS1; cases hbS1), fun e => (by rw [e, npb] at hbS1; cases hbS1)⟩
  refine .seq ?_
  rw [rP9]
  refine .region ?_
  rw [Vu]
  refine .done (VP hty hCW hk A2.s9 ?_)
  have A3 := A2.put 41 (.tuple #[]) (.inl rfl)
  have hs2 : 41 < a2.tmps.size := by rw [hsz2]; omega
  have g3 : ∀ i, i ≠ 41 → (a2.put (some 41) (.tuple #[])).tmps.getD i undef = a2.tmps.getD i undef := fun i hi => by rw [GX _ _ _ _ hs2, if_neg hi]
  have u10 := (g3 10 (by omega)).trans t10
  have u11 := (g3 11 (by omega)).trans t11
  generalize a2.put (some 41) (.tuple #[]) = a3 at A3 u10 u11
  refine .A8 ?_
  rw [VH]
  refine .region ?_
  rw [U8]
  refine UD hk A3.s9 A3.s3 u11 A3.s7 u10 (.done ?_)
  have A4 := A3.put 42 (.func (.func 136) #[] (kH Φ.Wg fb pb sb ib)) (.inr (.inl rfl))
  have h42 : (a3.put (some 42) (.func (.func 136) #[] (kH Φ.Wg fb pb sb ib))).tmps.getD 42 undef = .func (.func 136) #[] (kH Φ.Wg fb pb sb ib) := by
   rw [GX _ _ _ _ (by rw [A3.sz]; omega), if_pos rfl]
  generalize a3.put (some 42) (.func (.func 136) #[] (kH Φ.Wg fb pb sb ib)) = a4 at A4 h42
  have ej : Φ.n - (r + 1) = j := by rw [hΦn]; omega
  rw [ej]
  classical
  let hcw : Eng.Heap := fun y => if Φ.S y ∨ y = ib ∨ y = pb then H2 y else none
  let hm : Eng.Heap := fun y => if y = ib ∨ y = pb then none else H2 y
  have hcS : ∀ y, Φ.S y → hcw y = H y := fun y hy => by show (if _ then _ else _) = _; rw [if_pos (.inl hy)]; exact hro2 y hy
  have sub0 : Eng.Sub h0 hcw := fun y o ho => by
   obtain ⟨e1, e2⟩ := h0S y o ho
   rw [hcS y e1]; exact e2
  have c1 : ∀ {y : Nat} {v : Value} {T : TypeId}, hcw y = some (.cells #[v] T) → ze hcw ⟨y, 0, none⟩ = some v := fun e => by simp [ze, e]
  refine Tq (ib := ib) (pb := pb) (fb := fb) (sb := sb) (h1 := hm) (hc := hcw) hk h42 (fun y o ho => ?_) (fun y o ho => ?_) (fun y hS hy => ?_) (fun y hy => ?_) ?_ ?_
  ·simp only [hm] at ho
   split at ho
   ·cases ho
   ·exact ho
  ·simp only [hcw] at ho
   split at ho
   ·exact ho
   ·cases ho
  ·simp only [hcw] at hy
   split at hy
   ·rename_i hor
    show (if _ then _ else _) = _
    rw [if_pos (hor.resolve_left hS)]
   ·exact absurd rfl hy
  ·show (if _ then _ else _) = _
   obtain ⟨e1, e2, _⟩ := sne y hy
   rw [if_neg (by simp [e1, e2])]
  ·refine Vt hnb hty hCW (by rw [hΦn]; exact hjn) (hval j hjn) (fun y hy => ?_) (c1 ((hcS fb hfS).trans hfb)) (c1 (T := 22) ?_) ?_ (c1 (T := 3) ?_) (hsum hcw xa xc _ (fun y hy => ?_) (RL hpi sub0) (by rw [qK]; unfold kO; omega) (fun y hy => List.mem_of_mem_drop (List.mem_of_mem_take (by unfold partOf at hy; exact hy))))
   ·rw [hcS y hy]; exact hSd y hy
   ·show (if _ then _ else _) = _
    rw [if_pos (.inr (.inr rfl))]; exact hpb2
   ·rw [hΦn]; exact c1 ((hcS sb hsS).trans hsb)
   ·show (if _ then _ else _) = _
    rw [if_pos (.inr (.inl rfl))]; exact hib2
   ·rw [hcS y hy]; exact hSd y hy
  ·refine Sp.pre (.A8 (.inBlock ?_))
   have hrom : ∀ y, Φ.S y → hm y = H y := fun y hy => by
    obtain ⟨e1, e2, _⟩ := sne y hy
    show (if _ then _ else _) = _
    rw [if_neg (by simp [e1, e2])]; exact hro2 y hy
   have hbm : hm bS = some (.cells (szv n xs.length (j + 1)) 2) := by
    show (if _ then _ else _) = _
    rw [if_neg (by simp [bne.1, bne.2])]; exact hbS2
   refine (VQ A4 (inv hrom) (by omega)).bind ?_
   rintro _ _ H5 ⟨rfl, a5, f5, h5, rfl, hsz5, hdf5, hf5, R5, hsub5, hinv5⟩
   have A5 := AtL.reach hsz5 hdf5 hf5 rfl R5
   obtain ⟨_, _, _, _, _, _, _, rfl⟩ := R5
   refine .inLoop (.done ?_)
   exact ih (j + 1) (by omega) a5 H5 A5 (fun y hy => (agr hsub5 hinv5 y hy).trans (hrom y hy)) (hsub5 _ _ hbm)
end
end Go.Proofs.YteaonnfokkfnlaaGreatDoor
end
section
namespace Go.Proofs.YteaonnfokkfnlaaGreatDoor
open Go Go.Eng Go.Conc Go.RowKit Go.Conc.Lib Go.ConcR.Gen
open Go.ConcR (KK wgBlock WgAt stA smA rd wr DC0 Payload)
theorem NP : Tryz.f97.body = some JZ := by kernel_rfl
theorem UF : Tryz.f97.ntmps = 47 := by kernel_rfl
theorem VR : Tryz.f97.results.toList = cP.results := by kernel_rfl
def NQ (F : List Int → Int) (xs : List Int) (n : Nat) : Array Value := ((List.range n).map fun i => Value.int .u32 (F (partOf xs i))).toArray
theorem VS (v0 v1 : Value) (m : Nat) : (#[v0, v1] ++ Array.replicate m undef).getD 0 undef = v0 := by
 rw [Array.getD_eq_getD_getElem?, Array.getElem?_append_left (by simp)]; rfl
theorem VT (v0 v1 : Value) (m : Nat) : (#[v0, v1] ++ Array.replicate m undef).getD 1 undef = v1 := by
 rw [Array.getD_eq_getD_getElem?, Array.getElem?_append_left (by simp)]; rfl
def phP (H : Eng.Heap) (wg bC bS n : Nat) (F : List Int → Int) (xs : List Int) : Ph :=
 { ty := 184, Wg := wg, C := bC, ety := 53, n := n, S := ⟨fun y => H y ≠ none ∧ y ≠ wg ∧ y ≠ bC ∧ y ≠ bS, fun _ _ _ _ => False⟩, val := fun i => .int .u32 (F (partOf xs i)) }
theorem IZ {s : Nat → Prop} {h : Eng.Heap} (hi : Inv (jw Tryz.prog s) h) {x : Option Addr} {c : Nat} {xs : List Int} (hx : zn h .u8 x xs) (hc : xs.length ≤ c) (hl : xs.length < 2 ^ 40) {g : FuncId} {F : List Int → Int}
  (hsum : ∀ (S' : Shared) (h' : Eng.Heap) (a' : Option Addr) (c' : Nat) (ys : List Int), Inv S' h' → zn h' .u8 a' ys → ys.length ≤ 32768 → (∀ y ∈ ys, y ∈ xs) → za Tryz.prog S' g #[.slice a' ys.length c'] h' (fun v h'' => v = .int .u32 (F ys) ∧ Eng.Sub h' h'')) {n : Nat} (hn : n = (xs.length + 32767) / 32768) :
  za Tryz.prog (jw Tryz.prog s) yG #[.slice x xs.length c, .func (.func g) #[] #[]] h (fun v h' => ∃ bC bS, v = .tuple #[.slice (some ⟨bC, 0, none⟩) n n, .slice (some ⟨bS, 0, none⟩) n n] ∧
   h' bC = some (.cells (NQ F xs n) 53) ∧ h' bS = some (.cells (szv n xs.length n) 2) ∧ Eng.Sub h h') := by
 refine .inl ⟨fun vs w => Ow Tryz.func97 (by kernel_rfl) (by kernel_rfl) vs w, fun cs => ?_⟩
 have hent : Frame.enter Tryz.prog yG #[.slice x xs.length c, .func (.func g) #[] #[]] .normal = (Frame.enter Tryz.prog yG #[.slice x xs.length c, .func (.func g) #[] #[]] .normal).at
   { tmps := #[.slice x xs.length c, .func (.func g) #[] #[]] ++ Array.replicate (Tryz.f97.ntmps - (#[.slice x xs.length c, .func (.func g) #[] #[]] : Array Value).size) undef, defers := [] } [.code JZ] := by
  simp [Frame.enter, Frame.at, yG, Tryz.func97, NP]
 have zk : (Frame.enter Tryz.prog yG #[.slice x xs.length c, .func (.func g) #[] #[]] .normal).kind = .normal := rfl
 have hfn : (Frame.enter Tryz.prog yG #[.slice x xs.length c, .func (.func g) #[] #[]] .normal).fn = yG := rfl
 rw [hent]
 generalize Frame.enter Tryz.prog yG #[.slice x xs.length c, .func (.func g) #[] #[]] .normal = b at zk hfn
 rw [Rx, UF]
 refine (Ei (rs := [rP 0, rP 1, rP 2, rP 3]) (ps := [(0, .slice), (1, .fnv)]) (env := [.slice x xs.length c, .func (.func g) #[] #[]]) D9 DC sA ⟨VS _ _ _, rfl, VT _ _ _, rfl, trivial⟩ (by simp) rfl hi (wpA rfl hi hl hn)).bind ?_
 rintro _ cs H ⟨rfl, a, f, h', rfl, hsz, hdf, hf, ⟨fb, bC, bS, sb, wg, r0, r3, r6, r7, r8, r9, hnd, hnone, hsubh, cfb, cbC, cbS, csb, cwg⟩, hsub, hinv⟩
 have sH : Eng.Sub h H := fun y o ho => hsub y o (hsubh y o ho)
 have iH : Inv (jw Tryz.prog s) H := fun y hy => by
  cases e : h y with
  | none => exact absurd e (hi y hy)
  | some o => rw [sH y o e]; simp
 replace cfb := hsub _ _ cfb
 replace cbC := hsub _ _ cbC
 replace cbS := hsub _ _ cbS
 replace csb := hsub _ _ csb
 replace cwg := hsub _ _ cwg
 simp only [List.nodup_cons, List.mem_cons, List.not_mem_nil, or_false, not_or, not_false_eq_true, List.nodup_nil, and_true] at hnd
 have hne : ∀ y, h y ≠ none → y ≠ wg ∧ y ≠ bC ∧ y ≠ bS := fun y hy => ⟨fun e => hy (hnone y (by simp [e])), fun e => hy (hnone y (by simp [e])), fun e => hy (hnone y (by simp [e]))⟩
 have q : ∀ i, i ∈ ([0, 3, 6, 7, 8, 9] : List Nat) → a.tmps.getD i undef = f i := hf
 refine .seq ?_
 refine (Ei (rs := [rP 4]) (ps := [(0, .slice), (3, .addr), (7, .addr), (8, .slice), (9, .addr), (6, .int .i64)])
  (env := [.slice x xs.length c, .pointer (some ⟨fb, 0, none⟩), .pointer (some ⟨sb, 0, none⟩), .slice (some ⟨bS, 0, none⟩) n n, .pointer (some ⟨wg, 0, none⟩), .int .i64 n]) (is := [0, 3, 7, 8, 9, 22, 23]) (R := RS H (.slice x xs.length c) fb sb bS wg n 0) (c := .block 0 (.loop Ka)) D9 DC s4
  ⟨(q 0 (by simp)).trans r0, rfl, (q 3 (by simp)).trans r3, rfl, (q 7 (by simp)).trans r7, rfl, (q 8 (by simp)).trans r8, rfl, (q 9 (by simp)).trans r9, rfl, (q 6 (by simp)).trans r6, rfl, trivial⟩ hsz hdf iH (by
   simp only [t4, Tr.wp]
   exact jz.intro U7 rfl rfl rfl rfl ⟨rfl, rfl, rfl, rfl, rfl, rfl, rfl, rfl⟩)).bind ?_
 rintro _ cs H' ⟨rfl, a1, f1, h1, rfl, hsz1, hdf1, hf1, R1, hsub1, hinv1⟩
 have A1 := AtL.reach hsz1 hdf1 hf1 rfl R1
 obtain ⟨_, _, _, _, _, _, _, rfl⟩ := R1
 replace cfb := hsub1 _ _ cfb
 replace cbC := hsub1 _ _ cbC
 replace cbS := hsub1 _ _ cbS
 replace csb := hsub1 _ _ csb
 replace cwg := hsub1 _ _ cwg
 replace sH : Eng.Sub h H' := fun y o ho => hsub1 y o (sH y o ho)
 clear iH hinv1 hsub1 hsub hf q hinv hsubh
 refine .block (.loop ?_)
 have hk : b.kind ≠ .early := by rw [zk]; decide
 let Φ := phP H' wg bC bS n F xs
 have hS : ∀ y, Φ.S y ↔ (H' y ≠ none ∧ y ≠ wg ∧ y ≠ bC ∧ y ≠ bS) := fun y => Iff.rfl
 have rest_eq : ∀ y, Φ.S y → Φ.rest H' y = H' y := fun y hy => by
  unfold Ph.rest
  rw [if_neg]
  rintro (e | e)
  ·exact hy.2.1 e
  ·exact hy.2.2.1 e
 refine .big H' (fun _ => none) (fun fr' cs' h'' => ∃ a2, AtL a2 (.slice x xs.length c) fb sb bS wg n n ∧ Lt Tryz.prog (b.at (a2.put (some 44) (.tuple #[])) [.inRegion (xx 12) [], .code (rP 13)]) cs fr' cs' ∧
   h'' bC = some (.cells (NQ F xs n) 53) ∧ h'' bS = some (.cells (szv n xs.length n) 2) ∧ ∀ y, Φ.S y → h'' y = H' y) (xr _).symm (fun y hy => absurd rfl hy) ?_ ?_
 ·refine ⟨Φ, yi n #[.int .u32 0], ⟨fun _ _ _ _ h => h, ?_, ?_, cwg, cbC, by simp [yi, Φ, phP], fun y hy => ?_, fun y hy => ?_⟩, ?_⟩
  ·show n < _
   omega
  ·show bC ≠ wg
   omega
  ·have e1 := hi y hy
   refine ⟨?_, hne y e1⟩
   cases e : h y with
   | none => exact absurd e e1
   | some o => rw [sH y o e]; simp
  ·rw [rest_eq y hy]; exact hy.1
  ·refine UE (Φ := Φ) (H := H') (h0 := h) (n := n) (g := g) (F := F) rfl (show bC ≠ wg by omega) (fun _ _ _ _ h => h) rfl hx hc hl hn (fun y hy => hy.1) (fun y o ho => ⟨⟨by rw [sH y o ho]; simp, hne y (by rw [ho]; simp)⟩, sH y o ho⟩)
    (fun hy => hy.2.2.2 rfl) ⟨by rw [cfb]; simp, by omega, by omega, by omega⟩ ⟨by rw [csb]; simp, by omega, by omega, by omega⟩ cfb csb (fun i _ => rfl) (fun h' a' c' ys => hsum Φ.S h' a' c' ys) hk ?_ n 0 (by omega) a1 _ A1 rest_eq ?_
   ·intro a2 hh A2 hro hbS fr' cs' hB
    refine ⟨a2, A2, hB, ?_, ?_, fun y hy => ?_⟩
    ·exact yA
    ·exact (yv (show bS ≠ bC by omega)).trans hbS
    ·exact (yv hy.2.2.1).trans (hro y hy)
   ·unfold Ph.rest
    rw [if_neg (by rintro (e | e); exact absurd (show bS = wg from e) (by omega); exact absurd (show bS = bC from e) (by omega)), cbS, RI]
 ·rintro fr' cs' h2 ⟨a2, A2, hB, e1, e2, e3⟩ _ _
  rw [xr]
  refine hB _ _ _ (.A8 ?_)
  have A3 := A2.put 44 (.tuple #[]) (.inr (.inr rfl))
  have i2 : Inv (jw Tryz.prog s) h2 := fun y hy => by
   have x1 := hi y hy
   cases e : h y with
   | none => exact absurd e x1
   | some o =>
    have x2 := sH y o e
    rw [e3 y ⟨by rw [x2]; simp, hne y x1⟩, x2]; simp
  have s2 : Eng.Sub h h2 := fun y o ho => by
   have x2 := sH y o ho
   rw [e3 y ⟨by rw [x2]; simp, hne y (by rw [ho]; simp)⟩]; exact x2
  have csb2 : h2 sb = some (.cells #[.slice (some ⟨bC, 0, none⟩) n n] 131) := by
   rw [e3 sb ⟨by rw [csb]; simp, by omega, by omega, by omega⟩]; exact csb
  have ha : Ok (jw Tryz.prog s) h2 (fun _ => none) := ⟨fun b hb => absurd rfl hb, i2⟩
  rw [← xr h2]
  refine Ov (cfg := cP) (f := yG) (Λ := yV) (Ks := []) D9 DC zk hfn Tryz.func97 VR (rP 13) (CX 47 [(7, .addr), (8, .slice)]) tZ [.pointer (some ⟨sb, 0, none⟩), .slice (some ⟨bS, 0, none⟩) n n] [] _ _ h2 [] sZ CI
   (Rel.of ⟨A3.s7, rfl, A3.s8, rfl, trivial⟩ A3.sz A3.df) ha rfl ?_ ⟨?_, ?_⟩
  ·simp only [tZ, Tr.wp, Ex.ev, coerce, zi, zl, zj, zh, SV.den, z4, zu, List.getD_cons_zero, List.getD_cons_succ, List.map_cons, List.map_nil, List.cons_append, List.nil_append, and_true, if_false, Bool.false_eq_true]
   refine ⟨some ⟨bC, 0, none⟩, n, n, by simp [ze, Addr.add, csb2], bC, bS, ?_, e1, e2, s2⟩
   rfl
  ·intro _ _ _ _ _ _ _ h; exact h.elim
  ·intro _ _ _ _ _ _ _ _ h; exact h.elim
end Go.Proofs.YteaonnfokkfnlaaGreatDoor
end
section
namespace Go.Proofs.YteaonnfokkfnlaaGreatDoor
open Go Go.Eng Go.IntWalk
variable {S : Shared} {h : Eng.Heap}
theorem GY (hi : Eng.Inv S h) (p q n : Int) (hn : 0 ≤ n ∧ n ≤ 1000000) :
  za Tryz.prog S qR #[.int .u32 p, .int .u32 q, .int .i64 n] h (fun v h' => v = .int .u32 (Ib p q n) ∧ h' = h) := by
 refine Fi (vs := [.int .u32 p, .int .u32 q, .int .i64 n]) ⟨rfl, rfl, rfl, trivial⟩ hi ?_
 simp only [BV, Tr.wp, Ex.ev, coerce, toInt_int, zb, wG, z6, arith, Cst.val, SV.den, List.getD_cons_zero, List.getD_cons_succ, decide_eq_true_eq, and_true]
 refine ⟨fun c => ?_, fun _ => rfl⟩
 simp only [Bool.or_eq_true, decide_eq_true_eq] at c
 omega
theorem PY (xs : List Int) {n j : Nat} (hn : n = (xs.length + 32767) / 32768) (hj : j < n) : xs.take (min ((j + 1) * 32768) xs.length) = xs.take (min (j * 32768) xs.length) ++ partOf xs j := by
 have e1 : min (j * 32768) xs.length = j * 32768 := by omega
 have h1 : j * 32768 ≤ min ((j + 1) * 32768) xs.length := by omega
 have e2 : min ((j + 1) * 32768) xs.length = j * 32768 + kO xs.length j := (Nat.add_sub_cancel' h1).symm
 rw [e1, e2, List.take_add]
 simp only [partOf]
theorem Ts {xs : List Int} (hb : okB xs) (j : Nat) : okB (partOf xs j) := fun x hx => by
 unfold partOf at hx
 have h1 := List.mem_of_mem_take hx
 have h2 := List.mem_of_mem_drop h1
 exact hb x h2
theorem AU {s : Nat → Prop} (hi : Eng.Inv (jw Tryz.prog s) h) (c0 : Int) (hc0 : 0 ≤ c0 ∧ c0 < 4294967296) (a : Option Addr) (c : Nat) (xs : List Int) (hb : okB xs) (hx : zn h .u8 a xs) (hc : xs.length ≤ c) (hl : xs.length < 2 ^ 40) :
  za Tryz.prog (jw Tryz.prog s) j9 #[.int .u32 c0, .slice a xs.length c] h (fun v h' => v = .int .u32 (yF c0 xs) ∧ Eng.Sub h h') := by
 refine DS (vs := [.int .u32 c0, .slice a xs.length c]) ⟨rfl, rfl, trivial⟩ hi ?_
 simp only [AI, Tr.wp, zG, Ex.ev, coerce, toInt_int, zb, zi, zl, zj, zh, yg, z6, arith, Cst.val, SV.den, zw, zV, z7, zp, zm, z4, zP, zu, List.flatMap_cons, List.flatMap_nil, List.getD_cons_zero, List.getD_cons_succ, List.getElem?_cons_zero, List.getElem?_cons_succ, decide_eq_true_eq, decide_eq_false_iff_not, List.map_cons, List.map_nil, List.cons_append, List.nil_append, List.append_nil, List.length_cons, List.length_nil, Nat.zero_add, and_true, if_true, if_false, Bool.false_eq_true]
 refine ⟨fun hle => ?_, fun hgt => ?_⟩
 ·refine (Ch hi c0 a c xs hx (by omega)).mono ?_
  rintro _ h' ⟨rfl, rfl⟩
  exact ⟨_, rfl, rfl, fun _ _ h => h⟩
 ·refine (Ch hi c0 none 0 [] (fun i x hx => by simp at hx) (by simp)).mono ?_
  rintro _ h' ⟨rfl, rfl⟩
  refine ⟨_, rfl, ?_⟩
  obtain ⟨n, hn⟩ : ∃ n, n = (xs.length + 32767) / 32768 := ⟨_, rfl⟩
  refine (IZ (g := 98) (F := yF 1) hi hx hc hl (fun S' h' a' c' ys hi' hx' hl' _ => PN hi' a' c' ys hx' (by omega)) hn).mono ?_
  rintro _ h1 ⟨bC, bS, rfl, e1, e2, s1⟩
  have i1 : Eng.Inv (jw Tryz.prog s) h1 := fun y hy => by
   cases e : h' y with
   | none => exact absurd e (hi y hy)
   | some o => rw [s1 y o e]; simp
  have ok0 := SS hc0
  refine ⟨_, _, _, _, _, _, rfl, fun us h2 => ∃ j : Nat, us = [.int .u32 (yF c0 (xs.take (min (j * 32768) xs.length))), .int .i64 j] ∧ j ≤ n ∧ h2 = h1, fun us _ => n - (toInt (us.getD 1 undef)).toNat, ⟨0, by simp, by omega, rfl⟩, ?_⟩
  rintro x y h2 ⟨j, hx1, hj, rfl⟩
  simp only [List.cons.injEq, Value.int.injEq, true_and, and_true] at hx1
  obtain ⟨rfl, rfl⟩ := hx1
  refine ⟨fun hlt => ?_, fun hge => ?_⟩
  ·have hjn : j < n := by omega
   have w2 : IntKind.i64.wrap ((j : Int) + 1) = ((j + 1 : Nat) : Int) := by rw [i64_in _ (by omega)]; omega
   have c1 : ze h2 (((((some (⟨bC, 0, none⟩ : Addr)).getD default).add ((j : Int).toNat * 1))).add 0) = some (.int .u32 (yF 1 (partOf xs j))) := by
    simp [zo, ze, e1, NQ, hjn]
   have c2 : ze h2 (((((some (⟨bS, 0, none⟩ : Addr)).getD default).add ((j : Int).toNat * 1))).add 0) = some (.int .i64 (kO xs.length j)) := by
    simp [zo, ze, e2, szv, hjn]
   refine ⟨rfl, by omega, by omega, _, c1, rfl, by omega, by omega, _, c2, ?_⟩
   have hpl : kO xs.length j ≤ 1000000 := by unfold kO; omega
   refine (GY i1 _ _ _ ⟨by omega, by omega⟩).mono ?_
   rintro _ h3 ⟨rfl, rfl⟩
   refine ⟨_, rfl, ⟨j + 1, ?_, by omega, rfl⟩, ?_⟩
   ·have okt : okB (xs.take (min (j * 32768) xs.length)) := fun z hz => hb z (List.mem_of_mem_take hz)
    have J := NA (IS ok0 okt) (Ts hb j) (by rw [qK]; exact hpl)
    rw [qK] at J
    rw [w2, PY xs hn hjn]
    simp only [List.cons.injEq, Value.int.injEq, true_and, and_true]
    unfold yF at J ⊢
    rw [J, List.foldl_append]
   ·simp only [w2, List.getD_cons_succ, List.getD_cons_zero, toInt_int, Int.toNat_natCast]; omega
  ·obtain rfl : j = n := by omega
   refine ⟨?_, s1⟩
   rw [show min (j * 32768) xs.length = xs.length by omega, List.take_length]
end Go.Proofs.YteaonnfokkfnlaaGreatDoor
end
section
namespace Go.Proofs.YteaonnfokkfnlaaGreatDoor
open Go Go.Eng Go.IntWalk
section
variable {S : Shared} {h h0 : Eng.Heap}
structure ErrZ (h : Eng.Heap) : Prop where
 el : ErrL h
 e4 : ze h ⟨2, 0, none⟩ = some (.int .i64 4)
 e5 : ze h ⟨1, 0, none⟩ = some (.int .i64 5)
theorem ErrZ.sub {h' : Eng.Heap} (H : ErrZ h) (s : Eng.Sub h h') : ErrZ h' := ⟨H.el.sub s, je s H.e4, je s H.e5⟩
theorem UG {x b : Int} (hx : 0 ≤ x ∧ x < 16777216) (hb : 0 ≤ b ∧ b < 256) : Go.bits .or .u32 (x * 256) b = x * 256 + b := by
 obtain ⟨n, rfl⟩ := Int.eq_ofNat_of_zero_le hx.1
 obtain ⟨m, rfl⟩ := Int.eq_ofNat_of_zero_le hb.1
 have e : ((n : Int) * 256) = ((n * 256 : Nat) : Int) := by omega
 have h1 : (BitVec.ofInt 32 ((n * 256 : Nat) : Int)).toNat = n * 256 := by rw [BitVec.ofInt_natCast, BitVec.toNat_ofNat]; exact Nat.mod_eq_of_lt (by omega)
 have h2 : (BitVec.ofInt 32 (m : Int)).toNat = m := by rw [BitVec.ofInt_natCast, BitVec.toNat_ofNat]; exact Nat.mod_eq_of_lt (by omega)
 have e2 := Nat.two_pow_add_eq_or_of_lt (i := 8) (b := m) (by omega) n
 rw [e]
 show IntKind.u32.wrap ((BitVec.ofInt 32 ((n * 256 : Nat) : Int) ||| BitVec.ofInt 32 (m : Int)).toNat : Int) = _
 have e3 : n * 256 = 2 ^ 8 * n := by omega
 rw [BitVec.toNat_or, h1, h2, e3, ← e2, IntKind.wrap_u32]
 omega
section
variable {bm : Nat} {a : Option Addr} {c : Nat} {bs : List Int} {m : MC} {T : TypeId}
theorem NS (hi : Eng.Inv S h0) (G : Errs h0) (hx : zn h0 .u8 a bs) (L : bs.length ≤ 1048576) (p : Nat) (hp : p ≤ 8 * bs.length) (n : Nat) (hn : n ≤ 4) (M : MAt h0 h bm a c bs p m T) :
  za Tryz.prog S xW #[.pointer (some ⟨bm, 0, none⟩), .int .i64 n] h (fun v h' => ∃ p' : Nat, p' ≤ 8 * bs.length ∧
   v = .tuple #[.int .u32 (if (hig bs n ⟨p, 0⟩ 0).1.k = 0 then (hig bs n ⟨p, 0⟩ 0).2 else 0), zX (hig bs n ⟨p, 0⟩ 0).1.k] ∧ ((hig bs n ⟨p, 0⟩ 0).1.k = 0 → (hig bs n ⟨p, 0⟩ 0).1 = ⟨p', 0⟩) ∧ h' = upd h bm (z9 a c bs p' m T)) := by
 refine E6 (vs := [.pointer (some ⟨bm, 0, none⟩), .int .i64 n]) ⟨rfl, rfl, trivial⟩ (hi.sub M.sb) ?_
 simp only [Bm, Tr.wp, zG, Ex.ev, coerce, toInt_int, zb, zh, yb, yQ, z6, arith, Cst.val, SV.den, zw, zV, z7, zp, zm, z4, zP, List.flatMap_cons, List.flatMap_nil, List.getD_cons_zero, List.getD_cons_succ, List.getElem?_cons_zero, decide_eq_true_eq, decide_eq_false_iff_not, List.map_cons, List.map_nil, List.cons_append, List.nil_append, List.append_nil, List.length_cons, List.length_nil, Nat.zero_add, Nat.add_zero, if_true, if_false, Bool.false_eq_true, zo]
 refine ⟨fun us h' => ∃ (j p' : Nat) (x : Int), us = [.int .u32 x, .int .i64 j] ∧ j ≤ n ∧ p' ≤ 8 * bs.length ∧ 0 ≤ x ∧ x < 256 ^ j ∧ hig bs (n - j) ⟨p', 0⟩ x = hig bs n ⟨p, 0⟩ 0 ∧ h' = upd h bm (z9 a c bs p' m T), fun us _ => n - (toInt (us.getD 1 undef)).toNat,
  ⟨0, p, 0, rfl, by omega, hp, by omega, by simp, by simp, (ky M.hb).symm⟩, ?_⟩
 rintro x y h' ⟨j, p', x', hx1, hj, hp', g0, g1, e, rfl⟩
 simp only [List.cons.injEq, Value.int.injEq, true_and, and_true] at hx1
 obtain ⟨rfl, rfl⟩ := hx1
 refine ⟨fun hlt => ?_, fun hge => ?_⟩
 ·have hjn : j < n := by omega
  refine ⟨by simp, ?_⟩
  refine (GK hi G hx L p' hp' 8 (by omega) (M.keep rfl)).mono ?_
  rintro _ h2 ⟨rfl, rfl⟩
  rw [xj]
  have nm := yf (bs := bs) (n := 8) (r := ⟨(p' : Int), 0⟩)
  have e8 : (2 : Int) ^ 8 = 256 := by decide
  rw [e8] at nm
  have est : hig bs n ⟨p, 0⟩ 0 = hig bs (n - (j + 1)) (tk bs 8 ⟨p', 0⟩).1 (256 * x + (tk bs 8 ⟨p', 0⟩).2) := by
   rw [← e, show n - j = n - (j + 1) + 1 by omega]; rfl
  have okt : okR bs (tk bs 8 ⟨(p' : Int), 0⟩).1 := y9 fun _ => ⟨by simp only; omega, by simp only; omega⟩
  have hpos : ∃ q : Nat, q ≤ 8 * bs.length ∧ (tk bs 8 ⟨(p' : Int), 0⟩).1.i = q := by
   unfold tk
   rw [if_pos rfl]
   split
   ·exact ⟨p', hp', rfl⟩
   ·rename_i h; simp only at h; exact ⟨p' + 8, by omega, by simp only; omega⟩
  obtain ⟨q, hq, eq⟩ := hpos
  refine ⟨_, zX (tk bs 8 ⟨p', 0⟩).1.k, zc, by rw [zc], fun hz => ?_, fun hz => ?_⟩
  ·rw [zc, zz] at hz
   have hk : (tk bs 8 ⟨(p' : Int), 0⟩).1.k ≠ 0 := by simpa using hz
   have eb : (hig bs n ⟨p, 0⟩ 0).1 = (tk bs 8 ⟨p', 0⟩).1 := by rw [est, D7 hk]
   rw [eb]
   exact ⟨q, hq, by rw [if_neg hk, zc], fun h => absurd h hk, by rw [eq]⟩
  ·rw [zc, zz] at hz
   have hk : (tk bs 8 ⟨(p' : Int), 0⟩).1.k = 0 := by simpa using hz
   have hp3 : (256 : Int) ^ j ≤ 256 ^ 3 := by
    have : ((256 ^ j : Nat) : Int) ≤ ((256 ^ 3 : Nat) : Int) := by exact_mod_cast Nat.pow_le_pow_right (by decide) (show j ≤ 3 by omega)
    simpa using this
   have e3 : (256 : Int) ^ 3 = 16777216 := by decide
   have ws : IntKind.u32.wrap (x * 2 ^ min (Int.toNat 8) IntKind.u32.bits) = x * 256 := by
    rw [show (2 : Int) ^ min (Int.toNat 8) IntKind.u32.bits = 256 from rfl, IntKind.wrap_u32]; omega
   have wb : IntKind.u32.wrap (tk bs 8 ⟨(p' : Int), 0⟩).2 = (tk bs 8 ⟨(p' : Int), 0⟩).2 := by rw [IntKind.wrap_u32]; omega
   have w2 : IntKind.i64.wrap ((j : Int) + 1) = ((j + 1 : Nat) : Int) := by rw [i64_in _ (by omega)]; omega
   rw [ws, wb, UG (by omega) nm, w2, eq]
   have er : (tk bs 8 ⟨(p' : Int), 0⟩).1 = ⟨(q : Int), 0⟩ := by
    generalize (tk bs 8 ⟨(p' : Int), 0⟩).1 = X at hk eq
    obtain ⟨i, kk⟩ := X
    simp only at hk eq
    rw [hk, eq]
   rw [er, Int.mul_comm 256 x] at est
   refine ⟨⟨j + 1, q, _, rfl, by omega, hq, by omega, by rw [Int.pow_succ]; omega, est.symm, rfl⟩, by simp only [List.getD_cons_succ, List.getD_cons_zero, toInt_int]; omega⟩
 ·obtain rfl : j = n := by omega
  rw [Nat.sub_self] at e
  have eh : hig bs j ⟨p, 0⟩ 0 = (⟨p', 0⟩, x) := e.symm
  rw [eh]
  exact ⟨p', hp', by simp [zX], fun _ => rfl, rfl⟩
end
end
section
variable {S : Shared} {h h0 : Eng.Heap} {k : KC} {F : Nat} {Fin : Rd × List Int}
theorem RM (hi : Eng.Inv S h0) (G : ErrL h0) (hro : k.room ≤ 200000) (hdl : k.dl ≤ 40000) (hsz : 1 ≤ k.sz ∧ k.sz ≤ 32768) (hx : zn h0 .u8 k.a k.bs) (L : k.bs.length ≤ 1048576) (hFl : 8 * k.bs.length + 1 ≤ F) {n0 : Nat} (H0 : A6 h0 k F Fin (fnV k yo) h n0) :
  za Tryz.prog S k6 #[.pointer (some ⟨k.bm, 0, none⟩)] h (Lh h0 k Fin) := by
 refine CP (vs := [.pointer (some ⟨k.bm, 0, none⟩)]) ⟨rfl, trivial⟩ (hi.sub (by obtain ⟨_, _, hb, _, _, _, s, H, _⟩ := H0; exact s.trans H.sb)) ?_
 simp only [wT, Tr.wp, zG, Ex.ev, coerce, zb, zh, yb, yQ, SV.den, zw, zV, z7, zp, zm, z4, List.flatMap_cons, List.flatMap_nil, List.getD_cons_zero, List.getD_cons_succ, List.map_cons, List.map_nil, List.cons_append, List.nil_append, List.append_nil, Nat.add_zero, if_false, Bool.false_eq_true, zo]
 refine ⟨by simp, by simp, ?_⟩
 refine za.mono (Vk hi G hro hdl hsz hx L hFl H0) ?_
 rintro _ h3 ⟨hb, last, l, d, rfl, sb, H3, ok3⟩
 exact ⟨_, zc, by rw [zc], hb, last, l, d, by rw [zc], sb, H3, ok3⟩
end
section
variable {s : Nat → Prop} {h : Eng.Heap}
def PF (h0 : Eng.Heap) (bm : Nat) (a : Option Addr) (c : Nat) (bs : List Int) (T : TypeId) (x : yX) (v : Value) (h' : Eng.Heap) : Prop :=
 ∃ (K : Int) (p : Nat) (m : MC) (xs : List Int) (ao : Option Addr) (co : Nat), v = zX K ∧ h' bm = some (z9 a c bs p m T) ∧ m.out = .slice ao xs.length co ∧ Part .u8 h' (.slice ao xs.length co) xs ∧ Eng.New h0 (.slice ao xs.length co) ∧ Eng.Sub h0 h' ∧ p ≤ 8 * bs.length ∧
  (K ≠ 0 → x = (K, xs, 0, ())) ∧ (K = 0 → x = (1, xs, ((p / 8 : Nat) : Int), ()))
theorem Se {h1 : Eng.Heap} (hi : Eng.Inv (jw Tryz.prog s) h) (G : ErrZ h) {bm : Nat} {a : Option Addr} {c : Nat} {bs : List Int} {T : TypeId} (hx : zn h .u8 a bs) (L : bs.length ≤ 65536) (p : Nat) (hp : p ≤ 8 * bs.length) (hb : h bm = none) (sb : Eng.Sub h h1)
  (hm : h1 bm = some (z9 a c bs p ⟨.pointer none, .slice none 0 0, 100000, false, .pointer none, .pointer none⟩ T)) {x : Int} (hx0 : 0 ≤ x) (hx1 : x < 65536) (hx7 : x / 4096 ≤ 7) {au : Option Addr} {cu : Nat} {us : List Int} (hu : zn h1 .u8 au us) (hcu : us.length ≤ cu) (hul : us.length ≤ 1048576) (hub : okB us) (Ks : List Kt) (e1 e3 : Value) :
  ziE.wp Tryz.prog (jw Tryz.prog s) yV (PF h bm a c bs T (zA bs (zS x) us ⟨p, 0⟩)) [.pointer (some ⟨bm, 0, none⟩), e1, .int .u32 x, e3, .slice au us.length cu] h1 Ks := by
 simp only [ziE, Tr.wp, zG, Ex.ev, coerce, toInt_int, zb, zi, zl, zj, zh, yb, yQ, z6, arith, Cst.val, SV.den, zw, zV, z7, zp, zm, z4, zu, yd, List.flatMap_cons, List.flatMap_nil, List.getD_cons_zero, List.getD_cons_succ, decide_eq_true_eq, List.map_cons, List.map_nil, List.cons_append, List.nil_append, List.append_nil, List.length_cons, List.length_nil, Nat.zero_add, Nat.add_zero, and_true, if_true, if_false, Bool.false_eq_true, zo]
 have eS : zS x = 2 ^ (x / 4096 + 8).toNat := by unfold zS; rw [if_pos hx7]
 have hS1 : 1 ≤ zS x := by rw [eS]; exact Nat.one_le_two_pow
 have hS2 := ND hx0
 have ws : Int.fdiv x (2 ^ min (Int.toNat 8) IntKind.u32.bits) = x / 256 := by rw [show (2 : Int) ^ min (Int.toNat 8) IntKind.u32.bits = 256 from rfl, Int.fdiv_eq_ediv_of_nonneg _ (by omega)]
 have wq : IntKind.u32.wrap ((x / 256).tdiv 16) = x / 4096 := by rw [Int.tdiv_eq_ediv_of_nonneg (by omega), IntKind.wrap_u32]; omega
 have wa : IntKind.u32.wrap (x / 4096 + 8) = x / 4096 + 8 := by rw [IntKind.wrap_u32]; omega
 have wz : IntKind.i64.wrap (1 * 2 ^ min (x / 4096 + 8).toNat IntKind.i64.bits) = ((zS x : Nat) : Int) := by
  have : IntKind.i64.bits = 64 := rfl
  rw [eS, Int.one_mul, show min (x / 4096 + 8).toNat IntKind.i64.bits = (x / 4096 + 8).toNat by rw [this]; omega, yp]
  exact i64_in _ (by omega)
 rw [ws, wq, wa, wz]
 refine ⟨by omega, ?_⟩
 refine za.mono (QX (sz := zS x) (hi.sub sb) au cu us hcu (by omega) hu hS1 hS2) ?_
 rintro _ h2 ⟨bw, TW, rfl, RW⟩
 obtain ⟨dd, at_, nn, hbw, R, s2, hnw⟩ := RW
 have ne : bm ≠ bw := fun e => by rw [← e, hm] at hnw; cases hnw
 have hm2 := s2 _ _ hm
 have hsb : ¬ (jw Tryz.prog s) bm := fun hs => hi bm hs hb
 obtain ⟨_, _, g2, _⟩ := yC hm2
 refine ⟨_, rfl, by simp, jY hm2 hsb g2, ?_⟩
 obtain ⟨k, hk⟩ : ∃ k : KC, k = ⟨a, c, bs, (zC (zS x) us).length, 100000, zS x, T, TW, bm, bw, []⟩ := ⟨_, rfl⟩
 obtain ⟨h3, hh3⟩ : ∃ h3, h3 = upd h2 bm (z9 a c bs p ⟨.pointer (some ⟨bw, 0, none⟩), .slice none 0 0, 100000, false, .pointer none, .pointer none⟩ T) := ⟨_, rfl⟩
 have es : z5 h2 ⟨bm, 2, none⟩ (.pointer (some ⟨bw, 0, none⟩)) = h3 := by rw [hh3, hset_cells' hm2]; rfl
 rw [es]
 have sb2 := sb.trans s2
 have s3 : Eng.Sub h h3 := by rw [hh3]; exact xq sb2 hb
 have hnw0 : h bw = none := zZ sb hnw
 obtain ⟨f1, f2, f3⟩ := GP (bs := bs) (us := us) (r := ⟨(p : Int), 0⟩) hS2
 have okr : okR bs ⟨(p : Int), 0⟩ := fun _ => ⟨by simp only; omega, by simp only; omega⟩
 have H0 : IM h h3 k ⟨(p : Int), 0⟩ (zC (zS x) us) false (.pointer none) (.pointer none) := by
  subst hk
  have ed : (zC (zS x) us).drop (zC (zS x) us).length = [] := List.drop_length
  refine ⟨⟨p, none, 0, hp, fun _ => rfl, ?_, ?_, ?_⟩, ⟨dd, at_, nn, ?_, by rw [H9]; exact R, s3, hnw0⟩, hb, ne, s3, ⟨Nat.le_refl _, Nat.le_add_right _ _, by simp⟩⟩
  ·rw [hh3, upd_same]; simp only [yU, KC.otl, ed, Nat.sub_self]; rfl
  ·simp only [KC.otl, ed, List.append_nil]; exact Part.nil
  ·intro z hz; simp only [KC.otl, ed] at hz; cases hz
  ·rw [hh3, upd_ne (Ne.symm ne)]; exact hbw
 have RA : A6 h k (8 * bs.length + 1) (zE bs (zS x) us ⟨(p : Int), 0⟩) (fnV k yo) h3 (mz k ⟨(p : Int), 0⟩ + 0) := by
  refine ⟨⟨(p : Int), 0⟩, zC (zS x) us, h, false, _, _, fun _ _ e => e, H0, rfl, by subst hk; exact okr, 8 * bs.length + 1, by subst hk; simp only; omega, .inl ⟨rfl, rfl, ?_⟩⟩
  subst hk; rfl
 have K := RM (S := jw Tryz.prog s) hi G.el (by subst hk; simp) (by subst hk; simp only; omega) (by subst hk; simp only; omega) (by subst hk; exact hx) (by subst hk; simp only; omega) (by subst hk; exact Nat.le_refl _) RA
 have ebm : k.bm = bm := by rw [hk]
 rw [ebm] at K
 refine za.mono K ?_
 clear K
 rintro _ h4 ⟨hb4, last, l, d, rfl, sb4, H4, ok4⟩
 have ebs : k.bs = bs := by rw [hk]
 have ekc : ∀ p4 m4, z9 k.a k.c k.bs p4 m4 k.T = z9 a c bs p4 m4 T := fun p4 m4 => by rw [hk]
 have eotl : k.otl (zE bs (zS x) us ⟨(p : Int), 0⟩).2 = zO bs (zS x) us ⟨(p : Int), 0⟩ := by rw [hk]; rfl
 have hO : (zO bs (zS x) us ⟨(p : Int), 0⟩).length ≤ 100000 := by unfold zO; rw [List.length_drop]; omega
 have hOb := Uo (bs := bs) (sz := zS x) (r := ⟨(p : Int), 0⟩) hub
 generalize hE : zE bs (zS x) us ⟨(p : Int), 0⟩ = X at H4 ok4 eotl
 obtain ⟨xs, hxs⟩ : ∃ xs, xs = zO bs (zS x) us ⟨(p : Int), 0⟩ := ⟨_, rfl⟩
 rw [← hxs] at eotl hO hOb
 refine ⟨_, zc, by rw [zc], fun hz => ?_, fun hz => ?_⟩
 ·rw [zc, zz] at hz
  have hk1 : X.1.k ≠ 0 := by simpa using hz
  obtain ⟨p4, ao, co, hp4, hr4, hbm4, P4, N4⟩ := H4.mt
  rw [ebm, ekc] at hbm4
  rw [eotl] at hbm4 P4 N4
  have eA := Te (bs := bs) (us := us) (sz := zS x) (r := ⟨(p : Int), 0⟩) (by rw [hE]; exact hk1)
  rw [hE, ← hxs] at eA
  rw [zc]
  exact ⟨X.1.k, p4, _, xs, ao, co, rfl, hbm4, rfl, P4, fun z hz => zZ sb4 (IM.xv N4 hz).2.2, sb4.trans H4.sb, by rw [ebs] at hp4; exact hp4, fun _ => eA, fun h => absurd h hk1⟩
 ·rw [zc, zz] at hz
  have hk1 : X.1.k = 0 := by simpa using hz
  have hib := hi.sub sb4
  have H4' := H4
  rw [show h4 = h4 from rfl] at H4'
  have KA := M6 hib (by rw [ebs]; omega) H4 hk1
  rw [ebm] at KA
  refine ⟨by simp, za.mono KA ?_⟩
  rintro _ h5 ⟨rfl, H5⟩
  have oka : okR bs (alg X.1) := D4 (by rw [ebs] at ok4; exact ok4)
  obtain ⟨p5, ao, co, hp5, hr5, hbm5, P5, N5⟩ := H5.mt
  rw [ebm, ekc] at hbm5
  rw [eotl] at hbm5 P5 N5
  rw [ebs] at hp5
  have hka : (alg X.1).k = 0 := by unfold alg; rw [if_pos hk1]
  have ea : alg X.1 = ⟨(p5 : Int), 0⟩ := by
   have := hr5 hka
   generalize alg X.1 = Y at hka this
   obtain ⟨i, kk⟩ := Y
   simp only at hka this
   rw [hka, this]
  have hnb4 : hb4 bm = none := ebm ▸ H5.nm
  have KB := NS hib ((G.sub sb4).el.es) (hx.sub sb4) (by omega) p5 hp5 4 (by omega) ⟨hbm5, hnb4, H5.sb⟩
  refine ⟨rfl, za.mono KB ?_⟩
  rintro _ h6 ⟨p6, hp6, rfl, hr6, rfl⟩
  have eT : hig bs 4 ⟨(p5 : Int), 0⟩ 0 = zT bs (zS x) us ⟨(p : Int), 0⟩ := by unfold zT; rw [hE, ea]
  rw [eT] at hr6 ⊢
  have s56 : Eng.Sub h (upd h5 bm (z9 a c bs p6 (yU k X.2 (.slice ao xs.length co) last l d) T)) := xq (sb4.trans H5.sb) hb
  have hm6 : upd h5 bm (z9 a c bs p6 (yU k X.2 (.slice ao xs.length co) last l d) T) bm = some (z9 a c bs p6 (yU k X.2 (.slice ao xs.length co) last l d) T) := upd_same
  have P6 : Part .u8 (upd h5 bm (z9 a c bs p6 (yU k X.2 (.slice ao xs.length co) last l d) T)) (.slice ao xs.length co) xs := P5.keep fun z hz => upd_ne (ebm ▸ (IM.xv N5 hz).1)
  have N6 : Eng.New h (.slice ao xs.length co) := fun z hz => zZ sb4 (IM.xv N5 hz).2.2
  generalize upd h5 bm (z9 a c bs p6 (yU k X.2 (.slice ao xs.length co) last l d) T) = h6 at s56 hm6 P6
  refine ⟨_, _, zc, by rw [zc], fun hz => ?_, fun hz => ?_⟩
  ·rw [zc, zz] at hz
   have hkT : (zT bs (zS x) us ⟨(p : Int), 0⟩).1.k ≠ 0 := by simpa using hz
   have eA := Tf (bs := bs) (us := us) (sz := zS x) (r := ⟨(p : Int), 0⟩) hkT
   rw [← hxs] at eA
   rw [zc]
   exact ⟨_, p6, _, xs, ao, co, rfl, hm6, rfl, P6, N6, s56, hp6, fun _ => eA, fun h => absurd h hkT⟩
  ·rw [zc, zz] at hz
   have hkT : (zT bs (zS x) us ⟨(p : Int), 0⟩).1.k = 0 := by simpa using hz
   obtain ⟨_, _, _, u3, _⟩ := yC hm6
   obtain ⟨_, _, eo, hco, go⟩ := P6.ints
   cases eo
   refine ⟨by simp, _, _, _, u3, ?_⟩
   refine za.mono (AU (hi.sub s56) 1 ⟨by omega, by omega⟩ ao co xs hOb go hco (by omega)) ?_
   rintro _ h7 ⟨rfl, s7⟩
   rw [if_pos hkT]
   refine ⟨_, rfl, fun hne => ?_, fun heq => ?_⟩
   ·have hne : (zT bs (zS x) us ⟨(p : Int), 0⟩).2 ≠ yF 1 xs := by simpa using hne
    have eA := Uq (bs := bs) (us := us) (sz := zS x) (r := ⟨(p : Int), 0⟩) hkT (by rw [← hxs]; exact hne)
    rw [← hxs] at eA
    exact ⟨4, (G.sub (s56.trans s7)).e4, 4, p6, _, xs, ao, co, rfl, s7 _ _ hm6, rfl, P6.sub s7, N6, s56.trans s7, hp6, fun _ => eA, fun h => by cases h⟩
   ·have heq : (zT bs (zS x) us ⟨(p : Int), 0⟩).2 = yF 1 xs := by simpa using heq
    have eA := Tg (bs := bs) (us := us) (sz := zS x) (r := ⟨(p : Int), 0⟩) hkT (by rw [← hxs]; exact heq)
    rw [← hxs, hr6 hkT] at eA
    exact ⟨0, p6, _, xs, ao, co, rfl, s7 _ _ hm6, rfl, P6.sub s7, N6, s56.trans s7, hp6, fun h => absurd rfl h, fun _ => by rw [eA]; rfl⟩
end
end Go.Proofs.YteaonnfokkfnlaaGreatDoor
end
section
namespace Go.Proofs.YteaonnfokkfnlaaGreatDoor
open Go Go.Eng Go.ChangeShapes Go.WideShapes Go.ChangeAt Go.RowKit Go.Conc
theorem Vx : Tryz.prog.globalNamed "loop.example/s02972/impl.errSum" = some 2 := by kernel_rfl
theorem UH : Tryz.prog.globalNamed "loop.example/s02972/impl.errDict" = some 1 := by kernel_rfl
theorem UI : (Tryz.prog.globals[(2 : Nat)]?).map (·.type) = some tCl := by kernel_rfl
theorem Tt : (Tryz.prog.globals[(1 : Nat)]?).map (·.type) = some tCl := by kernel_rfl
noncomputable def Iq (os : Os) : World :=
 let w0 := Pg os
 let put (g : Nat) (v : Value) (hp : Array Obj) : Array Obj := hp.modify g fun
   | .cells _ t frozen => .cells #[v] t frozen
   | o => o
 { w0 with heap := put 2 (.int .i64 4) (put 1 (.int .i64 5) w0.heap) }
section
variable {H : Type} {enc : TypeId × Value → H}
theorem DD {a : Assume} {C : Checked} {os : Os} {f : FuncId} {fn : Func} {s : ChangeSpec} {conds : List PathCond} {apart fresh handsOn again : Bool} {X : World → Array Value → Prop}
  (hX : ∀ (w w' : World) (args : Array Value), w.heap = w'.heap → X w args → X w' args)
  (own : ownKnob C.prog.godebug = none) (started : os.Started) (hfn : C.prog.funcs[f]? = some fn)
  (witness : ∃ (w : World) (tape : Tape) (i : Input), w.os = os ∧ (w.forCall tape i).Shaped C.prog ∧ i.vars = [] ∧ Input.okWide C.prog (w.forCall tape i) .any w.heap.size f i ∧
   ((s.pre enc C.prog fn conds apart (w.forCall tape i).memory i.args ∧ X (w.forCall tape i).memory i.args) ∧ sizedMet enc C.prog fn (OpenSpec.ofChange s) apart (w.forCall tape i).memory i.args) ∧ a.holds C.prog (lone (Frame.enter C.prog f i.args .normal) [] (w.forCall tape i)))
  (runs : ∀ (W : World) (base : Nat) (args : Array Value) (ds gs : List (DataW H)) (before : List MemPlace),
   (∀ (j : Nat) t v, fn.params[j]? = some t → args[j]? = some v → Value.okWide C.prog W .any base t v) →
   DataW.Whole enc C.prog fn.params.toList s.vars apart W args.toList ds gs before →
   conds.all (PathCond.test C.prog ⟨fn.params.toList, ds, s.plain.varTypes C.prog, gs⟩) = true →
   (DataW.weightsEach C.prog (fn.params.toList ++ s.plain.varTypes C.prog) (ds ++ gs)).all (· ≤ reachBytes) = true → X W args →
   a.holds C.prog (lone (Frame.enter C.prog f args .normal) [] W) →
   ∃ M last o w' t', runNT C.prog (M + 1) (solo (G (Frame.enter C.prog f args .normal) []) W) #[] = (.ended o w', t') ∧ runN C.prog M (solo (G (Frame.enter C.prog f args .normal) []) W) = .next last ∧
    step C.prog last = .ended o w' ∧ Conc.Good C.prog (fun v W' => s.post enc C.prog fn apart fresh handsOn again W args v W') last o w' t') :
  ReturnsInLeavingWide a C os f .any (fun w args => (s.pre enc C.prog fn conds apart w args ∧ X w args) ∧ sizedMet enc C.prog fn (OpenSpec.ofChange s) apart w args) (s.post enc C.prog fn apart fresh handsOn again) := by
 refine returnsInLeavingWide_of_good own started witness ?_
 intro w tape i _ _ _ hok hpre hholds
 obtain ⟨_, _, _, fn', hfn', _, _, _, _, hval⟩ := hok
 have e : fn' = fn := Option.some.inj (hfn'.symm.trans hfn)
 subst e
 obtain ⟨⟨⟨ds, gs, before, hw, hc⟩, hx⟩, hz⟩ := hpre
 have hw' := DataW.Whole.of_heap (w' := w.forCall tape i) (by rfl) hw
 obtain ⟨M, last, o, w', t', h1, h2, h3, h4⟩ := runs (w.forCall tape i) w.heap.size i.args ds gs before hval hw' hc (hz.weights hw) (hX _ _ _ (by rfl) hx) hholds
 exact ⟨M, last, o, w', t', h1, h2, h3, h4.mono fun v hp => ChangeSpec.post_blind hp⟩
end
theorem Ir (Lk : Looks) {p : Pinned} {s : OpenSpec} {c : OpenClaim} (kinds : List LaidKind) (tests : Bool) (har : Bool × String) (lk : Bool)
  (hc : c.holds p s) (hw : c.wfByText s = true) (htie : c.laidByTextAt Lk p kinds tests)
  (hst : c.start = .entering) (hnb : c.noBlocks = false ∧ c.again = false) (hm : p.checked.prog.mainIs = some (har.1, har.2.toList)) (hn : (!har.1 && har.2.isEmpty && !lk) = false)
  (hl : ∀ f fn, p.checked.prog.funcNamed c.func = some f → p.checked.prog.funcs[f]? = some fn → lk = p.checked.prog.looks [] ∧ ∀ (j : Nat) t, fn.params[j]? = some t → p.checked.prog.wantsStandIn t = false)
  (hg : true = c.goesBy p.checked.prog) :
  Claim7.holds p (.plain s) { stood := { row := c, standIns := [], harness := har, looks := lk }, kinds := [], alts := [], laidByText := true, laidKinds := kinds, laidTests := tests, laidLooks := Lk, goes := true } := by
 have h6 : ∀ r : OpenClaim, Claim7.isSixth { stood := { row := r, standIns := [], harness := har, looks := lk }, kinds := [] } = false := fun r => by simpa [Claim7.isSixth] using hn
 refine ⟨?_, fun D hD => (by cases hD), htie, (fun h => by cases h), hg⟩
 exact Claim7.tied_new_at Lk kinds tests (Claim7.new_of_sixth hc har lk hst hnb hm (h6 c) hl) hw
end Go.Proofs.YteaonnfokkfnlaaGreatDoor
end
section
namespace Go.Proofs.YteaonnfokkfnlaaGreatDoor
open Go Go.Eng Go.IntWalk
variable {s : Nat → Prop} {h : Eng.Heap}
theorem Vy {x : Int} (hx : 0 ≤ x ∧ x < 65536) : (Go.bits .and .u32 x 32 == 0) = decide (x / 32 % 2 ≠ 1) := by
 obtain ⟨n, rfl⟩ := Int.eq_ofNat_of_zero_le hx.1
 have h1 : (BitVec.ofInt 32 (n : Int)).toNat = n := by rw [BitVec.ofInt_natCast, BitVec.toNat_ofNat]; exact Nat.mod_eq_of_lt (by omega)
 have h2 : (BitVec.ofInt 32 (32 : Int)).toNat = 32 := by decide
 have hb : n &&& 32 = (n.testBit 5).toNat * 32 := by
  apply Nat.eq_of_testBit_eq
  intro i
  rw [Nat.testBit_and, show (32 : Nat) = 2 ^ 5 from rfl, Nat.testBit_two_pow]
  by_cases hi : 5 = i
  ·subst hi
   cases h : n.testBit 5 with
   | false => simp [h]
   | true => simp [h]; decide
  ·cases h : n.testBit 5
   ·simp [hi]
   ·simp only [Bool.toNat_true, Nat.one_mul]; rw [Nat.testBit_two_pow]; simp [hi]
 have ht : n.testBit 5 = decide (n / 32 % 2 = 1) := by rw [Nat.testBit_eq_decide_div_mod_eq]
 have hand : Go.bits .and .u32 (n : Int) 32 = (((n.testBit 5).toNat * 32 : Nat) : Int) := by
  show IntKind.u32.wrap ((BitVec.ofInt 32 (n : Int) &&& BitVec.ofInt 32 (32 : Int)).toNat : Int) = _
  rw [BitVec.toNat_and, h1, h2, hb, IntKind.wrap_u32]
  cases n.testBit 5 <;> simp
 rw [hand, ht]
 by_cases hc : n / 32 % 2 = 1
 ·have : ((n : Int) / 32 % 2 = 1) := by omega
  simp [hc, this]
 ·have : ¬ ((n : Int) / 32 % 2 = 1) := by omega
  simp [hc, this]
theorem MG {bs ds : List Int} (h : (zR bs).k ≠ 0) : (zD bs ds).1 = zR bs := by
 have e : (zId bs).1 = zR bs := D7 h
 unfold zD; split
 ·simp only; rw [e, D6 h]
 ·rfl
theorem Tu {h1 : Eng.Heap} (hi : Eng.Inv (jw Tryz.prog s) h) (G : ErrZ h) {bm : Nat} {a : Option Addr} {c : Nat} {bs : List Int} {T : TypeId} (hx : zn h .u8 a bs) (L : bs.length ≤ 65536) (hb : h bm = none) (sb : Eng.Sub h h1)
  (hm : h1 bm = some (z9 a c bs ((0 : Nat) : Int) ⟨.pointer none, .slice none 0 0, 100000, false, .pointer none, .pointer none⟩ T)) {ad : Option Addr} {cd : Nat} {ds : List Int} (hd : zn h .u8 ad ds) (hcd : ds.length ≤ cd) (hdl : ds.length ≤ 1048576) (hdb : okB ds) :
  za Tryz.prog (jw Tryz.prog s) qf #[.pointer (some ⟨bm, 0, none⟩), .slice ad ds.length cd] h1 (PF h bm a c bs T (xi bs ds)) := by
 refine DW (vs := [.pointer (some ⟨bm, 0, none⟩), .slice ad ds.length cd]) ⟨rfl, rfl, trivial⟩ (hi.sub sb) ?_
 simp only [AM, Tr.wp, zG, Ex.ev, coerce, toInt_int, zb, zi, zl, zj, zh, yb, wG, z6, arith, Cst.val, SV.den, zw, zV, z7, zp, zm, z4, zu, List.flatMap_cons, List.flatMap_nil, List.getD_cons_zero, List.getD_cons_succ, List.getElem?_cons_zero, List.getElem?_cons_succ, List.map_cons, List.map_nil, List.cons_append, List.nil_append, List.append_nil, List.length_cons, List.length_nil, Nat.zero_add, Nat.add_zero, and_true, if_true, if_false, Bool.false_eq_true, zo]
 have eAns : xi bs ds = zA bs (zS (zH bs).2) (zD bs ds).2 (zD bs ds).1 := if_neg (by omega)
 have hn := Ie (bs := bs)
 refine za.mono (NS hi G.el.es hx (by omega) 0 (by omega) 2 (by omega) ⟨hm, hb, sb⟩) ?_
 rintro _ h2 ⟨p2, hp2, rfl, hr2, rfl⟩
 have eH : hig bs 2 ⟨((0 : Nat) : Int), 0⟩ 0 = zH bs := rfl
 rw [eH] at hr2 ⊢
 have ret : ∀ (hh : Eng.Heap) (p' : Nat) (K : Int), p' ≤ 8 * bs.length → hh bm = some (z9 a c bs p' ⟨.pointer none, .slice none 0 0, 100000, false, .pointer none, .pointer none⟩ T) → Eng.Sub h hh → K ≠ 0 → (zD bs ds).1.k = K → PF h bm a c bs T (xi bs ds) (zX K) hh := by
  intro hh p' K q1 q2 q3 q4 q5
  refine ⟨K, p', _, [], none, 0, rfl, q2, rfl, Part.nil, fun z hz => (by cases hz), q3, q1, fun _ => ?_, fun h => absurd h q4⟩
  rw [eAns, Un (by rw [q5]; exact q4), q5]
 have hm2 : ∀ q : Nat, upd h1 bm (z9 a c bs q ⟨.pointer none, .slice none 0 0, 100000, false, .pointer none, .pointer none⟩ T) bm = some (z9 a c bs q ⟨.pointer none, .slice none 0 0, 100000, false, .pointer none, .pointer none⟩ T) := fun q => upd_same
 have s2 : ∀ q : Nat, Eng.Sub h (upd h1 bm (z9 a c bs q ⟨.pointer none, .slice none 0 0, 100000, false, .pointer none, .pointer none⟩ T)) := fun q => xq sb hb
 refine ⟨_, _, zc, by rw [zc], fun hz => ?_, fun hz => ?_⟩
 ·rw [zc, zz] at hz
  have hk : (zH bs).1.k ≠ 0 := by simpa using hz
  have eR : zR bs = (zH bs).1 := AS hk
  rw [zc]
  exact ret _ p2 _ hp2 (hm2 p2) (s2 p2) hk (by rw [MG (by rw [eR]; exact hk), eR])
 ·rw [zc, zz] at hz
  have hk : (zH bs).1.k = 0 := by simpa using hz
  rw [if_pos hk]
  have e2 := hr2 hk
  have ws : Int.fdiv (zH bs).2 (2 ^ min (Int.toNat 8) IntKind.u32.bits) = (zH bs).2 / 256 := by rw [show (2 : Int) ^ min (Int.toNat 8) IntKind.u32.bits = 256 from rfl, Int.fdiv_eq_ediv_of_nonneg _ (by omega)]
  have t31 : (zH bs).2.tmod 31 = (zH bs).2 % 31 := Int.tmod_eq_emod_of_nonneg hn.1
  have t16 : ((zH bs).2 / 256).tmod 16 = (zH bs).2 / 256 % 16 := Int.tmod_eq_emod_of_nonneg (by omega)
  have wq : IntKind.u32.wrap (((zH bs).2 / 256).tdiv 16) = (zH bs).2 / 4096 := by
   rw [Int.tdiv_eq_ediv_of_nonneg (by omega), Int.ediv_ediv_of_nonneg (by omega), IntKind.wrap_u32]
   show (zH bs).2 / 4096 % 4294967296 = (zH bs).2 / 4096
   clear t31 t16
   omega
  have eW : (decide ((decide (((zH bs).2 % 31 != 0) = true) || (zH bs).2 / 256 % 16 != 8) = true) || decide ((zH bs).2 / 4096 > 7)) = zW (zH bs).2 := by
   unfold zW; simp only [Bool.decide_eq_true]
  rw [ws, t31, t16, wq]
  simp only [eW]
  refine ⟨fun hw => ?_, fun hw => ?_⟩
  ·have eR : zR bs = ⟨(zH bs).1.i, 3⟩ := by unfold zR bd; rw [if_pos ⟨hk, hw⟩]
   refine ⟨3, (G.sub (s2 p2)).el.es.e3, ?_⟩
   exact ret _ p2 3 hp2 (hm2 p2) (s2 p2) (by decide) (by rw [MG (by rw [eR]; show (3 : Int) ≠ 0; decide), eR])
  ·have hw : zW (zH bs).2 = false := by simpa using hw
   have h7 : (zH bs).2 / 4096 ≤ 7 := by
    unfold zW at hw
    simp only [Bool.or_eq_false_iff, decide_eq_false_iff_not] at hw
    omega
   have eR : zR bs = ⟨(p2 : Int), 0⟩ := by unfold zR bd; rw [if_neg (fun e => by rw [hw] at e; cases e.2), e2]
   rw [Vy hn]
   refine ⟨fun hf => ?_, fun hf => ?_⟩
   ·have hf : ¬ (zH bs).2 / 32 % 2 = 1 := by simpa using hf
    have eD : zD bs ds = (⟨(p2 : Int), 0⟩, []) := by unfold zD; rw [if_neg hf, eR]
    intro _
    rw [eAns, eD]
    have K := Se (s := s) (us := []) (au := none) (cu := 0) hi G hx L p2 hp2 hb (s2 p2) (hm2 p2) hn.1 hn.2 h7 (fun i x hx => by simp at hx) (Nat.le_refl _) (by simp) SX
    exact K _ _ _
   ·have hf : (zH bs).2 / 32 % 2 = 1 := by simpa using hf
    have eD2 : (zD bs ds).2 = ds := by unfold zD; rw [if_pos hf]
    have eD1 : (zD bs ds).1 = bdK 5 (decide (ds.length = 0) || (yF 1 ds != (zId bs).2)) (zId bs).1 := by unfold zD; rw [if_pos hf]
    refine za.mono (NS hi G.el.es hx (by omega) p2 hp2 4 (by omega) ⟨hm2 p2, hb, s2 p2⟩) ?_
    rintro _ h3 ⟨p3, hp3, rfl, hr3, rfl⟩
    have eI : hig bs 4 ⟨(p2 : Int), 0⟩ 0 = zId bs := by unfold zId; rw [eR]
    rw [eI] at hr3 ⊢
    rw [xj]
    refine ⟨_, _, zc, by rw [zc], fun hz => ?_, fun hz => ?_⟩
    ·rw [zc, zz] at hz
     have hkI : (zId bs).1.k ≠ 0 := by simpa using hz
     rw [zc]
     exact ret _ p3 _ hp3 (hm2 p3) (s2 p3) hkI (by rw [eD1, D6 hkI])
    ·rw [zc, zz] at hz
     have hkI : (zId bs).1.k = 0 := by simpa using hz
     rw [if_pos hkI]
     have e3 := hr3 hkI
     have bad : ∀ hh, hh bm = some (z9 a c bs p3 ⟨.pointer none, .slice none 0 0, 100000, false, .pointer none, .pointer none⟩ T) → Eng.Sub h hh → (decide (ds.length = 0) || (yF 1 ds != (zId bs).2)) = true → PF h bm a c bs T (xi bs ds) (zX 5) hh := fun hh q2 q3 q4 =>
      ret hh p3 5 hp3 q2 q3 (by decide) (by rw [eD1]; unfold bdK; rw [if_pos ⟨hkI, q4⟩])
     refine ⟨fun hl => ?_, fun hl => ?_⟩
     ·have hl : ds.length ≠ 0 := by simpa using hl
      refine za.mono (AU (hi.sub (s2 p3)) 1 ⟨by omega, by omega⟩ ad cd ds hdb (hd.sub (s2 p3)) hcd (by omega)) ?_
      rintro _ h4 ⟨rfl, s4⟩
      refine ⟨_, rfl, fun _ => ⟨fun hne => ?_, fun heq => ?_⟩⟩
      ·have hne : yF 1 ds ≠ (zId bs).2 := by simpa using hne
       refine ⟨5, (G.sub ((s2 p3).trans s4)).e5, ?_⟩
       exact bad h4 (s4 _ _ (hm2 p3)) ((s2 p3).trans s4) (by simp [hne])
      ·have heq : yF 1 ds = (zId bs).2 := by simpa using heq
       have eD : (zD bs ds).1 = ⟨(p3 : Int), 0⟩ := by
        rw [eD1]; unfold bdK; rw [if_neg (fun e => by have := e.2; simp [heq] at this; exact hl (by simp [this])), e3]
       intro _
       rw [eAns, eD, eD2]
       have K := Se (s := s) (us := ds) (au := ad) (cu := cd) hi G hx L p3 hp3 hb ((s2 p3).trans s4) (s4 _ _ (hm2 p3)) hn.1 hn.2 h7 (hd.sub ((s2 p3).trans s4)) hcd hdl hdb
       exact K _ _ _
     ·have hl : ds.length = 0 := by simpa using hl
      refine fun _ => ⟨fun _ => ?_, fun h => by simp at h⟩
      refine ⟨5, (G.sub (s2 p3)).e5, ?_⟩
      exact bad _ (hm2 p3) (s2 p3) (by simp [hl])
theorem g_impl_Zlib' (hi : Eng.Inv (jw Tryz.prog s) h) (G : ErrZ h) (E : CS h) {v u : Value} {bs ds : List Int} (O : tB.O h v bs) (L : As bs) (O2 : tB.O h u ds) (L2 : As ds) (hdb : okB ds) :
  za Tryz.prog (jw Tryz.prog s) qB #[v, u] h (PZ h (xi bs ds)) := by
 obtain ⟨a, c, rfl, hc, hx⟩ := Part.ints O
 obtain ⟨a2, c2, rfl, hc2, hx2⟩ := Part.ints O2
 have hL : bs.length ≤ 1048576 := L
 have hL2 : ds.length ≤ 1048576 := L2
 refine JF (vs := [.slice a bs.length c, .slice a2 ds.length c2]) ⟨rfl, rfl, trivial⟩ hi ?_
 simp only [Gv, Tr.wp, zG, Ex.ev, coerce, toInt_int, zb, zi, zl, zj, zh, z6, arith, Cst.val, SV.den, zw, zV, z7, zp, zm, yD, z4, zu, List.flatMap_cons, List.flatMap_nil, List.replicate_one, List.getD_cons_zero, List.getD_cons_succ, decide_eq_true_eq, decide_eq_false_iff_not, List.map_cons, List.map_nil, List.cons_append, List.nil_append, List.append_nil, Nat.zero_add, Nat.add_zero, and_true, if_false, Bool.false_eq_true, zo]
 refine ⟨fun hgt => ?_, fun hle => ?_⟩
 ·have e : xi bs ds = (7, [], 0, ()) := if_pos (by omega)
  rw [e]; exact MA (fun _ _ e => e)
 intro bm hbm
 have K := Tu (s := s) (T := 74) hi G hx (by omega) hbm (Sub.zN (o := z9 a c bs ((0 : Nat) : Int) ⟨.pointer none, .slice none 0 0, 100000, false, .pointer none, .pointer none⟩ 74) hbm) upd_same hx2 hc2 hL2 hdb
 refine za.mono K ?_
 rintro _ h3 ⟨KK, p, m, xs, ao, co, rfl, hb3, eo, P3, N3, s3, hp, hbad, hgood⟩
 obtain ⟨_, g1, _, g3, _⟩ := yC hb3
 rw [eo] at g3
 refine ⟨_, zc, by rw [zc], fun hz => ?_, fun hz => ?_⟩
 ·rw [zc, zz] at hz
  have hk1 : KK ≠ 0 := by simpa using hz
  rw [hbad hk1, zc, SB hk1]
  refine ⟨_, _, _, g3, ?_⟩
  refine za.mono (Pa (hi.sub s3) (E.sub s3)) ?_
  rintro _ h4 ⟨rfl, s4⟩
  refine ⟨_, rfl, fun pp hpp => ?_, JV (P3.sub s4) N3 (s3.trans s4)⟩
  obtain rfl := List.mem_singleton.1 hpp
  simp only [Ex.ev, coerce, zi, zl, zj, zh, List.getD_cons_zero, List.getD_cons_succ, Nat.zero_add, Nat.add_zero, zo, zh]
  exact je s4 g3
 ·rw [zc, zz] at hz
  have hk1 : KK = 0 := by simpa using hz
  rw [hgood hk1]
  refine ⟨_, _, _, g3, _, g1, ?_⟩
  have w : IntKind.i64.wrap ((p : Int).tdiv 8) = ((p / 8 : Nat) : Int) := by rw [Int.tdiv_eq_ediv_of_nonneg (by omega), i64_in _ (by omega)]; omega
  rw [w]
  exact JV P3 N3 s3
theorem LW {S : Shared} (hi : Eng.Inv S h) {v u : Value} {bs ds : List Int} (O : tB.O h v bs) (hw : ∀ x ∈ bs, 0 ≤ x ∧ x ≤ 255) (L : As bs) (O2 : tB.O h u ds) (hw2 : ∀ x ∈ ds, 0 ≤ x ∧ x ≤ 255) (L2 : As ds) :
  za Tryz.prog S Ay #[v, u] h (fun v h' => zB.O h' v (xi bs ds) ∧ zB.New h v ∧ Eng.Sub h h') := g_spec_Zlib' hi O L O2 L2
theorem Gx (hi : Eng.Inv (jw Tryz.prog s) h) (G : ErrZ h) (E : CS h) {v u : Value} {bs ds : List Int} (O : tB.O h v bs) (hw : ∀ x ∈ bs, 0 ≤ x ∧ x ≤ 255) (L : As bs) (O2 : tB.O h u ds) (hw2 : ∀ x ∈ ds, 0 ≤ x ∧ x ≤ 255) (L2 : As ds) :
  za Tryz.prog (jw Tryz.prog s) qB #[v, u] h (fun v h' => zB.O h' v (xi bs ds) ∧ zB.New h v ∧ Eng.Sub h h') := g_impl_Zlib' hi G E O L O2 L2 (fun x hx => by have := hw2 x hx; omega)
theorem Tv {bs ds : List Int} (hw : ∀ x ∈ bs, 0 ≤ x ∧ x ≤ 255) (L : As bs) (hw2 : ∀ x ∈ ds, 0 ≤ x ∧ x ≤ 255) (L2 : As ds) : kj (xi bs ds) := sm_Zlib'
end Go.Proofs.YteaonnfokkfnlaaGreatDoor
end
section
namespace Go.Proofs.YteaonnfokkfnlaaGreatDoor
open Go Go.Eng Go.IntWalk
variable {S : Shared} {h h0 : Eng.Heap}
theorem Sf {n : Int} (H : (Lit.int .u8 n).wf = true) : 0 ≤ n ∧ n ≤ 255 := by
 have e1 : IntKind.u8.min = 0 := by rfl
 have e2 : IntKind.u8.max = 255 := by rfl
 simp [Lit.wf, e1, e2] at H; exact H
end Go.Proofs.YteaonnfokkfnlaaGreatDoor
end
section
namespace Go.Proofs.YteaonnfokkfnlaaGreatDoor
open Go Go.Eng Go.IntWalk
variable {S : Shared} {s : Nat → Prop} {h : Eng.Heap}
theorem UJ (hi : Eng.Inv (jw Tryz.prog s) h) (ge : ErrZ h) (et : CS h) (a0 : Option Addr) (c0 : Nat) (xs0 : List Int) (hx0 : zn h .u8 a0 xs0) (hl0 : xs0.length ≤ maxLen) (hw0 : ∀ x ∈ xs0, (Lit.int .u8 x).wf = true) (a1 : Option Addr) (c1 : Nat) (xs1 : List Int) (hx1 : zn h .u8 a1 xs1) (hl1 : xs1.length ≤ maxLen) (hw1 : ∀ x ∈ xs1, (Lit.int .u8 x).wf = true) :
  za Tryz.prog (jw Tryz.prog s) AF #[.slice a0 xs0.length c0, .slice a1 xs1.length c1] h (fun v _ => v = .bool true) := by
 refine DT (vs := [.slice a0 xs0.length c0, .slice a1 xs1.length c1]) ⟨rfl, rfl, trivial⟩ hi ?_
 simp (maxSteps := 4000000) only [AJ, Tr.wp, zG, Ex.ev, coerce, toInt_int, zb, zi, zl, zj, z6, Cst.val, SV.den, zw, zV, z7, zp, zm, z4, List.flatMap_cons, List.flatMap_nil, List.getD_cons_zero, List.getD_cons_succ, List.getElem?_cons_zero, List.getElem?_cons_succ, decide_eq_true_eq, decide_eq_false_iff_not, List.map_cons, List.map_nil, List.cons_append, List.nil_append, List.append_nil, Nat.zero_add, if_false, Bool.false_eq_true]
 have R0 : tB.R h (.slice a0 xs0.length c0) xs0 := ⟨_, _, rfl, hx0⟩
 have R1 : tB.R h (.slice a1 xs1.length c1) xs1 := ⟨_, _, rfl, hx1⟩
 refine ⟨fun _ => trivial, fun hsm0 => ?_⟩
 have L0 : As xs0 := by have := hl0; show List.length _ ≤ _; omega
 refine ⟨fun _ => trivial, fun hsm1 => ?_⟩
 have L1 : As xs1 := by have := hl1; show List.length _ ≤ _; omega
 have hwb0 : ∀ x ∈ xs0, 0 ≤ x ∧ x ≤ 255 := fun x hx => Sf (hw0 x hx)
 have hwb1 : ∀ x ∈ xs1, 0 ≤ x ∧ x ≤ 255 := fun x hx => Sf (hw1 x hx)
 have s0 : Eng.Sub h h := fun _ _ e => e
 have sa : kj (xi xs0 xs1) := Tv hwb0 L0 hwb1 L1
 refine (C3 (hi.sub s0) (tB.Rsub R0 s0) (yY L0)).mono ?_
 rintro v1 h1 ⟨O1, N1, t1⟩
 obtain ⟨b10, e10, rfl⟩ := Fx (tB.OR O1)
 refine ⟨_, _, _, rfl, ?_⟩
 have s1 := s0.trans t1
 refine (C3 (hi.sub s1) (tB.Rsub R1 s1) (yY L1)).mono ?_
 rintro v2 h2 ⟨O2, N2, t2⟩
 obtain ⟨b20, e20, rfl⟩ := Fx (tB.OR O2)
 refine ⟨_, _, _, rfl, ?_⟩
 have s2 := s1.trans t2
 refine (LW (hi.sub s2) (Ty.jr O1 (t2)) hwb0 L0 (Ty.jr O2 (fun _ _ e => e)) hwb1 L1).mono ?_
 rintro v3 h3 ⟨O3, N3, t3⟩
 obtain ⟨b31, e31, rfl⟩ := Ee (zB.OR O3)
 refine ⟨_, _, _, _, _, rfl, ?_⟩
 have s3 := s2.trans t3
 refine (C3 (hi.sub s3) (tB.Rsub R0 s3) (yY L0)).mono ?_
 rintro v4 h4 ⟨O4, N4, t4⟩
 obtain ⟨b40, e40, rfl⟩ := Fx (tB.OR O4)
 refine ⟨_, _, _, rfl, ?_⟩
 have s4 := s3.trans t4
 refine (C3 (hi.sub s4) (tB.Rsub R1 s4) (yY L1)).mono ?_
 rintro v5 h5 ⟨O5, N5, t5⟩
 obtain ⟨b50, e50, rfl⟩ := Fx (tB.OR O5)
 refine ⟨_, _, _, rfl, ?_⟩
 have s5 := s4.trans t5
 refine (Gx (hi.sub s5) (ge.sub s5) (et.sub s5) (Ty.jr O4 (t5)) hwb0 L0 (Ty.jr O5 (fun _ _ e => e)) hwb1 L1).mono ?_
 rintro v6 h6 ⟨O6, N6, t6⟩
 obtain ⟨b61, e61, rfl⟩ := Ee (zB.OR O6)
 refine ⟨_, _, _, _, _, rfl, ?_⟩
 have s6 := s5.trans t6
 refine (CV (hi.sub s6) (zB.OR O6) (zB.OR (Ty.jr O3 (t4.trans (t5.trans (t6))))) sa).mono ?_
 rintro _ hq ⟨rfl, eq⟩
 rw [eq]
 refine ⟨_, rfl, fun hne => by simp at hne, fun _ => ?_⟩
 refine (C3 (hi.sub s6) (tB.Rsub R0 s6) (yY L0)).mono ?_
 rintro v7 h7 ⟨O7, N7, t7⟩
 obtain ⟨b70, e70, rfl⟩ := Fx (tB.OR O7)
 refine ⟨_, _, _, rfl, ?_⟩
 have s7 := s6.trans t7
 refine (Np (hi.sub s7) (tB.OR (Ty.jr O4 (t5.trans (t6.trans (t7))))) (tB.OR O7) (yY L0)).mono ?_
 rintro _ hq ⟨rfl, eq⟩
 rw [eq]
 refine ⟨_, rfl, fun hne => by simp at hne, fun _ => ?_⟩
 refine (C3 (hi.sub s7) (tB.Rsub R1 s7) (yY L1)).mono ?_
 rintro v8 h8 ⟨O8, N8, t8⟩
 obtain ⟨b80, e80, rfl⟩ := Fx (tB.OR O8)
 refine ⟨_, _, _, rfl, ?_⟩
 have s8 := s7.trans t8
 refine (Np (hi.sub s8) (tB.OR (Ty.jr O5 (t6.trans (t7.trans (t8))))) (tB.OR O8) (yY L1)).mono ?_
 rintro _ hq ⟨rfl, eq⟩
 rw [eq]
 refine ⟨_, rfl, fun hne => by simp at hne, fun _ => ?_⟩
 have OG := Ty.jr O6 (t7.trans (t8))
 have OW := Ty.jr O3 (t4.trans (t5.trans (t6.trans (t7.trans (t8)))))
 have OX0 := Ty.jr O4 (t5.trans (t6.trans (t7.trans (t8))))
 have OX1 := Ty.jr O5 (t6.trans (t7.trans (t8)))
 have dWG := Ty.far (A := zB) (L := zB) (Ty.jr O3 (t4.trans (t5))) N6
 have dX0G := Ty.far (A := tB) (L := zB) (Ty.jr O4 (t5)) N6
 have dWX0 := Ty.far (A := zB) (L := tB) (Ty.jr O3 (fun _ _ e => e)) N4
 have dX1G := Ty.far (A := tB) (L := zB) (Ty.jr O5 (fun _ _ e => e)) N6
 have dWX1 := Ty.far (A := zB) (L := tB) (Ty.jr O3 (t4)) N5
 have dX0X1 := Ty.far (A := tB) (L := tB) (Ty.jr O4 (fun _ _ e => e)) N5
 have h8n : ∀ {b : Nat}, h b = none → ¬ (jw Tryz.prog s) b := fun hb hs => hi _ hs hb
 refine (II (hi.sub s8) OX0 (fun b hb => h8n (zZ s3 (N4 b hb))) (1) (by have := At (yY L0); omega) (by have := At (yY L0); have := At (yY L1); omega) (yY L0)).mono ?_
 rintro _ h9 ⟨rfl, _, f9⟩
 have s9 : Eng.Sub h h9 := Sub.other s8 (fun b hb => zZ s3 (N4 b hb)) f9
 replace OG := Ty.Dh OG (G8 dX0G) f9
 replace OW := Ty.Dh OW dWX0 f9
 replace OX1 := Ty.Dh OX1 (G8 dX0X1) f9
 refine ⟨_, rfl, ?_⟩
 refine (II (hi.sub s9) OX1 (fun b hb => h8n (zZ s4 (N5 b hb))) (1 + (KR xs0 : Nat)) (by have := At (yY L1); omega) (by have := At (yY L0); have := At (yY L1); omega) (yY L1)).mono ?_
 rintro _ h10 ⟨rfl, _, f10⟩
 have s10 : Eng.Sub h h10 := Sub.other s9 (fun b hb => zZ s4 (N5 b hb)) f10
 replace OG := Ty.Dh OG (G8 dX1G) f10
 replace OW := Ty.Dh OW dWX1 f10
 refine ⟨_, rfl, fun _ => ?_, fun hneg => by simp at hneg; omega⟩
 refine (CV (hi.sub s10) (zB.OR OG) (zB.OR OW) sa).mono ?_
 rintro _ hq ⟨rfl, eq⟩
 rw [eq]
 refine ⟨_, rfl, fun _ => ⟨fun hne => by simp at hne, fun _ => ?_⟩⟩
 have ca := JG sa
 refine (JH (hi.sub s10) OG (fun b hb => h8n (zZ s5 (N6 b hb))) 1 (by omega) (by omega) sa).mono ?_
 rintro _ h11 ⟨rfl, OM, f11⟩
 have s11 : Eng.Sub h h11 := Sub.other s10 (fun b hb => zZ s5 (N6 b hb)) f11
 replace OW := Ty.Dh OW dWG f11
 refine ⟨_, rfl, ?_⟩
 refine (E3 (hi.sub s11) 1 (zB.OR OM) (by omega) (by omega) sa).mono ?_
 rintro _ hq ⟨rfl, eq⟩
 rw [eq]
 refine ⟨_, rfl, fun hneg => by omega, fun _ => ⟨fun hne => by simp at hne, fun _ => ?_⟩⟩
 refine (C3 (hi.sub s11) (tB.Rsub R0 s11) (yY L0)).mono ?_
 rintro v12 h12 ⟨O12, N12, t12⟩
 obtain ⟨b120, e120, rfl⟩ := Fx (tB.OR O12)
 refine ⟨_, _, _, rfl, ?_⟩
 have s12 := s11.trans t12
 refine (C3 (hi.sub s12) (tB.Rsub R1 s12) (yY L1)).mono ?_
 rintro v13 h13 ⟨O13, N13, t13⟩
 obtain ⟨b130, e130, rfl⟩ := Fx (tB.OR O13)
 refine ⟨_, _, _, rfl, ?_⟩
 have s13 := s12.trans t13
 refine (Gx (hi.sub s13) (ge.sub s13) (et.sub s13) (Ty.jr O12 (t13)) hwb0 L0 (Ty.jr O13 (fun _ _ e => e)) hwb1 L1).mono ?_
 rintro v14 h14 ⟨O14, N14, t14⟩
 obtain ⟨b141, e141, rfl⟩ := Ee (zB.OR O14)
 refine ⟨_, _, _, _, _, rfl, ?_⟩
 have s14 := s13.trans t14
 refine (CV (hi.sub s14) (zB.OR O14) (zB.OR (Ty.jr OW (t12.trans (t13.trans (t14))))) sa).mono ?_
 rintro _ hq ⟨rfl, eq⟩
 rw [eq]
 refine ⟨_, rfl, fun hne => by simp at hne, fun _ => ?_⟩
 refine (E3 (hi.sub s14) 1 (zB.OR (Ty.jr OM (t12.trans (t13.trans (t14))))) (by omega) (by omega) sa).mono ?_
 rintro _ hq ⟨rfl, eq⟩
 exact ⟨_, rfl, fun hneg => by omega, fun _ => ⟨fun hne => by simp at hne, fun _ => trivial⟩⟩
end Go.Proofs.YteaonnfokkfnlaaGreatDoor
end
