-- printed by a generator of my own (wip/eng/Gen) from the translation
import Derived.Test.YteaonnfokkfnlaaDoorEng2
import Derived.Test.YteaonnfokkfnlaaDoorChecked
import Derived.Test.YteaonnfokkfnlaaDoorNums
set_option linter.unusedVariables false
set_option linter.unusedSimpArgs false
namespace Go.Proofs.YteaonnfokkfnlaaDoor
open Go Go.Eng
def tabEF : List (TypeId × TyD) := [(0, ⟨.oth, 1, 0, [], none, some []⟩),
  (2, ⟨(.int .i64), 1, 8, [.int .i64], some [(1, (.int .i64 0))], none⟩),
  (3, ⟨(.int .i64), 1, 8, [.int .i64], some [(1, (.int .i64 0))], none⟩),
  (4, ⟨.bool, 1, 1, [.bool], some [(1, (.bool false))], none⟩),
  (5, ⟨(.int .u8), 1, 1, [.int .u8], some [(1, (.int .u8 0))], none⟩),
  (22, ⟨(.sl 5), 1, 24, [.slice], some [(1, .nilSl)], none⟩),
  (25, ⟨(.int .u64), 1, 8, [.int .u64], some [(1, (.int .u64 0))], none⟩),
  (27, ⟨(.st [(0, 2), (1, 25)]), 2, 16, [.int .i64, .int .u64], some [(1, (.int .i64 0)), (1, (.int .u64 0))], none⟩),
  (28, ⟨(.sl 27), 1, 24, [.slice], some [(1, .nilSl)], none⟩),
  (30, ⟨(.sl 2), 1, 24, [.slice], some [(1, .nilSl)], none⟩),
  (60, ⟨.oth, 1, 0, [], none, some [30, 30]⟩),
  (62, ⟨.fnk, 1, 8, [.fnv], some [(1, .nilFn)], none⟩)]
set_option maxRecDepth 100000 in
theorem tabEFOk : TabOk Tryd.prog tabEF := tabOk_of (by kernel_rfl)
theorem mixedEF : Tryd.prog.follows .mixedOrders = true := by kernel_rfl
/- function 12 -/
def c_impl_EncodeFixed : Cfg := ⟨tabEF, [⟨11, [29], [], [10, 30, 31, 32, 33, 34, 35, 36, 37, 38, 39, 40, 41, 42, 43, 44, 45]⟩], [6, 7], [.tmp 2]⟩
def p_impl_EncodeFixed : List (Bool × List Sh) := [(false, [.slice])]
set_option maxRecDepth 100000 in
def t_impl_EncodeFixed : Tr :=
(.lift (.br (.cm .gtr (.ln (.var (.slice) 0)) (.cst (.int .i64 100000)))
 (.hsl 5 0 []
 (.ret (.x (.var (.slice) 1))))
 (.call F_impl_fixedLens [] true [(false, [.slice]), (false, [.slice])]
 (.call F_impl_HuffCodes [(.x (.var (.slice) 1))] false [(false, [.slice])]
 (.hsl 5 0 []
 (.hall 22 [(1, (.cst .nilSl))]
 (.hsto (.var (.addr) 5) [(.var (.slice) 4)]
 (.hall 3 [(1, (.cst (.int .i64 0)))]
 (.hsto (.var (.addr) 6) [(.cst (.int .i64 0))]
 (.call F_impl_EncodeFixed_1 [(.x (.cst (.int .u64 1))), (.x (.cst (.int .i64 1))), (.x (.var (.addr) 6)), (.x (.var (.addr) 5))] true []
 (.call F_impl_EncodeFixed_1 [(.x (.cst (.int .u64 1))), (.x (.cst (.int .i64 2))), (.x (.var (.addr) 6)), (.x (.var (.addr) 5))] true []
 (.loop [.int .i64] [(.cst (.int .i64 0))]
  (.lift (.br (.cm .lss (.var (.int .i64) 7) (.ln (.var (.slice) 0)))
   (.need (.nt (.nn (.var (.slice) 0)))
   (.need (.cm .leq (.cst (.int .i64 0)) (.var (.int .i64) 7))
   (.need (.cm .lss (.var (.int .i64) 7) (.ln (.var (.slice) 0)))
   (.load (.ix 1 (.var (.slice) 0) (.var (.int .i64) 7)) [.int .u8]
   (.need (.nt (.nn (.var (.slice) 3)))
   (.need (.cm .leq (.cst (.int .i64 0)) (.var (.int .u8) 8))
   (.need (.cm .lss (.var (.int .u8) 8) (.ln (.var (.slice) 3)))
   (.load (.fld (.ix 2 (.var (.slice) 3) (.var (.int .u8) 8)) 1) [.int .u64]
   (.need (.nt (.nn (.var (.slice) 3)))
   (.need (.cm .leq (.cst (.int .i64 0)) (.var (.int .u8) 8))
   (.need (.cm .lss (.var (.int .u8) 8) (.ln (.var (.slice) 3)))
   (.load (.fld (.ix 2 (.var (.slice) 3) (.var (.int .u8) 8)) 0) [.int .i64]
   (.call F_impl_EncodeFixed_1 [(.x (.var (.int .u64) 9)), (.x (.var (.int .i64) 10)), (.x (.var (.addr) 6)), (.x (.var (.addr) 5))] true []
   (.cont 1 [(.ar .add .i64 (.var (.int .i64) 7) (.cst (.int .i64 1)))]))))))))))))))
   (.need (.nt (.nn (.var (.slice) 3)))
   (.need (.cm .leq (.cst (.int .i64 0)) (.cst (.int .i64 256)))
   (.need (.cm .lss (.cst (.int .i64 256)) (.ln (.var (.slice) 3)))
   (.load (.fld (.ix 2 (.var (.slice) 3) (.cst (.int .i64 256))) 1) [.int .u64]
   (.need (.nt (.nn (.var (.slice) 3)))
   (.need (.cm .leq (.cst (.int .i64 0)) (.cst (.int .i64 256)))
   (.need (.cm .lss (.cst (.int .i64 256)) (.ln (.var (.slice) 3)))
   (.load (.fld (.ix 2 (.var (.slice) 3) (.cst (.int .i64 256))) 0) [.int .i64]
   (.call F_impl_EncodeFixed_1 [(.x (.var (.int .u64) 8)), (.x (.var (.int .i64) 9)), (.x (.var (.addr) 6)), (.x (.var (.addr) 5))] true []
   (.load (.var (.addr) 5) [.slice]
   (.ret (.x (.var (.slice) 10)))))))))))))))))))))))))))
set_option maxRecDepth 100000 in
theorem s_impl_EncodeFixed : sxF c_impl_EncodeFixed Tryd.f12 p_impl_EncodeFixed = some t_impl_EncodeFixed := by kernel_rfl
theorem e_impl_EncodeFixed (xs : Array Value) (w : World) : (callFunc F_impl_EncodeFixed xs).runT Tryd.prog w #[] = (.ok (.enter F_impl_EncodeFixed xs) w, #[]) := ent_of Tryd.func12 (by kernel_rfl) (by kernel_rfl) xs w
theorem run_impl_EncodeFixed {S : Shared} {h : Eng.Heap} {Q : Value → Eng.Heap → Prop} {vs : List Value} (hsh : shOk (resShs p_impl_EncodeFixed) vs) (hi : Inv S h) (hw : t_impl_EncodeFixed.wp Tryd.prog S noLeaf Q vs h []) : CallsH Tryd.prog S F_impl_EncodeFixed (argVals p_impl_EncodeFixed vs) h Q :=
  sxF_ok (cfg := c_impl_EncodeFixed) tabEFOk mixedEF Tryd.func12 rfl s_impl_EncodeFixed e_impl_EncodeFixed rfl hsh hi hw
/- function 24 -/
def c_impl_fixedLens : Cfg := ⟨tabEF, [⟨3, [10], [], [4, 11, 12, 13, 14, 15, 16, 17, 18, 19, 20, 21, 22, 23, 24, 25, 26, 27, 28, 29, 30, 31, 32]⟩, ⟨12, [35], [], [5, 36, 37, 38, 39, 40, 41]⟩], [], [.tmp 0, .tmp 1]⟩
def p_impl_fixedLens : List (Bool × List Sh) := []
set_option maxRecDepth 100000 in
def t_impl_fixedLens : Tr :=
(.join [.slice, .slice, .slice, .slice]
 (.both
  (.mks 2 1 8 [(.int .i64 0)] (.cst (.int .i64 288)) (.cst (.int .i64 288))
  (.mks 2 1 8 [(.int .i64 0)] (.cst (.int .i64 32)) (.cst (.int .i64 32))
  (.cont 0 [(.var (.slice) 0), (.var (.slice) 1), (.var (.slice) 0), (.var (.slice) 1)])))
  (.mks 2 1 8 [(.int .i64 0)] (.cst (.int .i64 32)) (.cst (.int .i64 32))
  (.mks 2 1 8 [(.int .i64 0)] (.cst (.int .i64 288)) (.cst (.int .i64 288))
  (.cont 0 [(.var (.slice) 1), (.var (.slice) 0), (.var (.slice) 1), (.var (.slice) 0)]))))
 (.loop [.int .i64] [(.cst (.int .i64 0))]
  (.lift (.br (.cm .lss (.var (.int .i64) 4) (.ln (.var (.slice) 0)))
   (.join []
    (.br (.it (.cm .lss (.var (.int .i64) 4) (.cst (.int .i64 144))) (.cst (.bool true)) (.cm .geq (.var (.int .i64) 4) (.cst (.int .i64 280))))
     (.need (.nt (.nn (.var (.slice) 0)))
     (.need (.cm .leq (.cst (.int .i64 0)) (.var (.int .i64) 4))
     (.need (.cm .lss (.var (.int .i64) 4) (.ln (.var (.slice) 0)))
     (.hsto (.ix 1 (.var (.slice) 0) (.var (.int .i64) 4)) [(.cst (.int .i64 8))]
     (.cont 2 [])))))
     (.join []
      (.br (.cm .lss (.var (.int .i64) 4) (.cst (.int .i64 256)))
       (.need (.nt (.nn (.var (.slice) 0)))
       (.need (.cm .leq (.cst (.int .i64 0)) (.var (.int .i64) 4))
       (.need (.cm .lss (.var (.int .i64) 4) (.ln (.var (.slice) 0)))
       (.hsto (.ix 1 (.var (.slice) 0) (.var (.int .i64) 4)) [(.cst (.int .i64 9))]
       (.cont 3 [])))))
       (.need (.nt (.nn (.var (.slice) 0)))
       (.need (.cm .leq (.cst (.int .i64 0)) (.var (.int .i64) 4))
       (.need (.cm .lss (.var (.int .i64) 4) (.ln (.var (.slice) 0)))
       (.hsto (.ix 1 (.var (.slice) 0) (.var (.int .i64) 4)) [(.cst (.int .i64 7))]
       (.cont 3 []))))))
      (.cont 2 [])))
    (.cont 0 [(.ar .add .i64 (.var (.int .i64) 4) (.cst (.int .i64 1)))]))
   (.loop [.int .i64] [(.cst (.int .i64 0))]
    (.lift (.br (.cm .lss (.var (.int .i64) 5) (.ln (.var (.slice) 1)))
     (.need (.nt (.nn (.var (.slice) 1)))
     (.need (.cm .leq (.cst (.int .i64 0)) (.var (.int .i64) 5))
     (.need (.cm .lss (.var (.int .i64) 5) (.ln (.var (.slice) 1)))
     (.hsto (.ix 1 (.var (.slice) 1) (.var (.int .i64) 5)) [(.cst (.int .i64 5))]
     (.cont 2 [(.ar .add .i64 (.var (.int .i64) 5) (.cst (.int .i64 1)))])))))
     (.ret (.tup [(false, [(.var (.slice) 0)]), (false, [(.var (.slice) 1)])])))))))))
set_option maxRecDepth 100000 in
theorem s_impl_fixedLens : sxF c_impl_fixedLens Tryd.f24 p_impl_fixedLens = some t_impl_fixedLens := by kernel_rfl
theorem e_impl_fixedLens (xs : Array Value) (w : World) : (callFunc F_impl_fixedLens xs).runT Tryd.prog w #[] = (.ok (.enter F_impl_fixedLens xs) w, #[]) := ent_of Tryd.func24 (by kernel_rfl) (by kernel_rfl) xs w
theorem run_impl_fixedLens {S : Shared} {h : Eng.Heap} {Q : Value → Eng.Heap → Prop} {vs : List Value} (hsh : shOk (resShs p_impl_fixedLens) vs) (hi : Inv S h) (hw : t_impl_fixedLens.wp Tryd.prog S noLeaf Q vs h []) : CallsH Tryd.prog S F_impl_fixedLens (argVals p_impl_fixedLens vs) h Q :=
  sxF_ok (cfg := c_impl_fixedLens) tabEFOk mixedEF Tryd.func24 rfl s_impl_fixedLens e_impl_fixedLens rfl hsh hi hw
/- function 26 -/
def c_impl_EncodeFixed_1 : Cfg := ⟨tabEF, [⟨1, [8], [], [6, 9, 10, 11, 12, 13, 14, 15, 16, 17, 18, 19, 20, 21, 22, 23, 24, 25, 26, 27, 28, 29, 30, 31, 32, 33, 34]⟩], [], []⟩
def p_impl_EncodeFixed_1 : List (Bool × List Sh) := [(false, [.int .u64]), (false, [.int .i64]), (false, [.addr]), (false, [.addr])]
set_option maxRecDepth 100000 in
def t_impl_EncodeFixed_1 : Tr :=
(.loop [.int .i64] [(.cst (.int .i64 0))]
 (.lift (.br (.cm .lss (.var (.int .i64) 4) (.var (.int .i64) 1))
  (.load (.var (.addr) 2) [.int .i64]
  (.join []
   (.br (.cm .eql (.ar .rem .i64 (.var (.int .i64) 5) (.cst (.int .i64 8))) (.cst (.int .i64 0)))
    (.load (.var (.addr) 3) [.slice]
    (.hsl 5 1 [(.cst (.int .u8 0))]
    (.app 5 1 1 [(.int .u8 0)] (.var (.slice) 6) (.var (.slice) 7)
    (.hsto (.var (.addr) 3) [(.var (.slice) 8)]
    (.cont 2 [])))))
    (.cont 2 []))
   (.load (.var (.addr) 3) [.slice]
   (.load (.var (.addr) 2) [.int .i64]
   (.need (.nt (.nn (.var (.slice) 6)))
   (.need (.cm .leq (.cst (.int .i64 0)) (.ar .quo .i64 (.var (.int .i64) 7) (.cst (.int .i64 8))))
   (.need (.cm .lss (.ar .quo .i64 (.var (.int .i64) 7) (.cst (.int .i64 8))) (.ln (.var (.slice) 6)))
   (.load (.ix 1 (.var (.slice) 6) (.ar .quo .i64 (.var (.int .i64) 7) (.cst (.int .i64 8)))) [.int .u8]
   (.need (.cm .geq (.var (.int .i64) 4) (.cst (.int .i64 0)))
   (.load (.var (.addr) 2) [.int .i64]
   (.need (.cm .geq (.ar .rem .i64 (.var (.int .i64) 9) (.cst (.int .i64 8))) (.cst (.int .i64 0)))
   (.need (.nt (.nn (.var (.slice) 6)))
   (.need (.cm .leq (.cst (.int .i64 0)) (.ar .quo .i64 (.var (.int .i64) 7) (.cst (.int .i64 8))))
   (.need (.cm .lss (.ar .quo .i64 (.var (.int .i64) 7) (.cst (.int .i64 8))) (.ln (.var (.slice) 6)))
   (.hsto (.ix 1 (.var (.slice) 6) (.ar .quo .i64 (.var (.int .i64) 7) (.cst (.int .i64 8)))) [(.ar .or .u8 (.var (.int .u8) 8) (.ar .shl .u8 (.cv .u8 (.ar .and .u64 (.ar .shr .u64 (.var (.int .u64) 0) (.var (.int .i64) 4)) (.cst (.int .u64 1)))) (.ar .rem .i64 (.var (.int .i64) 9) (.cst (.int .i64 8)))))]
   (.load (.var (.addr) 2) [.int .i64]
   (.hsto (.var (.addr) 2) [(.ar .add .i64 (.var (.int .i64) 10) (.cst (.int .i64 1)))]
   (.cont 0 [(.ar .add .i64 (.var (.int .i64) 4) (.cst (.int .i64 1)))]))))))))))))))))))
  (.ret (.tup [])))))
set_option maxRecDepth 100000 in
theorem s_impl_EncodeFixed_1 : sxF c_impl_EncodeFixed_1 Tryd.f26 p_impl_EncodeFixed_1 = some t_impl_EncodeFixed_1 := by kernel_rfl
theorem e_impl_EncodeFixed_1 (xs : Array Value) (w : World) : (callFunc F_impl_EncodeFixed_1 xs).runT Tryd.prog w #[] = (.ok (.enter F_impl_EncodeFixed_1 xs) w, #[]) := ent_of Tryd.func26 (by kernel_rfl) (by kernel_rfl) xs w
theorem run_impl_EncodeFixed_1 {S : Shared} {h : Eng.Heap} {Q : Value → Eng.Heap → Prop} {vs : List Value} (hsh : shOk (resShs p_impl_EncodeFixed_1) vs) (hi : Inv S h) (hw : t_impl_EncodeFixed_1.wp Tryd.prog S noLeaf Q vs h []) : CallsH Tryd.prog S F_impl_EncodeFixed_1 (argVals p_impl_EncodeFixed_1 vs) h Q :=
  sxF_ok (cfg := c_impl_EncodeFixed_1) tabEFOk mixedEF Tryd.func26 rfl s_impl_EncodeFixed_1 e_impl_EncodeFixed_1 rfl hsh hi hw
end Go.Proofs.YteaonnfokkfnlaaDoor
