-- printed by a generator of my own (wip/eng/Gen) from the translation
import Derived.Test.YteaonnfokkfnlaaDoorEng2
import Derived.Test.YteaonnfokkfnlaaDoorChecked
import Derived.Test.YteaonnfokkfnlaaDoorNums
set_option linter.unusedVariables false
set_option linter.unusedSimpArgs false
namespace Go.Proofs.YteaonnfokkfnlaaDoor
open Go Go.Eng
def tabHN : List (TypeId × TyD) := [(0, ⟨.oth, 1, 0, [], none, some []⟩),
  (2, ⟨(.int .i64), 1, 8, [.int .i64], some [(1, (.int .i64 0))], none⟩),
  (3, ⟨(.int .i64), 1, 8, [.int .i64], some [(1, (.int .i64 0))], none⟩),
  (4, ⟨.bool, 1, 1, [.bool], some [(1, (.bool false))], none⟩),
  (25, ⟨(.int .u64), 1, 8, [.int .u64], some [(1, (.int .u64 0))], none⟩),
  (27, ⟨(.st [(0, 2), (1, 25)]), 2, 16, [.int .i64, .int .u64], some [(1, (.int .i64 0)), (1, (.int .u64 0))], none⟩),
  (28, ⟨(.sl 27), 1, 24, [.slice], some [(1, .nilSl)], none⟩),
  (30, ⟨(.sl 2), 1, 24, [.slice], some [(1, .nilSl)], none⟩),
  (47, ⟨(.ptr 101), 1, 8, [.ptr], some [(1, .nilPtr)], none⟩),
  (81, ⟨.fnk, 1, 8, [.fnv], some [(1, .nilFn)], none⟩),
  (99, ⟨(.sl 103), 1, 24, [.slice], some [(1, .nilSl)], none⟩),
  (101, ⟨(.st [(0, 99)]), 1, 24, [.slice], some [(1, .nilSl)], none⟩),
  (103, ⟨(.st [(0, 3), (1, 3)]), 2, 16, [.int .i64, .int .i64], some [(2, (.int .i64 0))], none⟩),
  (124, ⟨(.st [(0, 2), (1, 2), (2, 2)]), 3, 24, [.int .i64, .int .i64, .int .i64], some [(3, (.int .i64 0))], none⟩)]
set_option maxRecDepth 100000 in
theorem tabHNOk : TabOk Tryd.prog tabHN := tabOk_of (by kernel_rfl)
theorem mixedHN : Tryd.prog.follows .mixedOrders = true := by kernel_rfl
/- function 42 -/
def c_impl_tableOf : Cfg := ⟨tabHN, [⟨8, [6, 24], [], [7, 25, 26, 27, 28, 29, 30, 31, 32, 33, 34, 35, 36, 37, 38, 39, 40, 41, 42, 43, 44, 45, 46, 47, 48, 49, 50, 51, 52, 53, 54, 55, 56, 57, 58, 59, 60, 61, 62, 63, 64, 65, 66, 67, 68, 69, 70, 71, 72, 73, 74]⟩, ⟨3, [14], [], [4, 5, 6, 7, 15, 16, 17, 18, 19, 20, 21, 22, 23, 24, 25, 26, 27, 28, 29, 30, 31, 32, 33, 34, 35, 36, 37, 38, 39, 40, 41, 42, 43, 44, 45, 46, 47, 48, 49, 50, 51, 52, 53, 54, 55, 56, 57, 58, 59, 60, 61, 62, 63, 64, 65, 66, 67, 68, 69, 70, 71, 72, 73, 74, 75, 76, 77, 78, 79, 80, 81, 82, 83, 84]⟩], [10], [.tmp 2]⟩
def p_impl_tableOf : List (Bool × List Sh) := [(false, [.slice])]
set_option maxRecDepth 100000 in
def t_impl_tableOf : Tr :=
(.mks 103 2 16 [(.int .i64 0), (.int .i64 0)] (.cst (.int .i64 1)) (.cst (.int .i64 1))
(.hall 101 [(1, (.var (.slice) 1))]
(.call F_impl_HuffCodes [(.x (.var (.slice) 0))] false [(false, [.slice])]
(.loop [.int .i64] [(.cst (.int .i64 0))]
 (.lift (.br (.cm .lss (.var (.int .i64) 4) (.ln (.var (.slice) 3)))
  (.need (.nt (.nn (.var (.slice) 3)))
  (.need (.cm .leq (.cst (.int .i64 0)) (.var (.int .i64) 4))
  (.need (.cm .lss (.var (.int .i64) 4) (.ln (.var (.slice) 3)))
  (.load (.ix 2 (.var (.slice) 3) (.var (.int .i64) 4)) [.int .i64, .int .u64]
  (.lift (.br (.cm .eql (.var (.int .i64) 5) (.cst (.int .i64 0)))
   (.cont 0 [(.ar .add .i64 (.var (.int .i64) 4) (.cst (.int .i64 1)))])
   (.loop [.int .i64, .int .i64] [(.cst (.int .i64 0)), (.cst (.int .i64 0))]
    (.lift (.br (.cm .lss (.var (.int .i64) 8) (.var (.int .i64) 5))
     (.load (.fld (.var (.addr) 2) 0) [.slice]
     (.need (.nt (.nn (.var (.slice) 9)))
     (.need (.cm .leq (.cst (.int .i64 0)) (.var (.int .i64) 7))
     (.need (.cm .lss (.var (.int .i64) 7) (.ln (.var (.slice) 9)))
     (.load (.fld (.ix 2 (.var (.slice) 9) (.var (.int .i64) 7)) 1) [.int .i64]
     (.join []
      (.br (.cm .eql (.var (.int .i64) 10) (.cst (.int .i64 0)))
       (.load (.fld (.var (.addr) 2) 0) [.slice]
       (.load (.fld (.var (.addr) 2) 0) [.slice]
       (.need (.nt (.nn (.var (.slice) 11)))
       (.need (.cm .leq (.cst (.int .i64 0)) (.var (.int .i64) 7))
       (.need (.cm .lss (.var (.int .i64) 7) (.ln (.var (.slice) 11)))
       (.hsto (.fld (.ix 2 (.var (.slice) 11) (.var (.int .i64) 7)) 1) [(.ln (.var (.slice) 12))]
       (.load (.fld (.var (.addr) 2) 0) [.slice]
       (.hsl 103 2 [(.cst (.int .i64 0)), (.cst (.int .i64 0)), (.cst (.int .i64 0)), (.cst (.int .i64 0))]
       (.app 103 2 16 [(.int .i64 0), (.int .i64 0)] (.var (.slice) 13) (.var (.slice) 14)
       (.hsto (.fld (.var (.addr) 2) 0) [(.var (.slice) 15)]
       (.cont 5 [])))))))))))
       (.cont 5 []))
      (.load (.fld (.var (.addr) 2) 0) [.slice]
      (.need (.nt (.nn (.var (.slice) 11)))
      (.need (.cm .leq (.cst (.int .i64 0)) (.var (.int .i64) 7))
      (.need (.cm .lss (.var (.int .i64) 7) (.ln (.var (.slice) 11)))
      (.load (.fld (.ix 2 (.var (.slice) 11) (.var (.int .i64) 7)) 1) [.int .i64]
      (.need (.cm .geq (.var (.int .i64) 8) (.cst (.int .i64 0)))
      (.cont 3 [(.ar .add .i64 (.var (.int .i64) 12) (.cv .i64 (.ar .and .u64 (.ar .shr .u64 (.var (.int .u64) 6) (.var (.int .i64) 8)) (.cst (.int .u64 1))))), (.ar .add .i64 (.var (.int .i64) 8) (.cst (.int .i64 1)))])))))))))))))
     (.load (.fld (.var (.addr) 2) 0) [.slice]
     (.need (.nt (.nn (.var (.slice) 9)))
     (.need (.cm .leq (.cst (.int .i64 0)) (.var (.int .i64) 7))
     (.need (.cm .lss (.var (.int .i64) 7) (.ln (.var (.slice) 9)))
     (.hsto (.fld (.ix 2 (.var (.slice) 9) (.var (.int .i64) 7)) 0) [(.ar .add .i64 (.var (.int .i64) 4) (.cst (.int .i64 1)))]
     (.cont 0 [(.ar .add .i64 (.var (.int .i64) 4) (.cst (.int .i64 1)))])))))))))))))))
  (.ret (.x (.var (.addr) 2)))))))))
set_option maxRecDepth 100000 in
theorem s_impl_tableOf : sxF c_impl_tableOf Tryd.f42 p_impl_tableOf = some t_impl_tableOf := by kernel_rfl
theorem e_impl_tableOf (xs : Array Value) (w : World) : (callFunc F_impl_tableOf xs).runT Tryd.prog w #[] = (.ok (.enter F_impl_tableOf xs) w, #[]) := ent_of Tryd.func42 (by kernel_rfl) (by kernel_rfl) xs w
theorem run_impl_tableOf {S : Shared} {h : Eng.Heap} {Q : Value → Eng.Heap → Prop} {vs : List Value} (hsh : shOk (resShs p_impl_tableOf) vs) (hi : Inv S h) (hw : t_impl_tableOf.wp Tryd.prog S noLeaf Q vs h []) : CallsH Tryd.prog S F_impl_tableOf (argVals p_impl_tableOf vs) h Q :=
  sxF_ok (cfg := c_impl_tableOf) tabHNOk mixedHN Tryd.func42 rfl s_impl_tableOf e_impl_tableOf rfl hsh hi hw
/- function 57 -/
def c_impl_codeTable__next : Cfg := ⟨tabHN, [⟨4, [6], [(1, 0), (1, 1)], [7, 14, 15, 16, 17, 18, 19, 20, 21, 22, 23, 24, 25, 26, 27, 28, 29, 30, 31, 32, 33, 34, 35, 36, 37, 38, 39, 40, 41, 42]⟩], [], [.cell 4 124]⟩
def p_impl_codeTable__next : List (Bool × List Sh) := [(false, [.ptr]), (false, [.fnv])]
set_option maxRecDepth 100000 in
def t_impl_codeTable__next : Tr :=
(.need (.nt (.nn (.var (.ptr) 0)))
(.load (.fld (.nz (.var (.ptr) 0)) 0) [.slice]
(.need (.nt (.nn (.var (.slice) 2)))
(.need (.cm .leq (.cst (.int .i64 0)) (.cst (.int .i64 0)))
(.need (.cm .lss (.cst (.int .i64 0)) (.ln (.var (.slice) 2)))
(.load (.ix 2 (.var (.slice) 2) (.cst (.int .i64 0))) [.int .i64, .int .i64]
(.loop [.int .i64, .int .i64, .int .i64] [(.cst (.int .i64 0)), (.var (.int .i64) 3), (.var (.int .i64) 4)]
 (.lift (.br (.cm .gtr (.var (.int .i64) 6) (.cst (.int .i64 0)))
  (.ret (.agg [(.cst (.int .i64 1)), (.ar .sub .i64 (.var (.int .i64) 6) (.cst (.int .i64 1))), (.var (.int .i64) 5)]))
  (.lift (.br (.cm .eql (.var (.int .i64) 7) (.cst (.int .i64 0)))
   (.ret (.agg [(.cst (.int .i64 0)), (.cst (.int .i64 0)), (.cst (.int .i64 0))]))
   (.callv (.var (.fnv) 1) [] false [(false, [.int .i64])]
   (.lift (.br (.cm .lss (.var (.int .i64) 8) (.cst (.int .i64 0)))
    (.ret (.agg [(.cst (.int .i64 2)), (.cst (.int .i64 0)), (.cst (.int .i64 0))]))
    (.need (.nt (.nn (.var (.ptr) 0)))
    (.load (.fld (.nz (.var (.ptr) 0)) 0) [.slice]
    (.need (.nt (.nn (.var (.slice) 9)))
    (.need (.cm .leq (.cst (.int .i64 0)) (.ar .add .i64 (.var (.int .i64) 7) (.var (.int .i64) 8)))
    (.need (.cm .lss (.ar .add .i64 (.var (.int .i64) 7) (.var (.int .i64) 8)) (.ln (.var (.slice) 9)))
    (.load (.ix 2 (.var (.slice) 9) (.ar .add .i64 (.var (.int .i64) 7) (.var (.int .i64) 8))) [.int .i64, .int .i64]
    (.cont 0 [(.ar .add .i64 (.var (.int .i64) 5) (.cst (.int .i64 1))), (.var (.int .i64) 10), (.var (.int .i64) 11)])))))))))))))))))))))
set_option maxRecDepth 100000 in
theorem s_impl_codeTable__next : sxF c_impl_codeTable__next Tryd.f57 p_impl_codeTable__next = some t_impl_codeTable__next := by kernel_rfl
theorem e_impl_codeTable__next (xs : Array Value) (w : World) : (callFunc F_impl_codeTable__next xs).runT Tryd.prog w #[] = (.ok (.enter F_impl_codeTable__next xs) w, #[]) := ent_of Tryd.func57 (by kernel_rfl) (by kernel_rfl) xs w
theorem run_impl_codeTable__next {S : Shared} {h : Eng.Heap} {Q : Value → Eng.Heap → Prop} {vs : List Value} (hsh : shOk (resShs p_impl_codeTable__next) vs) (hi : Inv S h) (hw : t_impl_codeTable__next.wp Tryd.prog S noLeaf Q vs h []) : CallsH Tryd.prog S F_impl_codeTable__next (argVals p_impl_codeTable__next vs) h Q :=
  sxF_ok (cfg := c_impl_codeTable__next) tabHNOk mixedHN Tryd.func57 rfl s_impl_codeTable__next e_impl_codeTable__next rfl hsh hi hw
end Go.Proofs.YteaonnfokkfnlaaDoor
