-- printed by a generator of my own (wip/eng/Gen) from the translation
import Derived.Test.YteaonnfokkfnlaaDoorEng2
import Derived.Test.YteaonnfokkfnlaaDoorChecked
import Derived.Test.YteaonnfokkfnlaaDoorNums
set_option linter.unusedVariables false
set_option linter.unusedSimpArgs false
namespace Go.Proofs.YteaonnfokkfnlaaDoor
open Go Go.Eng
def tabHK : List (TypeId × TyD) := [(0, ⟨.oth, 1, 0, [], none, some []⟩),
  (2, ⟨(.int .i64), 1, 8, [.int .i64], some [(1, (.int .i64 0))], none⟩),
  (3, ⟨(.int .i64), 1, 8, [.int .i64], some [(1, (.int .i64 0))], none⟩),
  (4, ⟨.bool, 1, 1, [.bool], some [(1, (.bool false))], none⟩),
  (30, ⟨(.sl 2), 1, 24, [.slice], some [(1, .nilSl)], none⟩)]
set_option maxRecDepth 100000 in
theorem tabHKOk : TabOk Tryd.prog tabHK := tabOk_of (by kernel_rfl)
theorem mixedHK : Tryd.prog.follows .mixedOrders = true := by kernel_rfl
/- function 14 -/
def c_spec_HuffKind : Cfg := ⟨tabHK, [⟨6, [3, 4, 5], [], [9, 10, 11, 12, 13, 14, 15, 16, 17, 18, 19, 20, 21, 22, 23, 24, 25, 26, 27, 28, 29, 30, 31, 32, 33, 34, 35, 36, 37, 38, 39, 40, 41]⟩], [], [.tmp 2]⟩
def p_spec_HuffKind : List (Bool × List Sh) := [(false, [.slice])]
set_option maxRecDepth 100000 in
def t_spec_HuffKind : Tr :=
(.lift (.br (.cm .gtr (.ln (.var (.slice) 0)) (.cst (.int .i64 320)))
 (.ret (.x (.cst (.int .i64 0))))
 (.loop [.int .i64, .int .i64, .int .i64] [(.cst (.int .i64 0)), (.cst (.int .i64 0)), (.cst (.int .i64 0))]
  (.lift (.br (.cm .lss (.var (.int .i64) 3) (.ln (.var (.slice) 0)))
   (.join [.int .i64, .bool, .bool, .bool]
    (.need (.nt (.nn (.var (.slice) 0)))
    (.need (.cm .leq (.cst (.int .i64 0)) (.var (.int .i64) 3))
    (.need (.cm .lss (.var (.int .i64) 3) (.ln (.var (.slice) 0)))
    (.load (.ix 1 (.var (.slice) 0) (.var (.int .i64) 3)) [.int .i64]
    (.br (.nt (.cm .lss (.var (.int .i64) 4) (.cst (.int .i64 0))))
     (.need (.nt (.nn (.var (.slice) 0)))
     (.need (.cm .leq (.cst (.int .i64 0)) (.var (.int .i64) 3))
     (.need (.cm .lss (.var (.int .i64) 3) (.ln (.var (.slice) 0)))
     (.load (.ix 1 (.var (.slice) 0) (.var (.int .i64) 3)) [.int .i64]
     (.cont 3 [(.var (.int .i64) 4), (.cm .lss (.var (.int .i64) 4) (.cst (.int .i64 0))), (.cm .lss (.var (.int .i64) 4) (.cst (.int .i64 0))), (.cm .gtr (.var (.int .i64) 5) (.cst (.int .i64 15)))])))))
     (.cont 3 [(.var (.int .i64) 4), (.cm .lss (.var (.int .i64) 4) (.cst (.int .i64 0))), (.cm .lss (.var (.int .i64) 4) (.cst (.int .i64 0))), (.cst (.bool true))]))))))
    (.lift (.br (.var (.bool) 7)
     (.ret (.x (.cst (.int .i64 0))))
     (.need (.nt (.nn (.var (.slice) 0)))
     (.need (.cm .leq (.cst (.int .i64 0)) (.var (.int .i64) 3))
     (.need (.cm .lss (.var (.int .i64) 3) (.ln (.var (.slice) 0)))
     (.load (.ix 1 (.var (.slice) 0) (.var (.int .i64) 3)) [.int .i64]
     (.join [.int .i64, .int .i64]
      (.br (.cm .gtr (.var (.int .i64) 8) (.cst (.int .i64 0)))
       (.need (.nt (.nn (.var (.slice) 0)))
       (.need (.cm .leq (.cst (.int .i64 0)) (.var (.int .i64) 3))
       (.need (.cm .lss (.var (.int .i64) 3) (.ln (.var (.slice) 0)))
       (.load (.ix 1 (.var (.slice) 0) (.var (.int .i64) 3)) [.int .i64]
       (.call F_spec_l3Pow [(.x (.ar .sub .i64 (.cst (.int .i64 15)) (.var (.int .i64) 9)))] false [(false, [.int .i64])]
       (.cont 4 [(.ar .add .i64 (.var (.int .i64) 1) (.var (.int .i64) 10)), (.ar .add .i64 (.var (.int .i64) 2) (.cst (.int .i64 1)))]))))))
       (.cont 4 [(.var (.int .i64) 1), (.var (.int .i64) 2)]))
      (.cont 1 [(.var (.int .i64) 9), (.var (.int .i64) 10), (.ar .add .i64 (.var (.int .i64) 3) (.cst (.int .i64 1)))])))))))))
   (.lift (.br (.cm .eql (.var (.int .i64) 2) (.cst (.int .i64 0)))
    (.ret (.x (.cst (.int .i64 5))))
    (.call F_spec_l3Pow [(.x (.cst (.int .i64 15)))] false [(false, [.int .i64])]
    (.lift (.br (.cm .gtr (.var (.int .i64) 1) (.var (.int .i64) 4))
     (.ret (.x (.cst (.int .i64 2))))
     (.call F_spec_l3Pow [(.x (.cst (.int .i64 15)))] false [(false, [.int .i64])]
     (.lift (.br (.cm .eql (.var (.int .i64) 1) (.var (.int .i64) 5))
      (.ret (.x (.cst (.int .i64 1))))
      (.join [.bool]
       (.br (.cm .eql (.var (.int .i64) 2) (.cst (.int .i64 1)))
        (.call F_spec_l3Pow [(.x (.cst (.int .i64 14)))] false [(false, [.int .i64])]
        (.cont 6 [(.cm .eql (.var (.int .i64) 1) (.var (.int .i64) 6))]))
        (.cont 6 [(.cst (.bool false))]))
       (.lift (.br (.var (.bool) 6)
        (.ret (.x (.cst (.int .i64 4))))
        (.ret (.x (.cst (.int .i64 3))))))))))))))))))))
set_option maxRecDepth 100000 in
theorem s_spec_HuffKind : sxF c_spec_HuffKind Tryd.f14 p_spec_HuffKind = some t_spec_HuffKind := by kernel_rfl
theorem e_spec_HuffKind (xs : Array Value) (w : World) : (callFunc F_spec_HuffKind xs).runT Tryd.prog w #[] = (.ok (.enter F_spec_HuffKind xs) w, #[]) := ent_of Tryd.func14 (by kernel_rfl) (by kernel_rfl) xs w
theorem run_spec_HuffKind {S : Shared} {h : Eng.Heap} {Q : Value → Eng.Heap → Prop} {vs : List Value} (hsh : shOk (resShs p_spec_HuffKind) vs) (hi : Inv S h) (hw : t_spec_HuffKind.wp Tryd.prog S noLeaf Q vs h []) : CallsH Tryd.prog S F_spec_HuffKind (argVals p_spec_HuffKind vs) h Q :=
  sxF_ok (cfg := c_spec_HuffKind) tabHKOk mixedHK Tryd.func14 rfl s_spec_HuffKind e_spec_HuffKind rfl hsh hi hw
/- function 27 -/
def c_spec_l3Pow : Cfg := ⟨tabHK, [⟨3, [3, 4], [], [5, 6, 7, 8, 9, 10, 11]⟩], [], [.tmp 2]⟩
def p_spec_l3Pow : List (Bool × List Sh) := [(false, [.int .i64])]
set_option maxRecDepth 100000 in
def t_spec_l3Pow : Tr :=
(.loop [.int .i64, .int .i64] [(.cst (.int .i64 1)), (.cst (.int .i64 0))]
 (.lift (.br (.cm .lss (.var (.int .i64) 2) (.var (.int .i64) 0))
  (.cont 0 [(.ar .mul .i64 (.cst (.int .i64 2)) (.var (.int .i64) 1)), (.ar .add .i64 (.var (.int .i64) 2) (.cst (.int .i64 1)))])
  (.ret (.x (.var (.int .i64) 1))))))
set_option maxRecDepth 100000 in
theorem s_spec_l3Pow : sxF c_spec_l3Pow Tryd.f27 p_spec_l3Pow = some t_spec_l3Pow := by kernel_rfl
theorem e_spec_l3Pow (xs : Array Value) (w : World) : (callFunc F_spec_l3Pow xs).runT Tryd.prog w #[] = (.ok (.enter F_spec_l3Pow xs) w, #[]) := ent_of Tryd.func27 (by kernel_rfl) (by kernel_rfl) xs w
theorem run_spec_l3Pow {S : Shared} {h : Eng.Heap} {Q : Value → Eng.Heap → Prop} {vs : List Value} (hsh : shOk (resShs p_spec_l3Pow) vs) (hi : Inv S h) (hw : t_spec_l3Pow.wp Tryd.prog S noLeaf Q vs h []) : CallsH Tryd.prog S F_spec_l3Pow (argVals p_spec_l3Pow vs) h Q :=
  sxF_ok (cfg := c_spec_l3Pow) tabHKOk mixedHK Tryd.func27 rfl s_spec_l3Pow e_spec_l3Pow rfl hsh hi hw
/- function 36 -/
def c_impl_HuffKind : Cfg := ⟨tabHK, [⟨5, [3, 4, 5, 13], [], [7, 14, 15, 16, 17, 18, 19, 20, 21, 22, 23, 24, 25, 26, 27, 28, 29, 30, 31, 32, 33]⟩], [], [.tmp 2]⟩
def p_impl_HuffKind : List (Bool × List Sh) := [(false, [.slice])]
set_option maxRecDepth 100000 in
def t_impl_HuffKind : Tr :=
(.lift (.br (.cm .gtr (.ln (.var (.slice) 0)) (.cst (.int .i64 320)))
 (.ret (.x (.cst (.int .i64 0))))
 (.loop [.int .i64, .int .i64, .int .i64, .int .i64] [(.cst (.int .i64 0)), (.cst (.int .i64 0)), (.cst (.int .i64 0)), (.cst (.int .i64 0))]
  (.lift (.br (.cm .lss (.var (.int .i64) 4) (.ln (.var (.slice) 0)))
   (.need (.nt (.nn (.var (.slice) 0)))
   (.need (.cm .leq (.cst (.int .i64 0)) (.var (.int .i64) 4))
   (.need (.cm .lss (.var (.int .i64) 4) (.ln (.var (.slice) 0)))
   (.load (.ix 1 (.var (.slice) 0) (.var (.int .i64) 4)) [.int .i64]
   (.lift (.br (.it (.cm .lss (.var (.int .i64) 5) (.cst (.int .i64 0))) (.cst (.bool true)) (.cm .gtr (.var (.int .i64) 5) (.cst (.int .i64 15))))
    (.ret (.x (.cst (.int .i64 0))))
    (.join [.int .i64, .int .i64, .int .i64]
     (.br (.cm .gtr (.var (.int .i64) 5) (.cst (.int .i64 0)))
      (.need (.cm .geq (.ar .sub .i64 (.cst (.int .i64 15)) (.var (.int .i64) 5)) (.cst (.int .i64 0)))
      (.cont 4 [(.ar .add .i64 (.var (.int .i64) 1) (.ar .shl .i64 (.cst (.int .i64 1)) (.ar .sub .i64 (.cst (.int .i64 15)) (.var (.int .i64) 5)))), (.ar .add .i64 (.var (.int .i64) 2) (.cst (.int .i64 1))), (.var (.int .i64) 5)]))
      (.cont 4 [(.var (.int .i64) 1), (.var (.int .i64) 2), (.var (.int .i64) 3)]))
     (.cont 1 [(.var (.int .i64) 6), (.var (.int .i64) 7), (.var (.int .i64) 8), (.ar .add .i64 (.var (.int .i64) 4) (.cst (.int .i64 1)))]))))))))
   (.lift (.br (.cm .eql (.var (.int .i64) 2) (.cst (.int .i64 0)))
    (.ret (.x (.cst (.int .i64 5))))
    (.lift (.br (.cm .gtr (.var (.int .i64) 1) (.cst (.int .i64 32768)))
     (.ret (.x (.cst (.int .i64 2))))
     (.lift (.br (.cm .eql (.var (.int .i64) 1) (.cst (.int .i64 32768)))
      (.ret (.x (.cst (.int .i64 1))))
      (.lift (.br (.it (.cm .eql (.var (.int .i64) 2) (.cst (.int .i64 1))) (.cm .eql (.var (.int .i64) 3) (.cst (.int .i64 1))) (.cst (.bool false)))
       (.ret (.x (.cst (.int .i64 4))))
       (.ret (.x (.cst (.int .i64 3)))))))))))))))))
set_option maxRecDepth 100000 in
theorem s_impl_HuffKind : sxF c_impl_HuffKind Tryd.f36 p_impl_HuffKind = some t_impl_HuffKind := by kernel_rfl
theorem e_impl_HuffKind (xs : Array Value) (w : World) : (callFunc F_impl_HuffKind xs).runT Tryd.prog w #[] = (.ok (.enter F_impl_HuffKind xs) w, #[]) := ent_of Tryd.func36 (by kernel_rfl) (by kernel_rfl) xs w
theorem run_impl_HuffKind {S : Shared} {h : Eng.Heap} {Q : Value → Eng.Heap → Prop} {vs : List Value} (hsh : shOk (resShs p_impl_HuffKind) vs) (hi : Inv S h) (hw : t_impl_HuffKind.wp Tryd.prog S noLeaf Q vs h []) : CallsH Tryd.prog S F_impl_HuffKind (argVals p_impl_HuffKind vs) h Q :=
  sxF_ok (cfg := c_impl_HuffKind) tabHKOk mixedHK Tryd.func36 rfl s_impl_HuffKind e_impl_HuffKind rfl hsh hi hw
end Go.Proofs.YteaonnfokkfnlaaDoor
