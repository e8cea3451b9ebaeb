-- printed by a generator of my own (wip/eng/Gen) from the translation
import Derived.Test.YteaonnfokkfnlaaDoorEng2
import Derived.Test.YteaonnfokkfnlaaDoorChecked
import Derived.Test.YteaonnfokkfnlaaDoorNums
set_option linter.unusedVariables false
set_option linter.unusedSimpArgs false
namespace Go.Proofs.YteaonnfokkfnlaaDoor
open Go Go.Eng
def tabL2 : List (TypeId × TyD) := [(2, ⟨(.int .i64), 1, 8, [.int .i64], some [(1, (.int .i64 0))], none⟩),
  (4, ⟨.bool, 1, 1, [.bool], some [(1, (.bool false))], none⟩),
  (5, ⟨(.int .u8), 1, 1, [.int .u8], some [(1, (.int .u8 0))], none⟩),
  (22, ⟨(.sl 5), 1, 24, [.slice], some [(1, .nilSl)], none⟩),
  (55, ⟨(.ptr 77), 1, 8, [.ptr], some [(1, .nilPtr)], none⟩)]
set_option maxRecDepth 100000 in
theorem tabL2Ok : TabOk Tryd.prog tabL2 := tabOk_of (by kernel_rfl)
theorem mixedL2 : Tryd.prog.follows .mixedOrders = true := by kernel_rfl
/- function 21 -/
def c_spec_l1Data : Cfg := ⟨tabL2, [⟨6, [6, 7], [], [8, 18, 19, 20, 21, 22, 23, 24, 25, 26, 27, 28, 29, 30]⟩], [], [.tmp 4]⟩
def p_spec_l1Data : List (Bool × List Sh) := [(false, [.ptr]), (false, [.int .i64])]
set_option maxRecDepth 100000 in
def t_spec_l1Data : Tr :=
(.call F_spec_l1Below [(.x (.var (.ptr) 0)), (.x (.var (.int .i64) 1))] false [(false, [.int .i64])]
(.call F_spec_l1Once [(.x (.var (.ptr) 0)), (.x (.cst (.int .i64 6)))] false [(false, [.bool])]
(.lift (.br (.var (.bool) 3)
 (.call F_spec_l1Some [(.x (.var (.ptr) 0)), (.x (.var (.int .i64) 2))] false [(false, [.slice])]
 (.ret (.x (.var (.slice) 4))))
 (.hsl 5 0 []
 (.loop [.slice, .int .i64] [(.var (.slice) 4), (.cst (.int .i64 0))]
  (.lift (.br (.cm .lss (.var (.int .i64) 6) (.var (.int .i64) 2))
   (.call F_spec_l1Below [(.x (.var (.ptr) 0)), (.x (.cst (.int .i64 3)))] false [(false, [.int .i64])]
   (.hsl 5 1 [(.cv .u8 (.ar .add .i64 (.cst (.int .i64 97)) (.var (.int .i64) 7)))]
   (.app 5 1 1 [(.int .u8 0)] (.var (.slice) 5) (.var (.slice) 8)
   (.cont 1 [(.var (.slice) 9), (.ar .add .i64 (.var (.int .i64) 6) (.cst (.int .i64 1)))]))))
   (.ret (.x (.var (.slice) 5)))))))))))
set_option maxRecDepth 100000 in
theorem s_spec_l1Data : sxF c_spec_l1Data Tryd.f21 p_spec_l1Data = some t_spec_l1Data := by kernel_rfl
theorem e_spec_l1Data (xs : Array Value) (w : World) : (callFunc F_spec_l1Data xs).runT Tryd.prog w #[] = (.ok (.enter F_spec_l1Data xs) w, #[]) := ent_of Tryd.func21 (by kernel_rfl) (by kernel_rfl) xs w
theorem run_spec_l1Data {S : Shared} {h : Eng.Heap} {Q : Value → Eng.Heap → Prop} {vs : List Value} (hsh : shOk (resShs p_spec_l1Data) vs) (hi : Inv S h) (hw : t_spec_l1Data.wp Tryd.prog S noLeaf Q vs h []) : CallsH Tryd.prog S F_spec_l1Data (argVals p_spec_l1Data vs) h Q :=
  sxF_ok (cfg := c_spec_l1Data) tabL2Ok mixedL2 Tryd.func21 rfl s_spec_l1Data e_spec_l1Data rfl hsh hi hw
/- function 23 -/
def c_spec_l1Once : Cfg := ⟨tabL2, [], [], [.tmp 4]⟩
def p_spec_l1Once : List (Bool × List Sh) := [(false, [.ptr]), (false, [.int .i64])]
set_option maxRecDepth 100000 in
def t_spec_l1Once : Tr :=
(.call F_spec_l1Below [(.x (.var (.ptr) 0)), (.x (.var (.int .i64) 1))] false [(false, [.int .i64])]
(.ret (.x (.cm .eql (.var (.int .i64) 2) (.cst (.int .i64 0))))))
set_option maxRecDepth 100000 in
theorem s_spec_l1Once : sxF c_spec_l1Once Tryd.f23 p_spec_l1Once = some t_spec_l1Once := by kernel_rfl
theorem e_spec_l1Once (xs : Array Value) (w : World) : (callFunc F_spec_l1Once xs).runT Tryd.prog w #[] = (.ok (.enter F_spec_l1Once xs) w, #[]) := ent_of Tryd.func23 (by kernel_rfl) (by kernel_rfl) xs w
theorem run_spec_l1Once {S : Shared} {h : Eng.Heap} {Q : Value → Eng.Heap → Prop} {vs : List Value} (hsh : shOk (resShs p_spec_l1Once) vs) (hi : Inv S h) (hw : t_spec_l1Once.wp Tryd.prog S noLeaf Q vs h []) : CallsH Tryd.prog S F_spec_l1Once (argVals p_spec_l1Once vs) h Q :=
  sxF_ok (cfg := c_spec_l1Once) tabL2Ok mixedL2 Tryd.func23 rfl s_spec_l1Once e_spec_l1Once rfl hsh hi hw
end Go.Proofs.YteaonnfokkfnlaaDoor
