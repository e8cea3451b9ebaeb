-- printed by a generator of my own (wip/eng/Gen) from the translation
import Derived.Test.YteaonnfokkfnlaaDoorEng2
import Derived.Test.YteaonnfokkfnlaaDoorChecked
import Derived.Test.YteaonnfokkfnlaaDoorNums
set_option linter.unusedVariables false
set_option linter.unusedSimpArgs false
namespace Go.Proofs.YteaonnfokkfnlaaDoor
open Go Go.Eng
def tabES : List (TypeId × TyD) := [(2, ⟨(.int .i64), 1, 8, [.int .i64], some [(1, (.int .i64 0))], none⟩),
  (3, ⟨(.int .i64), 1, 8, [.int .i64], some [(1, (.int .i64 0))], none⟩),
  (4, ⟨.bool, 1, 1, [.bool], some [(1, (.bool false))], none⟩),
  (5, ⟨(.int .u8), 1, 1, [.int .u8], some [(1, (.int .u8 0))], none⟩),
  (22, ⟨(.sl 5), 1, 24, [.slice], some [(1, .nilSl)], none⟩),
  (32, ⟨(.int .u64), 1, 8, [.int .u64], some [(1, (.int .u64 0))], none⟩)]
set_option maxRecDepth 100000 in
theorem tabESOk : TabOk Tryd.prog tabES := tabOk_of (by kernel_rfl)
theorem mixedES : Tryd.prog.follows .mixedOrders = true := by kernel_rfl
/- function 11 -/
def c_impl_EncodeStored : Cfg := ⟨tabES, [⟨5, [0, 5, 6], [], [7, 8, 22, 23, 24, 25, 26, 27, 28, 29, 30, 31, 32, 33, 34, 35, 36, 37, 38, 39, 40, 41, 42, 43, 44, 45, 46, 47, 48, 49, 50, 51, 52, 53, 54, 55, 56, 57, 58, 59]⟩], [], [.tmp 4]⟩
def p_impl_EncodeStored : List (Bool × List Sh) := [(false, [.slice]), (false, [.int .i64])]
set_option maxRecDepth 100000 in
def t_impl_EncodeStored : Tr :=
(.lift (.br (.it (.it (.cm .lss (.var (.int .i64) 1) (.cst (.int .i64 1))) (.cst (.bool true)) (.cm .gtr (.var (.int .i64) 1) (.cst (.int .i64 65535)))) (.cst (.bool true)) (.cm .gtr (.ln (.var (.slice) 0)) (.cst (.int .i64 100000))))
 (.hsl 5 0 []
 (.ret (.x (.var (.slice) 2))))
 (.hsl 5 0 []
 (.loop [.slice, .slice, .bool] [(.var (.slice) 0), (.var (.slice) 2), (.cst (.bool true))]
  (.lift (.br (.it (.var (.bool) 5) (.cst (.bool true)) (.cm .gtr (.ln (.var (.slice) 3)) (.cst (.int .i64 0))))
   (.hsl 5 5 [(.it (.cm .eql (.mn (.var (.int .i64) 1) (.ln (.var (.slice) 3))) (.ln (.var (.slice) 3))) (.cst (.int .u8 1)) (.cst (.int .u8 0))), (.cv .u8 (.mn (.var (.int .i64) 1) (.ln (.var (.slice) 3)))), (.cv .u8 (.ar .shr .i64 (.mn (.var (.int .i64) 1) (.ln (.var (.slice) 3))) (.cst (.int .u64 8)))), (.ar .xor .u8 (.cst (.int .u8 255)) (.cv .u8 (.mn (.var (.int .i64) 1) (.ln (.var (.slice) 3))))), (.ar .xor .u8 (.cst (.int .u8 255)) (.cv .u8 (.ar .shr .i64 (.mn (.var (.int .i64) 1) (.ln (.var (.slice) 3))) (.cst (.int .u64 8)))))]
   (.app 5 1 1 [(.int .u8 0)] (.var (.slice) 4) (.var (.slice) 6)
   (.need (.cm .leq (.cst (.int .i64 0)) (.mn (.var (.int .i64) 1) (.ln (.var (.slice) 3))))
   (.need (.cm .leq (.mn (.var (.int .i64) 1) (.ln (.var (.slice) 3))) (.cp (.var (.slice) 3)))
   (.app 5 1 1 [(.int .u8 0)] (.var (.slice) 7) (.sub 1 (.var (.slice) 3) .nl (.mn (.var (.int .i64) 1) (.ln (.var (.slice) 3))) .nl)
   (.need (.cm .leq (.cst (.int .i64 0)) (.mn (.var (.int .i64) 1) (.ln (.var (.slice) 3))))
   (.need (.cm .leq (.mn (.var (.int .i64) 1) (.ln (.var (.slice) 3))) (.ln (.var (.slice) 3)))
   (.cont 1 [(.sub 1 (.var (.slice) 3) (.mn (.var (.int .i64) 1) (.ln (.var (.slice) 3))) .nl .nl), (.var (.slice) 8), (.cst (.bool false))]))))))))
   (.ret (.x (.var (.slice) 4)))))))))
set_option maxRecDepth 100000 in
theorem s_impl_EncodeStored : sxF c_impl_EncodeStored Tryd.f11 p_impl_EncodeStored = some t_impl_EncodeStored := by kernel_rfl
theorem e_impl_EncodeStored (xs : Array Value) (w : World) : (callFunc F_impl_EncodeStored xs).runT Tryd.prog w #[] = (.ok (.enter F_impl_EncodeStored xs) w, #[]) := ent_of Tryd.func11 (by kernel_rfl) (by kernel_rfl) xs w
theorem run_impl_EncodeStored {S : Shared} {h : Eng.Heap} {Q : Value → Eng.Heap → Prop} {vs : List Value} (hsh : shOk (resShs p_impl_EncodeStored) vs) (hi : Inv S h) (hw : t_impl_EncodeStored.wp Tryd.prog S noLeaf Q vs h []) : CallsH Tryd.prog S F_impl_EncodeStored (argVals p_impl_EncodeStored vs) h Q :=
  sxF_ok (cfg := c_impl_EncodeStored) tabESOk mixedES Tryd.func11 rfl s_impl_EncodeStored e_impl_EncodeStored rfl hsh hi hw
end Go.Proofs.YteaonnfokkfnlaaDoor
