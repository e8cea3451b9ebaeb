-- printed by a generator of my own (wip/eng/Gen) from the translation
import Derived.Test.YtmnialmphlbmaaaEng2
import Derived.Test.YtmnialmphlbmaaaChecked
import Derived.Test.YtmnialmphlbmaaaNums
set_option linter.unusedVariables false
set_option linter.unusedSimpArgs false
namespace Go.Proofs.Ytmnialmphlbmaaa
open Go Go.Eng
def tabSu : List (TypeId × TyD) := [(2, ⟨(.int .i64), 1, 8, [.int .i64], some [(1, (.int .i64 0))], none⟩),
  (3, ⟨(.int .i64), 1, 8, [.int .i64], some [(1, (.int .i64 0))], none⟩),
  (4, ⟨.bool, 1, 1, [.bool], some [(1, (.bool false))], none⟩),
  (5, ⟨(.int .u8), 1, 1, [.int .u8], some [(1, (.int .u8 0))], none⟩),
  (22, ⟨(.int .u32), 1, 4, [.int .u32], some [(1, (.int .u32 0))], none⟩),
  (23, ⟨(.sl 5), 1, 24, [.slice], some [(1, .nilSl)], none⟩),
  (31, ⟨.oth, 1, 0, [], none, some [22, 23]⟩)]
set_option maxRecDepth 100000 in
theorem tabSuOk : TabOk Try.prog tabSu := tabOk_of (by kernel_rfl)
theorem mixedSu : Try.prog.follows .mixedOrders = true := by kernel_rfl
/- function 6 -/
def c_laws_FnSums : Cfg := ⟨tabSu, [], [], [.tmp 4]⟩
def p_laws_FnSums : List (Bool × List Sh) := [(false, [.slice]), (false, [.slice])]
set_option maxRecDepth 100000 in
def t_laws_FnSums : Tr :=
(.lift (.br (.it (.cm .gtr (.ln (.var (.slice) 0)) (.cst (.int .i64 1048576))) (.cst (.bool true)) (.cm .gtr (.ln (.var (.slice) 1)) (.cst (.int .i64 1048576))))
 (.ret (.x (.cst (.bool true))))
 (.call F_spec_DrawAdlerUpdate [(.x (.var (.slice) 0))] true [(false, [.int .u32]), (false, [.slice])]
 (.join [.int .i64]
  (.br (.cm .gtr (.ln (.var (.slice) 3)) (.cst (.int .i64 0)))
   (.call F_laws_lwAt [(.x (.var (.slice) 1)), (.x (.cst (.int .i64 0)))] false [(false, [.int .i64])]
   (.need (.cm .neq (.ar .add .i64 (.ln (.var (.slice) 3)) (.cst (.int .i64 1))) (.cst (.int .i64 0)))
   (.cont 1 [(.ar .rem .i64 (.var (.int .i64) 4) (.ar .add .i64 (.ln (.var (.slice) 3)) (.cst (.int .i64 1))))])))
   (.cont 1 [(.cst (.int .i64 0))]))
  (.need (.cm .leq (.cst (.int .i64 0)) (.var (.int .i64) 4))
  (.need (.cm .leq (.var (.int .i64) 4) (.cp (.var (.slice) 3)))
  (.need (.cm .leq (.cst (.int .i64 0)) (.var (.int .i64) 4))
  (.need (.cm .leq (.var (.int .i64) 4) (.ln (.var (.slice) 3)))
  (.call F_spec_AdlerUpdate [(.x (.cst (.int .u32 1))), (.x (.var (.slice) 3))] false [(false, [.int .u32])]
  (.call F_spec_CrcUpdate [(.x (.cst (.int .u32 0))), (.x (.var (.slice) 3))] false [(false, [.int .u32])]
  (.join [.bool, .int .u32, .int .u32, .bool, .bool, .bool, .bool, .bool, .bool, .bool]
   (.call F_impl_AdlerUpdate [(.x (.cst (.int .u32 1))), (.x (.sub 1 (.var (.slice) 3) .nl (.var (.int .i64) 4) .nl))] false [(false, [.int .u32])]
   (.call F_impl_AdlerUpdate [(.x (.var (.int .u32) 7)), (.x (.sub 1 (.var (.slice) 3) (.var (.int .i64) 4) .nl .nl))] false [(false, [.int .u32])]
   (.br (.cm .eql (.var (.int .u32) 8) (.var (.int .u32) 5))
    (.call F_impl_AdlerUpdate [(.x (.cst (.int .u32 1))), (.x (.sub 1 (.var (.slice) 3) .nl (.var (.int .i64) 4) .nl))] false [(false, [.int .u32])]
    (.call F_impl_AdlerUpdate [(.x (.cst (.int .u32 1))), (.x (.sub 1 (.var (.slice) 3) (.var (.int .i64) 4) .nl .nl))] false [(false, [.int .u32])]
    (.call F_impl_AdlerJoin [(.x (.var (.int .u32) 9)), (.x (.var (.int .u32) 10)), (.x (.ln (.sub 1 (.var (.slice) 3) (.var (.int .i64) 4) .nl .nl)))] false [(false, [.int .u32])]
    (.br (.cm .eql (.var (.int .u32) 11) (.var (.int .u32) 5))
     (.call F_impl_CrcUpdate [(.x (.cst (.int .u32 0))), (.x (.sub 1 (.var (.slice) 3) .nl (.var (.int .i64) 4) .nl))] false [(false, [.int .u32])]
     (.call F_impl_CrcUpdate [(.x (.var (.int .u32) 12)), (.x (.sub 1 (.var (.slice) 3) (.var (.int .i64) 4) .nl .nl))] false [(false, [.int .u32])]
     (.br (.cm .eql (.var (.int .u32) 13) (.var (.int .u32) 6))
      (.call F_impl_CrcUpdate [(.x (.cst (.int .u32 0))), (.x (.sub 1 (.var (.slice) 3) .nl (.var (.int .i64) 4) .nl))] false [(false, [.int .u32])]
      (.call F_impl_CrcUpdate [(.x (.cst (.int .u32 0))), (.x (.sub 1 (.var (.slice) 3) (.var (.int .i64) 4) .nl .nl))] false [(false, [.int .u32])]
      (.call F_impl_CrcJoin [(.x (.var (.int .u32) 14)), (.x (.var (.int .u32) 15)), (.x (.ln (.sub 1 (.var (.slice) 3) (.var (.int .i64) 4) .nl .nl)))] false [(false, [.int .u32])]
      (.cont 1 [(.cm .eql (.var (.int .u32) 16) (.var (.int .u32) 6)), (.var (.int .u32) 7), (.var (.int .u32) 8), (.cm .eql (.var (.int .u32) 8) (.var (.int .u32) 5)), (.cm .eql (.var (.int .u32) 8) (.var (.int .u32) 5)), (.cm .eql (.var (.int .u32) 11) (.var (.int .u32) 5)), (.cm .eql (.var (.int .u32) 11) (.var (.int .u32) 5)), (.cm .eql (.var (.int .u32) 13) (.var (.int .u32) 6)), (.cm .eql (.var (.int .u32) 13) (.var (.int .u32) 6)), (.cm .eql (.var (.int .u32) 16) (.var (.int .u32) 6))]))))
      (.cont 1 [(.cst (.bool false)), (.var (.int .u32) 7), (.var (.int .u32) 8), (.cm .eql (.var (.int .u32) 8) (.var (.int .u32) 5)), (.cm .eql (.var (.int .u32) 8) (.var (.int .u32) 5)), (.cm .eql (.var (.int .u32) 11) (.var (.int .u32) 5)), (.cm .eql (.var (.int .u32) 11) (.var (.int .u32) 5)), (.cm .eql (.var (.int .u32) 13) (.var (.int .u32) 6)), (.cm .eql (.var (.int .u32) 13) (.var (.int .u32) 6)), (.cst (.bool false))]))))
     (.cont 1 [(.cst (.bool false)), (.var (.int .u32) 7), (.var (.int .u32) 8), (.cm .eql (.var (.int .u32) 8) (.var (.int .u32) 5)), (.cm .eql (.var (.int .u32) 8) (.var (.int .u32) 5)), (.cm .eql (.var (.int .u32) 11) (.var (.int .u32) 5)), (.cm .eql (.var (.int .u32) 11) (.var (.int .u32) 5)), (.cst (.bool false)), (.cst (.bool false)), (.cst (.bool false))])))))
    (.cont 1 [(.cst (.bool false)), (.var (.int .u32) 7), (.var (.int .u32) 8), (.cm .eql (.var (.int .u32) 8) (.var (.int .u32) 5)), (.cm .eql (.var (.int .u32) 8) (.var (.int .u32) 5)), (.cst (.bool false)), (.cst (.bool false)), (.cst (.bool false)), (.cst (.bool false)), (.cst (.bool false))]))))
   (.ret (.x (.var (.bool) 7))))))))))))))
set_option maxRecDepth 100000 in
theorem s_laws_FnSums : sxF c_laws_FnSums Try.f6 p_laws_FnSums = some t_laws_FnSums := by kernel_rfl
theorem e_laws_FnSums (xs : Array Value) (w : World) : (callFunc F_laws_FnSums xs).runT Try.prog w #[] = (.ok (.enter F_laws_FnSums xs) w, #[]) := ent_of Try.func6 (by kernel_rfl) (by kernel_rfl) xs w
theorem run_laws_FnSums {S : Shared} {h : Eng.Heap} {Q : Value → Eng.Heap → Prop} {vs : List Value} (hsh : shOk (resShs p_laws_FnSums) vs) (hi : Inv S h) (hw : t_laws_FnSums.wp Try.prog S noLeaf Q vs h []) : CallsH Try.prog S F_laws_FnSums (argVals p_laws_FnSums vs) h Q :=
  sxF_ok (cfg := c_laws_FnSums) tabSuOk mixedSu Try.func6 rfl s_laws_FnSums e_laws_FnSums rfl hsh hi hw
end Go.Proofs.Ytmnialmphlbmaaa
