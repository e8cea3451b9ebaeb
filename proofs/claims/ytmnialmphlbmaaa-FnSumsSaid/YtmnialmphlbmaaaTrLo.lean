-- printed by a generator of my own (wip/eng/Gen) from the translation
import Derived.Test.YtmnialmphlbmaaaEng2
import Derived.Test.YtmnialmphlbmaaaChecked
import Derived.Test.YtmnialmphlbmaaaNums
set_option linter.unusedVariables false
set_option linter.unusedSimpArgs false
namespace Go.Proofs.Ytmnialmphlbmaaa
open Go Go.Eng
def tabLo : List (TypeId × TyD) := [(0, ⟨.oth, 1, 0, [], none, some []⟩),
  (2, ⟨(.int .i64), 1, 8, [.int .i64], some [(1, (.int .i64 0))], none⟩),
  (3, ⟨(.int .i64), 1, 8, [.int .i64], some [(1, (.int .i64 0))], none⟩),
  (4, ⟨.bool, 1, 1, [.bool], some [(1, (.bool false))], none⟩),
  (5, ⟨(.int .u8), 1, 1, [.int .u8], some [(1, (.int .u8 0))], none⟩),
  (22, ⟨(.int .u32), 1, 4, [.int .u32], some [(1, (.int .u32 0))], none⟩),
  (23, ⟨(.sl 5), 1, 24, [.slice], some [(1, .nilSl)], none⟩)]
set_option maxRecDepth 100000 in
theorem tabLoOk : TabOk Try.prog tabLo := tabOk_of (by kernel_rfl)
theorem mixedLo : Try.prog.follows .mixedOrders = true := by kernel_rfl
/- function 5 -/
def c_laws_FnLongSums : Cfg := ⟨tabLo, [⟨6, [5], [], [21, 22, 23, 24, 25, 26, 27, 28, 29, 30, 31, 32]⟩], [], [.tmp 2]⟩
def p_laws_FnLongSums : List (Bool × List Sh) := [(false, [.slice])]
set_option maxRecDepth 100000 in
def t_laws_FnLongSums : Tr :=
(.lift (.br (.cm .gtr (.ln (.var (.slice) 0)) (.cst (.int .i64 1048576)))
 (.ret (.x (.cst (.bool true))))
 (.call F_laws_lwAt [(.x (.var (.slice) 0)), (.x (.cst (.int .i64 0)))] false [(false, [.int .i64])]
 (.call F_laws_lwAt [(.x (.var (.slice) 0)), (.x (.cst (.int .i64 1)))] false [(false, [.int .i64])]
 (.mks 5 1 1 [(.int .u8 0)] (.ar .rem .i64 (.ar .add .i64 (.ar .mul .i64 (.cst (.int .i64 256)) (.var (.int .i64) 1)) (.var (.int .i64) 2)) (.cst (.int .i64 60000))) (.ar .rem .i64 (.ar .add .i64 (.ar .mul .i64 (.cst (.int .i64 256)) (.var (.int .i64) 1)) (.var (.int .i64) 2)) (.cst (.int .i64 60000)))
 (.loop [.int .i64] [(.cst (.int .i64 0))]
  (.lift (.br (.cm .lss (.var (.int .i64) 4) (.ar .rem .i64 (.ar .add .i64 (.ar .mul .i64 (.cst (.int .i64 256)) (.var (.int .i64) 1)) (.var (.int .i64) 2)) (.cst (.int .i64 60000))))
   (.call F_laws_lwAt [(.x (.var (.slice) 0)), (.x (.cst (.int .i64 2)))] false [(false, [.int .i64])]
   (.need (.nt (.nn (.var (.slice) 3)))
   (.need (.cm .leq (.cst (.int .i64 0)) (.var (.int .i64) 4))
   (.need (.cm .lss (.var (.int .i64) 4) (.ln (.var (.slice) 3)))
   (.hsto (.ix 1 (.var (.slice) 3) (.var (.int .i64) 4)) [(.ar .or .u8 (.cv .u8 (.var (.int .i64) 5)) (.cst (.int .u8 128)))]
   (.cont 1 [(.ar .add .i64 (.var (.int .i64) 4) (.cst (.int .i64 1)))]))))))
   (.call F_spec_AdlerUpdate [(.x (.cst (.int .u32 1))), (.x (.var (.slice) 3))] false [(false, [.int .u32])]
   (.call F_spec_CrcUpdate [(.x (.cst (.int .u32 0))), (.x (.var (.slice) 3))] false [(false, [.int .u32])]
   (.join [.bool, .int .u32, .bool, .bool, .bool, .bool, .bool, .bool, .bool]
    (.call F_impl_AdlerUpdate [(.x (.cst (.int .u32 1))), (.x (.var (.slice) 3))] false [(false, [.int .u32])]
    (.br (.cm .eql (.var (.int .u32) 7) (.var (.int .u32) 5))
     (.call F_impl_CrcUpdate [(.x (.cst (.int .u32 0))), (.x (.var (.slice) 3))] false [(false, [.int .u32])]
     (.br (.cm .eql (.var (.int .u32) 8) (.var (.int .u32) 6))
      (.need (.cm .leq (.cst (.int .i64 0)) (.ar .quo .i64 (.ar .rem .i64 (.ar .add .i64 (.ar .mul .i64 (.cst (.int .i64 256)) (.var (.int .i64) 1)) (.var (.int .i64) 2)) (.cst (.int .i64 60000))) (.cst (.int .i64 2))))
      (.need (.cm .leq (.ar .quo .i64 (.ar .rem .i64 (.ar .add .i64 (.ar .mul .i64 (.cst (.int .i64 256)) (.var (.int .i64) 1)) (.var (.int .i64) 2)) (.cst (.int .i64 60000))) (.cst (.int .i64 2))) (.cp (.var (.slice) 3)))
      (.need (.cm .leq (.cst (.int .i64 0)) (.ar .quo .i64 (.ar .rem .i64 (.ar .add .i64 (.ar .mul .i64 (.cst (.int .i64 256)) (.var (.int .i64) 1)) (.var (.int .i64) 2)) (.cst (.int .i64 60000))) (.cst (.int .i64 2))))
      (.need (.cm .leq (.ar .quo .i64 (.ar .rem .i64 (.ar .add .i64 (.ar .mul .i64 (.cst (.int .i64 256)) (.var (.int .i64) 1)) (.var (.int .i64) 2)) (.cst (.int .i64 60000))) (.cst (.int .i64 2))) (.ln (.var (.slice) 3)))
      (.call F_impl_AdlerUpdate [(.x (.cst (.int .u32 1))), (.x (.sub 1 (.var (.slice) 3) .nl (.ar .quo .i64 (.ar .rem .i64 (.ar .add .i64 (.ar .mul .i64 (.cst (.int .i64 256)) (.var (.int .i64) 1)) (.var (.int .i64) 2)) (.cst (.int .i64 60000))) (.cst (.int .i64 2))) .nl))] false [(false, [.int .u32])]
      (.call F_impl_AdlerUpdate [(.x (.cst (.int .u32 1))), (.x (.sub 1 (.var (.slice) 3) (.ar .quo .i64 (.ar .rem .i64 (.ar .add .i64 (.ar .mul .i64 (.cst (.int .i64 256)) (.var (.int .i64) 1)) (.var (.int .i64) 2)) (.cst (.int .i64 60000))) (.cst (.int .i64 2))) .nl .nl))] false [(false, [.int .u32])]
      (.call F_impl_AdlerJoin [(.x (.var (.int .u32) 9)), (.x (.var (.int .u32) 10)), (.x (.ar .sub .i64 (.ar .rem .i64 (.ar .add .i64 (.ar .mul .i64 (.cst (.int .i64 256)) (.var (.int .i64) 1)) (.var (.int .i64) 2)) (.cst (.int .i64 60000))) (.ar .quo .i64 (.ar .rem .i64 (.ar .add .i64 (.ar .mul .i64 (.cst (.int .i64 256)) (.var (.int .i64) 1)) (.var (.int .i64) 2)) (.cst (.int .i64 60000))) (.cst (.int .i64 2)))))] false [(false, [.int .u32])]
      (.br (.cm .eql (.var (.int .u32) 11) (.var (.int .u32) 5))
       (.need (.cm .leq (.cst (.int .i64 0)) (.ar .quo .i64 (.ar .rem .i64 (.ar .add .i64 (.ar .mul .i64 (.cst (.int .i64 256)) (.var (.int .i64) 1)) (.var (.int .i64) 2)) (.cst (.int .i64 60000))) (.cst (.int .i64 2))))
       (.need (.cm .leq (.ar .quo .i64 (.ar .rem .i64 (.ar .add .i64 (.ar .mul .i64 (.cst (.int .i64 256)) (.var (.int .i64) 1)) (.var (.int .i64) 2)) (.cst (.int .i64 60000))) (.cst (.int .i64 2))) (.cp (.var (.slice) 3)))
       (.need (.cm .leq (.cst (.int .i64 0)) (.ar .quo .i64 (.ar .rem .i64 (.ar .add .i64 (.ar .mul .i64 (.cst (.int .i64 256)) (.var (.int .i64) 1)) (.var (.int .i64) 2)) (.cst (.int .i64 60000))) (.cst (.int .i64 2))))
       (.need (.cm .leq (.ar .quo .i64 (.ar .rem .i64 (.ar .add .i64 (.ar .mul .i64 (.cst (.int .i64 256)) (.var (.int .i64) 1)) (.var (.int .i64) 2)) (.cst (.int .i64 60000))) (.cst (.int .i64 2))) (.ln (.var (.slice) 3)))
       (.call F_impl_CrcUpdate [(.x (.cst (.int .u32 0))), (.x (.sub 1 (.var (.slice) 3) .nl (.ar .quo .i64 (.ar .rem .i64 (.ar .add .i64 (.ar .mul .i64 (.cst (.int .i64 256)) (.var (.int .i64) 1)) (.var (.int .i64) 2)) (.cst (.int .i64 60000))) (.cst (.int .i64 2))) .nl))] false [(false, [.int .u32])]
       (.call F_impl_CrcUpdate [(.x (.cst (.int .u32 0))), (.x (.sub 1 (.var (.slice) 3) (.ar .quo .i64 (.ar .rem .i64 (.ar .add .i64 (.ar .mul .i64 (.cst (.int .i64 256)) (.var (.int .i64) 1)) (.var (.int .i64) 2)) (.cst (.int .i64 60000))) (.cst (.int .i64 2))) .nl .nl))] false [(false, [.int .u32])]
       (.call F_impl_CrcJoin [(.x (.var (.int .u32) 12)), (.x (.var (.int .u32) 13)), (.x (.ar .sub .i64 (.ar .rem .i64 (.ar .add .i64 (.ar .mul .i64 (.cst (.int .i64 256)) (.var (.int .i64) 1)) (.var (.int .i64) 2)) (.cst (.int .i64 60000))) (.ar .quo .i64 (.ar .rem .i64 (.ar .add .i64 (.ar .mul .i64 (.cst (.int .i64 256)) (.var (.int .i64) 1)) (.var (.int .i64) 2)) (.cst (.int .i64 60000))) (.cst (.int .i64 2)))))] false [(false, [.int .u32])]
       (.cont 3 [(.cm .eql (.var (.int .u32) 14) (.var (.int .u32) 6)), (.var (.int .u32) 7), (.cm .eql (.var (.int .u32) 7) (.var (.int .u32) 5)), (.cm .eql (.var (.int .u32) 7) (.var (.int .u32) 5)), (.cm .eql (.var (.int .u32) 8) (.var (.int .u32) 6)), (.cm .eql (.var (.int .u32) 8) (.var (.int .u32) 6)), (.cm .eql (.var (.int .u32) 11) (.var (.int .u32) 5)), (.cm .eql (.var (.int .u32) 11) (.var (.int .u32) 5)), (.cm .eql (.var (.int .u32) 14) (.var (.int .u32) 6))]))))))))
       (.cont 3 [(.cst (.bool false)), (.var (.int .u32) 7), (.cm .eql (.var (.int .u32) 7) (.var (.int .u32) 5)), (.cm .eql (.var (.int .u32) 7) (.var (.int .u32) 5)), (.cm .eql (.var (.int .u32) 8) (.var (.int .u32) 6)), (.cm .eql (.var (.int .u32) 8) (.var (.int .u32) 6)), (.cm .eql (.var (.int .u32) 11) (.var (.int .u32) 5)), (.cm .eql (.var (.int .u32) 11) (.var (.int .u32) 5)), (.cst (.bool false))])))))))))
      (.cont 3 [(.cst (.bool false)), (.var (.int .u32) 7), (.cm .eql (.var (.int .u32) 7) (.var (.int .u32) 5)), (.cm .eql (.var (.int .u32) 7) (.var (.int .u32) 5)), (.cm .eql (.var (.int .u32) 8) (.var (.int .u32) 6)), (.cm .eql (.var (.int .u32) 8) (.var (.int .u32) 6)), (.cst (.bool false)), (.cst (.bool false)), (.cst (.bool false))])))
     (.cont 3 [(.cst (.bool false)), (.var (.int .u32) 7), (.cm .eql (.var (.int .u32) 7) (.var (.int .u32) 5)), (.cm .eql (.var (.int .u32) 7) (.var (.int .u32) 5)), (.cst (.bool false)), (.cst (.bool false)), (.cst (.bool false)), (.cst (.bool false)), (.cst (.bool false))])))
    (.ret (.x (.var (.bool) 7))))))))))))))
set_option maxRecDepth 100000 in
theorem s_laws_FnLongSums : sxF c_laws_FnLongSums Try.f5 p_laws_FnLongSums = some t_laws_FnLongSums := by kernel_rfl
theorem e_laws_FnLongSums (xs : Array Value) (w : World) : (callFunc F_laws_FnLongSums xs).runT Try.prog w #[] = (.ok (.enter F_laws_FnLongSums xs) w, #[]) := ent_of Try.func5 (by kernel_rfl) (by kernel_rfl) xs w
theorem run_laws_FnLongSums {S : Shared} {h : Eng.Heap} {Q : Value → Eng.Heap → Prop} {vs : List Value} (hsh : shOk (resShs p_laws_FnLongSums) vs) (hi : Inv S h) (hw : t_laws_FnLongSums.wp Try.prog S noLeaf Q vs h []) : CallsH Try.prog S F_laws_FnLongSums (argVals p_laws_FnLongSums vs) h Q :=
  sxF_ok (cfg := c_laws_FnLongSums) tabLoOk mixedLo Try.func5 rfl s_laws_FnLongSums e_laws_FnLongSums rfl hsh hi hw
end Go.Proofs.Ytmnialmphlbmaaa
