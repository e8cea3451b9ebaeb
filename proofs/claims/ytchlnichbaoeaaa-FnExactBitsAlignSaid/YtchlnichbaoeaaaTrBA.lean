-- printed by a generator of my own (wip/eng/Gen) from the translation
import Derived.Test.YtchlnichbaoeaaaEng2
import Derived.Test.YtchlnichbaoeaaaChecked
import Derived.Test.YtchlnichbaoeaaaNums
set_option linter.unusedVariables false
set_option linter.unusedSimpArgs false
namespace Go.Proofs.Ytchlnichbaoeaaa
open Go Go.Eng
def tabBA : List (TypeId × TyD) := [(0, ⟨.oth, 1, 0, [], none, some []⟩),
  (2, ⟨(.int .i64), 1, 8, [.int .i64], some [(1, (.int .i64 0))], none⟩),
  (3, ⟨(.int .i64), 1, 8, [.int .i64], some [(1, (.int .i64 0))], none⟩),
  (4, ⟨.bool, 1, 1, [.bool], some [(1, (.bool false))], none⟩),
  (5, ⟨(.int .u8), 1, 1, [.int .u8], some [(1, (.int .u8 0))], none⟩),
  (22, ⟨(.sl 5), 1, 24, [.slice], some [(1, .nilSl)], none⟩),
  (46, ⟨(.st [(0, 22), (1, 2), (2, 2)]), 3, 40, [.slice, .int .i64, .int .i64], some [(1, .nilSl), (2, (.int .i64 0))], none⟩),
  (48, ⟨(.st [(0, 22), (1, 2), (2, 2)]), 3, 40, [.slice, .int .i64, .int .i64], some [(1, .nilSl), (2, (.int .i64 0))], none⟩),
  (116, ⟨(.st [(0, 22), (1, 2), (2, 2)]), 3, 40, [.slice, .int .i64, .int .i64], some [(1, .nilSl), (2, (.int .i64 0))], none⟩)]
set_option maxRecDepth 100000 in
theorem tabBAOk : TabOk Try.prog tabBA := tabOk_of (by kernel_rfl)
theorem mixedBA : Try.prog.follows .mixedOrders = true := by kernel_rfl
/- function 6 -/
def c_laws_FnExactBitsAlign : Cfg := ⟨tabBA, [], [], [.tmp 2]⟩
def p_laws_FnExactBitsAlign : List (Bool × List Sh) := [(true, [.slice, .int .i64, .int .i64])]
set_option maxRecDepth 100000 in
def t_laws_FnExactBitsAlign : Tr :=
(.call F_laws_szBits [(.agg [(.var (.slice) 0), (.var (.int .i64) 1), (.var (.int .i64) 2)]), (.x (.cst (.int .i64 1048576)))] false [(false, [.int .i64])]
(.lift (.br (.cm .lss (.var (.int .i64) 3) (.cst (.int .i64 0)))
 (.ret (.x (.cst (.bool true))))
 (.call F_laws_toBits [(.agg [(.var (.slice) 0), (.var (.int .i64) 1), (.var (.int .i64) 2)])] false [(true, [.slice, .int .i64, .int .i64])]
 (.call F_spec_BitsAlign [(.agg [(.var (.slice) 4), (.var (.int .i64) 5), (.var (.int .i64) 6)])] false [(true, [.slice, .int .i64, .int .i64])]
 (.call F_laws_toBits [(.agg [(.var (.slice) 0), (.var (.int .i64) 1), (.var (.int .i64) 2)])] false [(true, [.slice, .int .i64, .int .i64])]
 (.call F_impl_BitsAlign [(.agg [(.var (.slice) 10), (.var (.int .i64) 11), (.var (.int .i64) 12)])] false [(true, [.slice, .int .i64, .int .i64])]
 (.call F_laws_eqBits [(.agg [(.var (.slice) 13), (.var (.int .i64) 14), (.var (.int .i64) 15)]), (.agg [(.var (.slice) 7), (.var (.int .i64) 8), (.var (.int .i64) 9)])] false [(false, [.bool])]
 (.lift (.br (.nt (.var (.bool) 16))
  (.ret (.x (.cst (.bool false))))
  (.call F_laws_toBits [(.agg [(.var (.slice) 0), (.var (.int .i64) 1), (.var (.int .i64) 2)])] false [(true, [.slice, .int .i64, .int .i64])]
  (.call F_laws_eqBits [(.agg [(.var (.slice) 10), (.var (.int .i64) 11), (.var (.int .i64) 12)]), (.agg [(.var (.slice) 17), (.var (.int .i64) 18), (.var (.int .i64) 19)])] false [(false, [.bool])]
  (.lift (.br (.nt (.var (.bool) 20))
   (.ret (.x (.cst (.bool false))))
   (.call F_laws_markBits [(.agg [(.var (.slice) 10), (.var (.int .i64) 11), (.var (.int .i64) 12)]), (.x (.cst (.int .i64 1)))] false [(false, [.int .i64])]
   (.join [.bool]
    (.br (.nt (.cm .lss (.var (.int .i64) 21) (.cst (.int .i64 0))))
     (.call F_laws_eqBits [(.agg [(.var (.slice) 13), (.var (.int .i64) 14), (.var (.int .i64) 15)]), (.agg [(.var (.slice) 7), (.var (.int .i64) 8), (.var (.int .i64) 9)])] false [(false, [.bool])]
     (.cont 3 [(.nt (.var (.bool) 22))]))
     (.cont 3 [(.cst (.bool true))]))
    (.lift (.br (.var (.bool) 22)
     (.ret (.x (.cst (.bool false))))
     (.call F_laws_markBits [(.agg [(.var (.slice) 13), (.var (.int .i64) 14), (.var (.int .i64) 15)]), (.x (.cst (.int .i64 1)))] false [(false, [.int .i64])]
     (.call F_laws_heldBits [(.agg [(.var (.slice) 13), (.var (.int .i64) 14), (.var (.int .i64) 15)]), (.x (.cst (.int .i64 1)))] false [(false, [.int .i64])]
     (.lift (.br (.cm .lss (.var (.int .i64) 24) (.cst (.int .i64 0)))
      (.ret (.x (.cst (.bool false))))
      (.lift (.br (.cm .neq (.var (.int .i64) 24) (.var (.int .i64) 23))
       (.ret (.x (.cst (.bool false))))
       (.call F_laws_toBits [(.agg [(.var (.slice) 0), (.var (.int .i64) 1), (.var (.int .i64) 2)])] false [(true, [.slice, .int .i64, .int .i64])]
       (.call F_impl_BitsAlign [(.agg [(.var (.slice) 25), (.var (.int .i64) 26), (.var (.int .i64) 27)])] false [(true, [.slice, .int .i64, .int .i64])]
       (.call F_laws_eqBits [(.agg [(.var (.slice) 28), (.var (.int .i64) 29), (.var (.int .i64) 30)]), (.agg [(.var (.slice) 7), (.var (.int .i64) 8), (.var (.int .i64) 9)])] false [(false, [.bool])]
       (.lift (.br (.nt (.var (.bool) 31))
        (.ret (.x (.cst (.bool false))))
        (.call F_laws_heldBits [(.agg [(.var (.slice) 13), (.var (.int .i64) 14), (.var (.int .i64) 15)]), (.x (.cst (.int .i64 1)))] false [(false, [.int .i64])]
        (.lift (.br (.cm .lss (.var (.int .i64) 32) (.cst (.int .i64 0)))
         (.ret (.x (.cst (.bool false))))
         (.lift (.br (.cm .neq (.var (.int .i64) 32) (.var (.int .i64) 23))
          (.ret (.x (.cst (.bool false))))
          (.ret (.x (.cst (.bool true))))))))))))))))))))))))))))))))))))))
set_option maxRecDepth 100000 in
theorem s_laws_FnExactBitsAlign : sxF c_laws_FnExactBitsAlign Try.f6 p_laws_FnExactBitsAlign = some t_laws_FnExactBitsAlign := by kernel_rfl
theorem e_laws_FnExactBitsAlign (xs : Array Value) (w : World) : (callFunc F_laws_FnExactBitsAlign xs).runT Try.prog w #[] = (.ok (.enter F_laws_FnExactBitsAlign xs) w, #[]) := ent_of Try.func6 (by kernel_rfl) (by kernel_rfl) xs w
theorem run_laws_FnExactBitsAlign {S : Nat → Prop} {h : Eng.Heap} {Q : Value → Eng.Heap → Prop} {vs : List Value} (hsh : shOk (resShs p_laws_FnExactBitsAlign) vs) (hi : Inv S h) (hw : t_laws_FnExactBitsAlign.wp Try.prog S noLeaf Q vs h []) : CallsH Try.prog S F_laws_FnExactBitsAlign (argVals p_laws_FnExactBitsAlign vs) h Q :=
  sxF_ok (cfg := c_laws_FnExactBitsAlign) tabBAOk mixedBA Try.func6 rfl s_laws_FnExactBitsAlign e_laws_FnExactBitsAlign rfl hsh hi hw
/- function 34 -/
def c_spec_BitsAlign : Cfg := ⟨tabBA, [], [], [.cell 2 48]⟩
def p_spec_BitsAlign : List (Bool × List Sh) := [(true, [.slice, .int .i64, .int .i64])]
set_option maxRecDepth 100000 in
def t_spec_BitsAlign : Tr :=
(.call F_spec_ValidBits [(.agg [(.var (.slice) 0), (.var (.int .i64) 1), (.var (.int .i64) 2)])] false [(false, [.bool])]
(.lift (.br (.nt (.var (.bool) 3))
 (.ret (.agg [(.cst .nilSl), (.cst (.int .i64 0)), (.cst (.int .i64 0))]))
 (.join [.bool]
  (.br (.nt (.cm .eql (.var (.int .i64) 1) (.cst (.int .i64 0))))
   (.call F_spec_l2Has [(.agg [(.var (.slice) 0), (.var (.int .i64) 1), (.var (.int .i64) 2)]), (.x (.ar .sub .i64 (.cst (.int .i64 8)) (.var (.int .i64) 1)))] false [(false, [.bool])]
   (.cont 1 [(.nt (.var (.bool) 4))]))
   (.cont 1 [(.cst (.bool true))]))
  (.lift (.br (.var (.bool) 4)
   (.call F_spec_l2Copy [(.agg [(.var (.slice) 0), (.var (.int .i64) 1), (.var (.int .i64) 2)])] false [(true, [.slice, .int .i64, .int .i64])]
   (.ret (.agg [(.var (.slice) 5), (.var (.int .i64) 6), (.var (.int .i64) 7)])))
   (.call F_spec_l2Skip [(.agg [(.var (.slice) 0), (.var (.int .i64) 1), (.var (.int .i64) 2)]), (.x (.ar .sub .i64 (.cst (.int .i64 8)) (.var (.int .i64) 1)))] false [(true, [.slice, .int .i64, .int .i64])]
   (.ret (.agg [(.var (.slice) 5), (.var (.int .i64) 6), (.var (.int .i64) 7)])))))))))
set_option maxRecDepth 100000 in
theorem s_spec_BitsAlign : sxF c_spec_BitsAlign Try.f34 p_spec_BitsAlign = some t_spec_BitsAlign := by kernel_rfl
theorem e_spec_BitsAlign (xs : Array Value) (w : World) : (callFunc F_spec_BitsAlign xs).runT Try.prog w #[] = (.ok (.enter F_spec_BitsAlign xs) w, #[]) := ent_of Try.func34 (by kernel_rfl) (by kernel_rfl) xs w
theorem run_spec_BitsAlign {S : Nat → Prop} {h : Eng.Heap} {Q : Value → Eng.Heap → Prop} {vs : List Value} (hsh : shOk (resShs p_spec_BitsAlign) vs) (hi : Inv S h) (hw : t_spec_BitsAlign.wp Try.prog S noLeaf Q vs h []) : CallsH Try.prog S F_spec_BitsAlign (argVals p_spec_BitsAlign vs) h Q :=
  sxF_ok (cfg := c_spec_BitsAlign) tabBAOk mixedBA Try.func34 rfl s_spec_BitsAlign e_spec_BitsAlign rfl hsh hi hw
/- function 36 -/
def c_impl_BitsAlign : Cfg := ⟨tabBA, [], [3], [.cell 2 48]⟩
def p_impl_BitsAlign : List (Bool × List Sh) := [(true, [.slice, .int .i64, .int .i64])]
set_option maxRecDepth 100000 in
def t_impl_BitsAlign : Tr :=
(.call F_impl_ValidBits [(.agg [(.var (.slice) 0), (.var (.int .i64) 1), (.var (.int .i64) 2)])] false [(false, [.bool])]
(.lift (.br (.nt (.var (.bool) 3))
 (.ret (.agg [(.cst .nilSl), (.cst (.int .i64 0)), (.cst (.int .i64 0))]))
 (.call F_impl_sourceOf [(.agg [(.var (.slice) 0), (.var (.int .i64) 1), (.var (.int .i64) 2)])] false [(true, [.slice, .int .i64, .int .i64])]
 (.hall 116 [(1, (.cst .nilSl)), (2, (.cst (.int .i64 0)))]
 (.hsto (.var (.addr) 7) [(.var (.slice) 4), (.var (.int .i64) 5), (.var (.int .i64) 6)]
 (.load (.fld (.var (.addr) 7) 1) [.int .i64]
 (.call F_impl_source__left [(.x (.var (.addr) 7))] false [(false, [.int .i64])]
 (.join []
  (.br (.cm .leq (.ar .rem .i64 (.ar .sub .i64 (.cst (.int .i64 8)) (.var (.int .i64) 8)) (.cst (.int .i64 8))) (.var (.int .i64) 9))
   (.call F_impl_source__skip [(.x (.var (.addr) 7)), (.x (.ar .rem .i64 (.ar .sub .i64 (.cst (.int .i64 8)) (.var (.int .i64) 8)) (.cst (.int .i64 8))))] true []
   (.cont 1 []))
   (.cont 1 []))
  (.load (.var (.addr) 7) [.slice, .int .i64, .int .i64]
  (.call F_impl_source__bits [(.agg [(.var (.slice) 10), (.var (.int .i64) 11), (.var (.int .i64) 12)])] false [(true, [.slice, .int .i64, .int .i64])]
  (.ret (.agg [(.var (.slice) 13), (.var (.int .i64) 14), (.var (.int .i64) 15)])))))))))))))
set_option maxRecDepth 100000 in
theorem s_impl_BitsAlign : sxF c_impl_BitsAlign Try.f36 p_impl_BitsAlign = some t_impl_BitsAlign := by kernel_rfl
theorem e_impl_BitsAlign (xs : Array Value) (w : World) : (callFunc F_impl_BitsAlign xs).runT Try.prog w #[] = (.ok (.enter F_impl_BitsAlign xs) w, #[]) := ent_of Try.func36 (by kernel_rfl) (by kernel_rfl) xs w
theorem run_impl_BitsAlign {S : Nat → Prop} {h : Eng.Heap} {Q : Value → Eng.Heap → Prop} {vs : List Value} (hsh : shOk (resShs p_impl_BitsAlign) vs) (hi : Inv S h) (hw : t_impl_BitsAlign.wp Try.prog S noLeaf Q vs h []) : CallsH Try.prog S F_impl_BitsAlign (argVals p_impl_BitsAlign vs) h Q :=
  sxF_ok (cfg := c_impl_BitsAlign) tabBAOk mixedBA Try.func36 rfl s_impl_BitsAlign e_impl_BitsAlign rfl hsh hi hw
end Go.Proofs.Ytchlnichbaoeaaa
