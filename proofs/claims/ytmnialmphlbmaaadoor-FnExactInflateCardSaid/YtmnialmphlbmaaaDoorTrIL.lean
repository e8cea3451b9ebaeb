-- printed by a generator of my own (wip/eng/Gen) from the translation
import Derived.Test.YtmnialmphlbmaaaDoorEng2
import Derived.Test.YtmnialmphlbmaaaDoorChecked
import Derived.Test.YtmnialmphlbmaaaDoorNums
set_option linter.unusedVariables false
set_option linter.unusedSimpArgs false
namespace Go.Proofs.YtmnialmphlbmaaaDoor
open Go Go.Eng
def tabIL : List (TypeId × TyD) := [(0, ⟨.oth, 1, 0, [], none, some []⟩),
  (2, ⟨(.int .i64), 1, 8, [.int .i64], some [(1, (.int .i64 0))], none⟩),
  (3, ⟨(.int .i64), 1, 8, [.int .i64], some [(1, (.int .i64 0))], none⟩),
  (4, ⟨.bool, 1, 1, [.bool], some [(1, (.bool false))], none⟩),
  (5, ⟨(.int .u8), 1, 1, [.int .u8], some [(1, (.int .u8 0))], none⟩),
  (22, ⟨(.sl 5), 1, 24, [.slice], some [(1, .nilSl)], none⟩),
  (34, ⟨(.st [(0, 2), (1, 22), (2, 2)]), 3, 40, [.int .i64, .slice, .int .i64], some [(1, (.int .i64 0)), (1, .nilSl), (1, (.int .i64 0))], none⟩)]
set_option maxRecDepth 100000 in
theorem tabILOk : TabOk Tryd.prog tabIL := tabOk_of (by kernel_rfl)
theorem mixedIL : Tryd.prog.follows .mixedOrders = true := by kernel_rfl
/- function 6 -/
def c_laws_FnExactInflate : Cfg := ⟨tabIL, [], [], [.tmp 6]⟩
def p_laws_FnExactInflate : List (Bool × List Sh) := [(false, [.slice]), (false, [.int .i64]), (false, [.slice])]
set_option maxRecDepth 100000 in
def t_laws_FnExactInflate : Tr :=
(.lift (.br (.cm .gtr (.ln (.var (.slice) 0)) (.cst (.int .i64 1048576)))
 (.ret (.x (.cst (.bool true))))
 (.lift (.br (.cm .gtr (.ln (.var (.slice) 2)) (.cst (.int .i64 1048576)))
  (.ret (.x (.cst (.bool true))))
  (.call F_laws_toByteS [(.x (.var (.slice) 0))] false [(false, [.slice])]
  (.call F_laws_toByteS [(.x (.var (.slice) 2))] false [(false, [.slice])]
  (.call F_spec_Inflate [(.x (.var (.slice) 3)), (.x (.var (.int .i64) 1)), (.x (.var (.slice) 4))] false [(true, [.int .i64, .slice, .int .i64])]
  (.call F_laws_toByteS [(.x (.var (.slice) 0))] false [(false, [.slice])]
  (.call F_laws_toByteS [(.x (.var (.slice) 2))] false [(false, [.slice])]
  (.call F_impl_Inflate [(.x (.var (.slice) 8)), (.x (.var (.int .i64) 1)), (.x (.var (.slice) 9))] false [(true, [.int .i64, .slice, .int .i64])]
  (.call F_laws_eqInfRes [(.agg [(.var (.int .i64) 10), (.var (.slice) 11), (.var (.int .i64) 12)]), (.agg [(.var (.int .i64) 5), (.var (.slice) 6), (.var (.int .i64) 7)])] false [(false, [.bool])]
  (.lift (.br (.nt (.var (.bool) 13))
   (.ret (.x (.cst (.bool false))))
   (.call F_laws_toByteS [(.x (.var (.slice) 0))] false [(false, [.slice])]
   (.call F_laws_eqByteS [(.x (.var (.slice) 8)), (.x (.var (.slice) 14))] false [(false, [.bool])]
   (.lift (.br (.nt (.var (.bool) 15))
    (.ret (.x (.cst (.bool false))))
    (.call F_laws_toByteS [(.x (.var (.slice) 2))] false [(false, [.slice])]
    (.call F_laws_eqByteS [(.x (.var (.slice) 9)), (.x (.var (.slice) 16))] false [(false, [.bool])]
    (.lift (.br (.nt (.var (.bool) 17))
     (.ret (.x (.cst (.bool false))))
     (.call F_laws_markByteS [(.x (.var (.slice) 8)), (.x (.cst (.int .i64 1)))] false [(false, [.int .i64])]
     (.call F_laws_markByteS [(.x (.var (.slice) 9)), (.x (.var (.int .i64) 18))] false [(false, [.int .i64])]
     (.join [.bool]
      (.br (.nt (.cm .lss (.var (.int .i64) 19) (.cst (.int .i64 0))))
       (.call F_laws_eqInfRes [(.agg [(.var (.int .i64) 10), (.var (.slice) 11), (.var (.int .i64) 12)]), (.agg [(.var (.int .i64) 5), (.var (.slice) 6), (.var (.int .i64) 7)])] false [(false, [.bool])]
       (.cont 5 [(.nt (.var (.bool) 20))]))
       (.cont 5 [(.cst (.bool true))]))
      (.lift (.br (.var (.bool) 20)
       (.ret (.x (.cst (.bool false))))
       (.call F_laws_markInfRes [(.agg [(.var (.int .i64) 10), (.var (.slice) 11), (.var (.int .i64) 12)]), (.x (.cst (.int .i64 1)))] false [(false, [.int .i64])]
       (.call F_laws_heldInfRes [(.agg [(.var (.int .i64) 10), (.var (.slice) 11), (.var (.int .i64) 12)]), (.x (.cst (.int .i64 1)))] false [(false, [.int .i64])]
       (.lift (.br (.cm .lss (.var (.int .i64) 22) (.cst (.int .i64 0)))
        (.ret (.x (.cst (.bool false))))
        (.lift (.br (.cm .neq (.var (.int .i64) 22) (.var (.int .i64) 21))
         (.ret (.x (.cst (.bool false))))
         (.call F_laws_toByteS [(.x (.var (.slice) 0))] false [(false, [.slice])]
         (.call F_laws_toByteS [(.x (.var (.slice) 2))] false [(false, [.slice])]
         (.call F_impl_Inflate [(.x (.var (.slice) 23)), (.x (.var (.int .i64) 1)), (.x (.var (.slice) 24))] false [(true, [.int .i64, .slice, .int .i64])]
         (.call F_laws_eqInfRes [(.agg [(.var (.int .i64) 25), (.var (.slice) 26), (.var (.int .i64) 27)]), (.agg [(.var (.int .i64) 5), (.var (.slice) 6), (.var (.int .i64) 7)])] false [(false, [.bool])]
         (.lift (.br (.nt (.var (.bool) 28))
          (.ret (.x (.cst (.bool false))))
          (.call F_laws_heldInfRes [(.agg [(.var (.int .i64) 10), (.var (.slice) 11), (.var (.int .i64) 12)]), (.x (.cst (.int .i64 1)))] false [(false, [.int .i64])]
          (.lift (.br (.cm .lss (.var (.int .i64) 29) (.cst (.int .i64 0)))
           (.ret (.x (.cst (.bool false))))
           (.lift (.br (.cm .neq (.var (.int .i64) 29) (.var (.int .i64) 21))
            (.ret (.x (.cst (.bool false))))
            (.ret (.x (.cst (.bool true)))))))))))))))))))))))))))))))))))))))))))))))
set_option maxRecDepth 100000 in
theorem s_laws_FnExactInflate : sxF c_laws_FnExactInflate Tryd.f6 p_laws_FnExactInflate = some t_laws_FnExactInflate := by kernel_rfl
theorem e_laws_FnExactInflate (xs : Array Value) (w : World) : (callFunc F_laws_FnExactInflate xs).runT Tryd.prog w #[] = (.ok (.enter F_laws_FnExactInflate xs) w, #[]) := ent_of Tryd.func6 (by kernel_rfl) (by kernel_rfl) xs w
theorem run_laws_FnExactInflate {S : Shared} {h : Eng.Heap} {Q : Value → Eng.Heap → Prop} {vs : List Value} (hsh : shOk (resShs p_laws_FnExactInflate) vs) (hi : Inv S h) (hw : t_laws_FnExactInflate.wp Tryd.prog S noLeaf Q vs h []) : CallsH Tryd.prog S F_laws_FnExactInflate (argVals p_laws_FnExactInflate vs) h Q :=
  sxF_ok (cfg := c_laws_FnExactInflate) tabILOk mixedIL Tryd.func6 rfl s_laws_FnExactInflate e_laws_FnExactInflate rfl hsh hi hw
/- function 25 -/
def c_laws_eqInfRes : Cfg := ⟨tabIL, [], [], [.tmp 4]⟩
def p_laws_eqInfRes : List (Bool × List Sh) := [(true, [.int .i64, .slice, .int .i64]), (true, [.int .i64, .slice, .int .i64])]
set_option maxRecDepth 100000 in
def t_laws_eqInfRes : Tr :=
(.lift (.br (.cm .neq (.var (.int .i64) 0) (.var (.int .i64) 3))
 (.ret (.x (.cst (.bool false))))
 (.call F_laws_eqByteS [(.x (.var (.slice) 1)), (.x (.var (.slice) 4))] false [(false, [.bool])]
 (.lift (.br (.nt (.var (.bool) 6))
  (.ret (.x (.cst (.bool false))))
  (.lift (.br (.cm .neq (.var (.int .i64) 2) (.var (.int .i64) 5))
   (.ret (.x (.cst (.bool false))))
   (.ret (.x (.cst (.bool true)))))))))))
set_option maxRecDepth 100000 in
theorem s_laws_eqInfRes : sxF c_laws_eqInfRes Tryd.f25 p_laws_eqInfRes = some t_laws_eqInfRes := by kernel_rfl
theorem e_laws_eqInfRes (xs : Array Value) (w : World) : (callFunc F_laws_eqInfRes xs).runT Tryd.prog w #[] = (.ok (.enter F_laws_eqInfRes xs) w, #[]) := ent_of Tryd.func25 (by kernel_rfl) (by kernel_rfl) xs w
theorem run_laws_eqInfRes {S : Shared} {h : Eng.Heap} {Q : Value → Eng.Heap → Prop} {vs : List Value} (hsh : shOk (resShs p_laws_eqInfRes) vs) (hi : Inv S h) (hw : t_laws_eqInfRes.wp Tryd.prog S noLeaf Q vs h []) : CallsH Tryd.prog S F_laws_eqInfRes (argVals p_laws_eqInfRes vs) h Q :=
  sxF_ok (cfg := c_laws_eqInfRes) tabILOk mixedIL Tryd.func25 rfl s_laws_eqInfRes e_laws_eqInfRes rfl hsh hi hw
/- function 26 -/
def c_laws_markInfRes : Cfg := ⟨tabIL, [], [], [.tmp 4]⟩
def p_laws_markInfRes : List (Bool × List Sh) := [(true, [.int .i64, .slice, .int .i64]), (false, [.int .i64])]
set_option maxRecDepth 100000 in
def t_laws_markInfRes : Tr :=
(.call F_laws_markByteS [(.x (.var (.slice) 1)), (.x (.var (.int .i64) 3))] false [(false, [.int .i64])]
(.ret (.x (.var (.int .i64) 4))))
set_option maxRecDepth 100000 in
theorem s_laws_markInfRes : sxF c_laws_markInfRes Tryd.f26 p_laws_markInfRes = some t_laws_markInfRes := by kernel_rfl
theorem e_laws_markInfRes (xs : Array Value) (w : World) : (callFunc F_laws_markInfRes xs).runT Tryd.prog w #[] = (.ok (.enter F_laws_markInfRes xs) w, #[]) := ent_of Tryd.func26 (by kernel_rfl) (by kernel_rfl) xs w
theorem run_laws_markInfRes {S : Shared} {h : Eng.Heap} {Q : Value → Eng.Heap → Prop} {vs : List Value} (hsh : shOk (resShs p_laws_markInfRes) vs) (hi : Inv S h) (hw : t_laws_markInfRes.wp Tryd.prog S noLeaf Q vs h []) : CallsH Tryd.prog S F_laws_markInfRes (argVals p_laws_markInfRes vs) h Q :=
  sxF_ok (cfg := c_laws_markInfRes) tabILOk mixedIL Tryd.func26 rfl s_laws_markInfRes e_laws_markInfRes rfl hsh hi hw
/- function 27 -/
def c_laws_heldInfRes : Cfg := ⟨tabIL, [], [], [.tmp 4]⟩
def p_laws_heldInfRes : List (Bool × List Sh) := [(true, [.int .i64, .slice, .int .i64]), (false, [.int .i64])]
set_option maxRecDepth 100000 in
def t_laws_heldInfRes : Tr :=
(.call F_laws_heldByteS [(.x (.var (.slice) 1)), (.x (.var (.int .i64) 3))] false [(false, [.int .i64])]
(.lift (.br (.cm .lss (.var (.int .i64) 4) (.cst (.int .i64 0)))
 (.ret (.x (.cst (.int .i64 (-1)))))
 (.ret (.x (.var (.int .i64) 4))))))
set_option maxRecDepth 100000 in
theorem s_laws_heldInfRes : sxF c_laws_heldInfRes Tryd.f27 p_laws_heldInfRes = some t_laws_heldInfRes := by kernel_rfl
theorem e_laws_heldInfRes (xs : Array Value) (w : World) : (callFunc F_laws_heldInfRes xs).runT Tryd.prog w #[] = (.ok (.enter F_laws_heldInfRes xs) w, #[]) := ent_of Tryd.func27 (by kernel_rfl) (by kernel_rfl) xs w
theorem run_laws_heldInfRes {S : Shared} {h : Eng.Heap} {Q : Value → Eng.Heap → Prop} {vs : List Value} (hsh : shOk (resShs p_laws_heldInfRes) vs) (hi : Inv S h) (hw : t_laws_heldInfRes.wp Tryd.prog S noLeaf Q vs h []) : CallsH Tryd.prog S F_laws_heldInfRes (argVals p_laws_heldInfRes vs) h Q :=
  sxF_ok (cfg := c_laws_heldInfRes) tabILOk mixedIL Tryd.func27 rfl s_laws_heldInfRes e_laws_heldInfRes rfl hsh hi hw
end Go.Proofs.YtmnialmphlbmaaaDoor
