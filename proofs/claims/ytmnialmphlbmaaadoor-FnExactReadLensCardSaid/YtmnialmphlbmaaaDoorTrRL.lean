-- printed by a generator of my own (wip/eng/Gen) from the translation
import Derived.Test.YtmnialmphlbmaaaDoorEng2
import Derived.Test.YtmnialmphlbmaaaDoorChecked
import Derived.Test.YtmnialmphlbmaaaDoorNums
set_option linter.unusedVariables false
set_option linter.unusedSimpArgs false
namespace Go.Proofs.YtmnialmphlbmaaaDoor
open Go Go.Eng
def tabRL : List (TypeId × TyD) := [(0, ⟨.oth, 1, 0, [], none, some []⟩),
  (2, ⟨(.int .i64), 1, 8, [.int .i64], some [(1, (.int .i64 0))], none⟩),
  (3, ⟨(.int .i64), 1, 8, [.int .i64], some [(1, (.int .i64 0))], none⟩),
  (4, ⟨.bool, 1, 1, [.bool], some [(1, (.bool false))], none⟩),
  (5, ⟨(.int .u8), 1, 1, [.int .u8], some [(1, (.int .u8 0))], none⟩),
  (22, ⟨(.sl 5), 1, 24, [.slice], some [(1, .nilSl)], none⟩),
  (30, ⟨(.sl 2), 1, 24, [.slice], some [(1, .nilSl)], none⟩),
  (43, ⟨(.st [(0, 2), (1, 30), (2, 30), (3, 2)]), 4, 64, [.int .i64, .slice, .slice, .int .i64], some [(1, (.int .i64 0)), (2, .nilSl), (1, (.int .i64 0))], none⟩),
  (54, ⟨(.ptr 59), 1, 8, [.ptr], some [(1, .nilPtr)], none⟩),
  (55, ⟨(.ptr 90), 1, 8, [.ptr], some [(1, .nilPtr)], none⟩),
  (57, ⟨(.ptr 139), 1, 8, [.ptr], some [(1, .nilPtr)], none⟩),
  (59, ⟨(.st [(0, 22), (1, 2), (2, 55), (3, 22), (4, 3), (5, 4), (6, 57), (7, 57)]), 8, 96, [.slice, .int .i64, .ptr, .slice, .int .i64, .bool, .ptr, .ptr], some [(1, .nilSl), (1, (.int .i64 0)), (1, .nilPtr), (1, .nilSl), (1, (.int .i64 0)), (1, (.bool false)), (2, .nilPtr)], none⟩),
  (61, ⟨.ifc, 1, 16, [.iface], some [(1, .nilIf)], none⟩),
  (74, ⟨(.st [(0, 22), (1, 2), (2, 2)]), 3, 40, [.slice, .int .i64, .int .i64], some [(1, .nilSl), (2, (.int .i64 0))], none⟩),
  (75, ⟨.oth, 1, 0, [], none, some [74, 30, 30]⟩),
  (77, ⟨.oth, 1, 0, [], none, some [30, 30, 61]⟩)]
set_option maxRecDepth 100000 in
theorem tabRLOk : TabOk Tryd.prog tabRL := tabOk_of (by kernel_rfl)
theorem mixedRL : Tryd.prog.follows .mixedOrders = true := by kernel_rfl
/- function 5 -/
def c_laws_FnExactReadLens : Cfg := ⟨tabRL, [], [], [.tmp 4]⟩
def p_laws_FnExactReadLens : List (Bool × List Sh) := [(false, [.slice]), (false, [.int .i64])]
set_option maxRecDepth 100000 in
def t_laws_FnExactReadLens : Tr :=
(.lift (.br (.cm .gtr (.ln (.var (.slice) 0)) (.cst (.int .i64 1048576)))
 (.ret (.x (.cst (.bool true))))
 (.call F_laws_toByteS [(.x (.var (.slice) 0))] false [(false, [.slice])]
 (.call F_spec_ReadLens [(.x (.var (.slice) 2)), (.x (.var (.int .i64) 1))] false [(true, [.int .i64, .slice, .slice, .int .i64])]
 (.call F_laws_toByteS [(.x (.var (.slice) 0))] false [(false, [.slice])]
 (.call F_impl_ReadLens [(.x (.var (.slice) 7)), (.x (.var (.int .i64) 1))] false [(true, [.int .i64, .slice, .slice, .int .i64])]
 (.call F_laws_eqLensRes [(.agg [(.var (.int .i64) 8), (.var (.slice) 9), (.var (.slice) 10), (.var (.int .i64) 11)]), (.agg [(.var (.int .i64) 3), (.var (.slice) 4), (.var (.slice) 5), (.var (.int .i64) 6)])] false [(false, [.bool])]
 (.lift (.br (.nt (.var (.bool) 12))
  (.ret (.x (.cst (.bool false))))
  (.call F_laws_toByteS [(.x (.var (.slice) 0))] false [(false, [.slice])]
  (.call F_laws_eqByteS [(.x (.var (.slice) 7)), (.x (.var (.slice) 13))] false [(false, [.bool])]
  (.lift (.br (.nt (.var (.bool) 14))
   (.ret (.x (.cst (.bool false))))
   (.call F_laws_markByteS [(.x (.var (.slice) 7)), (.x (.cst (.int .i64 1)))] false [(false, [.int .i64])]
   (.join [.bool]
    (.br (.nt (.cm .lss (.var (.int .i64) 15) (.cst (.int .i64 0))))
     (.call F_laws_eqLensRes [(.agg [(.var (.int .i64) 8), (.var (.slice) 9), (.var (.slice) 10), (.var (.int .i64) 11)]), (.agg [(.var (.int .i64) 3), (.var (.slice) 4), (.var (.slice) 5), (.var (.int .i64) 6)])] false [(false, [.bool])]
     (.cont 3 [(.nt (.var (.bool) 16))]))
     (.cont 3 [(.cst (.bool true))]))
    (.lift (.br (.var (.bool) 16)
     (.ret (.x (.cst (.bool false))))
     (.call F_laws_markLensRes [(.agg [(.var (.int .i64) 8), (.var (.slice) 9), (.var (.slice) 10), (.var (.int .i64) 11)]), (.x (.cst (.int .i64 1)))] false [(false, [.int .i64])]
     (.call F_laws_heldLensRes [(.agg [(.var (.int .i64) 8), (.var (.slice) 9), (.var (.slice) 10), (.var (.int .i64) 11)]), (.x (.cst (.int .i64 1)))] false [(false, [.int .i64])]
     (.lift (.br (.cm .lss (.var (.int .i64) 18) (.cst (.int .i64 0)))
      (.ret (.x (.cst (.bool false))))
      (.lift (.br (.cm .neq (.var (.int .i64) 18) (.var (.int .i64) 17))
       (.ret (.x (.cst (.bool false))))
       (.call F_laws_toByteS [(.x (.var (.slice) 0))] false [(false, [.slice])]
       (.call F_impl_ReadLens [(.x (.var (.slice) 19)), (.x (.var (.int .i64) 1))] false [(true, [.int .i64, .slice, .slice, .int .i64])]
       (.call F_laws_eqLensRes [(.agg [(.var (.int .i64) 20), (.var (.slice) 21), (.var (.slice) 22), (.var (.int .i64) 23)]), (.agg [(.var (.int .i64) 3), (.var (.slice) 4), (.var (.slice) 5), (.var (.int .i64) 6)])] false [(false, [.bool])]
       (.lift (.br (.nt (.var (.bool) 24))
        (.ret (.x (.cst (.bool false))))
        (.call F_laws_heldLensRes [(.agg [(.var (.int .i64) 8), (.var (.slice) 9), (.var (.slice) 10), (.var (.int .i64) 11)]), (.x (.cst (.int .i64 1)))] false [(false, [.int .i64])]
        (.lift (.br (.cm .lss (.var (.int .i64) 25) (.cst (.int .i64 0)))
         (.ret (.x (.cst (.bool false))))
         (.lift (.br (.cm .neq (.var (.int .i64) 25) (.var (.int .i64) 17))
          (.ret (.x (.cst (.bool false))))
          (.ret (.x (.cst (.bool true)))))))))))))))))))))))))))))))))))))
set_option maxRecDepth 100000 in
theorem s_laws_FnExactReadLens : sxF c_laws_FnExactReadLens Tryd.f5 p_laws_FnExactReadLens = some t_laws_FnExactReadLens := by kernel_rfl
theorem e_laws_FnExactReadLens (xs : Array Value) (w : World) : (callFunc F_laws_FnExactReadLens xs).runT Tryd.prog w #[] = (.ok (.enter F_laws_FnExactReadLens xs) w, #[]) := ent_of Tryd.func5 (by kernel_rfl) (by kernel_rfl) xs w
theorem run_laws_FnExactReadLens {S : Shared} {h : Eng.Heap} {Q : Value → Eng.Heap → Prop} {vs : List Value} (hsh : shOk (resShs p_laws_FnExactReadLens) vs) (hi : Inv S h) (hw : t_laws_FnExactReadLens.wp Tryd.prog S noLeaf Q vs h []) : CallsH Tryd.prog S F_laws_FnExactReadLens (argVals p_laws_FnExactReadLens vs) h Q :=
  sxF_ok (cfg := c_laws_FnExactReadLens) tabRLOk mixedRL Tryd.func5 rfl s_laws_FnExactReadLens e_laws_FnExactReadLens rfl hsh hi hw
/- function 16 -/
def c_spec_ReadLens : Cfg := ⟨tabRL, [], [], [.cell 4 43]⟩
def p_spec_ReadLens : List (Bool × List Sh) := [(false, [.slice]), (false, [.int .i64])]
set_option maxRecDepth 100000 in
def t_spec_ReadLens : Tr :=
(.lift (.br (.cm .gtr (.ln (.var (.slice) 0)) (.cst (.int .i64 65536)))
 (.ret (.agg [(.cst (.int .i64 7)), (.cst .nilSl), (.cst .nilSl), (.cst (.int .i64 0))]))
 (.lift (.br (.it (.cm .lss (.var (.int .i64) 1) (.cst (.int .i64 0))) (.cst (.bool true)) (.cm .gtr (.var (.int .i64) 1) (.ar .mul .i64 (.cst (.int .i64 8)) (.ln (.var (.slice) 0)))))
  (.ret (.agg [(.cst (.int .i64 3)), (.cst .nilSl), (.cst .nilSl), (.cst (.int .i64 0))]))
  (.call F_spec_l5Lens [(.agg [(.var (.slice) 0), (.var (.int .i64) 1), (.cst (.int .i64 0))])] true [(true, [.slice, .int .i64, .int .i64]), (false, [.slice]), (false, [.slice])]
  (.lift (.br (.cm .neq (.var (.int .i64) 4) (.cst (.int .i64 0)))
   (.ret (.agg [(.var (.int .i64) 4), (.cst .nilSl), (.cst .nilSl), (.cst (.int .i64 0))]))
   (.join [.slice, .slice, .slice, .slice, .slice, .slice]
    (.both
     (.hsl 2 0 []
     (.both
      (.app 2 1 8 [(.int .i64 0)] (.var (.slice) 7) (.var (.slice) 5)
      (.hsl 2 0 []
      (.app 2 1 8 [(.int .i64 0)] (.var (.slice) 9) (.var (.slice) 6)
      (.cont 3 [(.var (.slice) 7), (.var (.slice) 8), (.var (.slice) 9), (.var (.slice) 10), (.var (.slice) 8), (.var (.slice) 10)]))))
      (.hsl 2 0 []
      (.app 2 1 8 [(.int .i64 0)] (.var (.slice) 7) (.var (.slice) 5)
      (.app 2 1 8 [(.int .i64 0)] (.var (.slice) 8) (.var (.slice) 6)
      (.cont 3 [(.var (.slice) 7), (.var (.slice) 9), (.var (.slice) 8), (.var (.slice) 10), (.var (.slice) 9), (.var (.slice) 10)]))))))
     (.hsl 2 0 []
     (.hsl 2 0 []
     (.app 2 1 8 [(.int .i64 0)] (.var (.slice) 8) (.var (.slice) 5)
     (.app 2 1 8 [(.int .i64 0)] (.var (.slice) 7) (.var (.slice) 6)
     (.cont 3 [(.var (.slice) 8), (.var (.slice) 9), (.var (.slice) 7), (.var (.slice) 10), (.var (.slice) 9), (.var (.slice) 10)]))))))
    (.ret (.agg [(.cst (.int .i64 1)), (.var (.slice) 11), (.var (.slice) 12), (.ar .sub .i64 (.var (.int .i64) 3) (.var (.int .i64) 1))]))))))))))
set_option maxRecDepth 100000 in
theorem s_spec_ReadLens : sxF c_spec_ReadLens Tryd.f16 p_spec_ReadLens = some t_spec_ReadLens := by kernel_rfl
theorem e_spec_ReadLens (xs : Array Value) (w : World) : (callFunc F_spec_ReadLens xs).runT Tryd.prog w #[] = (.ok (.enter F_spec_ReadLens xs) w, #[]) := ent_of Tryd.func16 (by kernel_rfl) (by kernel_rfl) xs w
theorem run_spec_ReadLens {S : Shared} {h : Eng.Heap} {Q : Value → Eng.Heap → Prop} {vs : List Value} (hsh : shOk (resShs p_spec_ReadLens) vs) (hi : Inv S h) (hw : t_spec_ReadLens.wp Tryd.prog S noLeaf Q vs h []) : CallsH Tryd.prog S F_spec_ReadLens (argVals p_spec_ReadLens vs) h Q :=
  sxF_ok (cfg := c_spec_ReadLens) tabRLOk mixedRL Tryd.func16 rfl s_spec_ReadLens e_spec_ReadLens rfl hsh hi hw
/- function 18 -/
def c_impl_ReadLens : Cfg := ⟨tabRL, [], [26], [.cell 4 43]⟩
def p_impl_ReadLens : List (Bool × List Sh) := [(false, [.slice]), (false, [.int .i64])]
set_option maxRecDepth 100000 in
def t_impl_ReadLens : Tr :=
(.lift (.br (.cm .gtr (.ln (.var (.slice) 0)) (.cst (.int .i64 65536)))
 (.ret (.agg [(.cst (.int .i64 7)), (.cst .nilSl), (.cst .nilSl), (.cst (.int .i64 0))]))
 (.lift (.br (.it (.cm .lss (.var (.int .i64) 1) (.cst (.int .i64 0))) (.cst (.bool true)) (.cm .gtr (.var (.int .i64) 1) (.ar .mul .i64 (.cst (.int .i64 8)) (.ln (.var (.slice) 0)))))
  (.ret (.agg [(.cst (.int .i64 3)), (.cst .nilSl), (.cst .nilSl), (.cst (.int .i64 0))]))
  (.hall 59 [(1, (.var (.slice) 0)), (1, (.var (.int .i64) 1)), (1, (.cst .nilPtr)), (1, (.cst .nilSl)), (1, (.cst (.int .i64 0))), (1, (.cst (.bool false))), (2, (.cst .nilPtr))]
  (.call F_impl_machine__lens [(.x (.var (.addr) 2))] true [(false, [.slice]), (false, [.slice]), (false, [.iface])]
  (.lift (.br (.nt (.nn (.var (.iface) 5)))
   (.call F_impl_classOf [(.x (.var (.iface) 5))] false [(false, [.int .i64])]
   (.ret (.agg [(.var (.int .i64) 6), (.cst .nilSl), (.cst .nilSl), (.cst (.int .i64 0))])))
   (.join [.slice, .slice, .slice, .slice, .int .i64, .int .i64, .slice, .slice, .int .i64]
    (.load (.fld (.var (.addr) 2) 1) [.int .i64]
    (.both
     (.hsl 2 0 []
     (.still [((.fld (.var (.addr) 2) 1), (.var (.int .i64) 6))]
     (.both
      (.app 2 1 8 [(.int .i64 0)] (.var (.slice) 7) (.var (.slice) 3)
      (.still [((.fld (.var (.addr) 2) 1), (.var (.int .i64) 6))]
      (.hsl 2 0 []
      (.still [((.fld (.var (.addr) 2) 1), (.var (.int .i64) 6))]
      (.app 2 1 8 [(.int .i64 0)] (.var (.slice) 9) (.var (.slice) 4)
      (.still [((.fld (.var (.addr) 2) 1), (.var (.int .i64) 6))]
      (.cont 3 [(.var (.slice) 7), (.var (.slice) 8), (.var (.slice) 9), (.var (.slice) 10), (.var (.int .i64) 6), (.ar .sub .i64 (.var (.int .i64) 6) (.var (.int .i64) 1)), (.var (.slice) 8), (.var (.slice) 10), (.ar .sub .i64 (.var (.int .i64) 6) (.var (.int .i64) 1))])))))))
      (.hsl 2 0 []
      (.still [((.fld (.var (.addr) 2) 1), (.var (.int .i64) 6))]
      (.app 2 1 8 [(.int .i64 0)] (.var (.slice) 7) (.var (.slice) 3)
      (.still [((.fld (.var (.addr) 2) 1), (.var (.int .i64) 6))]
      (.app 2 1 8 [(.int .i64 0)] (.var (.slice) 8) (.var (.slice) 4)
      (.still [((.fld (.var (.addr) 2) 1), (.var (.int .i64) 6))]
      (.cont 3 [(.var (.slice) 7), (.var (.slice) 9), (.var (.slice) 8), (.var (.slice) 10), (.var (.int .i64) 6), (.ar .sub .i64 (.var (.int .i64) 6) (.var (.int .i64) 1)), (.var (.slice) 9), (.var (.slice) 10), (.ar .sub .i64 (.var (.int .i64) 6) (.var (.int .i64) 1))]))))))))))
     (.hsl 2 0 []
     (.still [((.fld (.var (.addr) 2) 1), (.var (.int .i64) 6))]
     (.hsl 2 0 []
     (.still [((.fld (.var (.addr) 2) 1), (.var (.int .i64) 6))]
     (.app 2 1 8 [(.int .i64 0)] (.var (.slice) 8) (.var (.slice) 3)
     (.still [((.fld (.var (.addr) 2) 1), (.var (.int .i64) 6))]
     (.app 2 1 8 [(.int .i64 0)] (.var (.slice) 7) (.var (.slice) 4)
     (.still [((.fld (.var (.addr) 2) 1), (.var (.int .i64) 6))]
     (.cont 3 [(.var (.slice) 8), (.var (.slice) 9), (.var (.slice) 7), (.var (.slice) 10), (.var (.int .i64) 6), (.ar .sub .i64 (.var (.int .i64) 6) (.var (.int .i64) 1)), (.var (.slice) 9), (.var (.slice) 10), (.ar .sub .i64 (.var (.int .i64) 6) (.var (.int .i64) 1))])))))))))))
    (.ret (.agg [(.cst (.int .i64 1)), (.var (.slice) 12), (.var (.slice) 13), (.var (.int .i64) 14)])))))))))))
set_option maxRecDepth 100000 in
theorem s_impl_ReadLens : sxF c_impl_ReadLens Tryd.f18 p_impl_ReadLens = some t_impl_ReadLens := by kernel_rfl
theorem e_impl_ReadLens (xs : Array Value) (w : World) : (callFunc F_impl_ReadLens xs).runT Tryd.prog w #[] = (.ok (.enter F_impl_ReadLens xs) w, #[]) := ent_of Tryd.func18 (by kernel_rfl) (by kernel_rfl) xs w
theorem run_impl_ReadLens {S : Shared} {h : Eng.Heap} {Q : Value → Eng.Heap → Prop} {vs : List Value} (hsh : shOk (resShs p_impl_ReadLens) vs) (hi : Inv S h) (hw : t_impl_ReadLens.wp Tryd.prog S noLeaf Q vs h []) : CallsH Tryd.prog S F_impl_ReadLens (argVals p_impl_ReadLens vs) h Q :=
  sxF_ok (cfg := c_impl_ReadLens) tabRLOk mixedRL Tryd.func18 rfl s_impl_ReadLens e_impl_ReadLens rfl hsh hi hw
/- function 19 -/
def c_laws_eqLensRes : Cfg := ⟨tabRL, [], [], [.tmp 4]⟩
def p_laws_eqLensRes : List (Bool × List Sh) := [(true, [.int .i64, .slice, .slice, .int .i64]), (true, [.int .i64, .slice, .slice, .int .i64])]
set_option maxRecDepth 100000 in
def t_laws_eqLensRes : Tr :=
(.lift (.br (.cm .neq (.var (.int .i64) 0) (.var (.int .i64) 4))
 (.ret (.x (.cst (.bool false))))
 (.call F_laws_eqInt64S [(.x (.var (.slice) 1)), (.x (.var (.slice) 5))] false [(false, [.bool])]
 (.lift (.br (.nt (.var (.bool) 8))
  (.ret (.x (.cst (.bool false))))
  (.call F_laws_eqInt64S [(.x (.var (.slice) 2)), (.x (.var (.slice) 6))] false [(false, [.bool])]
  (.lift (.br (.nt (.var (.bool) 9))
   (.ret (.x (.cst (.bool false))))
   (.lift (.br (.cm .neq (.var (.int .i64) 3) (.var (.int .i64) 7))
    (.ret (.x (.cst (.bool false))))
    (.ret (.x (.cst (.bool true))))))))))))))
set_option maxRecDepth 100000 in
theorem s_laws_eqLensRes : sxF c_laws_eqLensRes Tryd.f19 p_laws_eqLensRes = some t_laws_eqLensRes := by kernel_rfl
theorem e_laws_eqLensRes (xs : Array Value) (w : World) : (callFunc F_laws_eqLensRes xs).runT Tryd.prog w #[] = (.ok (.enter F_laws_eqLensRes xs) w, #[]) := ent_of Tryd.func19 (by kernel_rfl) (by kernel_rfl) xs w
theorem run_laws_eqLensRes {S : Shared} {h : Eng.Heap} {Q : Value → Eng.Heap → Prop} {vs : List Value} (hsh : shOk (resShs p_laws_eqLensRes) vs) (hi : Inv S h) (hw : t_laws_eqLensRes.wp Tryd.prog S noLeaf Q vs h []) : CallsH Tryd.prog S F_laws_eqLensRes (argVals p_laws_eqLensRes vs) h Q :=
  sxF_ok (cfg := c_laws_eqLensRes) tabRLOk mixedRL Tryd.func19 rfl s_laws_eqLensRes e_laws_eqLensRes rfl hsh hi hw
/- function 22 -/
def c_laws_markLensRes : Cfg := ⟨tabRL, [], [], [.tmp 4]⟩
def p_laws_markLensRes : List (Bool × List Sh) := [(true, [.int .i64, .slice, .slice, .int .i64]), (false, [.int .i64])]
set_option maxRecDepth 100000 in
def t_laws_markLensRes : Tr :=
(.call F_laws_markInt64S [(.x (.var (.slice) 1)), (.x (.var (.int .i64) 4))] false [(false, [.int .i64])]
(.call F_laws_markInt64S [(.x (.var (.slice) 2)), (.x (.var (.int .i64) 5))] false [(false, [.int .i64])]
(.ret (.x (.var (.int .i64) 6)))))
set_option maxRecDepth 100000 in
theorem s_laws_markLensRes : sxF c_laws_markLensRes Tryd.f22 p_laws_markLensRes = some t_laws_markLensRes := by kernel_rfl
theorem e_laws_markLensRes (xs : Array Value) (w : World) : (callFunc F_laws_markLensRes xs).runT Tryd.prog w #[] = (.ok (.enter F_laws_markLensRes xs) w, #[]) := ent_of Tryd.func22 (by kernel_rfl) (by kernel_rfl) xs w
theorem run_laws_markLensRes {S : Shared} {h : Eng.Heap} {Q : Value → Eng.Heap → Prop} {vs : List Value} (hsh : shOk (resShs p_laws_markLensRes) vs) (hi : Inv S h) (hw : t_laws_markLensRes.wp Tryd.prog S noLeaf Q vs h []) : CallsH Tryd.prog S F_laws_markLensRes (argVals p_laws_markLensRes vs) h Q :=
  sxF_ok (cfg := c_laws_markLensRes) tabRLOk mixedRL Tryd.func22 rfl s_laws_markLensRes e_laws_markLensRes rfl hsh hi hw
/- function 23 -/
def c_laws_heldLensRes : Cfg := ⟨tabRL, [], [], [.tmp 4]⟩
def p_laws_heldLensRes : List (Bool × List Sh) := [(true, [.int .i64, .slice, .slice, .int .i64]), (false, [.int .i64])]
set_option maxRecDepth 100000 in
def t_laws_heldLensRes : Tr :=
(.call F_laws_heldInt64S [(.x (.var (.slice) 1)), (.x (.var (.int .i64) 4))] false [(false, [.int .i64])]
(.lift (.br (.cm .lss (.var (.int .i64) 5) (.cst (.int .i64 0)))
 (.ret (.x (.cst (.int .i64 (-1)))))
 (.call F_laws_heldInt64S [(.x (.var (.slice) 2)), (.x (.var (.int .i64) 5))] false [(false, [.int .i64])]
 (.lift (.br (.cm .lss (.var (.int .i64) 6) (.cst (.int .i64 0)))
  (.ret (.x (.cst (.int .i64 (-1)))))
  (.ret (.x (.var (.int .i64) 6)))))))))
set_option maxRecDepth 100000 in
theorem s_laws_heldLensRes : sxF c_laws_heldLensRes Tryd.f23 p_laws_heldLensRes = some t_laws_heldLensRes := by kernel_rfl
theorem e_laws_heldLensRes (xs : Array Value) (w : World) : (callFunc F_laws_heldLensRes xs).runT Tryd.prog w #[] = (.ok (.enter F_laws_heldLensRes xs) w, #[]) := ent_of Tryd.func23 (by kernel_rfl) (by kernel_rfl) xs w
theorem run_laws_heldLensRes {S : Shared} {h : Eng.Heap} {Q : Value → Eng.Heap → Prop} {vs : List Value} (hsh : shOk (resShs p_laws_heldLensRes) vs) (hi : Inv S h) (hw : t_laws_heldLensRes.wp Tryd.prog S noLeaf Q vs h []) : CallsH Tryd.prog S F_laws_heldLensRes (argVals p_laws_heldLensRes vs) h Q :=
  sxF_ok (cfg := c_laws_heldLensRes) tabRLOk mixedRL Tryd.func23 rfl s_laws_heldLensRes e_laws_heldLensRes rfl hsh hi hw
/- function 45 -/
def c_laws_heldInt64S : Cfg := ⟨tabRL, [⟨2, [1, 5], [], [6, 7, 8, 9, 10, 11, 12, 13, 14, 15, 16, 17, 18, 19]⟩], [], [.tmp 4]⟩
def p_laws_heldInt64S : List (Bool × List Sh) := [(false, [.slice]), (false, [.int .i64])]
set_option maxRecDepth 100000 in
def t_laws_heldInt64S : Tr :=
(.loop [.int .i64, .int .i64] [(.var (.int .i64) 1), (.cst (.int .i64 0))]
 (.lift (.br (.cm .lss (.var (.int .i64) 3) (.ln (.var (.slice) 0)))
  (.need (.nt (.nn (.var (.slice) 0)))
  (.need (.cm .leq (.cst (.int .i64 0)) (.var (.int .i64) 3))
  (.need (.cm .lss (.var (.int .i64) 3) (.ln (.var (.slice) 0)))
  (.load (.ix 1 (.var (.slice) 0) (.var (.int .i64) 3)) [.int .i64]
  (.lift (.br (.cm .neq (.var (.int .i64) 4) (.var (.int .i64) 2))
   (.ret (.x (.cst (.int .i64 (-1)))))
   (.cont 0 [(.ar .add .i64 (.var (.int .i64) 2) (.cst (.int .i64 1))), (.ar .add .i64 (.var (.int .i64) 3) (.cst (.int .i64 1)))])))))))
  (.ret (.x (.var (.int .i64) 2))))))
set_option maxRecDepth 100000 in
theorem s_laws_heldInt64S : sxF c_laws_heldInt64S Tryd.f45 p_laws_heldInt64S = some t_laws_heldInt64S := by kernel_rfl
theorem e_laws_heldInt64S (xs : Array Value) (w : World) : (callFunc F_laws_heldInt64S xs).runT Tryd.prog w #[] = (.ok (.enter F_laws_heldInt64S xs) w, #[]) := ent_of Tryd.func45 (by kernel_rfl) (by kernel_rfl) xs w
theorem run_laws_heldInt64S {S : Shared} {h : Eng.Heap} {Q : Value → Eng.Heap → Prop} {vs : List Value} (hsh : shOk (resShs p_laws_heldInt64S) vs) (hi : Inv S h) (hw : t_laws_heldInt64S.wp Tryd.prog S noLeaf Q vs h []) : CallsH Tryd.prog S F_laws_heldInt64S (argVals p_laws_heldInt64S vs) h Q :=
  sxF_ok (cfg := c_laws_heldInt64S) tabRLOk mixedRL Tryd.func45 rfl s_laws_heldInt64S e_laws_heldInt64S rfl hsh hi hw
end Go.Proofs.YtmnialmphlbmaaaDoor
