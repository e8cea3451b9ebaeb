-- printed by a generator of my own (wip/eng/Gen) from the translation
import Derived.Test.YteaonnfokkfnlaaDoorEng2
import Derived.Test.YteaonnfokkfnlaaDoorChecked
import Derived.Test.YteaonnfokkfnlaaDoorNums
set_option linter.unusedVariables false
set_option linter.unusedSimpArgs false
namespace Go.Proofs.YteaonnfokkfnlaaDoor
open Go Go.Eng
def tabAs : List (TypeId × TyD) := [(0, ⟨.oth, 1, 0, [], none, some []⟩),
  (2, ⟨(.int .i64), 1, 8, [.int .i64], some [(1, (.int .i64 0))], none⟩),
  (3, ⟨(.int .i64), 1, 8, [.int .i64], some [(1, (.int .i64 0))], none⟩),
  (4, ⟨.bool, 1, 1, [.bool], some [(1, (.bool false))], none⟩),
  (9, ⟨.str, 1, 16, [.str], none, none⟩),
  (17, ⟨(.ptr 141), 1, 8, [.ptr], some [(1, .nilPtr)], none⟩),
  (20, ⟨.ifc, 1, 16, [.iface], some [(1, .nilIf)], none⟩),
  (51, ⟨.ifc, 1, 16, [.iface], some [(1, .nilIf)], none⟩),
  (73, ⟨(.st [(0, 2)]), 1, 8, [.int .i64], some [(1, (.int .i64 0))], none⟩),
  (75, ⟨(.ptr 73), 1, 8, [.ptr], some [(1, .nilPtr)], none⟩),
  (86, ⟨.oth, 1, 8, [.ptr], some [(1, .nilPtr)], none⟩),
  (87, ⟨(.int .u64), 1, 8, [.int .u64], some [(1, (.int .u64 0))], none⟩),
  (89, ⟨(.st [(0, 17), (1, 86), (2, 87)]), 3, 24, [.ptr, .ptr, .int .u64], some [(2, .nilPtr), (1, (.int .u64 0))], none⟩),
  (92, ⟨.ifc, 1, 16, [.iface], some [(1, .nilIf)], none⟩),
  (94, ⟨(.int .u8), 1, 1, [.int .u8], some [(1, (.int .u8 0))], none⟩),
  (115, ⟨.ifc, 1, 16, [.iface], some [(1, .nilIf)], none⟩),
  (116, ⟨.oth, 1, 0, [], none, some [115, 4]⟩),
  (118, ⟨.ifc, 1, 16, [.iface], some [(1, .nilIf)], none⟩),
  (120, ⟨.ifc, 1, 16, [.iface], some [(1, .nilIf)], none⟩),
  (121, ⟨(.sl 51), 1, 24, [.slice], some [(1, .nilSl)], none⟩)]
set_option maxRecDepth 100000 in
theorem tabAsOk : TabOk Tryd.prog tabAs := tabOk_of (by kernel_rfl)
theorem mixedAs : Tryd.prog.follows .mixedOrders = true := by kernel_rfl
/- function 19 -/
def c_impl_classOf : Cfg := ⟨tabAs, [], [3], [.tmp 2]⟩
def p_impl_classOf : List (Bool × List Sh) := [(false, [.iface])]
set_option maxRecDepth 100000 in
def t_impl_classOf : Tr :=
(.hall 73 [(1, (.cst (.int .i64 0)))]
(.hsto (.var (.addr) 1) [(.cst (.int .i64 1))]
(.call F_errors_As [(.x (.var (.iface) 0)), (.x (.ifc 75 (.var (.addr) 1)))] false [(false, [.bool])]
(.load (.fld (.var (.addr) 1) 0) [.int .i64]
(.ret (.x (.var (.int .i64) 3)))))))
set_option maxRecDepth 100000 in
theorem s_impl_classOf : sxF c_impl_classOf Tryd.f19 p_impl_classOf = some t_impl_classOf := by kernel_rfl
theorem e_impl_classOf (xs : Array Value) (w : World) : (callFunc F_impl_classOf xs).runT Tryd.prog w #[] = (.ok (.enter F_impl_classOf xs) w, #[]) := ent_of Tryd.func19 (by kernel_rfl) (by kernel_rfl) xs w
theorem run_impl_classOf {S : Shared} {h : Eng.Heap} {Q : Value → Eng.Heap → Prop} {vs : List Value} (hsh : shOk (resShs p_impl_classOf) vs) (hi : Inv S h) (hw : t_impl_classOf.wp Tryd.prog S noLeaf Q vs h []) : CallsH Tryd.prog S F_impl_classOf (argVals p_impl_classOf vs) h Q :=
  sxF_ok (cfg := c_impl_classOf) tabAsOk mixedAs Tryd.func19 rfl s_impl_classOf e_impl_classOf rfl hsh hi hw
/- function 33 -/
def c_errors_As : Cfg := ⟨tabAs, [], [], [.tmp 4]⟩
def p_errors_As : List (Bool × List Sh) := [(false, [.iface]), (false, [.iface])]
set_option maxRecDepth 100000 in
def t_errors_As : Tr :=
(.lift (.br (.nn (.var (.iface) 0))
 (.ret (.x (.cst (.bool false))))
 (.lift (.br (.nn (.var (.iface) 1))
  (.need (.cst (.bool false))
  (.ret .junk))
  (.call F_internal_reflectlite_ValueOf [(.x (.var (.iface) 1))] false [(true, [.ptr, .ptr, .int .u64])]
  (.call F__internal_reflectlite_Value__Type [(.agg [(.var (.ptr) 2), (.var (.ptr) 3), (.var (.int .u64) 4)])] false [(false, [.iface])]
  (.join [.int .u8, .bool, .bool, .bool]
   (.calli (.var (.iface) 5) "Kind" [] false [(false, [.int .u8])]
   (.br (.nt (.cm .neq (.var (.int .u8) 6) (.cst (.int .u8 22))))
    (.call F__internal_reflectlite_Value__IsNil [(.agg [(.var (.ptr) 2), (.var (.ptr) 3), (.var (.int .u64) 4)])] false [(false, [.bool])]
    (.cont 2 [(.var (.int .u8) 6), (.cm .neq (.var (.int .u8) 6) (.cst (.int .u8 22))), (.cm .neq (.var (.int .u8) 6) (.cst (.int .u8 22))), (.var (.bool) 7)]))
    (.cont 2 [(.var (.int .u8) 6), (.cm .neq (.var (.int .u8) 6) (.cst (.int .u8 22))), (.cm .neq (.var (.int .u8) 6) (.cst (.int .u8 22))), (.cst (.bool true))])))
   (.lift (.br (.var (.bool) 9)
    (.need (.cst (.bool false))
    (.ret .junk))
    (.calli (.var (.iface) 5) "Elem" [] false [(false, [.iface])]
    (.join [.int .u8, .bool, .bool, .bool]
     (.calli (.var (.iface) 10) "Kind" [] false [(false, [.int .u8])]
     (.br (.cm .neq (.var (.int .u8) 11) (.cst (.int .u8 20)))
      (.load (.glob 2) [.iface]
      (.calli (.var (.iface) 10) "Implements" [(.x (.var (.iface) 12))] false [(false, [.bool])]
      (.cont 3 [(.var (.int .u8) 11), (.cm .neq (.var (.int .u8) 11) (.cst (.int .u8 20))), (.cm .neq (.var (.int .u8) 11) (.cst (.int .u8 20))), (.nt (.var (.bool) 13))])))
      (.cont 3 [(.var (.int .u8) 11), (.cm .neq (.var (.int .u8) 11) (.cst (.int .u8 20))), (.cm .neq (.var (.int .u8) 11) (.cst (.int .u8 20))), (.cst (.bool false))])))
     (.lift (.br (.var (.bool) 14)
      (.need (.cst (.bool false))
      (.ret .junk))
      (.call F_errors_as [(.x (.var (.iface) 0)), (.x (.var (.iface) 1)), (.agg [(.var (.ptr) 2), (.var (.ptr) 3), (.var (.int .u64) 4)]), (.x (.var (.iface) 10))] false [(false, [.bool])]
      (.ret (.x (.var (.bool) 15)))))))))))))))))
set_option maxRecDepth 100000 in
theorem s_errors_As : sxF c_errors_As Tryd.f33 p_errors_As = some t_errors_As := by kernel_rfl
theorem e_errors_As (xs : Array Value) (w : World) : (callFunc F_errors_As xs).runT Tryd.prog w #[] = (.ok (.enter F_errors_As xs) w, #[]) := ent_of Tryd.func33 (by kernel_rfl) (by kernel_rfl) xs w
theorem run_errors_As {S : Shared} {h : Eng.Heap} {Q : Value → Eng.Heap → Prop} {vs : List Value} (hsh : shOk (resShs p_errors_As) vs) (hi : Inv S h) (hw : t_errors_As.wp Tryd.prog S noLeaf Q vs h []) : CallsH Tryd.prog S F_errors_As (argVals p_errors_As vs) h Q :=
  sxF_ok (cfg := c_errors_As) tabAsOk mixedAs Tryd.func33 rfl s_errors_As e_errors_As rfl hsh hi hw
/- function 48 -/
def c_errors_as : Cfg := ⟨tabAs, [⟨1, [], [], [9, 10, 11, 12, 14, 15, 16, 17, 18, 19, 20, 21, 22, 23, 24, 25, 26, 27, 28, 29, 30, 31, 32, 33, 34, 35, 36, 37, 38, 39, 40, 41, 42, 43, 44, 45, 46, 47, 48, 49, 50, 51, 52, 53, 54, 55, 56, 57, 58, 59, 60, 61]⟩], [], [.tmp 8]⟩
def p_errors_as : List (Bool × List Sh) := [(false, [.iface]), (false, [.iface]), (true, [.ptr, .ptr, .int .u64]), (false, [.iface])]
set_option maxRecDepth 100000 in
def t_errors_as : Tr :=
(.loop [] []
 (.call F_internal_reflectlite_TypeOf [(.x (.var (.iface) 0))] false [(false, [.iface])]
 (.calli (.var (.iface) 6) "AssignableTo" [(.x (.var (.iface) 5))] false [(false, [.bool])]
 (.lift (.br (.var (.bool) 7)
  (.call F__internal_reflectlite_Value__Elem [(.agg [(.var (.ptr) 2), (.var (.ptr) 3), (.var (.int .u64) 4)])] false [(true, [.ptr, .ptr, .int .u64])]
  (.call F_internal_reflectlite_ValueOf [(.x (.var (.iface) 0))] false [(true, [.ptr, .ptr, .int .u64])]
  (.call F__internal_reflectlite_Value__Set [(.agg [(.var (.ptr) 8), (.var (.ptr) 9), (.var (.int .u64) 10)]), (.agg [(.var (.ptr) 11), (.var (.ptr) 12), (.var (.int .u64) 13)])] true []
  (.ret (.x (.cst (.bool true)))))))
  (.need (.cst (.bool false))
  (.ret .junk)))))))
set_option maxRecDepth 100000 in
theorem s_errors_as : sxF c_errors_as Tryd.f48 p_errors_as = some t_errors_as := by kernel_rfl
theorem e_errors_as (xs : Array Value) (w : World) : (callFunc F_errors_as xs).runT Tryd.prog w #[] = (.ok (.enter F_errors_as xs) w, #[]) := ent_of Tryd.func48 (by kernel_rfl) (by kernel_rfl) xs w
theorem run_errors_as {S : Shared} {h : Eng.Heap} {Q : Value → Eng.Heap → Prop} {vs : List Value} (hsh : shOk (resShs p_errors_as) vs) (hi : Inv S h) (hw : t_errors_as.wp Tryd.prog S noLeaf Q vs h []) : CallsH Tryd.prog S F_errors_as (argVals p_errors_as vs) h Q :=
  sxF_ok (cfg := c_errors_as) tabAsOk mixedAs Tryd.func48 rfl s_errors_as e_errors_as rfl hsh hi hw
end Go.Proofs.YteaonnfokkfnlaaDoor
