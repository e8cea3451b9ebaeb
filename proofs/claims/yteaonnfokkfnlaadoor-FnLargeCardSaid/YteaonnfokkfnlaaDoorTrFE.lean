-- printed by a generator of my own (wip/eng/Gen) from the translation
import Derived.Test.YteaonnfokkfnlaaDoorEng2
import Derived.Test.YteaonnfokkfnlaaDoorChecked
import Derived.Test.YteaonnfokkfnlaaDoorNums
set_option linter.unusedVariables false
set_option linter.unusedSimpArgs false
namespace Go.Proofs.YteaonnfokkfnlaaDoor
open Go Go.Eng
def tabFE : List (TypeId × TyD) := [(0, ⟨.oth, 1, 0, [], none, some []⟩),
  (2, ⟨(.int .i64), 1, 8, [.int .i64], some [(1, (.int .i64 0))], none⟩),
  (3, ⟨(.int .i64), 1, 8, [.int .i64], some [(1, (.int .i64 0))], none⟩),
  (4, ⟨.bool, 1, 1, [.bool], some [(1, (.bool false))], none⟩),
  (5, ⟨(.int .u8), 1, 1, [.int .u8], some [(1, (.int .u8 0))], none⟩),
  (9, ⟨.str, 1, 16, [.str], none, none⟩),
  (22, ⟨(.sl 5), 1, 24, [.slice], some [(1, .nilSl)], none⟩),
  (34, ⟨(.st [(0, 2), (1, 22), (2, 2)]), 3, 40, [.int .i64, .slice, .int .i64], some [(1, (.int .i64 0)), (1, .nilSl), (1, (.int .i64 0))], none⟩),
  (37, ⟨.oth, 1, 0, [], none, some [22, 2]⟩),
  (55, ⟨(.ptr 77), 1, 8, [.ptr], some [(1, .nilPtr)], none⟩)]
set_option maxRecDepth 100000 in
theorem tabFEOk : TabOk Tryd.prog tabFE := tabOk_of (by kernel_rfl)
theorem mixedFE : Tryd.prog.follows .mixedOrders = true := by kernel_rfl
/- function 4 -/
def c_laws_FnEncode : Cfg := ⟨tabFE, [], [], [.tmp 2]⟩
def p_laws_FnEncode : List (Bool × List Sh) := [(false, [.slice])]
set_option maxRecDepth 100000 in
def t_laws_FnEncode : Tr :=
(.lift (.br (.cm .gtr (.ln (.var (.slice) 0)) (.cst (.int .i64 1048576)))
 (.ret (.x (.cst (.bool true))))
 (.call F_spec_DrawEncodeStored [(.x (.var (.slice) 0))] true [(false, [.slice]), (false, [.int .i64])]
 (.call F_impl_EncodeStored [(.x (.var (.slice) 1)), (.x (.var (.int .i64) 2))] false [(false, [.slice])]
 (.lift (.br (.it (.cm .lss (.var (.int .i64) 2) (.cst (.int .i64 1))) (.cst (.bool true)) (.cm .gtr (.var (.int .i64) 2) (.cst (.int .i64 65535))))
  (.ret (.x (.cm .eql (.ln (.var (.slice) 3)) (.cst (.int .i64 0)))))
  (.hsl 5 0 []
  (.call F_impl_Inflate [(.x (.var (.slice) 3)), (.x (.cst (.int .i64 32768))), (.x (.var (.slice) 4))] false [(true, [.int .i64, .slice, .int .i64])]
  (.call F_impl_EncodeFixed [(.x (.var (.slice) 1))] false [(false, [.slice])]
  (.hsl 5 0 []
  (.call F_impl_Inflate [(.x (.var (.slice) 8)), (.x (.cst (.int .i64 1))), (.x (.var (.slice) 9))] false [(true, [.int .i64, .slice, .int .i64])]
  (.join [.bool, .bool, .bool, .bool, .bool, .bool, .bool, .bool, .bool, .bool]
   (.br (.cm .eql (.var (.int .i64) 5) (.cst (.int .i64 1)))
    (.call F_laws_lwBytes [(.x (.var (.slice) 6)), (.x (.var (.slice) 1))] false [(false, [.bool])]
    (.br (.it (.it (.var (.bool) 13) (.cm .eql (.var (.int .i64) 7) (.ar .mul .i64 (.cst (.int .i64 8)) (.ln (.var (.slice) 3)))) (.cst (.bool false))) (.cm .eql (.var (.int .i64) 10) (.cst (.int .i64 1))) (.cst (.bool false)))
     (.call F_laws_lwBytes [(.x (.var (.slice) 11)), (.x (.var (.slice) 1))] false [(false, [.bool])]
     (.cont 2 [(.it (.var (.bool) 14) (.cm .eql (.ar .quo .i64 (.ar .add .i64 (.var (.int .i64) 12) (.cst (.int .i64 7))) (.cst (.int .i64 8))) (.ln (.var (.slice) 8))) (.cst (.bool false))), (.var (.bool) 13), (.var (.bool) 13), (.it (.var (.bool) 13) (.cm .eql (.var (.int .i64) 7) (.ar .mul .i64 (.cst (.int .i64 8)) (.ln (.var (.slice) 3)))) (.cst (.bool false))), (.it (.var (.bool) 13) (.cm .eql (.var (.int .i64) 7) (.ar .mul .i64 (.cst (.int .i64 8)) (.ln (.var (.slice) 3)))) (.cst (.bool false))), (.it (.it (.var (.bool) 13) (.cm .eql (.var (.int .i64) 7) (.ar .mul .i64 (.cst (.int .i64 8)) (.ln (.var (.slice) 3)))) (.cst (.bool false))) (.cm .eql (.var (.int .i64) 10) (.cst (.int .i64 1))) (.cst (.bool false))), (.it (.it (.var (.bool) 13) (.cm .eql (.var (.int .i64) 7) (.ar .mul .i64 (.cst (.int .i64 8)) (.ln (.var (.slice) 3)))) (.cst (.bool false))) (.cm .eql (.var (.int .i64) 10) (.cst (.int .i64 1))) (.cst (.bool false))), (.var (.bool) 14), (.var (.bool) 14), (.it (.var (.bool) 14) (.cm .eql (.ar .quo .i64 (.ar .add .i64 (.var (.int .i64) 12) (.cst (.int .i64 7))) (.cst (.int .i64 8))) (.ln (.var (.slice) 8))) (.cst (.bool false)))]))
     (.cont 2 [(.cst (.bool false)), (.var (.bool) 13), (.var (.bool) 13), (.it (.var (.bool) 13) (.cm .eql (.var (.int .i64) 7) (.ar .mul .i64 (.cst (.int .i64 8)) (.ln (.var (.slice) 3)))) (.cst (.bool false))), (.it (.var (.bool) 13) (.cm .eql (.var (.int .i64) 7) (.ar .mul .i64 (.cst (.int .i64 8)) (.ln (.var (.slice) 3)))) (.cst (.bool false))), (.it (.it (.var (.bool) 13) (.cm .eql (.var (.int .i64) 7) (.ar .mul .i64 (.cst (.int .i64 8)) (.ln (.var (.slice) 3)))) (.cst (.bool false))) (.cm .eql (.var (.int .i64) 10) (.cst (.int .i64 1))) (.cst (.bool false))), (.it (.it (.var (.bool) 13) (.cm .eql (.var (.int .i64) 7) (.ar .mul .i64 (.cst (.int .i64 8)) (.ln (.var (.slice) 3)))) (.cst (.bool false))) (.cm .eql (.var (.int .i64) 10) (.cst (.int .i64 1))) (.cst (.bool false))), (.cst (.bool false)), (.cst (.bool false)), (.cst (.bool false))])))
    (.cont 2 [(.cst (.bool false)), (.cst (.bool false)), (.cst (.bool false)), (.cst (.bool false)), (.cst (.bool false)), (.cst (.bool false)), (.cst (.bool false)), (.cst (.bool false)), (.cst (.bool false)), (.cst (.bool false))]))
   (.ret (.x (.var (.bool) 13)))))))))))))))
set_option maxRecDepth 100000 in
theorem s_laws_FnEncode : sxF c_laws_FnEncode Tryd.f4 p_laws_FnEncode = some t_laws_FnEncode := by kernel_rfl
theorem e_laws_FnEncode (xs : Array Value) (w : World) : (callFunc F_laws_FnEncode xs).runT Tryd.prog w #[] = (.ok (.enter F_laws_FnEncode xs) w, #[]) := ent_of Tryd.func4 (by kernel_rfl) (by kernel_rfl) xs w
theorem run_laws_FnEncode {S : Shared} {h : Eng.Heap} {Q : Value → Eng.Heap → Prop} {vs : List Value} (hsh : shOk (resShs p_laws_FnEncode) vs) (hi : Inv S h) (hw : t_laws_FnEncode.wp Tryd.prog S noLeaf Q vs h []) : CallsH Tryd.prog S F_laws_FnEncode (argVals p_laws_FnEncode vs) h Q :=
  sxF_ok (cfg := c_laws_FnEncode) tabFEOk mixedFE Tryd.func4 rfl s_laws_FnEncode e_laws_FnEncode rfl hsh hi hw
/- function 10 -/
def c_spec_DrawEncodeStored : Cfg := ⟨tabFE, [], [], [.tmp 2, .tmp 3]⟩
def p_spec_DrawEncodeStored : List (Bool × List Sh) := [(false, [.slice])]
set_option maxRecDepth 100000 in
def t_spec_DrawEncodeStored : Tr :=
(.call F_spec_l1New [(.x (.var (.slice) 0))] false [(false, [.ptr])]
(.call F_spec_l1Data [(.x (.var (.ptr) 1)), (.x (.cst (.int .i64 30)))] false [(false, [.slice])]
(.call F_spec_l1Below [(.x (.var (.ptr) 1)), (.x (.cst (.int .i64 12)))] false [(false, [.int .i64])]
(.call F_spec_l1Once [(.x (.var (.ptr) 1)), (.x (.cst (.int .i64 10)))] false [(false, [.bool])]
(.join [.int .i64]
 (.br (.var (.bool) 4)
  (.call F_spec_l1Below [(.x (.var (.ptr) 1)), (.x (.cst (.int .i64 2)))] false [(false, [.int .i64])]
  (.cont 0 [(.ar .add .i64 (.cst (.int .i64 65535)) (.var (.int .i64) 5))]))
  (.cont 0 [(.ar .add .i64 (.cst (.int .i64 1)) (.var (.int .i64) 3))]))
 (.call F_spec_l1Once [(.x (.var (.ptr) 1)), (.x (.cst (.int .i64 15)))] false [(false, [.bool])]
 (.ret (.tup [(false, [(.var (.slice) 2)]), (false, [(.it (.var (.bool) 6) (.cst (.int .i64 0)) (.var (.int .i64) 5))])]))))))))
set_option maxRecDepth 100000 in
theorem s_spec_DrawEncodeStored : sxF c_spec_DrawEncodeStored Tryd.f10 p_spec_DrawEncodeStored = some t_spec_DrawEncodeStored := by kernel_rfl
theorem e_spec_DrawEncodeStored (xs : Array Value) (w : World) : (callFunc F_spec_DrawEncodeStored xs).runT Tryd.prog w #[] = (.ok (.enter F_spec_DrawEncodeStored xs) w, #[]) := ent_of Tryd.func10 (by kernel_rfl) (by kernel_rfl) xs w
theorem run_spec_DrawEncodeStored {S : Shared} {h : Eng.Heap} {Q : Value → Eng.Heap → Prop} {vs : List Value} (hsh : shOk (resShs p_spec_DrawEncodeStored) vs) (hi : Inv S h) (hw : t_spec_DrawEncodeStored.wp Tryd.prog S noLeaf Q vs h []) : CallsH Tryd.prog S F_spec_DrawEncodeStored (argVals p_spec_DrawEncodeStored vs) h Q :=
  sxF_ok (cfg := c_spec_DrawEncodeStored) tabFEOk mixedFE Tryd.func10 rfl s_spec_DrawEncodeStored e_spec_DrawEncodeStored rfl hsh hi hw
/- function 13 -/
def c_laws_lwBytes : Cfg := ⟨tabFE, [], [], [.tmp 4]⟩
def p_laws_lwBytes : List (Bool × List Sh) := [(false, [.slice]), (false, [.slice])]
set_option maxRecDepth 100000 in
def t_laws_lwBytes : Tr :=
(.strc (.var (.slice) 0)
(.strc (.var (.slice) 1)
(.ret (.x (.sq (.var (.str) 2) (.var (.str) 3))))))
set_option maxRecDepth 100000 in
theorem s_laws_lwBytes : sxF c_laws_lwBytes Tryd.f13 p_laws_lwBytes = some t_laws_lwBytes := by kernel_rfl
theorem e_laws_lwBytes (xs : Array Value) (w : World) : (callFunc F_laws_lwBytes xs).runT Tryd.prog w #[] = (.ok (.enter F_laws_lwBytes xs) w, #[]) := ent_of Tryd.func13 (by kernel_rfl) (by kernel_rfl) xs w
theorem run_laws_lwBytes {S : Shared} {h : Eng.Heap} {Q : Value → Eng.Heap → Prop} {vs : List Value} (hsh : shOk (resShs p_laws_lwBytes) vs) (hi : Inv S h) (hw : t_laws_lwBytes.wp Tryd.prog S noLeaf Q vs h []) : CallsH Tryd.prog S F_laws_lwBytes (argVals p_laws_lwBytes vs) h Q :=
  sxF_ok (cfg := c_laws_lwBytes) tabFEOk mixedFE Tryd.func13 rfl s_laws_lwBytes e_laws_lwBytes rfl hsh hi hw
end Go.Proofs.YteaonnfokkfnlaaDoor
