-- printed by a generator of my own (wip/eng/Gen) from the translation
import Derived.Test.YtplemlkdjgcoiaaEng2
import Derived.Test.YtplemlkdjgcoiaaChecked
set_option linter.unusedVariables false
namespace Go.Proofs.Ytplemlkdjgcoiaa
open Go Go.Eng
def tab : List (TypeId × TyD) := [(0, ⟨.oth, 1, 0, [], none, some []⟩),
  (2, ⟨(.int .i64), 1, 8, [.int .i64], some [(1, (.int .i64 0))], none⟩),
  (3, ⟨(.int .i64), 1, 8, [.int .i64], some [(1, (.int .i64 0))], none⟩),
  (4, ⟨.bool, 1, 1, [.bool], some [(1, (.bool false))], none⟩),
  (5, ⟨(.int .u8), 1, 1, [.int .u8], some [(1, (.int .u8 0))], none⟩),
  (26, ⟨(.sl 5), 1, 24, [.slice], some [(1, .nilSl)], none⟩),
  (28, ⟨(.st [(0, 2), (1, 26)]), 2, 32, [.int .i64, .slice], some [(1, (.int .i64 0)), (1, .nilSl)], none⟩),
  (31, ⟨(.st [(0, 2), (1, 26)]), 2, 32, [.int .i64, .slice], some [(1, (.int .i64 0)), (1, .nilSl)], none⟩),
  (36, ⟨(.st [(0, 26), (1, 2), (2, 2)]), 3, 40, [.slice, .int .i64, .int .i64], some [(1, .nilSl), (2, (.int .i64 0))], none⟩),
  (39, ⟨(.st [(0, 26), (1, 2), (2, 2)]), 3, 40, [.slice, .int .i64, .int .i64], some [(1, .nilSl), (2, (.int .i64 0))], none⟩)]
set_option maxRecDepth 100000 in
theorem tabOk : TabOk Try.prog tab := tabOk_of (by kernel_rfl)
theorem mixed : Try.prog.follows .mixedOrders = true := by kernel_rfl
abbrev F_laws_FnExactConstants : Nat := 3
abbrev F_laws_FnExactAdlerJoin : Nat := 4
abbrev F_laws_FnExactCrcJoin : Nat := 5
abbrev F_laws_FnExactValidWindow : Nat := 6
abbrev F_laws_FnExactValidBits : Nat := 7
abbrev F_spec_AdlerJoin : Nat := 8
abbrev F_impl_AdlerJoin : Nat := 9
abbrev F_spec_CrcJoin : Nat := 10
abbrev F_impl_CrcJoin : Nat := 11
abbrev F_laws_szWindow : Nat := 12
abbrev F_spec_ValidWindow : Nat := 13
abbrev F_laws_toWindow : Nat := 14
abbrev F_impl_ValidWindow : Nat := 15
abbrev F_laws_eqWindow : Nat := 16
abbrev F_laws_szBits : Nat := 17
abbrev F_spec_ValidBits : Nat := 18
abbrev F_laws_toBits : Nat := 19
abbrev F_impl_ValidBits : Nat := 20
abbrev F_laws_eqBits : Nat := 21
abbrev F_spec_l1Half : Nat := 22
abbrev F_impl_step : Nat := 23
abbrev F_laws_szByteS : Nat := 24
abbrev F_laws_toByteS : Nat := 25
abbrev F_laws_eqByteS : Nat := 26
abbrev F_spec_l2Most : Nat := 27
/- function 6 -/
def c_laws_FnExactValidWindow : Cfg := ⟨tab, [], [], [.tmp 2]⟩
def p_laws_FnExactValidWindow : List (Bool × List Sh) := [(true, [.int .i64, .slice])]
set_option maxRecDepth 100000 in
def t_laws_FnExactValidWindow : Tr :=
(.call F_laws_szWindow [(.agg [(.var (.int .i64) 0), (.var (.slice) 1)]), (.x (.cst (.int .i64 1048576)))] false [(false, [.int .i64])]
(.lift (.br (.cm .lss (.var (.int .i64) 2) (.cst (.int .i64 0)))
 (.ret (.x (.cst (.bool true))))
 (.call F_laws_toWindow [(.agg [(.var (.int .i64) 0), (.var (.slice) 1)])] false [(true, [.int .i64, .slice])]
 (.call F_spec_ValidWindow [(.agg [(.var (.int .i64) 3), (.var (.slice) 4)])] false [(false, [.bool])]
 (.call F_laws_toWindow [(.agg [(.var (.int .i64) 0), (.var (.slice) 1)])] false [(true, [.int .i64, .slice])]
 (.call F_impl_ValidWindow [(.agg [(.var (.int .i64) 6), (.var (.slice) 7)])] false [(false, [.bool])]
 (.lift (.br (.nt (.bq (.var (.bool) 8) (.var (.bool) 5)))
  (.ret (.x (.cst (.bool false))))
  (.call F_laws_toWindow [(.agg [(.var (.int .i64) 0), (.var (.slice) 1)])] false [(true, [.int .i64, .slice])]
  (.call F_laws_eqWindow [(.agg [(.var (.int .i64) 6), (.var (.slice) 7)]), (.agg [(.var (.int .i64) 9), (.var (.slice) 10)])] false [(false, [.bool])]
  (.lift (.br (.nt (.var (.bool) 11))
   (.ret (.x (.cst (.bool false))))
   (.ret (.x (.cst (.bool true)))))))))))))))))
set_option maxRecDepth 100000 in
theorem s_laws_FnExactValidWindow : sxF c_laws_FnExactValidWindow Try.f6 p_laws_FnExactValidWindow = some t_laws_FnExactValidWindow := by kernel_rfl
theorem e_laws_FnExactValidWindow (xs : Array Value) (w : World) : (callFunc F_laws_FnExactValidWindow xs).runT Try.prog w #[] = (.ok (.enter F_laws_FnExactValidWindow xs) w, #[]) := ent_of Try.func6 (by kernel_rfl) (by kernel_rfl) xs w
theorem run_laws_FnExactValidWindow {S : Nat → Prop} {h : Eng.Heap} {Q : Value → Eng.Heap → Prop} {vs : List Value} (hsh : shOk (resShs p_laws_FnExactValidWindow) vs) (hi : Inv S h) (hw : t_laws_FnExactValidWindow.wp Try.prog S noLeaf Q vs h []) : CallsH Try.prog S F_laws_FnExactValidWindow (argVals p_laws_FnExactValidWindow vs) h Q :=
  sxF_ok (cfg := c_laws_FnExactValidWindow) tabOk mixed Try.func6 rfl s_laws_FnExactValidWindow e_laws_FnExactValidWindow rfl hsh hi hw
/- function 7 -/
def c_laws_FnExactValidBits : Cfg := ⟨tab, [], [], [.tmp 2]⟩
def p_laws_FnExactValidBits : List (Bool × List Sh) := [(true, [.slice, .int .i64, .int .i64])]
set_option maxRecDepth 100000 in
def t_laws_FnExactValidBits : Tr :=
(.call F_laws_szBits [(.agg [(.var (.slice) 0), (.var (.int .i64) 1), (.var (.int .i64) 2)]), (.x (.cst (.int .i64 1048576)))] false [(false, [.int .i64])]
(.lift (.br (.cm .lss (.var (.int .i64) 3) (.cst (.int .i64 0)))
 (.ret (.x (.cst (.bool true))))
 (.call F_laws_toBits [(.agg [(.var (.slice) 0), (.var (.int .i64) 1), (.var (.int .i64) 2)])] false [(true, [.slice, .int .i64, .int .i64])]
 (.call F_spec_ValidBits [(.agg [(.var (.slice) 4), (.var (.int .i64) 5), (.var (.int .i64) 6)])] false [(false, [.bool])]
 (.call F_laws_toBits [(.agg [(.var (.slice) 0), (.var (.int .i64) 1), (.var (.int .i64) 2)])] false [(true, [.slice, .int .i64, .int .i64])]
 (.call F_impl_ValidBits [(.agg [(.var (.slice) 8), (.var (.int .i64) 9), (.var (.int .i64) 10)])] false [(false, [.bool])]
 (.lift (.br (.nt (.bq (.var (.bool) 11) (.var (.bool) 7)))
  (.ret (.x (.cst (.bool false))))
  (.call F_laws_toBits [(.agg [(.var (.slice) 0), (.var (.int .i64) 1), (.var (.int .i64) 2)])] false [(true, [.slice, .int .i64, .int .i64])]
  (.call F_laws_eqBits [(.agg [(.var (.slice) 8), (.var (.int .i64) 9), (.var (.int .i64) 10)]), (.agg [(.var (.slice) 12), (.var (.int .i64) 13), (.var (.int .i64) 14)])] false [(false, [.bool])]
  (.lift (.br (.nt (.var (.bool) 15))
   (.ret (.x (.cst (.bool false))))
   (.ret (.x (.cst (.bool true)))))))))))))))))
set_option maxRecDepth 100000 in
theorem s_laws_FnExactValidBits : sxF c_laws_FnExactValidBits Try.f7 p_laws_FnExactValidBits = some t_laws_FnExactValidBits := by kernel_rfl
theorem e_laws_FnExactValidBits (xs : Array Value) (w : World) : (callFunc F_laws_FnExactValidBits xs).runT Try.prog w #[] = (.ok (.enter F_laws_FnExactValidBits xs) w, #[]) := ent_of Try.func7 (by kernel_rfl) (by kernel_rfl) xs w
theorem run_laws_FnExactValidBits {S : Nat → Prop} {h : Eng.Heap} {Q : Value → Eng.Heap → Prop} {vs : List Value} (hsh : shOk (resShs p_laws_FnExactValidBits) vs) (hi : Inv S h) (hw : t_laws_FnExactValidBits.wp Try.prog S noLeaf Q vs h []) : CallsH Try.prog S F_laws_FnExactValidBits (argVals p_laws_FnExactValidBits vs) h Q :=
  sxF_ok (cfg := c_laws_FnExactValidBits) tabOk mixed Try.func7 rfl s_laws_FnExactValidBits e_laws_FnExactValidBits rfl hsh hi hw
/- function 12 -/
def c_laws_szWindow : Cfg := ⟨tab, [], [], [.tmp 4]⟩
def p_laws_szWindow : List (Bool × List Sh) := [(true, [.int .i64, .slice]), (false, [.int .i64])]
set_option maxRecDepth 100000 in
def t_laws_szWindow : Tr :=
(.call F_laws_szByteS [(.x (.var (.slice) 1)), (.x (.var (.int .i64) 2))] false [(false, [.int .i64])]
(.lift (.br (.cm .lss (.var (.int .i64) 3) (.cst (.int .i64 0)))
 (.ret (.x (.cst (.int .i64 (-1)))))
 (.ret (.x (.var (.int .i64) 3))))))
set_option maxRecDepth 100000 in
theorem s_laws_szWindow : sxF c_laws_szWindow Try.f12 p_laws_szWindow = some t_laws_szWindow := by kernel_rfl
theorem e_laws_szWindow (xs : Array Value) (w : World) : (callFunc F_laws_szWindow xs).runT Try.prog w #[] = (.ok (.enter F_laws_szWindow xs) w, #[]) := ent_of Try.func12 (by kernel_rfl) (by kernel_rfl) xs w
theorem run_laws_szWindow {S : Nat → Prop} {h : Eng.Heap} {Q : Value → Eng.Heap → Prop} {vs : List Value} (hsh : shOk (resShs p_laws_szWindow) vs) (hi : Inv S h) (hw : t_laws_szWindow.wp Try.prog S noLeaf Q vs h []) : CallsH Try.prog S F_laws_szWindow (argVals p_laws_szWindow vs) h Q :=
  sxF_ok (cfg := c_laws_szWindow) tabOk mixed Try.func12 rfl s_laws_szWindow e_laws_szWindow rfl hsh hi hw
/- function 13 -/
def c_spec_ValidWindow : Cfg := ⟨tab, [], [], [.tmp 2]⟩
def p_spec_ValidWindow : List (Bool × List Sh) := [(true, [.int .i64, .slice])]
set_option maxRecDepth 100000 in
def t_spec_ValidWindow : Tr :=
(.ret (.x (.it (.it (.cm .geq (.var (.int .i64) 0) (.cst (.int .i64 1))) (.cm .leq (.var (.int .i64) 0) (.cst (.int .i64 32768))) (.cst (.bool false))) (.cm .leq (.ln (.var (.slice) 1)) (.var (.int .i64) 0)) (.cst (.bool false)))))
set_option maxRecDepth 100000 in
theorem s_spec_ValidWindow : sxF c_spec_ValidWindow Try.f13 p_spec_ValidWindow = some t_spec_ValidWindow := by kernel_rfl
theorem e_spec_ValidWindow (xs : Array Value) (w : World) : (callFunc F_spec_ValidWindow xs).runT Try.prog w #[] = (.ok (.enter F_spec_ValidWindow xs) w, #[]) := ent_of Try.func13 (by kernel_rfl) (by kernel_rfl) xs w
theorem run_spec_ValidWindow {S : Nat → Prop} {h : Eng.Heap} {Q : Value → Eng.Heap → Prop} {vs : List Value} (hsh : shOk (resShs p_spec_ValidWindow) vs) (hi : Inv S h) (hw : t_spec_ValidWindow.wp Try.prog S noLeaf Q vs h []) : CallsH Try.prog S F_spec_ValidWindow (argVals p_spec_ValidWindow vs) h Q :=
  sxF_ok (cfg := c_spec_ValidWindow) tabOk mixed Try.func13 rfl s_spec_ValidWindow e_spec_ValidWindow rfl hsh hi hw
/- function 14 -/
def c_laws_toWindow : Cfg := ⟨tab, [], [], [.cell 2 31]⟩
def p_laws_toWindow : List (Bool × List Sh) := [(true, [.int .i64, .slice])]
set_option maxRecDepth 100000 in
def t_laws_toWindow : Tr :=
(.call F_laws_toByteS [(.x (.var (.slice) 1))] false [(false, [.slice])]
(.ret (.agg [(.var (.int .i64) 0), (.var (.slice) 2)])))
set_option maxRecDepth 100000 in
theorem s_laws_toWindow : sxF c_laws_toWindow Try.f14 p_laws_toWindow = some t_laws_toWindow := by kernel_rfl
theorem e_laws_toWindow (xs : Array Value) (w : World) : (callFunc F_laws_toWindow xs).runT Try.prog w #[] = (.ok (.enter F_laws_toWindow xs) w, #[]) := ent_of Try.func14 (by kernel_rfl) (by kernel_rfl) xs w
theorem run_laws_toWindow {S : Nat → Prop} {h : Eng.Heap} {Q : Value → Eng.Heap → Prop} {vs : List Value} (hsh : shOk (resShs p_laws_toWindow) vs) (hi : Inv S h) (hw : t_laws_toWindow.wp Try.prog S noLeaf Q vs h []) : CallsH Try.prog S F_laws_toWindow (argVals p_laws_toWindow vs) h Q :=
  sxF_ok (cfg := c_laws_toWindow) tabOk mixed Try.func14 rfl s_laws_toWindow e_laws_toWindow rfl hsh hi hw
/- function 15 -/
def c_impl_ValidWindow : Cfg := ⟨tab, [], [], [.tmp 2]⟩
def p_impl_ValidWindow : List (Bool × List Sh) := [(true, [.int .i64, .slice])]
set_option maxRecDepth 100000 in
def t_impl_ValidWindow : Tr :=
(.ret (.x (.it (.it (.cm .geq (.var (.int .i64) 0) (.cst (.int .i64 1))) (.cm .leq (.var (.int .i64) 0) (.cst (.int .i64 32768))) (.cst (.bool false))) (.cm .leq (.ln (.var (.slice) 1)) (.var (.int .i64) 0)) (.cst (.bool false)))))
set_option maxRecDepth 100000 in
theorem s_impl_ValidWindow : sxF c_impl_ValidWindow Try.f15 p_impl_ValidWindow = some t_impl_ValidWindow := by kernel_rfl
theorem e_impl_ValidWindow (xs : Array Value) (w : World) : (callFunc F_impl_ValidWindow xs).runT Try.prog w #[] = (.ok (.enter F_impl_ValidWindow xs) w, #[]) := ent_of Try.func15 (by kernel_rfl) (by kernel_rfl) xs w
theorem run_impl_ValidWindow {S : Nat → Prop} {h : Eng.Heap} {Q : Value → Eng.Heap → Prop} {vs : List Value} (hsh : shOk (resShs p_impl_ValidWindow) vs) (hi : Inv S h) (hw : t_impl_ValidWindow.wp Try.prog S noLeaf Q vs h []) : CallsH Try.prog S F_impl_ValidWindow (argVals p_impl_ValidWindow vs) h Q :=
  sxF_ok (cfg := c_impl_ValidWindow) tabOk mixed Try.func15 rfl s_impl_ValidWindow e_impl_ValidWindow rfl hsh hi hw
/- function 16 -/
def c_laws_eqWindow : Cfg := ⟨tab, [], [], [.tmp 4]⟩
def p_laws_eqWindow : List (Bool × List Sh) := [(true, [.int .i64, .slice]), (true, [.int .i64, .slice])]
set_option maxRecDepth 100000 in
def t_laws_eqWindow : Tr :=
(.lift (.br (.cm .neq (.var (.int .i64) 0) (.var (.int .i64) 2))
 (.ret (.x (.cst (.bool false))))
 (.call F_laws_eqByteS [(.x (.var (.slice) 1)), (.x (.var (.slice) 3))] false [(false, [.bool])]
 (.lift (.br (.nt (.var (.bool) 4))
  (.ret (.x (.cst (.bool false))))
  (.ret (.x (.cst (.bool true)))))))))
set_option maxRecDepth 100000 in
theorem s_laws_eqWindow : sxF c_laws_eqWindow Try.f16 p_laws_eqWindow = some t_laws_eqWindow := by kernel_rfl
theorem e_laws_eqWindow (xs : Array Value) (w : World) : (callFunc F_laws_eqWindow xs).runT Try.prog w #[] = (.ok (.enter F_laws_eqWindow xs) w, #[]) := ent_of Try.func16 (by kernel_rfl) (by kernel_rfl) xs w
theorem run_laws_eqWindow {S : Nat → Prop} {h : Eng.Heap} {Q : Value → Eng.Heap → Prop} {vs : List Value} (hsh : shOk (resShs p_laws_eqWindow) vs) (hi : Inv S h) (hw : t_laws_eqWindow.wp Try.prog S noLeaf Q vs h []) : CallsH Try.prog S F_laws_eqWindow (argVals p_laws_eqWindow vs) h Q :=
  sxF_ok (cfg := c_laws_eqWindow) tabOk mixed Try.func16 rfl s_laws_eqWindow e_laws_eqWindow rfl hsh hi hw
/- function 17 -/
def c_laws_szBits : Cfg := ⟨tab, [], [], [.tmp 4]⟩
def p_laws_szBits : List (Bool × List Sh) := [(true, [.slice, .int .i64, .int .i64]), (false, [.int .i64])]
set_option maxRecDepth 100000 in
def t_laws_szBits : Tr :=
(.call F_laws_szByteS [(.x (.var (.slice) 0)), (.x (.var (.int .i64) 3))] false [(false, [.int .i64])]
(.lift (.br (.cm .lss (.var (.int .i64) 4) (.cst (.int .i64 0)))
 (.ret (.x (.cst (.int .i64 (-1)))))
 (.ret (.x (.var (.int .i64) 4))))))
set_option maxRecDepth 100000 in
theorem s_laws_szBits : sxF c_laws_szBits Try.f17 p_laws_szBits = some t_laws_szBits := by kernel_rfl
theorem e_laws_szBits (xs : Array Value) (w : World) : (callFunc F_laws_szBits xs).runT Try.prog w #[] = (.ok (.enter F_laws_szBits xs) w, #[]) := ent_of Try.func17 (by kernel_rfl) (by kernel_rfl) xs w
theorem run_laws_szBits {S : Nat → Prop} {h : Eng.Heap} {Q : Value → Eng.Heap → Prop} {vs : List Value} (hsh : shOk (resShs p_laws_szBits) vs) (hi : Inv S h) (hw : t_laws_szBits.wp Try.prog S noLeaf Q vs h []) : CallsH Try.prog S F_laws_szBits (argVals p_laws_szBits vs) h Q :=
  sxF_ok (cfg := c_laws_szBits) tabOk mixed Try.func17 rfl s_laws_szBits e_laws_szBits rfl hsh hi hw
/- function 18 -/
def c_spec_ValidBits : Cfg := ⟨tab, [], [], [.tmp 2]⟩
def p_spec_ValidBits : List (Bool × List Sh) := [(true, [.slice, .int .i64, .int .i64])]
set_option maxRecDepth 100000 in
def t_spec_ValidBits : Tr :=
(.join [.bool, .bool, .bool, .bool]
 (.br (.it (.it (.it (.it (.cm .geq (.var (.int .i64) 1) (.cst (.int .i64 0))) (.cm .leq (.var (.int .i64) 1) (.cst (.int .i64 7))) (.cst (.bool false))) (.it (.cm .eql (.var (.int .i64) 1) (.cst (.int .i64 0))) (.cst (.bool true)) (.cm .gtr (.ln (.var (.slice) 0)) (.cst (.int .i64 0)))) (.cst (.bool false))) (.cm .leq (.ln (.var (.slice) 0)) (.cst (.int .i64 1000000))) (.cst (.bool false))) (.cm .geq (.var (.int .i64) 2) (.cst (.int .i64 0))) (.cst (.bool false)))
  (.call F_spec_l2Most [] false [(false, [.int .i64])]
  (.cont 0 [(.it (.cm .leq (.var (.int .i64) 2) (.var (.int .i64) 3)) (.cm .eql (.ar .rem .i64 (.var (.int .i64) 2) (.cst (.int .i64 8))) (.var (.int .i64) 1)) (.cst (.bool false))), (.cm .leq (.var (.int .i64) 2) (.var (.int .i64) 3)), (.cm .leq (.var (.int .i64) 2) (.var (.int .i64) 3)), (.it (.cm .leq (.var (.int .i64) 2) (.var (.int .i64) 3)) (.cm .eql (.ar .rem .i64 (.var (.int .i64) 2) (.cst (.int .i64 8))) (.var (.int .i64) 1)) (.cst (.bool false)))]))
  (.cont 0 [(.cst (.bool false)), (.cst (.bool false)), (.cst (.bool false)), (.cst (.bool false))]))
 (.ret (.x (.var (.bool) 3))))
set_option maxRecDepth 100000 in
theorem s_spec_ValidBits : sxF c_spec_ValidBits Try.f18 p_spec_ValidBits = some t_spec_ValidBits := by kernel_rfl
theorem e_spec_ValidBits (xs : Array Value) (w : World) : (callFunc F_spec_ValidBits xs).runT Try.prog w #[] = (.ok (.enter F_spec_ValidBits xs) w, #[]) := ent_of Try.func18 (by kernel_rfl) (by kernel_rfl) xs w
theorem run_spec_ValidBits {S : Nat → Prop} {h : Eng.Heap} {Q : Value → Eng.Heap → Prop} {vs : List Value} (hsh : shOk (resShs p_spec_ValidBits) vs) (hi : Inv S h) (hw : t_spec_ValidBits.wp Try.prog S noLeaf Q vs h []) : CallsH Try.prog S F_spec_ValidBits (argVals p_spec_ValidBits vs) h Q :=
  sxF_ok (cfg := c_spec_ValidBits) tabOk mixed Try.func18 rfl s_spec_ValidBits e_spec_ValidBits rfl hsh hi hw
/- function 19 -/
def c_laws_toBits : Cfg := ⟨tab, [], [], [.cell 2 39]⟩
def p_laws_toBits : List (Bool × List Sh) := [(true, [.slice, .int .i64, .int .i64])]
set_option maxRecDepth 100000 in
def t_laws_toBits : Tr :=
(.call F_laws_toByteS [(.x (.var (.slice) 0))] false [(false, [.slice])]
(.ret (.agg [(.var (.slice) 3), (.var (.int .i64) 1), (.var (.int .i64) 2)])))
set_option maxRecDepth 100000 in
theorem s_laws_toBits : sxF c_laws_toBits Try.f19 p_laws_toBits = some t_laws_toBits := by kernel_rfl
theorem e_laws_toBits (xs : Array Value) (w : World) : (callFunc F_laws_toBits xs).runT Try.prog w #[] = (.ok (.enter F_laws_toBits xs) w, #[]) := ent_of Try.func19 (by kernel_rfl) (by kernel_rfl) xs w
theorem run_laws_toBits {S : Nat → Prop} {h : Eng.Heap} {Q : Value → Eng.Heap → Prop} {vs : List Value} (hsh : shOk (resShs p_laws_toBits) vs) (hi : Inv S h) (hw : t_laws_toBits.wp Try.prog S noLeaf Q vs h []) : CallsH Try.prog S F_laws_toBits (argVals p_laws_toBits vs) h Q :=
  sxF_ok (cfg := c_laws_toBits) tabOk mixed Try.func19 rfl s_laws_toBits e_laws_toBits rfl hsh hi hw
/- function 20 -/
def c_impl_ValidBits : Cfg := ⟨tab, [], [], [.tmp 2]⟩
def p_impl_ValidBits : List (Bool × List Sh) := [(true, [.slice, .int .i64, .int .i64])]
set_option maxRecDepth 100000 in
def t_impl_ValidBits : Tr :=
(.ret (.x (.it (.it (.it (.it (.it (.it (.cm .geq (.var (.int .i64) 1) (.cst (.int .i64 0))) (.cm .leq (.var (.int .i64) 1) (.cst (.int .i64 7))) (.cst (.bool false))) (.it (.cm .gtr (.ln (.var (.slice) 0)) (.cst (.int .i64 0))) (.cst (.bool true)) (.cm .eql (.var (.int .i64) 1) (.cst (.int .i64 0)))) (.cst (.bool false))) (.cm .leq (.ln (.var (.slice) 0)) (.cst (.int .i64 1000000))) (.cst (.bool false))) (.cm .geq (.var (.int .i64) 2) (.cst (.int .i64 0))) (.cst (.bool false))) (.cm .leq (.var (.int .i64) 2) (.cst (.int .i64 34359738368))) (.cst (.bool false))) (.cm .eql (.ar .rem .i64 (.var (.int .i64) 2) (.cst (.int .i64 8))) (.var (.int .i64) 1)) (.cst (.bool false)))))
set_option maxRecDepth 100000 in
theorem s_impl_ValidBits : sxF c_impl_ValidBits Try.f20 p_impl_ValidBits = some t_impl_ValidBits := by kernel_rfl
theorem e_impl_ValidBits (xs : Array Value) (w : World) : (callFunc F_impl_ValidBits xs).runT Try.prog w #[] = (.ok (.enter F_impl_ValidBits xs) w, #[]) := ent_of Try.func20 (by kernel_rfl) (by kernel_rfl) xs w
theorem run_impl_ValidBits {S : Nat → Prop} {h : Eng.Heap} {Q : Value → Eng.Heap → Prop} {vs : List Value} (hsh : shOk (resShs p_impl_ValidBits) vs) (hi : Inv S h) (hw : t_impl_ValidBits.wp Try.prog S noLeaf Q vs h []) : CallsH Try.prog S F_impl_ValidBits (argVals p_impl_ValidBits vs) h Q :=
  sxF_ok (cfg := c_impl_ValidBits) tabOk mixed Try.func20 rfl s_impl_ValidBits e_impl_ValidBits rfl hsh hi hw
/- function 21 -/
def c_laws_eqBits : Cfg := ⟨tab, [], [], [.tmp 4]⟩
def p_laws_eqBits : List (Bool × List Sh) := [(true, [.slice, .int .i64, .int .i64]), (true, [.slice, .int .i64, .int .i64])]
set_option maxRecDepth 100000 in
def t_laws_eqBits : Tr :=
(.call F_laws_eqByteS [(.x (.var (.slice) 0)), (.x (.var (.slice) 3))] false [(false, [.bool])]
(.lift (.br (.nt (.var (.bool) 6))
 (.ret (.x (.cst (.bool false))))
 (.lift (.br (.cm .neq (.var (.int .i64) 1) (.var (.int .i64) 4))
  (.ret (.x (.cst (.bool false))))
  (.lift (.br (.cm .neq (.var (.int .i64) 2) (.var (.int .i64) 5))
   (.ret (.x (.cst (.bool false))))
   (.ret (.x (.cst (.bool true)))))))))))
set_option maxRecDepth 100000 in
theorem s_laws_eqBits : sxF c_laws_eqBits Try.f21 p_laws_eqBits = some t_laws_eqBits := by kernel_rfl
theorem e_laws_eqBits (xs : Array Value) (w : World) : (callFunc F_laws_eqBits xs).runT Try.prog w #[] = (.ok (.enter F_laws_eqBits xs) w, #[]) := ent_of Try.func21 (by kernel_rfl) (by kernel_rfl) xs w
theorem run_laws_eqBits {S : Nat → Prop} {h : Eng.Heap} {Q : Value → Eng.Heap → Prop} {vs : List Value} (hsh : shOk (resShs p_laws_eqBits) vs) (hi : Inv S h) (hw : t_laws_eqBits.wp Try.prog S noLeaf Q vs h []) : CallsH Try.prog S F_laws_eqBits (argVals p_laws_eqBits vs) h Q :=
  sxF_ok (cfg := c_laws_eqBits) tabOk mixed Try.func21 rfl s_laws_eqBits e_laws_eqBits rfl hsh hi hw
/- function 24 -/
def c_laws_szByteS : Cfg := ⟨tab, [], [], [.tmp 4]⟩
def p_laws_szByteS : List (Bool × List Sh) := [(false, [.slice]), (false, [.int .i64])]
set_option maxRecDepth 100000 in
def t_laws_szByteS : Tr :=
(.lift (.br (.cm .lss (.ar .sub .i64 (.var (.int .i64) 1) (.ln (.var (.slice) 0))) (.cst (.int .i64 0)))
 (.ret (.x (.cst (.int .i64 (-1)))))
 (.ret (.x (.ar .sub .i64 (.var (.int .i64) 1) (.ln (.var (.slice) 0)))))))
set_option maxRecDepth 100000 in
theorem s_laws_szByteS : sxF c_laws_szByteS Try.f24 p_laws_szByteS = some t_laws_szByteS := by kernel_rfl
theorem e_laws_szByteS (xs : Array Value) (w : World) : (callFunc F_laws_szByteS xs).runT Try.prog w #[] = (.ok (.enter F_laws_szByteS xs) w, #[]) := ent_of Try.func24 (by kernel_rfl) (by kernel_rfl) xs w
theorem run_laws_szByteS {S : Nat → Prop} {h : Eng.Heap} {Q : Value → Eng.Heap → Prop} {vs : List Value} (hsh : shOk (resShs p_laws_szByteS) vs) (hi : Inv S h) (hw : t_laws_szByteS.wp Try.prog S noLeaf Q vs h []) : CallsH Try.prog S F_laws_szByteS (argVals p_laws_szByteS vs) h Q :=
  sxF_ok (cfg := c_laws_szByteS) tabOk mixed Try.func24 rfl s_laws_szByteS e_laws_szByteS rfl hsh hi hw
/- function 25 -/
def c_laws_toByteS : Cfg := ⟨tab, [⟨3, [4], [], [8, 9, 10, 11, 12, 13, 14, 15, 16, 17, 18, 19, 20]⟩], [], [.tmp 2]⟩
def p_laws_toByteS : List (Bool × List Sh) := [(false, [.slice])]
set_option maxRecDepth 100000 in
def t_laws_toByteS : Tr :=
(.mks 5 1 1 [(.int .u8 0)] (.ln (.var (.slice) 0)) (.ln (.var (.slice) 0))
(.loop [.int .i64] [(.cst (.int .i64 0))]
 (.lift (.br (.cm .lss (.var (.int .i64) 2) (.ln (.var (.slice) 0)))
  (.need (.nt (.nn (.var (.slice) 0)))
  (.need (.cm .leq (.cst (.int .i64 0)) (.var (.int .i64) 2))
  (.need (.cm .lss (.var (.int .i64) 2) (.ln (.var (.slice) 0)))
  (.load (.ix 1 (.var (.slice) 0) (.var (.int .i64) 2)) [.int .u8]
  (.need (.nt (.nn (.var (.slice) 1)))
  (.need (.cm .leq (.cst (.int .i64 0)) (.var (.int .i64) 2))
  (.need (.cm .lss (.var (.int .i64) 2) (.ln (.var (.slice) 1)))
  (.hsto (.ix 1 (.var (.slice) 1) (.var (.int .i64) 2)) [(.var (.int .u8) 3)]
  (.cont 0 [(.ar .add .i64 (.var (.int .i64) 2) (.cst (.int .i64 1)))])))))))))
  (.ret (.x (.var (.slice) 1)))))))
set_option maxRecDepth 100000 in
theorem s_laws_toByteS : sxF c_laws_toByteS Try.f25 p_laws_toByteS = some t_laws_toByteS := by kernel_rfl
theorem e_laws_toByteS (xs : Array Value) (w : World) : (callFunc F_laws_toByteS xs).runT Try.prog w #[] = (.ok (.enter F_laws_toByteS xs) w, #[]) := ent_of Try.func25 (by kernel_rfl) (by kernel_rfl) xs w
theorem run_laws_toByteS {S : Nat → Prop} {h : Eng.Heap} {Q : Value → Eng.Heap → Prop} {vs : List Value} (hsh : shOk (resShs p_laws_toByteS) vs) (hi : Inv S h) (hw : t_laws_toByteS.wp Try.prog S noLeaf Q vs h []) : CallsH Try.prog S F_laws_toByteS (argVals p_laws_toByteS vs) h Q :=
  sxF_ok (cfg := c_laws_toByteS) tabOk mixed Try.func25 rfl s_laws_toByteS e_laws_toByteS rfl hsh hi hw
/- function 26 -/
def c_laws_eqByteS : Cfg := ⟨tab, [⟨4, [5], [], [11, 12, 13, 14, 15, 16, 17, 18, 19, 20, 21, 22, 23, 24, 25]⟩], [], [.tmp 4]⟩
def p_laws_eqByteS : List (Bool × List Sh) := [(false, [.slice]), (false, [.slice])]
set_option maxRecDepth 100000 in
def t_laws_eqByteS : Tr :=
(.lift (.br (.cm .neq (.ln (.var (.slice) 0)) (.ln (.var (.slice) 1)))
 (.ret (.x (.cst (.bool false))))
 (.loop [.int .i64] [(.cst (.int .i64 0))]
  (.lift (.br (.cm .lss (.var (.int .i64) 2) (.ln (.var (.slice) 0)))
   (.need (.nt (.nn (.var (.slice) 0)))
   (.need (.cm .leq (.cst (.int .i64 0)) (.var (.int .i64) 2))
   (.need (.cm .lss (.var (.int .i64) 2) (.ln (.var (.slice) 0)))
   (.load (.ix 1 (.var (.slice) 0) (.var (.int .i64) 2)) [.int .u8]
   (.need (.nt (.nn (.var (.slice) 1)))
   (.need (.cm .leq (.cst (.int .i64 0)) (.var (.int .i64) 2))
   (.need (.cm .lss (.var (.int .i64) 2) (.ln (.var (.slice) 1)))
   (.load (.ix 1 (.var (.slice) 1) (.var (.int .i64) 2)) [.int .u8]
   (.lift (.br (.cm .neq (.var (.int .u8) 3) (.var (.int .u8) 4))
    (.ret (.x (.cst (.bool false))))
    (.cont 1 [(.ar .add .i64 (.var (.int .i64) 2) (.cst (.int .i64 1)))])))))))))))
   (.ret (.x (.cst (.bool true)))))))))
set_option maxRecDepth 100000 in
theorem s_laws_eqByteS : sxF c_laws_eqByteS Try.f26 p_laws_eqByteS = some t_laws_eqByteS := by kernel_rfl
theorem e_laws_eqByteS (xs : Array Value) (w : World) : (callFunc F_laws_eqByteS xs).runT Try.prog w #[] = (.ok (.enter F_laws_eqByteS xs) w, #[]) := ent_of Try.func26 (by kernel_rfl) (by kernel_rfl) xs w
theorem run_laws_eqByteS {S : Nat → Prop} {h : Eng.Heap} {Q : Value → Eng.Heap → Prop} {vs : List Value} (hsh : shOk (resShs p_laws_eqByteS) vs) (hi : Inv S h) (hw : t_laws_eqByteS.wp Try.prog S noLeaf Q vs h []) : CallsH Try.prog S F_laws_eqByteS (argVals p_laws_eqByteS vs) h Q :=
  sxF_ok (cfg := c_laws_eqByteS) tabOk mixed Try.func26 rfl s_laws_eqByteS e_laws_eqByteS rfl hsh hi hw
/- function 27 -/
def c_spec_l2Most : Cfg := ⟨tab, [], [], [.tmp 0]⟩
def p_spec_l2Most : List (Bool × List Sh) := []
set_option maxRecDepth 100000 in
def t_spec_l2Most : Tr :=
(.ret (.x (.cst (.int .i64 34359738368))))
set_option maxRecDepth 100000 in
theorem s_spec_l2Most : sxF c_spec_l2Most Try.f27 p_spec_l2Most = some t_spec_l2Most := by kernel_rfl
theorem e_spec_l2Most (xs : Array Value) (w : World) : (callFunc F_spec_l2Most xs).runT Try.prog w #[] = (.ok (.enter F_spec_l2Most xs) w, #[]) := ent_of Try.func27 (by kernel_rfl) (by kernel_rfl) xs w
theorem run_spec_l2Most {S : Nat → Prop} {h : Eng.Heap} {Q : Value → Eng.Heap → Prop} {vs : List Value} (hsh : shOk (resShs p_spec_l2Most) vs) (hi : Inv S h) (hw : t_spec_l2Most.wp Try.prog S noLeaf Q vs h []) : CallsH Try.prog S F_spec_l2Most (argVals p_spec_l2Most vs) h Q :=
  sxF_ok (cfg := c_spec_l2Most) tabOk mixed Try.func27 rfl s_spec_l2Most e_spec_l2Most rfl hsh hi hw
end Go.Proofs.Ytplemlkdjgcoiaa
