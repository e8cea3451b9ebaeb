-- printed by a generator of my own (wip/eng/Gen) from the translation
import Derived.Test.YtchlnichbaoeaaaEng2
import Derived.Test.YtchlnichbaoeaaaChecked
import Derived.Test.YtchlnichbaoeaaaNums
set_option linter.unusedVariables false
set_option linter.unusedSimpArgs false
namespace Go.Proofs.Ytchlnichbaoeaaa
open Go Go.Eng
def tabWN : List (TypeId × TyD) := [(0, ⟨.oth, 1, 0, [], none, some []⟩),
  (2, ⟨(.int .i64), 1, 8, [.int .i64], some [(1, (.int .i64 0))], none⟩),
  (3, ⟨(.int .i64), 1, 8, [.int .i64], some [(1, (.int .i64 0))], none⟩),
  (4, ⟨.bool, 1, 1, [.bool], some [(1, (.bool false))], none⟩),
  (5, ⟨(.int .u8), 1, 1, [.int .u8], some [(1, (.int .u8 0))], none⟩),
  (22, ⟨(.sl 5), 1, 24, [.slice], some [(1, .nilSl)], none⟩),
  (24, ⟨(.st [(0, 2), (1, 22)]), 2, 32, [.int .i64, .slice], some [(1, (.int .i64 0)), (1, .nilSl)], none⟩),
  (40, ⟨(.st [(0, 2), (1, 22)]), 2, 32, [.int .i64, .slice], some [(1, (.int .i64 0)), (1, .nilSl)], none⟩),
  (107, ⟨(.ptr 151), 1, 8, [.ptr], some [(1, .nilPtr)], none⟩),
  (149, ⟨(.arr 32768 5), 32768, 32768, [], some [(32768, (.int .u8 0))], none⟩),
  (151, ⟨(.st [(0, 3), (1, 149), (32769, 3), (32770, 3)]), 32771, 32792, [], some [(1, (.int .i64 0)), (32768, (.int .u8 0)), (2, (.int .i64 0))], none⟩),
  (152, ⟨.oth, 1, 0, [], none, some [22, 22]⟩)]
set_option maxRecDepth 100000 in
theorem tabWNOk : TabOk Try.prog tabWN := tabOk_of (by kernel_rfl)
theorem mixedWN : Try.prog.follows .mixedOrders = true := by kernel_rfl
/- function 3 -/
def c_laws_FnExactWindowNew : Cfg := ⟨tabWN, [], [], [.tmp 4]⟩
def p_laws_FnExactWindowNew : List (Bool × List Sh) := [(false, [.int .i64]), (false, [.slice])]
set_option maxRecDepth 100000 in
def t_laws_FnExactWindowNew : Tr :=
(.lift (.br (.cm .gtr (.ln (.var (.slice) 1)) (.cst (.int .i64 1048576)))
 (.ret (.x (.cst (.bool true))))
 (.call F_laws_toByteS [(.x (.var (.slice) 1))] false [(false, [.slice])]
 (.call F_spec_WindowNew [(.x (.var (.int .i64) 0)), (.x (.var (.slice) 2))] false [(true, [.int .i64, .slice])]
 (.call F_laws_toByteS [(.x (.var (.slice) 1))] false [(false, [.slice])]
 (.call F_impl_WindowNew [(.x (.var (.int .i64) 0)), (.x (.var (.slice) 5))] false [(true, [.int .i64, .slice])]
 (.call F_laws_eqWindow [(.agg [(.var (.int .i64) 6), (.var (.slice) 7)]), (.agg [(.var (.int .i64) 3), (.var (.slice) 4)])] false [(false, [.bool])]
 (.lift (.br (.nt (.var (.bool) 8))
  (.ret (.x (.cst (.bool false))))
  (.call F_laws_toByteS [(.x (.var (.slice) 1))] false [(false, [.slice])]
  (.call F_laws_eqByteS [(.x (.var (.slice) 5)), (.x (.var (.slice) 9))] false [(false, [.bool])]
  (.lift (.br (.nt (.var (.bool) 10))
   (.ret (.x (.cst (.bool false))))
   (.call F_laws_markByteS [(.x (.var (.slice) 5)), (.x (.cst (.int .i64 1)))] false [(false, [.int .i64])]
   (.join [.bool]
    (.br (.nt (.cm .lss (.var (.int .i64) 11) (.cst (.int .i64 0))))
     (.call F_laws_eqWindow [(.agg [(.var (.int .i64) 6), (.var (.slice) 7)]), (.agg [(.var (.int .i64) 3), (.var (.slice) 4)])] false [(false, [.bool])]
     (.cont 3 [(.nt (.var (.bool) 12))]))
     (.cont 3 [(.cst (.bool true))]))
    (.lift (.br (.var (.bool) 12)
     (.ret (.x (.cst (.bool false))))
     (.call F_laws_markWindow [(.agg [(.var (.int .i64) 6), (.var (.slice) 7)]), (.x (.cst (.int .i64 1)))] false [(false, [.int .i64])]
     (.call F_laws_heldWindow [(.agg [(.var (.int .i64) 6), (.var (.slice) 7)]), (.x (.cst (.int .i64 1)))] false [(false, [.int .i64])]
     (.lift (.br (.cm .lss (.var (.int .i64) 14) (.cst (.int .i64 0)))
      (.ret (.x (.cst (.bool false))))
      (.lift (.br (.cm .neq (.var (.int .i64) 14) (.var (.int .i64) 13))
       (.ret (.x (.cst (.bool false))))
       (.call F_laws_toByteS [(.x (.var (.slice) 1))] false [(false, [.slice])]
       (.call F_impl_WindowNew [(.x (.var (.int .i64) 0)), (.x (.var (.slice) 15))] false [(true, [.int .i64, .slice])]
       (.call F_laws_eqWindow [(.agg [(.var (.int .i64) 16), (.var (.slice) 17)]), (.agg [(.var (.int .i64) 3), (.var (.slice) 4)])] false [(false, [.bool])]
       (.lift (.br (.nt (.var (.bool) 18))
        (.ret (.x (.cst (.bool false))))
        (.call F_laws_heldWindow [(.agg [(.var (.int .i64) 6), (.var (.slice) 7)]), (.x (.cst (.int .i64 1)))] false [(false, [.int .i64])]
        (.lift (.br (.cm .lss (.var (.int .i64) 19) (.cst (.int .i64 0)))
         (.ret (.x (.cst (.bool false))))
         (.lift (.br (.cm .neq (.var (.int .i64) 19) (.var (.int .i64) 13))
          (.ret (.x (.cst (.bool false))))
          (.ret (.x (.cst (.bool true)))))))))))))))))))))))))))))))))))))
set_option maxRecDepth 100000 in
theorem s_laws_FnExactWindowNew : sxF c_laws_FnExactWindowNew Try.f3 p_laws_FnExactWindowNew = some t_laws_FnExactWindowNew := by kernel_rfl
theorem e_laws_FnExactWindowNew (xs : Array Value) (w : World) : (callFunc F_laws_FnExactWindowNew xs).runT Try.prog w #[] = (.ok (.enter F_laws_FnExactWindowNew xs) w, #[]) := ent_of Try.func3 (by kernel_rfl) (by kernel_rfl) xs w
theorem run_laws_FnExactWindowNew {S : Nat → Prop} {h : Eng.Heap} {Q : Value → Eng.Heap → Prop} {vs : List Value} (hsh : shOk (resShs p_laws_FnExactWindowNew) vs) (hi : Inv S h) (hw : t_laws_FnExactWindowNew.wp Try.prog S noLeaf Q vs h []) : CallsH Try.prog S F_laws_FnExactWindowNew (argVals p_laws_FnExactWindowNew vs) h Q :=
  sxF_ok (cfg := c_laws_FnExactWindowNew) tabWNOk mixedWN Try.func3 rfl s_laws_FnExactWindowNew e_laws_FnExactWindowNew rfl hsh hi hw
/- function 16 -/
def c_spec_WindowNew : Cfg := ⟨tabWN, [], [], [.cell 4 24]⟩
def p_spec_WindowNew : List (Bool × List Sh) := [(false, [.int .i64]), (false, [.slice])]
set_option maxRecDepth 100000 in
def t_spec_WindowNew : Tr :=
(.lift (.br (.it (.cm .lss (.var (.int .i64) 0) (.cst (.int .i64 1))) (.cst (.bool true)) (.cm .gtr (.var (.int .i64) 0) (.cst (.int .i64 32768))))
 (.ret (.agg [(.cst (.int .i64 0)), (.cst .nilSl)]))
 (.call F_spec_l4Last [(.x (.var (.slice) 1)), (.x (.var (.int .i64) 0))] false [(false, [.slice])]
 (.ret (.agg [(.var (.int .i64) 0), (.var (.slice) 2)])))))
set_option maxRecDepth 100000 in
theorem s_spec_WindowNew : sxF c_spec_WindowNew Try.f16 p_spec_WindowNew = some t_spec_WindowNew := by kernel_rfl
theorem e_spec_WindowNew (xs : Array Value) (w : World) : (callFunc F_spec_WindowNew xs).runT Try.prog w #[] = (.ok (.enter F_spec_WindowNew xs) w, #[]) := ent_of Try.func16 (by kernel_rfl) (by kernel_rfl) xs w
theorem run_spec_WindowNew {S : Nat → Prop} {h : Eng.Heap} {Q : Value → Eng.Heap → Prop} {vs : List Value} (hsh : shOk (resShs p_spec_WindowNew) vs) (hi : Inv S h) (hw : t_spec_WindowNew.wp Try.prog S noLeaf Q vs h []) : CallsH Try.prog S F_spec_WindowNew (argVals p_spec_WindowNew vs) h Q :=
  sxF_ok (cfg := c_spec_WindowNew) tabWNOk mixedWN Try.func16 rfl s_spec_WindowNew e_spec_WindowNew rfl hsh hi hw
/- function 18 -/
def c_impl_WindowNew : Cfg := ⟨tabWN, [], [], [.cell 4 24]⟩
def p_impl_WindowNew : List (Bool × List Sh) := [(false, [.int .i64]), (false, [.slice])]
set_option maxRecDepth 100000 in
def t_impl_WindowNew : Tr :=
(.lift (.br (.it (.cm .lss (.var (.int .i64) 0) (.cst (.int .i64 1))) (.cst (.bool true)) (.cm .gtr (.var (.int .i64) 0) (.cst (.int .i64 32768))))
 (.ret (.agg [(.cst (.int .i64 0)), (.cst .nilSl)]))
 (.call F_impl_ringOf [(.x (.var (.int .i64) 0)), (.x (.var (.slice) 1))] false [(false, [.ptr])]
 (.call F_impl_ring__window [(.x (.var (.ptr) 2))] false [(true, [.int .i64, .slice])]
 (.ret (.agg [(.var (.int .i64) 3), (.var (.slice) 4)]))))))
set_option maxRecDepth 100000 in
theorem s_impl_WindowNew : sxF c_impl_WindowNew Try.f18 p_impl_WindowNew = some t_impl_WindowNew := by kernel_rfl
theorem e_impl_WindowNew (xs : Array Value) (w : World) : (callFunc F_impl_WindowNew xs).runT Try.prog w #[] = (.ok (.enter F_impl_WindowNew xs) w, #[]) := ent_of Try.func18 (by kernel_rfl) (by kernel_rfl) xs w
theorem run_impl_WindowNew {S : Nat → Prop} {h : Eng.Heap} {Q : Value → Eng.Heap → Prop} {vs : List Value} (hsh : shOk (resShs p_impl_WindowNew) vs) (hi : Inv S h) (hw : t_impl_WindowNew.wp Try.prog S noLeaf Q vs h []) : CallsH Try.prog S F_impl_WindowNew (argVals p_impl_WindowNew vs) h Q :=
  sxF_ok (cfg := c_impl_WindowNew) tabWNOk mixedWN Try.func18 rfl s_impl_WindowNew e_impl_WindowNew rfl hsh hi hw
/- function 19 -/
def c_laws_eqWindow : Cfg := ⟨tabWN, [], [], [.tmp 4]⟩
def p_laws_eqWindow : List (Bool × List Sh) := [(true, [.int .i64, .slice]), (true, [.int .i64, .slice])]
set_option maxRecDepth 100000 in
def t_laws_eqWindow : Tr :=
(.lift (.br (.cm .neq (.var (.int .i64) 0) (.var (.int .i64) 2))
 (.ret (.x (.cst (.bool false))))
 (.call F_laws_eqByteS [(.x (.var (.slice) 1)), (.x (.var (.slice) 3))] false [(false, [.bool])]
 (.lift (.br (.nt (.var (.bool) 4))
  (.ret (.x (.cst (.bool false))))
  (.ret (.x (.cst (.bool true)))))))))
set_option maxRecDepth 100000 in
theorem s_laws_eqWindow : sxF c_laws_eqWindow Try.f19 p_laws_eqWindow = some t_laws_eqWindow := by kernel_rfl
theorem e_laws_eqWindow (xs : Array Value) (w : World) : (callFunc F_laws_eqWindow xs).runT Try.prog w #[] = (.ok (.enter F_laws_eqWindow xs) w, #[]) := ent_of Try.func19 (by kernel_rfl) (by kernel_rfl) xs w
theorem run_laws_eqWindow {S : Nat → Prop} {h : Eng.Heap} {Q : Value → Eng.Heap → Prop} {vs : List Value} (hsh : shOk (resShs p_laws_eqWindow) vs) (hi : Inv S h) (hw : t_laws_eqWindow.wp Try.prog S noLeaf Q vs h []) : CallsH Try.prog S F_laws_eqWindow (argVals p_laws_eqWindow vs) h Q :=
  sxF_ok (cfg := c_laws_eqWindow) tabWNOk mixedWN Try.func19 rfl s_laws_eqWindow e_laws_eqWindow rfl hsh hi hw
/- function 22 -/
def c_laws_markWindow : Cfg := ⟨tabWN, [], [], [.tmp 4]⟩
def p_laws_markWindow : List (Bool × List Sh) := [(true, [.int .i64, .slice]), (false, [.int .i64])]
set_option maxRecDepth 100000 in
def t_laws_markWindow : Tr :=
(.call F_laws_markByteS [(.x (.var (.slice) 1)), (.x (.var (.int .i64) 2))] false [(false, [.int .i64])]
(.ret (.x (.var (.int .i64) 3))))
set_option maxRecDepth 100000 in
theorem s_laws_markWindow : sxF c_laws_markWindow Try.f22 p_laws_markWindow = some t_laws_markWindow := by kernel_rfl
theorem e_laws_markWindow (xs : Array Value) (w : World) : (callFunc F_laws_markWindow xs).runT Try.prog w #[] = (.ok (.enter F_laws_markWindow xs) w, #[]) := ent_of Try.func22 (by kernel_rfl) (by kernel_rfl) xs w
theorem run_laws_markWindow {S : Nat → Prop} {h : Eng.Heap} {Q : Value → Eng.Heap → Prop} {vs : List Value} (hsh : shOk (resShs p_laws_markWindow) vs) (hi : Inv S h) (hw : t_laws_markWindow.wp Try.prog S noLeaf Q vs h []) : CallsH Try.prog S F_laws_markWindow (argVals p_laws_markWindow vs) h Q :=
  sxF_ok (cfg := c_laws_markWindow) tabWNOk mixedWN Try.func22 rfl s_laws_markWindow e_laws_markWindow rfl hsh hi hw
/- function 23 -/
def c_laws_heldWindow : Cfg := ⟨tabWN, [], [], [.tmp 4]⟩
def p_laws_heldWindow : List (Bool × List Sh) := [(true, [.int .i64, .slice]), (false, [.int .i64])]
set_option maxRecDepth 100000 in
def t_laws_heldWindow : Tr :=
(.call F_laws_heldByteS [(.x (.var (.slice) 1)), (.x (.var (.int .i64) 2))] false [(false, [.int .i64])]
(.lift (.br (.cm .lss (.var (.int .i64) 3) (.cst (.int .i64 0)))
 (.ret (.x (.cst (.int .i64 (-1)))))
 (.ret (.x (.var (.int .i64) 3))))))
set_option maxRecDepth 100000 in
theorem s_laws_heldWindow : sxF c_laws_heldWindow Try.f23 p_laws_heldWindow = some t_laws_heldWindow := by kernel_rfl
theorem e_laws_heldWindow (xs : Array Value) (w : World) : (callFunc F_laws_heldWindow xs).runT Try.prog w #[] = (.ok (.enter F_laws_heldWindow xs) w, #[]) := ent_of Try.func23 (by kernel_rfl) (by kernel_rfl) xs w
theorem run_laws_heldWindow {S : Nat → Prop} {h : Eng.Heap} {Q : Value → Eng.Heap → Prop} {vs : List Value} (hsh : shOk (resShs p_laws_heldWindow) vs) (hi : Inv S h) (hw : t_laws_heldWindow.wp Try.prog S noLeaf Q vs h []) : CallsH Try.prog S F_laws_heldWindow (argVals p_laws_heldWindow vs) h Q :=
  sxF_ok (cfg := c_laws_heldWindow) tabWNOk mixedWN Try.func23 rfl s_laws_heldWindow e_laws_heldWindow rfl hsh hi hw
/- function 29 -/
def c_laws_szWindow : Cfg := ⟨tabWN, [], [], [.tmp 4]⟩
def p_laws_szWindow : List (Bool × List Sh) := [(true, [.int .i64, .slice]), (false, [.int .i64])]
set_option maxRecDepth 100000 in
def t_laws_szWindow : Tr :=
(.call F_laws_szByteS [(.x (.var (.slice) 1)), (.x (.var (.int .i64) 2))] false [(false, [.int .i64])]
(.lift (.br (.cm .lss (.var (.int .i64) 3) (.cst (.int .i64 0)))
 (.ret (.x (.cst (.int .i64 (-1)))))
 (.ret (.x (.var (.int .i64) 3))))))
set_option maxRecDepth 100000 in
theorem s_laws_szWindow : sxF c_laws_szWindow Try.f29 p_laws_szWindow = some t_laws_szWindow := by kernel_rfl
theorem e_laws_szWindow (xs : Array Value) (w : World) : (callFunc F_laws_szWindow xs).runT Try.prog w #[] = (.ok (.enter F_laws_szWindow xs) w, #[]) := ent_of Try.func29 (by kernel_rfl) (by kernel_rfl) xs w
theorem run_laws_szWindow {S : Nat → Prop} {h : Eng.Heap} {Q : Value → Eng.Heap → Prop} {vs : List Value} (hsh : shOk (resShs p_laws_szWindow) vs) (hi : Inv S h) (hw : t_laws_szWindow.wp Try.prog S noLeaf Q vs h []) : CallsH Try.prog S F_laws_szWindow (argVals p_laws_szWindow vs) h Q :=
  sxF_ok (cfg := c_laws_szWindow) tabWNOk mixedWN Try.func29 rfl s_laws_szWindow e_laws_szWindow rfl hsh hi hw
/- function 31 -/
def c_laws_toWindow : Cfg := ⟨tabWN, [], [], [.cell 2 24]⟩
def p_laws_toWindow : List (Bool × List Sh) := [(true, [.int .i64, .slice])]
set_option maxRecDepth 100000 in
def t_laws_toWindow : Tr :=
(.call F_laws_toByteS [(.x (.var (.slice) 1))] false [(false, [.slice])]
(.ret (.agg [(.var (.int .i64) 0), (.var (.slice) 2)])))
set_option maxRecDepth 100000 in
theorem s_laws_toWindow : sxF c_laws_toWindow Try.f31 p_laws_toWindow = some t_laws_toWindow := by kernel_rfl
theorem e_laws_toWindow (xs : Array Value) (w : World) : (callFunc F_laws_toWindow xs).runT Try.prog w #[] = (.ok (.enter F_laws_toWindow xs) w, #[]) := ent_of Try.func31 (by kernel_rfl) (by kernel_rfl) xs w
theorem run_laws_toWindow {S : Nat → Prop} {h : Eng.Heap} {Q : Value → Eng.Heap → Prop} {vs : List Value} (hsh : shOk (resShs p_laws_toWindow) vs) (hi : Inv S h) (hw : t_laws_toWindow.wp Try.prog S noLeaf Q vs h []) : CallsH Try.prog S F_laws_toWindow (argVals p_laws_toWindow vs) h Q :=
  sxF_ok (cfg := c_laws_toWindow) tabWNOk mixedWN Try.func31 rfl s_laws_toWindow e_laws_toWindow rfl hsh hi hw
/- function 70 -/
def c_impl_ValidWindow : Cfg := ⟨tabWN, [], [], [.tmp 2]⟩
def p_impl_ValidWindow : List (Bool × List Sh) := [(true, [.int .i64, .slice])]
set_option maxRecDepth 100000 in
def t_impl_ValidWindow : Tr :=
(.ret (.x (.it (.it (.cm .geq (.var (.int .i64) 0) (.cst (.int .i64 1))) (.cm .leq (.var (.int .i64) 0) (.cst (.int .i64 32768))) (.cst (.bool false))) (.cm .leq (.ln (.var (.slice) 1)) (.var (.int .i64) 0)) (.cst (.bool false)))))
set_option maxRecDepth 100000 in
theorem s_impl_ValidWindow : sxF c_impl_ValidWindow Try.f70 p_impl_ValidWindow = some t_impl_ValidWindow := by kernel_rfl
theorem e_impl_ValidWindow (xs : Array Value) (w : World) : (callFunc F_impl_ValidWindow xs).runT Try.prog w #[] = (.ok (.enter F_impl_ValidWindow xs) w, #[]) := ent_of Try.func70 (by kernel_rfl) (by kernel_rfl) xs w
theorem run_impl_ValidWindow {S : Nat → Prop} {h : Eng.Heap} {Q : Value → Eng.Heap → Prop} {vs : List Value} (hsh : shOk (resShs p_impl_ValidWindow) vs) (hi : Inv S h) (hw : t_impl_ValidWindow.wp Try.prog S noLeaf Q vs h []) : CallsH Try.prog S F_impl_ValidWindow (argVals p_impl_ValidWindow vs) h Q :=
  sxF_ok (cfg := c_impl_ValidWindow) tabWNOk mixedWN Try.func70 rfl s_impl_ValidWindow e_impl_ValidWindow rfl hsh hi hw
/- function 82 -/
def c_spec_l4Last : Cfg := ⟨tabWN, [], [], [.tmp 4]⟩
def p_spec_l4Last : List (Bool × List Sh) := [(false, [.slice]), (false, [.int .i64])]
set_option maxRecDepth 100000 in
def t_spec_l4Last : Tr :=
(.join [.slice]
 (.br (.cm .gtr (.ln (.var (.slice) 0)) (.var (.int .i64) 1))
  (.need (.cm .leq (.cst (.int .i64 0)) (.ar .sub .i64 (.ln (.var (.slice) 0)) (.var (.int .i64) 1)))
  (.need (.cm .leq (.ar .sub .i64 (.ln (.var (.slice) 0)) (.var (.int .i64) 1)) (.ln (.var (.slice) 0)))
  (.cont 0 [(.sub 1 (.var (.slice) 0) (.ar .sub .i64 (.ln (.var (.slice) 0)) (.var (.int .i64) 1)) .nl .nl)])))
  (.cont 0 [(.var (.slice) 0)]))
 (.hsl 5 0 []
 (.app 5 1 1 [(.int .u8 0)] (.var (.slice) 3) (.var (.slice) 2)
 (.ret (.x (.var (.slice) 4))))))
set_option maxRecDepth 100000 in
theorem s_spec_l4Last : sxF c_spec_l4Last Try.f82 p_spec_l4Last = some t_spec_l4Last := by kernel_rfl
theorem e_spec_l4Last (xs : Array Value) (w : World) : (callFunc F_spec_l4Last xs).runT Try.prog w #[] = (.ok (.enter F_spec_l4Last xs) w, #[]) := ent_of Try.func82 (by kernel_rfl) (by kernel_rfl) xs w
theorem run_spec_l4Last {S : Nat → Prop} {h : Eng.Heap} {Q : Value → Eng.Heap → Prop} {vs : List Value} (hsh : shOk (resShs p_spec_l4Last) vs) (hi : Inv S h) (hw : t_spec_l4Last.wp Try.prog S noLeaf Q vs h []) : CallsH Try.prog S F_spec_l4Last (argVals p_spec_l4Last vs) h Q :=
  sxF_ok (cfg := c_spec_l4Last) tabWNOk mixedWN Try.func82 rfl s_spec_l4Last e_spec_l4Last rfl hsh hi hw
/- function 83 -/
def c_impl_ringOf : Cfg := ⟨tabWN, [], [8], [.tmp 4]⟩
def p_impl_ringOf : List (Bool × List Sh) := [(false, [.int .i64]), (false, [.slice])]
set_option maxRecDepth 100000 in
def t_impl_ringOf : Tr :=
(.hall 151 [(1, (.var (.int .i64) 0)), (32768, (.cst (.int .u8 0))), (2, (.cst (.int .i64 0)))]
(.call F_impl_ring__put [(.x (.var (.addr) 2)), (.x (.var (.slice) 1))] true []
(.ret (.x (.var (.addr) 2)))))
set_option maxRecDepth 100000 in
theorem s_impl_ringOf : sxF c_impl_ringOf Try.f83 p_impl_ringOf = some t_impl_ringOf := by kernel_rfl
theorem e_impl_ringOf (xs : Array Value) (w : World) : (callFunc F_impl_ringOf xs).runT Try.prog w #[] = (.ok (.enter F_impl_ringOf xs) w, #[]) := ent_of Try.func83 (by kernel_rfl) (by kernel_rfl) xs w
theorem run_impl_ringOf {S : Nat → Prop} {h : Eng.Heap} {Q : Value → Eng.Heap → Prop} {vs : List Value} (hsh : shOk (resShs p_impl_ringOf) vs) (hi : Inv S h) (hw : t_impl_ringOf.wp Try.prog S noLeaf Q vs h []) : CallsH Try.prog S F_impl_ringOf (argVals p_impl_ringOf vs) h Q :=
  sxF_ok (cfg := c_impl_ringOf) tabWNOk mixedWN Try.func83 rfl s_impl_ringOf e_impl_ringOf rfl hsh hi hw
/- function 84 -/
def c_impl_ring__window : Cfg := ⟨tabWN, [], [], [.cell 2 24]⟩
def p_impl_ring__window : List (Bool × List Sh) := [(false, [.ptr])]
set_option maxRecDepth 100000 in
def t_impl_ring__window : Tr :=
(.call F_impl_ring__parts [(.x (.var (.ptr) 0))] true [(false, [.slice]), (false, [.slice])]
(.need (.nt (.nn (.var (.ptr) 0)))
(.load (.fld (.nz (.var (.ptr) 0)) 0) [.int .i64]
(.hsl 5 0 []
(.still [((.fld (.nz (.var (.ptr) 0)) 0), (.var (.int .i64) 3))]
(.app 5 1 1 [(.int .u8 0)] (.var (.slice) 4) (.var (.slice) 1)
(.still [((.fld (.nz (.var (.ptr) 0)) 0), (.var (.int .i64) 3))]
(.app 5 1 1 [(.int .u8 0)] (.var (.slice) 5) (.var (.slice) 2)
(.still [((.fld (.nz (.var (.ptr) 0)) 0), (.var (.int .i64) 3))]
(.ret (.agg [(.var (.int .i64) 3), (.var (.slice) 6)])))))))))))
set_option maxRecDepth 100000 in
theorem s_impl_ring__window : sxF c_impl_ring__window Try.f84 p_impl_ring__window = some t_impl_ring__window := by kernel_rfl
theorem e_impl_ring__window (xs : Array Value) (w : World) : (callFunc F_impl_ring__window xs).runT Try.prog w #[] = (.ok (.enter F_impl_ring__window xs) w, #[]) := ent_of Try.func84 (by kernel_rfl) (by kernel_rfl) xs w
theorem run_impl_ring__window {S : Nat → Prop} {h : Eng.Heap} {Q : Value → Eng.Heap → Prop} {vs : List Value} (hsh : shOk (resShs p_impl_ring__window) vs) (hi : Inv S h) (hw : t_impl_ring__window.wp Try.prog S noLeaf Q vs h []) : CallsH Try.prog S F_impl_ring__window (argVals p_impl_ring__window vs) h Q :=
  sxF_ok (cfg := c_impl_ring__window) tabWNOk mixedWN Try.func84 rfl s_impl_ring__window e_impl_ring__window rfl hsh hi hw
/- function 90 -/
def c_spec_ValidWindow : Cfg := ⟨tabWN, [], [], [.tmp 2]⟩
def p_spec_ValidWindow : List (Bool × List Sh) := [(true, [.int .i64, .slice])]
set_option maxRecDepth 100000 in
def t_spec_ValidWindow : Tr :=
(.ret (.x (.it (.it (.cm .geq (.var (.int .i64) 0) (.cst (.int .i64 1))) (.cm .leq (.var (.int .i64) 0) (.cst (.int .i64 32768))) (.cst (.bool false))) (.cm .leq (.ln (.var (.slice) 1)) (.var (.int .i64) 0)) (.cst (.bool false)))))
set_option maxRecDepth 100000 in
theorem s_spec_ValidWindow : sxF c_spec_ValidWindow Try.f90 p_spec_ValidWindow = some t_spec_ValidWindow := by kernel_rfl
theorem e_spec_ValidWindow (xs : Array Value) (w : World) : (callFunc F_spec_ValidWindow xs).runT Try.prog w #[] = (.ok (.enter F_spec_ValidWindow xs) w, #[]) := ent_of Try.func90 (by kernel_rfl) (by kernel_rfl) xs w
theorem run_spec_ValidWindow {S : Nat → Prop} {h : Eng.Heap} {Q : Value → Eng.Heap → Prop} {vs : List Value} (hsh : shOk (resShs p_spec_ValidWindow) vs) (hi : Inv S h) (hw : t_spec_ValidWindow.wp Try.prog S noLeaf Q vs h []) : CallsH Try.prog S F_spec_ValidWindow (argVals p_spec_ValidWindow vs) h Q :=
  sxF_ok (cfg := c_spec_ValidWindow) tabWNOk mixedWN Try.func90 rfl s_spec_ValidWindow e_spec_ValidWindow rfl hsh hi hw
/- function 91 -/
def c_impl_ring__put : Cfg := ⟨tabWN, [⟨1, [17], [], [5, 18, 19, 20, 21, 22, 23, 24, 25, 26, 27, 28, 29, 30, 31, 32, 33, 34, 35, 36, 37, 38, 39, 40, 41, 42, 43, 44, 45, 46, 47, 48, 49, 50, 51, 52, 53, 54, 55, 56]⟩], [], []⟩
def p_impl_ring__put : List (Bool × List Sh) := [(false, [.ptr]), (false, [.slice])]
set_option maxRecDepth 100000 in
def t_impl_ring__put : Tr :=
(.need (.nt (.nn (.var (.ptr) 0)))
(.load (.fld (.nz (.var (.ptr) 0)) 0) [.int .i64]
(.need (.cm .leq (.cst (.int .i64 0)) (.mx (.cst (.int .i64 0)) (.ar .sub .i64 (.ln (.var (.slice) 1)) (.var (.int .i64) 2))))
(.need (.cm .leq (.mx (.cst (.int .i64 0)) (.ar .sub .i64 (.ln (.var (.slice) 1)) (.var (.int .i64) 2))) (.ln (.var (.slice) 1)))
(.loop [.int .i64] [(.cst (.int .i64 0))]
 (.lift (.br (.cm .lss (.var (.int .i64) 3) (.ln (.sub 1 (.var (.slice) 1) (.mx (.cst (.int .i64 0)) (.ar .sub .i64 (.ln (.var (.slice) 1)) (.var (.int .i64) 2))) .nl .nl)))
  (.need (.nt (.nn (.sub 1 (.var (.slice) 1) (.mx (.cst (.int .i64 0)) (.ar .sub .i64 (.ln (.var (.slice) 1)) (.var (.int .i64) 2))) .nl .nl)))
  (.need (.cm .leq (.cst (.int .i64 0)) (.var (.int .i64) 3))
  (.need (.cm .lss (.var (.int .i64) 3) (.ln (.sub 1 (.var (.slice) 1) (.mx (.cst (.int .i64 0)) (.ar .sub .i64 (.ln (.var (.slice) 1)) (.var (.int .i64) 2))) .nl .nl)))
  (.load (.ix 1 (.sub 1 (.var (.slice) 1) (.mx (.cst (.int .i64 0)) (.ar .sub .i64 (.ln (.var (.slice) 1)) (.var (.int .i64) 2))) .nl .nl) (.var (.int .i64) 3)) [.int .u8]
  (.need (.nt (.nn (.var (.ptr) 0)))
  (.load (.fld (.nz (.var (.ptr) 0)) 32769) [.int .i64]
  (.need (.nt (.nn (.var (.ptr) 0)))
  (.need (.cm .leq (.cst (.int .i64 0)) (.var (.int .i64) 5))
  (.need (.cm .lss (.var (.int .i64) 5) (.cst (.int .i64 32768)))
  (.hsto (.ia 1 (.fld (.nz (.var (.ptr) 0)) 1) (.var (.int .i64) 5)) [(.var (.int .u8) 4)]
  (.need (.nt (.nn (.var (.ptr) 0)))
  (.load (.fld (.nz (.var (.ptr) 0)) 32769) [.int .i64]
  (.need (.nt (.nn (.var (.ptr) 0)))
  (.load (.fld (.nz (.var (.ptr) 0)) 0) [.int .i64]
  (.need (.cm .neq (.var (.int .i64) 7) (.cst (.int .i64 0)))
  (.need (.nt (.nn (.var (.ptr) 0)))
  (.hsto (.fld (.nz (.var (.ptr) 0)) 32769) [(.ar .rem .i64 (.ar .add .i64 (.var (.int .i64) 6) (.cst (.int .i64 1))) (.var (.int .i64) 7))]
  (.need (.nt (.nn (.var (.ptr) 0)))
  (.load (.fld (.nz (.var (.ptr) 0)) 32770) [.int .i64]
  (.need (.nt (.nn (.var (.ptr) 0)))
  (.load (.fld (.nz (.var (.ptr) 0)) 0) [.int .i64]
  (.need (.nt (.nn (.var (.ptr) 0)))
  (.hsto (.fld (.nz (.var (.ptr) 0)) 32770) [(.mn (.ar .add .i64 (.var (.int .i64) 8) (.cst (.int .i64 1))) (.var (.int .i64) 9))]
  (.cont 0 [(.ar .add .i64 (.var (.int .i64) 3) (.cst (.int .i64 1)))]))))))))))))))))))))))))
  (.ret (.tup [])))))))))
set_option maxRecDepth 100000 in
theorem s_impl_ring__put : sxF c_impl_ring__put Try.f91 p_impl_ring__put = some t_impl_ring__put := by kernel_rfl
theorem e_impl_ring__put (xs : Array Value) (w : World) : (callFunc F_impl_ring__put xs).runT Try.prog w #[] = (.ok (.enter F_impl_ring__put xs) w, #[]) := ent_of Try.func91 (by kernel_rfl) (by kernel_rfl) xs w
theorem run_impl_ring__put {S : Nat → Prop} {h : Eng.Heap} {Q : Value → Eng.Heap → Prop} {vs : List Value} (hsh : shOk (resShs p_impl_ring__put) vs) (hi : Inv S h) (hw : t_impl_ring__put.wp Try.prog S noLeaf Q vs h []) : CallsH Try.prog S F_impl_ring__put (argVals p_impl_ring__put vs) h Q :=
  sxF_ok (cfg := c_impl_ring__put) tabWNOk mixedWN Try.func91 rfl s_impl_ring__put e_impl_ring__put rfl hsh hi hw
/- function 124 -/
def c_impl_ring__parts : Cfg := ⟨tabWN, [], [], [.tmp 2, .tmp 3]⟩
def p_impl_ring__parts : List (Bool × List Sh) := [(false, [.ptr])]
set_option maxRecDepth 100000 in
def t_impl_ring__parts : Tr :=
(.need (.nt (.nn (.var (.ptr) 0)))
(.load (.fld (.nz (.var (.ptr) 0)) 32769) [.int .i64]
(.need (.nt (.nn (.var (.ptr) 0)))
(.load (.fld (.nz (.var (.ptr) 0)) 32770) [.int .i64]
(.need (.nt (.nn (.var (.ptr) 0)))
(.load (.fld (.nz (.var (.ptr) 0)) 0) [.int .i64]
(.need (.nt (.nn (.var (.ptr) 0)))
(.load (.fld (.nz (.var (.ptr) 0)) 0) [.int .i64]
(.need (.cm .neq (.var (.int .i64) 4) (.cst (.int .i64 0)))
(.need (.nt (.nn (.var (.ptr) 0)))
(.load (.fld (.nz (.var (.ptr) 0)) 32770) [.int .i64]
(.need (.nt (.nn (.var (.ptr) 0)))
(.load (.fld (.nz (.var (.ptr) 0)) 0) [.int .i64]
(.lift (.br (.cm .leq (.ar .add .i64 (.ar .rem .i64 (.ar .add .i64 (.ar .sub .i64 (.var (.int .i64) 1) (.var (.int .i64) 2)) (.var (.int .i64) 3)) (.var (.int .i64) 4)) (.var (.int .i64) 5)) (.var (.int .i64) 6))
 (.need (.nt (.nn (.var (.ptr) 0)))
 (.need (.nt (.nn (.var (.ptr) 0)))
 (.load (.fld (.nz (.var (.ptr) 0)) 32770) [.int .i64]
 (.need (.cm .leq (.cst (.int .i64 0)) (.ar .add .i64 (.ar .rem .i64 (.ar .add .i64 (.ar .sub .i64 (.var (.int .i64) 1) (.var (.int .i64) 2)) (.var (.int .i64) 3)) (.var (.int .i64) 4)) (.var (.int .i64) 7)))
 (.need (.cm .leq (.ar .add .i64 (.ar .rem .i64 (.ar .add .i64 (.ar .sub .i64 (.var (.int .i64) 1) (.var (.int .i64) 2)) (.var (.int .i64) 3)) (.var (.int .i64) 4)) (.var (.int .i64) 7)) (.cst (.int .i64 32768)))
 (.need (.cm .leq (.cst (.int .i64 0)) (.ar .rem .i64 (.ar .add .i64 (.ar .sub .i64 (.var (.int .i64) 1) (.var (.int .i64) 2)) (.var (.int .i64) 3)) (.var (.int .i64) 4)))
 (.need (.cm .leq (.ar .rem .i64 (.ar .add .i64 (.ar .sub .i64 (.var (.int .i64) 1) (.var (.int .i64) 2)) (.var (.int .i64) 3)) (.var (.int .i64) 4)) (.ar .add .i64 (.ar .rem .i64 (.ar .add .i64 (.ar .sub .i64 (.var (.int .i64) 1) (.var (.int .i64) 2)) (.var (.int .i64) 3)) (.var (.int .i64) 4)) (.var (.int .i64) 7)))
 (.ret (.tup [(false, [(.sar 32768 1 (.fld (.nz (.var (.ptr) 0)) 1) (.ar .rem .i64 (.ar .add .i64 (.ar .sub .i64 (.var (.int .i64) 1) (.var (.int .i64) 2)) (.var (.int .i64) 3)) (.var (.int .i64) 4)) (.ar .add .i64 (.ar .rem .i64 (.ar .add .i64 (.ar .sub .i64 (.var (.int .i64) 1) (.var (.int .i64) 2)) (.var (.int .i64) 3)) (.var (.int .i64) 4)) (.var (.int .i64) 7)) .nl)]), (false, [(.cst .nilSl)])])))))))))
 (.need (.nt (.nn (.var (.ptr) 0)))
 (.need (.nt (.nn (.var (.ptr) 0)))
 (.load (.fld (.nz (.var (.ptr) 0)) 0) [.int .i64]
 (.need (.cm .leq (.cst (.int .i64 0)) (.var (.int .i64) 7))
 (.need (.cm .leq (.var (.int .i64) 7) (.cst (.int .i64 32768)))
 (.need (.cm .leq (.cst (.int .i64 0)) (.ar .rem .i64 (.ar .add .i64 (.ar .sub .i64 (.var (.int .i64) 1) (.var (.int .i64) 2)) (.var (.int .i64) 3)) (.var (.int .i64) 4)))
 (.need (.cm .leq (.ar .rem .i64 (.ar .add .i64 (.ar .sub .i64 (.var (.int .i64) 1) (.var (.int .i64) 2)) (.var (.int .i64) 3)) (.var (.int .i64) 4)) (.var (.int .i64) 7))
 (.need (.nt (.nn (.var (.ptr) 0)))
 (.need (.nt (.nn (.var (.ptr) 0)))
 (.load (.fld (.nz (.var (.ptr) 0)) 32769) [.int .i64]
 (.need (.cm .leq (.cst (.int .i64 0)) (.var (.int .i64) 8))
 (.need (.cm .leq (.var (.int .i64) 8) (.cst (.int .i64 32768)))
 (.ret (.tup [(false, [(.sar 32768 1 (.fld (.nz (.var (.ptr) 0)) 1) (.ar .rem .i64 (.ar .add .i64 (.ar .sub .i64 (.var (.int .i64) 1) (.var (.int .i64) 2)) (.var (.int .i64) 3)) (.var (.int .i64) 4)) (.var (.int .i64) 7) .nl)]), (false, [(.sar 32768 1 (.fld (.nz (.var (.ptr) 0)) 1) .nl (.var (.int .i64) 8) .nl)])])))))))))))))))))))))))))))))
set_option maxRecDepth 100000 in
theorem s_impl_ring__parts : sxF c_impl_ring__parts Try.f124 p_impl_ring__parts = some t_impl_ring__parts := by kernel_rfl
theorem e_impl_ring__parts (xs : Array Value) (w : World) : (callFunc F_impl_ring__parts xs).runT Try.prog w #[] = (.ok (.enter F_impl_ring__parts xs) w, #[]) := ent_of Try.func124 (by kernel_rfl) (by kernel_rfl) xs w
theorem run_impl_ring__parts {S : Nat → Prop} {h : Eng.Heap} {Q : Value → Eng.Heap → Prop} {vs : List Value} (hsh : shOk (resShs p_impl_ring__parts) vs) (hi : Inv S h) (hw : t_impl_ring__parts.wp Try.prog S noLeaf Q vs h []) : CallsH Try.prog S F_impl_ring__parts (argVals p_impl_ring__parts vs) h Q :=
  sxF_ok (cfg := c_impl_ring__parts) tabWNOk mixedWN Try.func124 rfl s_impl_ring__parts e_impl_ring__parts rfl hsh hi hw
end Go.Proofs.Ytchlnichbaoeaaa
