-- printed by a generator of my own (wip/eng/Gen) from the translation
import Derived.Test.YtchlnichbaoeaaaEng2
import Derived.Test.YtchlnichbaoeaaaChecked
import Derived.Test.YtchlnichbaoeaaaNums
set_option linter.unusedVariables false
set_option linter.unusedSimpArgs false
namespace Go.Proofs.Ytchlnichbaoeaaa
open Go Go.Eng
def tabWP : List (TypeId × TyD) := [(0, ⟨.oth, 1, 0, [], none, some []⟩),
  (2, ⟨(.int .i64), 1, 8, [.int .i64], some [(1, (.int .i64 0))], none⟩),
  (3, ⟨(.int .i64), 1, 8, [.int .i64], some [(1, (.int .i64 0))], none⟩),
  (4, ⟨.bool, 1, 1, [.bool], some [(1, (.bool false))], none⟩),
  (5, ⟨(.int .u8), 1, 1, [.int .u8], some [(1, (.int .u8 0))], none⟩),
  (22, ⟨(.sl 5), 1, 24, [.slice], some [(1, .nilSl)], none⟩),
  (24, ⟨(.st [(0, 2), (1, 22)]), 2, 32, [.int .i64, .slice], some [(1, (.int .i64 0)), (1, .nilSl)], none⟩),
  (40, ⟨(.st [(0, 2), (1, 22)]), 2, 32, [.int .i64, .slice], some [(1, (.int .i64 0)), (1, .nilSl)], none⟩),
  (107, ⟨(.ptr 151), 1, 8, [.ptr], some [(1, .nilPtr)], none⟩)]
set_option maxRecDepth 100000 in
theorem tabWPOk : TabOk Try.prog tabWP := tabOk_of (by kernel_rfl)
theorem mixedWP : Try.prog.follows .mixedOrders = true := by kernel_rfl
/- function 5 -/
def c_laws_FnExactWindowPut : Cfg := ⟨tabWP, [], [], [.tmp 4]⟩
def p_laws_FnExactWindowPut : List (Bool × List Sh) := [(true, [.int .i64, .slice]), (false, [.slice])]
set_option maxRecDepth 100000 in
def t_laws_FnExactWindowPut : Tr :=
(.lift (.br (.cm .gtr (.ln (.var (.slice) 2)) (.cst (.int .i64 1048576)))
 (.ret (.x (.cst (.bool true))))
 (.call F_laws_szWindow [(.agg [(.var (.int .i64) 0), (.var (.slice) 1)]), (.x (.cst (.int .i64 1048576)))] false [(false, [.int .i64])]
 (.lift (.br (.cm .lss (.var (.int .i64) 3) (.cst (.int .i64 0)))
  (.ret (.x (.cst (.bool true))))
  (.call F_laws_toWindow [(.agg [(.var (.int .i64) 0), (.var (.slice) 1)])] false [(true, [.int .i64, .slice])]
  (.call F_laws_toByteS [(.x (.var (.slice) 2))] false [(false, [.slice])]
  (.call F_spec_WindowPut [(.agg [(.var (.int .i64) 4), (.var (.slice) 5)]), (.x (.var (.slice) 6))] false [(true, [.int .i64, .slice])]
  (.call F_laws_toWindow [(.agg [(.var (.int .i64) 0), (.var (.slice) 1)])] false [(true, [.int .i64, .slice])]
  (.call F_laws_toByteS [(.x (.var (.slice) 2))] false [(false, [.slice])]
  (.call F_impl_WindowPut [(.agg [(.var (.int .i64) 9), (.var (.slice) 10)]), (.x (.var (.slice) 11))] false [(true, [.int .i64, .slice])]
  (.call F_laws_eqWindow [(.agg [(.var (.int .i64) 12), (.var (.slice) 13)]), (.agg [(.var (.int .i64) 7), (.var (.slice) 8)])] false [(false, [.bool])]
  (.lift (.br (.nt (.var (.bool) 14))
   (.ret (.x (.cst (.bool false))))
   (.call F_laws_toWindow [(.agg [(.var (.int .i64) 0), (.var (.slice) 1)])] false [(true, [.int .i64, .slice])]
   (.call F_laws_eqWindow [(.agg [(.var (.int .i64) 9), (.var (.slice) 10)]), (.agg [(.var (.int .i64) 15), (.var (.slice) 16)])] false [(false, [.bool])]
   (.lift (.br (.nt (.var (.bool) 17))
    (.ret (.x (.cst (.bool false))))
    (.call F_laws_toByteS [(.x (.var (.slice) 2))] false [(false, [.slice])]
    (.call F_laws_eqByteS [(.x (.var (.slice) 11)), (.x (.var (.slice) 18))] false [(false, [.bool])]
    (.lift (.br (.nt (.var (.bool) 19))
     (.ret (.x (.cst (.bool false))))
     (.call F_laws_markWindow [(.agg [(.var (.int .i64) 9), (.var (.slice) 10)]), (.x (.cst (.int .i64 1)))] false [(false, [.int .i64])]
     (.call F_laws_markByteS [(.x (.var (.slice) 11)), (.x (.var (.int .i64) 20))] false [(false, [.int .i64])]
     (.join [.bool]
      (.br (.nt (.cm .lss (.var (.int .i64) 21) (.cst (.int .i64 0))))
       (.call F_laws_eqWindow [(.agg [(.var (.int .i64) 12), (.var (.slice) 13)]), (.agg [(.var (.int .i64) 7), (.var (.slice) 8)])] false [(false, [.bool])]
       (.cont 5 [(.nt (.var (.bool) 22))]))
       (.cont 5 [(.cst (.bool true))]))
      (.lift (.br (.var (.bool) 22)
       (.ret (.x (.cst (.bool false))))
       (.call F_laws_markWindow [(.agg [(.var (.int .i64) 12), (.var (.slice) 13)]), (.x (.cst (.int .i64 1)))] false [(false, [.int .i64])]
       (.call F_laws_heldWindow [(.agg [(.var (.int .i64) 12), (.var (.slice) 13)]), (.x (.cst (.int .i64 1)))] false [(false, [.int .i64])]
       (.lift (.br (.cm .lss (.var (.int .i64) 24) (.cst (.int .i64 0)))
        (.ret (.x (.cst (.bool false))))
        (.lift (.br (.cm .neq (.var (.int .i64) 24) (.var (.int .i64) 23))
         (.ret (.x (.cst (.bool false))))
         (.call F_laws_toWindow [(.agg [(.var (.int .i64) 0), (.var (.slice) 1)])] false [(true, [.int .i64, .slice])]
         (.call F_laws_toByteS [(.x (.var (.slice) 2))] false [(false, [.slice])]
         (.call F_impl_WindowPut [(.agg [(.var (.int .i64) 25), (.var (.slice) 26)]), (.x (.var (.slice) 27))] false [(true, [.int .i64, .slice])]
         (.call F_laws_eqWindow [(.agg [(.var (.int .i64) 28), (.var (.slice) 29)]), (.agg [(.var (.int .i64) 7), (.var (.slice) 8)])] false [(false, [.bool])]
         (.lift (.br (.nt (.var (.bool) 30))
          (.ret (.x (.cst (.bool false))))
          (.call F_laws_heldWindow [(.agg [(.var (.int .i64) 12), (.var (.slice) 13)]), (.x (.cst (.int .i64 1)))] false [(false, [.int .i64])]
          (.lift (.br (.cm .lss (.var (.int .i64) 31) (.cst (.int .i64 0)))
           (.ret (.x (.cst (.bool false))))
           (.lift (.br (.cm .neq (.var (.int .i64) 31) (.var (.int .i64) 23))
            (.ret (.x (.cst (.bool false))))
            (.ret (.x (.cst (.bool true))))))))))))))))))))))))))))))))))))))))))))))))
set_option maxRecDepth 100000 in
theorem s_laws_FnExactWindowPut : sxF c_laws_FnExactWindowPut Try.f5 p_laws_FnExactWindowPut = some t_laws_FnExactWindowPut := by kernel_rfl
theorem e_laws_FnExactWindowPut (xs : Array Value) (w : World) : (callFunc F_laws_FnExactWindowPut xs).runT Try.prog w #[] = (.ok (.enter F_laws_FnExactWindowPut xs) w, #[]) := ent_of Try.func5 (by kernel_rfl) (by kernel_rfl) xs w
theorem run_laws_FnExactWindowPut {S : Nat → Prop} {h : Eng.Heap} {Q : Value → Eng.Heap → Prop} {vs : List Value} (hsh : shOk (resShs p_laws_FnExactWindowPut) vs) (hi : Inv S h) (hw : t_laws_FnExactWindowPut.wp Try.prog S noLeaf Q vs h []) : CallsH Try.prog S F_laws_FnExactWindowPut (argVals p_laws_FnExactWindowPut vs) h Q :=
  sxF_ok (cfg := c_laws_FnExactWindowPut) tabWPOk mixedWP Try.func5 rfl s_laws_FnExactWindowPut e_laws_FnExactWindowPut rfl hsh hi hw
/- function 30 -/
def c_spec_WindowPut : Cfg := ⟨tabWP, [], [], [.cell 4 24]⟩
def p_spec_WindowPut : List (Bool × List Sh) := [(true, [.int .i64, .slice]), (false, [.slice])]
set_option maxRecDepth 100000 in
def t_spec_WindowPut : Tr :=
(.call F_spec_ValidWindow [(.agg [(.var (.int .i64) 0), (.var (.slice) 1)])] false [(false, [.bool])]
(.lift (.br (.nt (.var (.bool) 3))
 (.ret (.agg [(.cst (.int .i64 0)), (.cst .nilSl)]))
 (.hsl 5 0 []
 (.app 5 1 1 [(.int .u8 0)] (.var (.slice) 4) (.var (.slice) 1)
 (.app 5 1 1 [(.int .u8 0)] (.var (.slice) 5) (.var (.slice) 2)
 (.call F_spec_l4Last [(.x (.var (.slice) 6)), (.x (.var (.int .i64) 0))] false [(false, [.slice])]
 (.ret (.agg [(.var (.int .i64) 0), (.var (.slice) 7)])))))))))
set_option maxRecDepth 100000 in
theorem s_spec_WindowPut : sxF c_spec_WindowPut Try.f30 p_spec_WindowPut = some t_spec_WindowPut := by kernel_rfl
theorem e_spec_WindowPut (xs : Array Value) (w : World) : (callFunc F_spec_WindowPut xs).runT Try.prog w #[] = (.ok (.enter F_spec_WindowPut xs) w, #[]) := ent_of Try.func30 (by kernel_rfl) (by kernel_rfl) xs w
theorem run_spec_WindowPut {S : Nat → Prop} {h : Eng.Heap} {Q : Value → Eng.Heap → Prop} {vs : List Value} (hsh : shOk (resShs p_spec_WindowPut) vs) (hi : Inv S h) (hw : t_spec_WindowPut.wp Try.prog S noLeaf Q vs h []) : CallsH Try.prog S F_spec_WindowPut (argVals p_spec_WindowPut vs) h Q :=
  sxF_ok (cfg := c_spec_WindowPut) tabWPOk mixedWP Try.func30 rfl s_spec_WindowPut e_spec_WindowPut rfl hsh hi hw
/- function 32 -/
def c_impl_WindowPut : Cfg := ⟨tabWP, [], [], [.cell 4 24]⟩
def p_impl_WindowPut : List (Bool × List Sh) := [(true, [.int .i64, .slice]), (false, [.slice])]
set_option maxRecDepth 100000 in
def t_impl_WindowPut : Tr :=
(.call F_impl_ValidWindow [(.agg [(.var (.int .i64) 0), (.var (.slice) 1)])] false [(false, [.bool])]
(.lift (.br (.nt (.var (.bool) 3))
 (.ret (.agg [(.cst (.int .i64 0)), (.cst .nilSl)]))
 (.call F_impl_ringOf [(.x (.var (.int .i64) 0)), (.x (.var (.slice) 1))] false [(false, [.ptr])]
 (.call F_impl_ring__put [(.x (.var (.ptr) 4)), (.x (.var (.slice) 2))] true []
 (.call F_impl_ring__window [(.x (.var (.ptr) 4))] false [(true, [.int .i64, .slice])]
 (.ret (.agg [(.var (.int .i64) 5), (.var (.slice) 6)]))))))))
set_option maxRecDepth 100000 in
theorem s_impl_WindowPut : sxF c_impl_WindowPut Try.f32 p_impl_WindowPut = some t_impl_WindowPut := by kernel_rfl
theorem e_impl_WindowPut (xs : Array Value) (w : World) : (callFunc F_impl_WindowPut xs).runT Try.prog w #[] = (.ok (.enter F_impl_WindowPut xs) w, #[]) := ent_of Try.func32 (by kernel_rfl) (by kernel_rfl) xs w
theorem run_impl_WindowPut {S : Nat → Prop} {h : Eng.Heap} {Q : Value → Eng.Heap → Prop} {vs : List Value} (hsh : shOk (resShs p_impl_WindowPut) vs) (hi : Inv S h) (hw : t_impl_WindowPut.wp Try.prog S noLeaf Q vs h []) : CallsH Try.prog S F_impl_WindowPut (argVals p_impl_WindowPut vs) h Q :=
  sxF_ok (cfg := c_impl_WindowPut) tabWPOk mixedWP Try.func32 rfl s_impl_WindowPut e_impl_WindowPut rfl hsh hi hw
end Go.Proofs.Ytchlnichbaoeaaa
