-- printed by a generator of my own (wip/eng/Gen) from the translation
import Derived.Test.YtchlnichbaoeaaaEng2
import Derived.Test.YtchlnichbaoeaaaChecked
import Derived.Test.YtchlnichbaoeaaaNums
set_option linter.unusedVariables false
set_option linter.unusedSimpArgs false
namespace Go.Proofs.Ytchlnichbaoeaaa
open Go Go.Eng
def tabWC : List (TypeId × TyD) := [(0, ⟨.oth, 1, 0, [], none, some []⟩),
  (2, ⟨(.int .i64), 1, 8, [.int .i64], some [(1, (.int .i64 0))], none⟩),
  (3, ⟨(.int .i64), 1, 8, [.int .i64], some [(1, (.int .i64 0))], none⟩),
  (4, ⟨.bool, 1, 1, [.bool], some [(1, (.bool false))], none⟩),
  (5, ⟨(.int .u8), 1, 1, [.int .u8], some [(1, (.int .u8 0))], none⟩),
  (22, ⟨(.sl 5), 1, 24, [.slice], some [(1, .nilSl)], none⟩),
  (24, ⟨(.st [(0, 2), (1, 22)]), 2, 32, [.int .i64, .slice], some [(1, (.int .i64 0)), (1, .nilSl)], none⟩),
  (40, ⟨(.st [(0, 2), (1, 22)]), 2, 32, [.int .i64, .slice], some [(1, (.int .i64 0)), (1, .nilSl)], none⟩),
  (67, ⟨(.st [(0, 4), (1, 22), (2, 24)]), 4, 64, [.bool, .slice, .int .i64, .slice], some [(1, (.bool false)), (1, .nilSl), (1, (.int .i64 0)), (1, .nilSl)], none⟩),
  (107, ⟨(.ptr 151), 1, 8, [.ptr], some [(1, .nilPtr)], none⟩),
  (149, ⟨(.arr 32768 5), 32768, 32768, [], some [(32768, (.int .u8 0))], none⟩),
  (151, ⟨(.st [(0, 3), (1, 149), (32769, 3), (32770, 3)]), 32771, 32792, [], some [(1, (.int .i64 0)), (32768, (.int .u8 0)), (2, (.int .i64 0))], none⟩)]
set_option maxRecDepth 100000 in
theorem tabWCOk : TabOk Try.prog tabWC := tabOk_of (by kernel_rfl)
theorem mixedWC : Try.prog.follows .mixedOrders = true := by kernel_rfl
/- function 9 -/
def c_laws_FnExactWindowCopy : Cfg := ⟨tabWC, [], [], [.tmp 6]⟩
def p_laws_FnExactWindowCopy : List (Bool × List Sh) := [(true, [.int .i64, .slice]), (false, [.int .i64]), (false, [.int .i64])]
set_option maxRecDepth 100000 in
def t_laws_FnExactWindowCopy : Tr :=
(.call F_laws_szWindow [(.agg [(.var (.int .i64) 0), (.var (.slice) 1)]), (.x (.cst (.int .i64 1048576)))] false [(false, [.int .i64])]
(.lift (.br (.cm .lss (.var (.int .i64) 4) (.cst (.int .i64 0)))
 (.ret (.x (.cst (.bool true))))
 (.call F_laws_toWindow [(.agg [(.var (.int .i64) 0), (.var (.slice) 1)])] false [(true, [.int .i64, .slice])]
 (.call F_spec_WindowCopy [(.agg [(.var (.int .i64) 5), (.var (.slice) 6)]), (.x (.var (.int .i64) 2)), (.x (.var (.int .i64) 3))] false [(true, [.bool, .slice, .int .i64, .slice])]
 (.call F_laws_toWindow [(.agg [(.var (.int .i64) 0), (.var (.slice) 1)])] false [(true, [.int .i64, .slice])]
 (.call F_impl_WindowCopy [(.agg [(.var (.int .i64) 11), (.var (.slice) 12)]), (.x (.var (.int .i64) 2)), (.x (.var (.int .i64) 3))] false [(true, [.bool, .slice, .int .i64, .slice])]
 (.call F_laws_eqCopyRes [(.agg [(.var (.bool) 13), (.var (.slice) 14), (.var (.int .i64) 15), (.var (.slice) 16)]), (.agg [(.var (.bool) 7), (.var (.slice) 8), (.var (.int .i64) 9), (.var (.slice) 10)])] false [(false, [.bool])]
 (.lift (.br (.nt (.var (.bool) 17))
  (.ret (.x (.cst (.bool false))))
  (.call F_laws_toWindow [(.agg [(.var (.int .i64) 0), (.var (.slice) 1)])] false [(true, [.int .i64, .slice])]
  (.call F_laws_eqWindow [(.agg [(.var (.int .i64) 11), (.var (.slice) 12)]), (.agg [(.var (.int .i64) 18), (.var (.slice) 19)])] false [(false, [.bool])]
  (.lift (.br (.nt (.var (.bool) 20))
   (.ret (.x (.cst (.bool false))))
   (.call F_laws_markWindow [(.agg [(.var (.int .i64) 11), (.var (.slice) 12)]), (.x (.cst (.int .i64 1)))] false [(false, [.int .i64])]
   (.join [.bool]
    (.br (.nt (.cm .lss (.var (.int .i64) 21) (.cst (.int .i64 0))))
     (.call F_laws_eqCopyRes [(.agg [(.var (.bool) 13), (.var (.slice) 14), (.var (.int .i64) 15), (.var (.slice) 16)]), (.agg [(.var (.bool) 7), (.var (.slice) 8), (.var (.int .i64) 9), (.var (.slice) 10)])] false [(false, [.bool])]
     (.cont 3 [(.nt (.var (.bool) 22))]))
     (.cont 3 [(.cst (.bool true))]))
    (.lift (.br (.var (.bool) 22)
     (.ret (.x (.cst (.bool false))))
     (.call F_laws_markCopyRes [(.agg [(.var (.bool) 13), (.var (.slice) 14), (.var (.int .i64) 15), (.var (.slice) 16)]), (.x (.cst (.int .i64 1)))] false [(false, [.int .i64])]
     (.call F_laws_heldCopyRes [(.agg [(.var (.bool) 13), (.var (.slice) 14), (.var (.int .i64) 15), (.var (.slice) 16)]), (.x (.cst (.int .i64 1)))] false [(false, [.int .i64])]
     (.lift (.br (.cm .lss (.var (.int .i64) 24) (.cst (.int .i64 0)))
      (.ret (.x (.cst (.bool false))))
      (.lift (.br (.cm .neq (.var (.int .i64) 24) (.var (.int .i64) 23))
       (.ret (.x (.cst (.bool false))))
       (.call F_laws_toWindow [(.agg [(.var (.int .i64) 0), (.var (.slice) 1)])] false [(true, [.int .i64, .slice])]
       (.call F_impl_WindowCopy [(.agg [(.var (.int .i64) 25), (.var (.slice) 26)]), (.x (.var (.int .i64) 2)), (.x (.var (.int .i64) 3))] false [(true, [.bool, .slice, .int .i64, .slice])]
       (.call F_laws_eqCopyRes [(.agg [(.var (.bool) 27), (.var (.slice) 28), (.var (.int .i64) 29), (.var (.slice) 30)]), (.agg [(.var (.bool) 7), (.var (.slice) 8), (.var (.int .i64) 9), (.var (.slice) 10)])] false [(false, [.bool])]
       (.lift (.br (.nt (.var (.bool) 31))
        (.ret (.x (.cst (.bool false))))
        (.call F_laws_heldCopyRes [(.agg [(.var (.bool) 13), (.var (.slice) 14), (.var (.int .i64) 15), (.var (.slice) 16)]), (.x (.cst (.int .i64 1)))] false [(false, [.int .i64])]
        (.lift (.br (.cm .lss (.var (.int .i64) 32) (.cst (.int .i64 0)))
         (.ret (.x (.cst (.bool false))))
         (.lift (.br (.cm .neq (.var (.int .i64) 32) (.var (.int .i64) 23))
          (.ret (.x (.cst (.bool false))))
          (.ret (.x (.cst (.bool true))))))))))))))))))))))))))))))))))))))
set_option maxRecDepth 100000 in
theorem s_laws_FnExactWindowCopy : sxF c_laws_FnExactWindowCopy Try.f9 p_laws_FnExactWindowCopy = some t_laws_FnExactWindowCopy := by kernel_rfl
theorem e_laws_FnExactWindowCopy (xs : Array Value) (w : World) : (callFunc F_laws_FnExactWindowCopy xs).runT Try.prog w #[] = (.ok (.enter F_laws_FnExactWindowCopy xs) w, #[]) := ent_of Try.func9 (by kernel_rfl) (by kernel_rfl) xs w
theorem run_laws_FnExactWindowCopy {S : Nat → Prop} {h : Eng.Heap} {Q : Value → Eng.Heap → Prop} {vs : List Value} (hsh : shOk (resShs p_laws_FnExactWindowCopy) vs) (hi : Inv S h) (hw : t_laws_FnExactWindowCopy.wp Try.prog S noLeaf Q vs h []) : CallsH Try.prog S F_laws_FnExactWindowCopy (argVals p_laws_FnExactWindowCopy vs) h Q :=
  sxF_ok (cfg := c_laws_FnExactWindowCopy) tabWCOk mixedWC Try.func9 rfl s_laws_FnExactWindowCopy e_laws_FnExactWindowCopy rfl hsh hi hw
/- function 50 -/
def c_spec_WindowCopy : Cfg := ⟨tabWC, [⟨5, [7, 8], [], [36, 37, 38, 39, 40, 41, 42, 43, 44, 45, 46, 47, 48, 49, 50]⟩], [], [.cell 6 67]⟩
def p_spec_WindowCopy : List (Bool × List Sh) := [(true, [.int .i64, .slice]), (false, [.int .i64]), (false, [.int .i64])]
set_option maxRecDepth 100000 in
def t_spec_WindowCopy : Tr :=
(.call F_spec_ValidWindow [(.agg [(.var (.int .i64) 0), (.var (.slice) 1)])] false [(false, [.bool])]
(.lift (.br (.it (.it (.it (.it (.nt (.var (.bool) 4)) (.cst (.bool true)) (.cm .lss (.var (.int .i64) 3) (.cst (.int .i64 1)))) (.cst (.bool true)) (.cm .gtr (.var (.int .i64) 3) (.cst (.int .i64 258)))) (.cst (.bool true)) (.cm .lss (.var (.int .i64) 2) (.cst (.int .i64 1)))) (.cst (.bool true)) (.cm .gtr (.var (.int .i64) 2) (.ln (.var (.slice) 1))))
 (.ret (.agg [(.cst (.bool false)), (.cst .nilSl), (.cst (.int .i64 0)), (.cst .nilSl)]))
 (.hsl 5 0 []
 (.app 5 1 1 [(.int .u8 0)] (.var (.slice) 5) (.var (.slice) 1)
 (.loop [.slice, .int .i64] [(.var (.slice) 6), (.cst (.int .i64 0))]
  (.lift (.br (.cm .lss (.var (.int .i64) 8) (.var (.int .i64) 3))
   (.need (.nt (.nn (.var (.slice) 7)))
   (.need (.cm .leq (.cst (.int .i64 0)) (.ar .sub .i64 (.ln (.var (.slice) 7)) (.var (.int .i64) 2)))
   (.need (.cm .lss (.ar .sub .i64 (.ln (.var (.slice) 7)) (.var (.int .i64) 2)) (.ln (.var (.slice) 7)))
   (.load (.ix 1 (.var (.slice) 7) (.ar .sub .i64 (.ln (.var (.slice) 7)) (.var (.int .i64) 2))) [.int .u8]
   (.hsl 5 1 [(.var (.int .u8) 9)]
   (.app 5 1 1 [(.int .u8 0)] (.var (.slice) 7) (.var (.slice) 10)
   (.cont 1 [(.var (.slice) 11), (.ar .add .i64 (.var (.int .i64) 8) (.cst (.int .i64 1)))])))))))
   (.need (.cm .leq (.cst (.int .i64 0)) (.ln (.var (.slice) 1)))
   (.need (.cm .leq (.ln (.var (.slice) 1)) (.ln (.var (.slice) 7)))
   (.hsl 5 0 []
   (.app 5 1 1 [(.int .u8 0)] (.var (.slice) 9) (.sub 1 (.var (.slice) 7) (.ln (.var (.slice) 1)) .nl .nl)
   (.call F_spec_l4Last [(.x (.var (.slice) 7)), (.x (.var (.int .i64) 0))] false [(false, [.slice])]
   (.ret (.agg [(.cst (.bool true)), (.var (.slice) 10), (.var (.int .i64) 0), (.var (.slice) 11)])))))))))))))))
set_option maxRecDepth 100000 in
theorem s_spec_WindowCopy : sxF c_spec_WindowCopy Try.f50 p_spec_WindowCopy = some t_spec_WindowCopy := by kernel_rfl
theorem e_spec_WindowCopy (xs : Array Value) (w : World) : (callFunc F_spec_WindowCopy xs).runT Try.prog w #[] = (.ok (.enter F_spec_WindowCopy xs) w, #[]) := ent_of Try.func50 (by kernel_rfl) (by kernel_rfl) xs w
theorem run_spec_WindowCopy {S : Nat → Prop} {h : Eng.Heap} {Q : Value → Eng.Heap → Prop} {vs : List Value} (hsh : shOk (resShs p_spec_WindowCopy) vs) (hi : Inv S h) (hw : t_spec_WindowCopy.wp Try.prog S noLeaf Q vs h []) : CallsH Try.prog S F_spec_WindowCopy (argVals p_spec_WindowCopy vs) h Q :=
  sxF_ok (cfg := c_spec_WindowCopy) tabWCOk mixedWC Try.func50 rfl s_spec_WindowCopy e_spec_WindowCopy rfl hsh hi hw
/- function 51 -/
def c_impl_WindowCopy : Cfg := ⟨tabWC, [], [], [.cell 6 67]⟩
def p_impl_WindowCopy : List (Bool × List Sh) := [(true, [.int .i64, .slice]), (false, [.int .i64]), (false, [.int .i64])]
set_option maxRecDepth 100000 in
def t_impl_WindowCopy : Tr :=
(.call F_impl_ValidWindow [(.agg [(.var (.int .i64) 0), (.var (.slice) 1)])] false [(false, [.bool])]
(.lift (.br (.it (.it (.it (.it (.nt (.var (.bool) 4)) (.cst (.bool true)) (.cm .lss (.var (.int .i64) 3) (.cst (.int .i64 1)))) (.cst (.bool true)) (.cm .gtr (.var (.int .i64) 3) (.cst (.int .i64 258)))) (.cst (.bool true)) (.cm .lss (.var (.int .i64) 2) (.cst (.int .i64 1)))) (.cst (.bool true)) (.cm .gtr (.var (.int .i64) 2) (.ln (.var (.slice) 1))))
 (.ret (.agg [(.cst (.bool false)), (.cst .nilSl), (.cst (.int .i64 0)), (.cst .nilSl)]))
 (.call F_impl_ringOf [(.x (.var (.int .i64) 0)), (.x (.var (.slice) 1))] false [(false, [.ptr])]
 (.call F_impl_ring__repeat [(.x (.var (.ptr) 5)), (.x (.var (.int .i64) 2)), (.x (.var (.int .i64) 3))] false [(false, [.slice])]
 (.call F_impl_ring__window [(.x (.var (.ptr) 5))] false [(true, [.int .i64, .slice])]
 (.ret (.agg [(.cst (.bool true)), (.var (.slice) 6), (.var (.int .i64) 7), (.var (.slice) 8)]))))))))
set_option maxRecDepth 100000 in
theorem s_impl_WindowCopy : sxF c_impl_WindowCopy Try.f51 p_impl_WindowCopy = some t_impl_WindowCopy := by kernel_rfl
theorem e_impl_WindowCopy (xs : Array Value) (w : World) : (callFunc F_impl_WindowCopy xs).runT Try.prog w #[] = (.ok (.enter F_impl_WindowCopy xs) w, #[]) := ent_of Try.func51 (by kernel_rfl) (by kernel_rfl) xs w
theorem run_impl_WindowCopy {S : Nat → Prop} {h : Eng.Heap} {Q : Value → Eng.Heap → Prop} {vs : List Value} (hsh : shOk (resShs p_impl_WindowCopy) vs) (hi : Inv S h) (hw : t_impl_WindowCopy.wp Try.prog S noLeaf Q vs h []) : CallsH Try.prog S F_impl_WindowCopy (argVals p_impl_WindowCopy vs) h Q :=
  sxF_ok (cfg := c_impl_WindowCopy) tabWCOk mixedWC Try.func51 rfl s_impl_WindowCopy e_impl_WindowCopy rfl hsh hi hw
/- function 52 -/
def c_laws_eqCopyRes : Cfg := ⟨tabWC, [], [], [.tmp 4]⟩
def p_laws_eqCopyRes : List (Bool × List Sh) := [(true, [.bool, .slice, .int .i64, .slice]), (true, [.bool, .slice, .int .i64, .slice])]
set_option maxRecDepth 100000 in
def t_laws_eqCopyRes : Tr :=
(.lift (.br (.nt (.bq (.var (.bool) 0) (.var (.bool) 4)))
 (.ret (.x (.cst (.bool false))))
 (.call F_laws_eqByteS [(.x (.var (.slice) 1)), (.x (.var (.slice) 5))] false [(false, [.bool])]
 (.lift (.br (.nt (.var (.bool) 8))
  (.ret (.x (.cst (.bool false))))
  (.call F_laws_eqWindow [(.agg [(.var (.int .i64) 2), (.var (.slice) 3)]), (.agg [(.var (.int .i64) 6), (.var (.slice) 7)])] false [(false, [.bool])]
  (.lift (.br (.nt (.var (.bool) 9))
   (.ret (.x (.cst (.bool false))))
   (.ret (.x (.cst (.bool true))))))))))))
set_option maxRecDepth 100000 in
theorem s_laws_eqCopyRes : sxF c_laws_eqCopyRes Try.f52 p_laws_eqCopyRes = some t_laws_eqCopyRes := by kernel_rfl
theorem e_laws_eqCopyRes (xs : Array Value) (w : World) : (callFunc F_laws_eqCopyRes xs).runT Try.prog w #[] = (.ok (.enter F_laws_eqCopyRes xs) w, #[]) := ent_of Try.func52 (by kernel_rfl) (by kernel_rfl) xs w
theorem run_laws_eqCopyRes {S : Nat → Prop} {h : Eng.Heap} {Q : Value → Eng.Heap → Prop} {vs : List Value} (hsh : shOk (resShs p_laws_eqCopyRes) vs) (hi : Inv S h) (hw : t_laws_eqCopyRes.wp Try.prog S noLeaf Q vs h []) : CallsH Try.prog S F_laws_eqCopyRes (argVals p_laws_eqCopyRes vs) h Q :=
  sxF_ok (cfg := c_laws_eqCopyRes) tabWCOk mixedWC Try.func52 rfl s_laws_eqCopyRes e_laws_eqCopyRes rfl hsh hi hw
/- function 53 -/
def c_laws_markCopyRes : Cfg := ⟨tabWC, [], [], [.tmp 4]⟩
def p_laws_markCopyRes : List (Bool × List Sh) := [(true, [.bool, .slice, .int .i64, .slice]), (false, [.int .i64])]
set_option maxRecDepth 100000 in
def t_laws_markCopyRes : Tr :=
(.call F_laws_markByteS [(.x (.var (.slice) 1)), (.x (.var (.int .i64) 4))] false [(false, [.int .i64])]
(.call F_laws_markWindow [(.agg [(.var (.int .i64) 2), (.var (.slice) 3)]), (.x (.var (.int .i64) 5))] false [(false, [.int .i64])]
(.ret (.x (.var (.int .i64) 6)))))
set_option maxRecDepth 100000 in
theorem s_laws_markCopyRes : sxF c_laws_markCopyRes Try.f53 p_laws_markCopyRes = some t_laws_markCopyRes := by kernel_rfl
theorem e_laws_markCopyRes (xs : Array Value) (w : World) : (callFunc F_laws_markCopyRes xs).runT Try.prog w #[] = (.ok (.enter F_laws_markCopyRes xs) w, #[]) := ent_of Try.func53 (by kernel_rfl) (by kernel_rfl) xs w
theorem run_laws_markCopyRes {S : Nat → Prop} {h : Eng.Heap} {Q : Value → Eng.Heap → Prop} {vs : List Value} (hsh : shOk (resShs p_laws_markCopyRes) vs) (hi : Inv S h) (hw : t_laws_markCopyRes.wp Try.prog S noLeaf Q vs h []) : CallsH Try.prog S F_laws_markCopyRes (argVals p_laws_markCopyRes vs) h Q :=
  sxF_ok (cfg := c_laws_markCopyRes) tabWCOk mixedWC Try.func53 rfl s_laws_markCopyRes e_laws_markCopyRes rfl hsh hi hw
/- function 54 -/
def c_laws_heldCopyRes : Cfg := ⟨tabWC, [], [], [.tmp 4]⟩
def p_laws_heldCopyRes : List (Bool × List Sh) := [(true, [.bool, .slice, .int .i64, .slice]), (false, [.int .i64])]
set_option maxRecDepth 100000 in
def t_laws_heldCopyRes : Tr :=
(.call F_laws_heldByteS [(.x (.var (.slice) 1)), (.x (.var (.int .i64) 4))] false [(false, [.int .i64])]
(.lift (.br (.cm .lss (.var (.int .i64) 5) (.cst (.int .i64 0)))
 (.ret (.x (.cst (.int .i64 (-1)))))
 (.call F_laws_heldWindow [(.agg [(.var (.int .i64) 2), (.var (.slice) 3)]), (.x (.var (.int .i64) 5))] false [(false, [.int .i64])]
 (.lift (.br (.cm .lss (.var (.int .i64) 6) (.cst (.int .i64 0)))
  (.ret (.x (.cst (.int .i64 (-1)))))
  (.ret (.x (.var (.int .i64) 6)))))))))
set_option maxRecDepth 100000 in
theorem s_laws_heldCopyRes : sxF c_laws_heldCopyRes Try.f54 p_laws_heldCopyRes = some t_laws_heldCopyRes := by kernel_rfl
theorem e_laws_heldCopyRes (xs : Array Value) (w : World) : (callFunc F_laws_heldCopyRes xs).runT Try.prog w #[] = (.ok (.enter F_laws_heldCopyRes xs) w, #[]) := ent_of Try.func54 (by kernel_rfl) (by kernel_rfl) xs w
theorem run_laws_heldCopyRes {S : Nat → Prop} {h : Eng.Heap} {Q : Value → Eng.Heap → Prop} {vs : List Value} (hsh : shOk (resShs p_laws_heldCopyRes) vs) (hi : Inv S h) (hw : t_laws_heldCopyRes.wp Try.prog S noLeaf Q vs h []) : CallsH Try.prog S F_laws_heldCopyRes (argVals p_laws_heldCopyRes vs) h Q :=
  sxF_ok (cfg := c_laws_heldCopyRes) tabWCOk mixedWC Try.func54 rfl s_laws_heldCopyRes e_laws_heldCopyRes rfl hsh hi hw
/- function 102 -/
def c_impl_ring__repeat : Cfg := ⟨tabWC, [⟨3, [7, 11], [], [8, 12, 13, 14, 15, 16, 17, 18, 19, 20, 21, 22, 23, 24]⟩], [], [.tmp 6]⟩
def p_impl_ring__repeat : List (Bool × List Sh) := [(false, [.ptr]), (false, [.int .i64]), (false, [.int .i64])]
set_option maxRecDepth 100000 in
def t_impl_ring__repeat : Tr :=
(.hsl 5 0 []
(.loop [.slice, .int .i64] [(.var (.slice) 3), (.cst (.int .i64 0))]
 (.lift (.br (.cm .lss (.var (.int .i64) 5) (.var (.int .i64) 2))
  (.call F_impl_ring__back [(.x (.var (.ptr) 0)), (.x (.var (.int .i64) 1))] false [(false, [.int .u8])]
  (.hsl 5 1 [(.var (.int .u8) 6)]
  (.app 5 1 1 [(.int .u8 0)] (.var (.slice) 4) (.var (.slice) 7)
  (.hsl 5 1 [(.var (.int .u8) 6)]
  (.call F_impl_ring__put [(.x (.var (.ptr) 0)), (.x (.var (.slice) 9))] true []
  (.cont 0 [(.var (.slice) 8), (.ar .add .i64 (.var (.int .i64) 5) (.cst (.int .i64 1)))]))))))
  (.ret (.x (.var (.slice) 4)))))))
set_option maxRecDepth 100000 in
theorem s_impl_ring__repeat : sxF c_impl_ring__repeat Try.f102 p_impl_ring__repeat = some t_impl_ring__repeat := by kernel_rfl
theorem e_impl_ring__repeat (xs : Array Value) (w : World) : (callFunc F_impl_ring__repeat xs).runT Try.prog w #[] = (.ok (.enter F_impl_ring__repeat xs) w, #[]) := ent_of Try.func102 (by kernel_rfl) (by kernel_rfl) xs w
theorem run_impl_ring__repeat {S : Nat → Prop} {h : Eng.Heap} {Q : Value → Eng.Heap → Prop} {vs : List Value} (hsh : shOk (resShs p_impl_ring__repeat) vs) (hi : Inv S h) (hw : t_impl_ring__repeat.wp Try.prog S noLeaf Q vs h []) : CallsH Try.prog S F_impl_ring__repeat (argVals p_impl_ring__repeat vs) h Q :=
  sxF_ok (cfg := c_impl_ring__repeat) tabWCOk mixedWC Try.func102 rfl s_impl_ring__repeat e_impl_ring__repeat rfl hsh hi hw
/- function 125 -/
def c_impl_ring__back : Cfg := ⟨tabWC, [], [], [.tmp 4]⟩
def p_impl_ring__back : List (Bool × List Sh) := [(false, [.ptr]), (false, [.int .i64])]
set_option maxRecDepth 100000 in
def t_impl_ring__back : Tr :=
(.need (.nt (.nn (.var (.ptr) 0)))
(.load (.fld (.nz (.var (.ptr) 0)) 32769) [.int .i64]
(.need (.nt (.nn (.var (.ptr) 0)))
(.load (.fld (.nz (.var (.ptr) 0)) 0) [.int .i64]
(.need (.nt (.nn (.var (.ptr) 0)))
(.load (.fld (.nz (.var (.ptr) 0)) 0) [.int .i64]
(.need (.cm .neq (.var (.int .i64) 4) (.cst (.int .i64 0)))
(.need (.nt (.nn (.var (.ptr) 0)))
(.need (.cm .leq (.cst (.int .i64 0)) (.ar .rem .i64 (.ar .add .i64 (.ar .sub .i64 (.var (.int .i64) 2) (.var (.int .i64) 1)) (.var (.int .i64) 3)) (.var (.int .i64) 4)))
(.need (.cm .lss (.ar .rem .i64 (.ar .add .i64 (.ar .sub .i64 (.var (.int .i64) 2) (.var (.int .i64) 1)) (.var (.int .i64) 3)) (.var (.int .i64) 4)) (.cst (.int .i64 32768)))
(.load (.ia 1 (.fld (.nz (.var (.ptr) 0)) 1) (.ar .rem .i64 (.ar .add .i64 (.ar .sub .i64 (.var (.int .i64) 2) (.var (.int .i64) 1)) (.var (.int .i64) 3)) (.var (.int .i64) 4))) [.int .u8]
(.ret (.x (.var (.int .u8) 5))))))))))))))
set_option maxRecDepth 100000 in
theorem s_impl_ring__back : sxF c_impl_ring__back Try.f125 p_impl_ring__back = some t_impl_ring__back := by kernel_rfl
theorem e_impl_ring__back (xs : Array Value) (w : World) : (callFunc F_impl_ring__back xs).runT Try.prog w #[] = (.ok (.enter F_impl_ring__back xs) w, #[]) := ent_of Try.func125 (by kernel_rfl) (by kernel_rfl) xs w
theorem run_impl_ring__back {S : Nat → Prop} {h : Eng.Heap} {Q : Value → Eng.Heap → Prop} {vs : List Value} (hsh : shOk (resShs p_impl_ring__back) vs) (hi : Inv S h) (hw : t_impl_ring__back.wp Try.prog S noLeaf Q vs h []) : CallsH Try.prog S F_impl_ring__back (argVals p_impl_ring__back vs) h Q :=
  sxF_ok (cfg := c_impl_ring__back) tabWCOk mixedWC Try.func125 rfl s_impl_ring__back e_impl_ring__back rfl hsh hi hw
end Go.Proofs.Ytchlnichbaoeaaa
