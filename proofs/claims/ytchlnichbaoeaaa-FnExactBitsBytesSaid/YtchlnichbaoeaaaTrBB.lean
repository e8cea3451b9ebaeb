-- printed by a generator of my own (wip/eng/Gen) from the translation
import Derived.Test.YtchlnichbaoeaaaEng2
import Derived.Test.YtchlnichbaoeaaaChecked
import Derived.Test.YtchlnichbaoeaaaNums
set_option linter.unusedVariables false
set_option linter.unusedSimpArgs false
namespace Go.Proofs.Ytchlnichbaoeaaa
open Go Go.Eng
def tabBB : List (TypeId × TyD) := [(0, ⟨.oth, 1, 0, [], none, some []⟩),
  (2, ⟨(.int .i64), 1, 8, [.int .i64], some [(1, (.int .i64 0))], none⟩),
  (3, ⟨(.int .i64), 1, 8, [.int .i64], some [(1, (.int .i64 0))], none⟩),
  (4, ⟨.bool, 1, 1, [.bool], some [(1, (.bool false))], none⟩),
  (5, ⟨(.int .u8), 1, 1, [.int .u8], some [(1, (.int .u8 0))], none⟩),
  (22, ⟨(.sl 5), 1, 24, [.slice], some [(1, .nilSl)], none⟩),
  (46, ⟨(.st [(0, 22), (1, 2), (2, 2)]), 3, 40, [.slice, .int .i64, .int .i64], some [(1, .nilSl), (2, (.int .i64 0))], none⟩),
  (48, ⟨(.st [(0, 22), (1, 2), (2, 2)]), 3, 40, [.slice, .int .i64, .int .i64], some [(1, .nilSl), (2, (.int .i64 0))], none⟩),
  (62, ⟨(.st [(0, 4), (1, 22), (2, 48)]), 5, 72, [.bool, .slice, .slice, .int .i64, .int .i64], some [(1, (.bool false)), (2, .nilSl), (2, (.int .i64 0))], none⟩),
  (116, ⟨(.st [(0, 22), (1, 2), (2, 2)]), 3, 40, [.slice, .int .i64, .int .i64], some [(1, .nilSl), (2, (.int .i64 0))], none⟩),
  (125, ⟨(.st [(0, 116)]), 3, 40, [.slice, .int .i64, .int .i64], some [(1, .nilSl), (2, (.int .i64 0))], none⟩),
  (156, ⟨(.ptr 125), 1, 8, [.ptr], some [(1, .nilPtr)], none⟩)]
set_option maxRecDepth 100000 in
theorem tabBBOk : TabOk Try.prog tabBB := tabOk_of (by kernel_rfl)
theorem mixedBB : Try.prog.follows .mixedOrders = true := by kernel_rfl
/- function 8 -/
def c_laws_FnExactBitsBytes : Cfg := ⟨tabBB, [], [], [.tmp 4]⟩
def p_laws_FnExactBitsBytes : List (Bool × List Sh) := [(true, [.slice, .int .i64, .int .i64]), (false, [.int .i64])]
set_option maxRecDepth 100000 in
def t_laws_FnExactBitsBytes : Tr :=
(.call F_laws_szBits [(.agg [(.var (.slice) 0), (.var (.int .i64) 1), (.var (.int .i64) 2)]), (.x (.cst (.int .i64 1048576)))] false [(false, [.int .i64])]
(.lift (.br (.cm .lss (.var (.int .i64) 4) (.cst (.int .i64 0)))
 (.ret (.x (.cst (.bool true))))
 (.call F_laws_toBits [(.agg [(.var (.slice) 0), (.var (.int .i64) 1), (.var (.int .i64) 2)])] false [(true, [.slice, .int .i64, .int .i64])]
 (.call F_spec_BitsBytes [(.agg [(.var (.slice) 5), (.var (.int .i64) 6), (.var (.int .i64) 7)]), (.x (.var (.int .i64) 3))] false [(true, [.bool, .slice, .slice, .int .i64, .int .i64])]
 (.call F_laws_toBits [(.agg [(.var (.slice) 0), (.var (.int .i64) 1), (.var (.int .i64) 2)])] false [(true, [.slice, .int .i64, .int .i64])]
 (.call F_impl_BitsBytes [(.agg [(.var (.slice) 13), (.var (.int .i64) 14), (.var (.int .i64) 15)]), (.x (.var (.int .i64) 3))] false [(true, [.bool, .slice, .slice, .int .i64, .int .i64])]
 (.call F_laws_eqByteRes [(.agg [(.var (.bool) 16), (.var (.slice) 17), (.var (.slice) 18), (.var (.int .i64) 19), (.var (.int .i64) 20)]), (.agg [(.var (.bool) 8), (.var (.slice) 9), (.var (.slice) 10), (.var (.int .i64) 11), (.var (.int .i64) 12)])] false [(false, [.bool])]
 (.lift (.br (.nt (.var (.bool) 21))
  (.ret (.x (.cst (.bool false))))
  (.call F_laws_toBits [(.agg [(.var (.slice) 0), (.var (.int .i64) 1), (.var (.int .i64) 2)])] false [(true, [.slice, .int .i64, .int .i64])]
  (.call F_laws_eqBits [(.agg [(.var (.slice) 13), (.var (.int .i64) 14), (.var (.int .i64) 15)]), (.agg [(.var (.slice) 22), (.var (.int .i64) 23), (.var (.int .i64) 24)])] false [(false, [.bool])]
  (.lift (.br (.nt (.var (.bool) 25))
   (.ret (.x (.cst (.bool false))))
   (.call F_laws_markBits [(.agg [(.var (.slice) 13), (.var (.int .i64) 14), (.var (.int .i64) 15)]), (.x (.cst (.int .i64 1)))] false [(false, [.int .i64])]
   (.join [.bool]
    (.br (.nt (.cm .lss (.var (.int .i64) 26) (.cst (.int .i64 0))))
     (.call F_laws_eqByteRes [(.agg [(.var (.bool) 16), (.var (.slice) 17), (.var (.slice) 18), (.var (.int .i64) 19), (.var (.int .i64) 20)]), (.agg [(.var (.bool) 8), (.var (.slice) 9), (.var (.slice) 10), (.var (.int .i64) 11), (.var (.int .i64) 12)])] false [(false, [.bool])]
     (.cont 3 [(.nt (.var (.bool) 27))]))
     (.cont 3 [(.cst (.bool true))]))
    (.lift (.br (.var (.bool) 27)
     (.ret (.x (.cst (.bool false))))
     (.call F_laws_markByteRes [(.agg [(.var (.bool) 16), (.var (.slice) 17), (.var (.slice) 18), (.var (.int .i64) 19), (.var (.int .i64) 20)]), (.x (.cst (.int .i64 1)))] false [(false, [.int .i64])]
     (.call F_laws_heldByteRes [(.agg [(.var (.bool) 16), (.var (.slice) 17), (.var (.slice) 18), (.var (.int .i64) 19), (.var (.int .i64) 20)]), (.x (.cst (.int .i64 1)))] false [(false, [.int .i64])]
     (.lift (.br (.cm .lss (.var (.int .i64) 29) (.cst (.int .i64 0)))
      (.ret (.x (.cst (.bool false))))
      (.lift (.br (.cm .neq (.var (.int .i64) 29) (.var (.int .i64) 28))
       (.ret (.x (.cst (.bool false))))
       (.call F_laws_toBits [(.agg [(.var (.slice) 0), (.var (.int .i64) 1), (.var (.int .i64) 2)])] false [(true, [.slice, .int .i64, .int .i64])]
       (.call F_impl_BitsBytes [(.agg [(.var (.slice) 30), (.var (.int .i64) 31), (.var (.int .i64) 32)]), (.x (.var (.int .i64) 3))] false [(true, [.bool, .slice, .slice, .int .i64, .int .i64])]
       (.call F_laws_eqByteRes [(.agg [(.var (.bool) 33), (.var (.slice) 34), (.var (.slice) 35), (.var (.int .i64) 36), (.var (.int .i64) 37)]), (.agg [(.var (.bool) 8), (.var (.slice) 9), (.var (.slice) 10), (.var (.int .i64) 11), (.var (.int .i64) 12)])] false [(false, [.bool])]
       (.lift (.br (.nt (.var (.bool) 38))
        (.ret (.x (.cst (.bool false))))
        (.call F_laws_heldByteRes [(.agg [(.var (.bool) 16), (.var (.slice) 17), (.var (.slice) 18), (.var (.int .i64) 19), (.var (.int .i64) 20)]), (.x (.cst (.int .i64 1)))] false [(false, [.int .i64])]
        (.lift (.br (.cm .lss (.var (.int .i64) 39) (.cst (.int .i64 0)))
         (.ret (.x (.cst (.bool false))))
         (.lift (.br (.cm .neq (.var (.int .i64) 39) (.var (.int .i64) 28))
          (.ret (.x (.cst (.bool false))))
          (.ret (.x (.cst (.bool true))))))))))))))))))))))))))))))))))))))
set_option maxRecDepth 100000 in
theorem s_laws_FnExactBitsBytes : sxF c_laws_FnExactBitsBytes Try.f8 p_laws_FnExactBitsBytes = some t_laws_FnExactBitsBytes := by kernel_rfl
theorem e_laws_FnExactBitsBytes (xs : Array Value) (w : World) : (callFunc F_laws_FnExactBitsBytes xs).runT Try.prog w #[] = (.ok (.enter F_laws_FnExactBitsBytes xs) w, #[]) := ent_of Try.func8 (by kernel_rfl) (by kernel_rfl) xs w
theorem run_laws_FnExactBitsBytes {S : Nat → Prop} {h : Eng.Heap} {Q : Value → Eng.Heap → Prop} {vs : List Value} (hsh : shOk (resShs p_laws_FnExactBitsBytes) vs) (hi : Inv S h) (hw : t_laws_FnExactBitsBytes.wp Try.prog S noLeaf Q vs h []) : CallsH Try.prog S F_laws_FnExactBitsBytes (argVals p_laws_FnExactBitsBytes vs) h Q :=
  sxF_ok (cfg := c_laws_FnExactBitsBytes) tabBBOk mixedBB Try.func8 rfl s_laws_FnExactBitsBytes e_laws_FnExactBitsBytes rfl hsh hi hw
/- function 45 -/
def c_spec_BitsBytes : Cfg := ⟨tabBB, [], [], [.cell 4 62]⟩
def p_spec_BitsBytes : List (Bool × List Sh) := [(true, [.slice, .int .i64, .int .i64]), (false, [.int .i64])]
set_option maxRecDepth 100000 in
def t_spec_BitsBytes : Tr :=
(.call F_spec_ValidBits [(.agg [(.var (.slice) 0), (.var (.int .i64) 1), (.var (.int .i64) 2)])] false [(false, [.bool])]
(.lift (.br (.nt (.var (.bool) 4))
 (.ret (.agg [(.cst (.bool false)), (.cst .nilSl), (.cst .nilSl), (.cst (.int .i64 0)), (.cst (.int .i64 0))]))
 (.join [.bool]
  (.br (.nt (.it (.it (.cm .neq (.var (.int .i64) 1) (.cst (.int .i64 0))) (.cst (.bool true)) (.cm .lss (.var (.int .i64) 3) (.cst (.int .i64 0)))) (.cst (.bool true)) (.cm .gtr (.var (.int .i64) 3) (.ln (.var (.slice) 0)))))
   (.call F_spec_l2Has [(.agg [(.var (.slice) 0), (.var (.int .i64) 1), (.var (.int .i64) 2)]), (.x (.ar .mul .i64 (.cst (.int .i64 8)) (.var (.int .i64) 3)))] false [(false, [.bool])]
   (.cont 1 [(.nt (.var (.bool) 5))]))
   (.cont 1 [(.cst (.bool true))]))
  (.lift (.br (.var (.bool) 5)
   (.call F_spec_l2Copy [(.agg [(.var (.slice) 0), (.var (.int .i64) 1), (.var (.int .i64) 2)])] false [(true, [.slice, .int .i64, .int .i64])]
   (.ret (.agg [(.cst (.bool false)), (.cst .nilSl), (.var (.slice) 6), (.var (.int .i64) 7), (.var (.int .i64) 8)])))
   (.need (.cm .leq (.cst (.int .i64 0)) (.var (.int .i64) 3))
   (.need (.cm .leq (.var (.int .i64) 3) (.cp (.var (.slice) 0)))
   (.hsl 5 0 []
   (.app 5 1 1 [(.int .u8 0)] (.var (.slice) 6) (.sub 1 (.var (.slice) 0) .nl (.var (.int .i64) 3) .nl)
   (.call F_spec_l2Skip [(.agg [(.var (.slice) 0), (.var (.int .i64) 1), (.var (.int .i64) 2)]), (.x (.ar .mul .i64 (.cst (.int .i64 8)) (.var (.int .i64) 3)))] false [(true, [.slice, .int .i64, .int .i64])]
   (.ret (.agg [(.cst (.bool true)), (.var (.slice) 7), (.var (.slice) 8), (.var (.int .i64) 9), (.var (.int .i64) 10)])))))))))))))
set_option maxRecDepth 100000 in
theorem s_spec_BitsBytes : sxF c_spec_BitsBytes Try.f45 p_spec_BitsBytes = some t_spec_BitsBytes := by kernel_rfl
theorem e_spec_BitsBytes (xs : Array Value) (w : World) : (callFunc F_spec_BitsBytes xs).runT Try.prog w #[] = (.ok (.enter F_spec_BitsBytes xs) w, #[]) := ent_of Try.func45 (by kernel_rfl) (by kernel_rfl) xs w
theorem run_spec_BitsBytes {S : Nat → Prop} {h : Eng.Heap} {Q : Value → Eng.Heap → Prop} {vs : List Value} (hsh : shOk (resShs p_spec_BitsBytes) vs) (hi : Inv S h) (hw : t_spec_BitsBytes.wp Try.prog S noLeaf Q vs h []) : CallsH Try.prog S F_spec_BitsBytes (argVals p_spec_BitsBytes vs) h Q :=
  sxF_ok (cfg := c_spec_BitsBytes) tabBBOk mixedBB Try.func45 rfl s_spec_BitsBytes e_spec_BitsBytes rfl hsh hi hw
/- function 46 -/
def c_impl_BitsBytes : Cfg := ⟨tabBB, [], [5], [.cell 4 62]⟩
def p_impl_BitsBytes : List (Bool × List Sh) := [(true, [.slice, .int .i64, .int .i64]), (false, [.int .i64])]
set_option maxRecDepth 100000 in
def t_impl_BitsBytes : Tr :=
(.call F_impl_ValidBits [(.agg [(.var (.slice) 0), (.var (.int .i64) 1), (.var (.int .i64) 2)])] false [(false, [.bool])]
(.lift (.br (.nt (.var (.bool) 4))
 (.ret (.agg [(.cst (.bool false)), (.cst .nilSl), (.cst .nilSl), (.cst (.int .i64 0)), (.cst (.int .i64 0))]))
 (.call F_impl_sourceOf [(.agg [(.var (.slice) 0), (.var (.int .i64) 1), (.var (.int .i64) 2)])] false [(true, [.slice, .int .i64, .int .i64])]
 (.hall 125 [(1, (.cst .nilSl)), (2, (.cst (.int .i64 0)))]
 (.hsto (.var (.addr) 8) [(.var (.slice) 5), (.var (.int .i64) 6), (.var (.int .i64) 7)]
 (.join [.int .i64, .bool, .bool, .bool, .bool, .bool, .bool, .bool]
  (.load (.fld (.fld (.var (.addr) 8) 0) 1) [.int .i64]
  (.br (.nt (.it (.cm .neq (.var (.int .i64) 9) (.cst (.int .i64 0))) (.cst (.bool true)) (.cm .lss (.var (.int .i64) 3) (.cst (.int .i64 0)))))
   (.load (.fld (.fld (.var (.addr) 8) 0) 0) [.slice]
   (.br (.nt (.cm .gtr (.var (.int .i64) 3) (.ln (.var (.slice) 10))))
    (.call F_impl_source__left [(.x (.fld (.var (.addr) 8) 0))] false [(false, [.int .i64])]
    (.cont 1 [(.var (.int .i64) 9), (.cm .neq (.var (.int .i64) 9) (.cst (.int .i64 0))), (.cm .neq (.var (.int .i64) 9) (.cst (.int .i64 0))), (.it (.cm .neq (.var (.int .i64) 9) (.cst (.int .i64 0))) (.cst (.bool true)) (.cm .lss (.var (.int .i64) 3) (.cst (.int .i64 0)))), (.it (.cm .neq (.var (.int .i64) 9) (.cst (.int .i64 0))) (.cst (.bool true)) (.cm .lss (.var (.int .i64) 3) (.cst (.int .i64 0)))), (.cm .gtr (.var (.int .i64) 3) (.ln (.var (.slice) 10))), (.cm .gtr (.var (.int .i64) 3) (.ln (.var (.slice) 10))), (.cm .gtr (.ar .mul .i64 (.cst (.int .i64 8)) (.var (.int .i64) 3)) (.var (.int .i64) 11))]))
    (.cont 1 [(.var (.int .i64) 9), (.cm .neq (.var (.int .i64) 9) (.cst (.int .i64 0))), (.cm .neq (.var (.int .i64) 9) (.cst (.int .i64 0))), (.it (.cm .neq (.var (.int .i64) 9) (.cst (.int .i64 0))) (.cst (.bool true)) (.cm .lss (.var (.int .i64) 3) (.cst (.int .i64 0)))), (.it (.cm .neq (.var (.int .i64) 9) (.cst (.int .i64 0))) (.cst (.bool true)) (.cm .lss (.var (.int .i64) 3) (.cst (.int .i64 0)))), (.cm .gtr (.var (.int .i64) 3) (.ln (.var (.slice) 10))), (.cm .gtr (.var (.int .i64) 3) (.ln (.var (.slice) 10))), (.cst (.bool true))])))
   (.cont 1 [(.var (.int .i64) 9), (.cm .neq (.var (.int .i64) 9) (.cst (.int .i64 0))), (.cm .neq (.var (.int .i64) 9) (.cst (.int .i64 0))), (.it (.cm .neq (.var (.int .i64) 9) (.cst (.int .i64 0))) (.cst (.bool true)) (.cm .lss (.var (.int .i64) 3) (.cst (.int .i64 0)))), (.it (.cm .neq (.var (.int .i64) 9) (.cst (.int .i64 0))) (.cst (.bool true)) (.cm .lss (.var (.int .i64) 3) (.cst (.int .i64 0)))), (.cst (.bool true)), (.cst (.bool true)), (.cst (.bool true))])))
  (.lift (.br (.var (.bool) 16)
   (.load (.fld (.var (.addr) 8) 0) [.slice, .int .i64, .int .i64]
   (.call F_impl_source__bits [(.agg [(.var (.slice) 17), (.var (.int .i64) 18), (.var (.int .i64) 19)])] false [(true, [.slice, .int .i64, .int .i64])]
   (.ret (.agg [(.cst (.bool false)), (.cst .nilSl), (.var (.slice) 20), (.var (.int .i64) 21), (.var (.int .i64) 22)]))))
   (.call F_impl_byteReader__take [(.x (.var (.addr) 8)), (.x (.var (.int .i64) 3))] false [(false, [.slice])]
   (.load (.fld (.var (.addr) 8) 0) [.slice, .int .i64, .int .i64]
   (.call F_impl_source__bits [(.agg [(.var (.slice) 18), (.var (.int .i64) 19), (.var (.int .i64) 20)])] false [(true, [.slice, .int .i64, .int .i64])]
   (.ret (.agg [(.cst (.bool true)), (.var (.slice) 17), (.var (.slice) 21), (.var (.int .i64) 22), (.var (.int .i64) 23)]))))))))))))))
set_option maxRecDepth 100000 in
theorem s_impl_BitsBytes : sxF c_impl_BitsBytes Try.f46 p_impl_BitsBytes = some t_impl_BitsBytes := by kernel_rfl
theorem e_impl_BitsBytes (xs : Array Value) (w : World) : (callFunc F_impl_BitsBytes xs).runT Try.prog w #[] = (.ok (.enter F_impl_BitsBytes xs) w, #[]) := ent_of Try.func46 (by kernel_rfl) (by kernel_rfl) xs w
theorem run_impl_BitsBytes {S : Nat → Prop} {h : Eng.Heap} {Q : Value → Eng.Heap → Prop} {vs : List Value} (hsh : shOk (resShs p_impl_BitsBytes) vs) (hi : Inv S h) (hw : t_impl_BitsBytes.wp Try.prog S noLeaf Q vs h []) : CallsH Try.prog S F_impl_BitsBytes (argVals p_impl_BitsBytes vs) h Q :=
  sxF_ok (cfg := c_impl_BitsBytes) tabBBOk mixedBB Try.func46 rfl s_impl_BitsBytes e_impl_BitsBytes rfl hsh hi hw
/- function 47 -/
def c_laws_eqByteRes : Cfg := ⟨tabBB, [], [], [.tmp 4]⟩
def p_laws_eqByteRes : List (Bool × List Sh) := [(true, [.bool, .slice, .slice, .int .i64, .int .i64]), (true, [.bool, .slice, .slice, .int .i64, .int .i64])]
set_option maxRecDepth 100000 in
def t_laws_eqByteRes : Tr :=
(.lift (.br (.nt (.bq (.var (.bool) 0) (.var (.bool) 5)))
 (.ret (.x (.cst (.bool false))))
 (.call F_laws_eqByteS [(.x (.var (.slice) 1)), (.x (.var (.slice) 6))] false [(false, [.bool])]
 (.lift (.br (.nt (.var (.bool) 10))
  (.ret (.x (.cst (.bool false))))
  (.call F_laws_eqBits [(.agg [(.var (.slice) 2), (.var (.int .i64) 3), (.var (.int .i64) 4)]), (.agg [(.var (.slice) 7), (.var (.int .i64) 8), (.var (.int .i64) 9)])] false [(false, [.bool])]
  (.lift (.br (.nt (.var (.bool) 11))
   (.ret (.x (.cst (.bool false))))
   (.ret (.x (.cst (.bool true))))))))))))
set_option maxRecDepth 100000 in
theorem s_laws_eqByteRes : sxF c_laws_eqByteRes Try.f47 p_laws_eqByteRes = some t_laws_eqByteRes := by kernel_rfl
theorem e_laws_eqByteRes (xs : Array Value) (w : World) : (callFunc F_laws_eqByteRes xs).runT Try.prog w #[] = (.ok (.enter F_laws_eqByteRes xs) w, #[]) := ent_of Try.func47 (by kernel_rfl) (by kernel_rfl) xs w
theorem run_laws_eqByteRes {S : Nat → Prop} {h : Eng.Heap} {Q : Value → Eng.Heap → Prop} {vs : List Value} (hsh : shOk (resShs p_laws_eqByteRes) vs) (hi : Inv S h) (hw : t_laws_eqByteRes.wp Try.prog S noLeaf Q vs h []) : CallsH Try.prog S F_laws_eqByteRes (argVals p_laws_eqByteRes vs) h Q :=
  sxF_ok (cfg := c_laws_eqByteRes) tabBBOk mixedBB Try.func47 rfl s_laws_eqByteRes e_laws_eqByteRes rfl hsh hi hw
/- function 48 -/
def c_laws_markByteRes : Cfg := ⟨tabBB, [], [], [.tmp 4]⟩
def p_laws_markByteRes : List (Bool × List Sh) := [(true, [.bool, .slice, .slice, .int .i64, .int .i64]), (false, [.int .i64])]
set_option maxRecDepth 100000 in
def t_laws_markByteRes : Tr :=
(.call F_laws_markByteS [(.x (.var (.slice) 1)), (.x (.var (.int .i64) 5))] false [(false, [.int .i64])]
(.call F_laws_markBits [(.agg [(.var (.slice) 2), (.var (.int .i64) 3), (.var (.int .i64) 4)]), (.x (.var (.int .i64) 6))] false [(false, [.int .i64])]
(.ret (.x (.var (.int .i64) 7)))))
set_option maxRecDepth 100000 in
theorem s_laws_markByteRes : sxF c_laws_markByteRes Try.f48 p_laws_markByteRes = some t_laws_markByteRes := by kernel_rfl
theorem e_laws_markByteRes (xs : Array Value) (w : World) : (callFunc F_laws_markByteRes xs).runT Try.prog w #[] = (.ok (.enter F_laws_markByteRes xs) w, #[]) := ent_of Try.func48 (by kernel_rfl) (by kernel_rfl) xs w
theorem run_laws_markByteRes {S : Nat → Prop} {h : Eng.Heap} {Q : Value → Eng.Heap → Prop} {vs : List Value} (hsh : shOk (resShs p_laws_markByteRes) vs) (hi : Inv S h) (hw : t_laws_markByteRes.wp Try.prog S noLeaf Q vs h []) : CallsH Try.prog S F_laws_markByteRes (argVals p_laws_markByteRes vs) h Q :=
  sxF_ok (cfg := c_laws_markByteRes) tabBBOk mixedBB Try.func48 rfl s_laws_markByteRes e_laws_markByteRes rfl hsh hi hw
/- function 49 -/
def c_laws_heldByteRes : Cfg := ⟨tabBB, [], [], [.tmp 4]⟩
def p_laws_heldByteRes : List (Bool × List Sh) := [(true, [.bool, .slice, .slice, .int .i64, .int .i64]), (false, [.int .i64])]
set_option maxRecDepth 100000 in
def t_laws_heldByteRes : Tr :=
(.call F_laws_heldByteS [(.x (.var (.slice) 1)), (.x (.var (.int .i64) 5))] false [(false, [.int .i64])]
(.lift (.br (.cm .lss (.var (.int .i64) 6) (.cst (.int .i64 0)))
 (.ret (.x (.cst (.int .i64 (-1)))))
 (.call F_laws_heldBits [(.agg [(.var (.slice) 2), (.var (.int .i64) 3), (.var (.int .i64) 4)]), (.x (.var (.int .i64) 6))] false [(false, [.int .i64])]
 (.lift (.br (.cm .lss (.var (.int .i64) 7) (.cst (.int .i64 0)))
  (.ret (.x (.cst (.int .i64 (-1)))))
  (.ret (.x (.var (.int .i64) 7)))))))))
set_option maxRecDepth 100000 in
theorem s_laws_heldByteRes : sxF c_laws_heldByteRes Try.f49 p_laws_heldByteRes = some t_laws_heldByteRes := by kernel_rfl
theorem e_laws_heldByteRes (xs : Array Value) (w : World) : (callFunc F_laws_heldByteRes xs).runT Try.prog w #[] = (.ok (.enter F_laws_heldByteRes xs) w, #[]) := ent_of Try.func49 (by kernel_rfl) (by kernel_rfl) xs w
theorem run_laws_heldByteRes {S : Nat → Prop} {h : Eng.Heap} {Q : Value → Eng.Heap → Prop} {vs : List Value} (hsh : shOk (resShs p_laws_heldByteRes) vs) (hi : Inv S h) (hw : t_laws_heldByteRes.wp Try.prog S noLeaf Q vs h []) : CallsH Try.prog S F_laws_heldByteRes (argVals p_laws_heldByteRes vs) h Q :=
  sxF_ok (cfg := c_laws_heldByteRes) tabBBOk mixedBB Try.func49 rfl s_laws_heldByteRes e_laws_heldByteRes rfl hsh hi hw
/- function 101 -/
def c_impl_byteReader__take : Cfg := ⟨tabBB, [], [], [.tmp 4]⟩
def p_impl_byteReader__take : List (Bool × List Sh) := [(false, [.ptr]), (false, [.int .i64])]
set_option maxRecDepth 100000 in
def t_impl_byteReader__take : Tr :=
(.hsl 5 0 []
(.need (.nt (.nn (.var (.ptr) 0)))
(.load (.fld (.fld (.nz (.var (.ptr) 0)) 0) 0) [.slice]
(.need (.cm .leq (.cst (.int .i64 0)) (.var (.int .i64) 1))
(.need (.cm .leq (.var (.int .i64) 1) (.cp (.var (.slice) 3)))
(.app 5 1 1 [(.int .u8 0)] (.var (.slice) 2) (.sub 1 (.var (.slice) 3) .nl (.var (.int .i64) 1) .nl)
(.need (.nt (.nn (.var (.ptr) 0)))
(.call F_impl_source__skip [(.x (.fld (.nz (.var (.ptr) 0)) 0)), (.x (.ar .mul .i64 (.cst (.int .i64 8)) (.var (.int .i64) 1)))] true []
(.ret (.x (.var (.slice) 4)))))))))))
set_option maxRecDepth 100000 in
theorem s_impl_byteReader__take : sxF c_impl_byteReader__take Try.f101 p_impl_byteReader__take = some t_impl_byteReader__take := by kernel_rfl
theorem e_impl_byteReader__take (xs : Array Value) (w : World) : (callFunc F_impl_byteReader__take xs).runT Try.prog w #[] = (.ok (.enter F_impl_byteReader__take xs) w, #[]) := ent_of Try.func101 (by kernel_rfl) (by kernel_rfl) xs w
theorem run_impl_byteReader__take {S : Nat → Prop} {h : Eng.Heap} {Q : Value → Eng.Heap → Prop} {vs : List Value} (hsh : shOk (resShs p_impl_byteReader__take) vs) (hi : Inv S h) (hw : t_impl_byteReader__take.wp Try.prog S noLeaf Q vs h []) : CallsH Try.prog S F_impl_byteReader__take (argVals p_impl_byteReader__take vs) h Q :=
  sxF_ok (cfg := c_impl_byteReader__take) tabBBOk mixedBB Try.func101 rfl s_impl_byteReader__take e_impl_byteReader__take rfl hsh hi hw
end Go.Proofs.Ytchlnichbaoeaaa
