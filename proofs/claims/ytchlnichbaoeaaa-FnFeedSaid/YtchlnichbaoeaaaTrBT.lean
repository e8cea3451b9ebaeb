-- printed by a generator of my own (wip/eng/Gen) from the translation
import Derived.Test.YtchlnichbaoeaaaEng2
import Derived.Test.YtchlnichbaoeaaaChecked
import Derived.Test.YtchlnichbaoeaaaNums
set_option linter.unusedVariables false
set_option linter.unusedSimpArgs false
namespace Go.Proofs.Ytchlnichbaoeaaa
open Go Go.Eng
def tabBT : List (TypeId × TyD) := [(0, ⟨.oth, 1, 0, [], none, some []⟩),
  (2, ⟨(.int .i64), 1, 8, [.int .i64], some [(1, (.int .i64 0))], none⟩),
  (3, ⟨(.int .i64), 1, 8, [.int .i64], some [(1, (.int .i64 0))], none⟩),
  (4, ⟨.bool, 1, 1, [.bool], some [(1, (.bool false))], none⟩),
  (5, ⟨(.int .u8), 1, 1, [.int .u8], some [(1, (.int .u8 0))], none⟩),
  (22, ⟨(.sl 5), 1, 24, [.slice], some [(1, .nilSl)], none⟩),
  (46, ⟨(.st [(0, 22), (1, 2), (2, 2)]), 3, 40, [.slice, .int .i64, .int .i64], some [(1, .nilSl), (2, (.int .i64 0))], none⟩),
  (48, ⟨(.st [(0, 22), (1, 2), (2, 2)]), 3, 40, [.slice, .int .i64, .int .i64], some [(1, .nilSl), (2, (.int .i64 0))], none⟩),
  (54, ⟨(.int .u64), 1, 8, [.int .u64], some [(1, (.int .u64 0))], none⟩),
  (56, ⟨(.st [(0, 4), (1, 54), (2, 48)]), 5, 56, [.bool, .int .u64, .slice, .int .i64, .int .i64], some [(1, (.bool false)), (1, (.int .u64 0)), (1, .nilSl), (2, (.int .i64 0))], none⟩),
  (101, ⟨(.int .u64), 1, 8, [.int .u64], some [(1, (.int .u64 0))], none⟩),
  (116, ⟨(.st [(0, 22), (1, 2), (2, 2)]), 3, 40, [.slice, .int .i64, .int .i64], some [(1, .nilSl), (2, (.int .i64 0))], none⟩),
  (123, ⟨(.st [(0, 116)]), 3, 40, [.slice, .int .i64, .int .i64], some [(1, .nilSl), (2, (.int .i64 0))], none⟩),
  (155, ⟨(.ptr 123), 1, 8, [.ptr], some [(1, .nilPtr)], none⟩)]
set_option maxRecDepth 100000 in
theorem tabBTOk : TabOk Try.prog tabBT := tabOk_of (by kernel_rfl)
theorem mixedBT : Try.prog.follows .mixedOrders = true := by kernel_rfl
/- function 7 -/
def c_laws_FnExactBitsTake : Cfg := ⟨tabBT, [], [], [.tmp 4]⟩
def p_laws_FnExactBitsTake : List (Bool × List Sh) := [(true, [.slice, .int .i64, .int .i64]), (false, [.int .i64])]
set_option maxRecDepth 100000 in
def t_laws_FnExactBitsTake : Tr :=
(.call F_laws_szBits [(.agg [(.var (.slice) 0), (.var (.int .i64) 1), (.var (.int .i64) 2)]), (.x (.cst (.int .i64 1048576)))] false [(false, [.int .i64])]
(.lift (.br (.cm .lss (.var (.int .i64) 4) (.cst (.int .i64 0)))
 (.ret (.x (.cst (.bool true))))
 (.call F_laws_toBits [(.agg [(.var (.slice) 0), (.var (.int .i64) 1), (.var (.int .i64) 2)])] false [(true, [.slice, .int .i64, .int .i64])]
 (.call F_spec_BitsTake [(.agg [(.var (.slice) 5), (.var (.int .i64) 6), (.var (.int .i64) 7)]), (.x (.var (.int .i64) 3))] false [(true, [.bool, .int .u64, .slice, .int .i64, .int .i64])]
 (.call F_laws_toBits [(.agg [(.var (.slice) 0), (.var (.int .i64) 1), (.var (.int .i64) 2)])] false [(true, [.slice, .int .i64, .int .i64])]
 (.call F_impl_BitsTake [(.agg [(.var (.slice) 13), (.var (.int .i64) 14), (.var (.int .i64) 15)]), (.x (.var (.int .i64) 3))] false [(true, [.bool, .int .u64, .slice, .int .i64, .int .i64])]
 (.call F_laws_eqBitRes [(.agg [(.var (.bool) 16), (.var (.int .u64) 17), (.var (.slice) 18), (.var (.int .i64) 19), (.var (.int .i64) 20)]), (.agg [(.var (.bool) 8), (.var (.int .u64) 9), (.var (.slice) 10), (.var (.int .i64) 11), (.var (.int .i64) 12)])] false [(false, [.bool])]
 (.lift (.br (.nt (.var (.bool) 21))
  (.ret (.x (.cst (.bool false))))
  (.call F_laws_toBits [(.agg [(.var (.slice) 0), (.var (.int .i64) 1), (.var (.int .i64) 2)])] false [(true, [.slice, .int .i64, .int .i64])]
  (.call F_laws_eqBits [(.agg [(.var (.slice) 13), (.var (.int .i64) 14), (.var (.int .i64) 15)]), (.agg [(.var (.slice) 22), (.var (.int .i64) 23), (.var (.int .i64) 24)])] false [(false, [.bool])]
  (.lift (.br (.nt (.var (.bool) 25))
   (.ret (.x (.cst (.bool false))))
   (.call F_laws_markBits [(.agg [(.var (.slice) 13), (.var (.int .i64) 14), (.var (.int .i64) 15)]), (.x (.cst (.int .i64 1)))] false [(false, [.int .i64])]
   (.join [.bool]
    (.br (.nt (.cm .lss (.var (.int .i64) 26) (.cst (.int .i64 0))))
     (.call F_laws_eqBitRes [(.agg [(.var (.bool) 16), (.var (.int .u64) 17), (.var (.slice) 18), (.var (.int .i64) 19), (.var (.int .i64) 20)]), (.agg [(.var (.bool) 8), (.var (.int .u64) 9), (.var (.slice) 10), (.var (.int .i64) 11), (.var (.int .i64) 12)])] false [(false, [.bool])]
     (.cont 3 [(.nt (.var (.bool) 27))]))
     (.cont 3 [(.cst (.bool true))]))
    (.lift (.br (.var (.bool) 27)
     (.ret (.x (.cst (.bool false))))
     (.call F_laws_markBitRes [(.agg [(.var (.bool) 16), (.var (.int .u64) 17), (.var (.slice) 18), (.var (.int .i64) 19), (.var (.int .i64) 20)]), (.x (.cst (.int .i64 1)))] false [(false, [.int .i64])]
     (.call F_laws_heldBitRes [(.agg [(.var (.bool) 16), (.var (.int .u64) 17), (.var (.slice) 18), (.var (.int .i64) 19), (.var (.int .i64) 20)]), (.x (.cst (.int .i64 1)))] false [(false, [.int .i64])]
     (.lift (.br (.cm .lss (.var (.int .i64) 29) (.cst (.int .i64 0)))
      (.ret (.x (.cst (.bool false))))
      (.lift (.br (.cm .neq (.var (.int .i64) 29) (.var (.int .i64) 28))
       (.ret (.x (.cst (.bool false))))
       (.call F_laws_toBits [(.agg [(.var (.slice) 0), (.var (.int .i64) 1), (.var (.int .i64) 2)])] false [(true, [.slice, .int .i64, .int .i64])]
       (.call F_impl_BitsTake [(.agg [(.var (.slice) 30), (.var (.int .i64) 31), (.var (.int .i64) 32)]), (.x (.var (.int .i64) 3))] false [(true, [.bool, .int .u64, .slice, .int .i64, .int .i64])]
       (.call F_laws_eqBitRes [(.agg [(.var (.bool) 33), (.var (.int .u64) 34), (.var (.slice) 35), (.var (.int .i64) 36), (.var (.int .i64) 37)]), (.agg [(.var (.bool) 8), (.var (.int .u64) 9), (.var (.slice) 10), (.var (.int .i64) 11), (.var (.int .i64) 12)])] false [(false, [.bool])]
       (.lift (.br (.nt (.var (.bool) 38))
        (.ret (.x (.cst (.bool false))))
        (.call F_laws_heldBitRes [(.agg [(.var (.bool) 16), (.var (.int .u64) 17), (.var (.slice) 18), (.var (.int .i64) 19), (.var (.int .i64) 20)]), (.x (.cst (.int .i64 1)))] false [(false, [.int .i64])]
        (.lift (.br (.cm .lss (.var (.int .i64) 39) (.cst (.int .i64 0)))
         (.ret (.x (.cst (.bool false))))
         (.lift (.br (.cm .neq (.var (.int .i64) 39) (.var (.int .i64) 28))
          (.ret (.x (.cst (.bool false))))
          (.ret (.x (.cst (.bool true))))))))))))))))))))))))))))))))))))))
set_option maxRecDepth 100000 in
theorem s_laws_FnExactBitsTake : sxF c_laws_FnExactBitsTake Try.f7 p_laws_FnExactBitsTake = some t_laws_FnExactBitsTake := by kernel_rfl
theorem e_laws_FnExactBitsTake (xs : Array Value) (w : World) : (callFunc F_laws_FnExactBitsTake xs).runT Try.prog w #[] = (.ok (.enter F_laws_FnExactBitsTake xs) w, #[]) := ent_of Try.func7 (by kernel_rfl) (by kernel_rfl) xs w
theorem run_laws_FnExactBitsTake {S : Nat → Prop} {h : Eng.Heap} {Q : Value → Eng.Heap → Prop} {vs : List Value} (hsh : shOk (resShs p_laws_FnExactBitsTake) vs) (hi : Inv S h) (hw : t_laws_FnExactBitsTake.wp Try.prog S noLeaf Q vs h []) : CallsH Try.prog S F_laws_FnExactBitsTake (argVals p_laws_FnExactBitsTake vs) h Q :=
  sxF_ok (cfg := c_laws_FnExactBitsTake) tabBTOk mixedBT Try.func7 rfl s_laws_FnExactBitsTake e_laws_FnExactBitsTake rfl hsh hi hw
/- function 40 -/
def c_spec_BitsTake : Cfg := ⟨tabBT, [⟨7, [5, 6], [], [28, 29, 30, 31, 32, 33, 34, 35, 36, 37, 38, 39, 40, 41]⟩], [], [.cell 4 56]⟩
def p_spec_BitsTake : List (Bool × List Sh) := [(true, [.slice, .int .i64, .int .i64]), (false, [.int .i64])]
set_option maxRecDepth 100000 in
def t_spec_BitsTake : Tr :=
(.call F_spec_ValidBits [(.agg [(.var (.slice) 0), (.var (.int .i64) 1), (.var (.int .i64) 2)])] false [(false, [.bool])]
(.lift (.br (.nt (.var (.bool) 4))
 (.ret (.agg [(.cst (.bool false)), (.cst (.int .u64 0)), (.cst .nilSl), (.cst (.int .i64 0)), (.cst (.int .i64 0))]))
 (.join [.bool]
  (.br (.nt (.it (.cm .lss (.var (.int .i64) 3) (.cst (.int .i64 0))) (.cst (.bool true)) (.cm .gtr (.var (.int .i64) 3) (.cst (.int .i64 32)))))
   (.call F_spec_l2Has [(.agg [(.var (.slice) 0), (.var (.int .i64) 1), (.var (.int .i64) 2)]), (.x (.var (.int .i64) 3))] false [(false, [.bool])]
   (.cont 1 [(.nt (.var (.bool) 5))]))
   (.cont 1 [(.cst (.bool true))]))
  (.lift (.br (.var (.bool) 5)
   (.call F_spec_l2Copy [(.agg [(.var (.slice) 0), (.var (.int .i64) 1), (.var (.int .i64) 2)])] false [(true, [.slice, .int .i64, .int .i64])]
   (.ret (.agg [(.cst (.bool false)), (.cst (.int .u64 0)), (.var (.slice) 6), (.var (.int .i64) 7), (.var (.int .i64) 8)])))
   (.loop [.int .u64, .int .i64] [(.cst (.int .u64 0)), (.ar .sub .i64 (.var (.int .i64) 3) (.cst (.int .i64 1)))]
    (.lift (.br (.cm .geq (.var (.int .i64) 7) (.cst (.int .i64 0)))
     (.call F_spec_l2Bit [(.x (.var (.slice) 0)), (.x (.ar .add .i64 (.var (.int .i64) 1) (.var (.int .i64) 7)))] false [(false, [.int .u64])]
     (.cont 2 [(.ar .add .u64 (.ar .mul .u64 (.cst (.int .u64 2)) (.var (.int .u64) 6)) (.var (.int .u64) 8)), (.ar .sub .i64 (.var (.int .i64) 7) (.cst (.int .i64 1)))]))
     (.call F_spec_l2Skip [(.agg [(.var (.slice) 0), (.var (.int .i64) 1), (.var (.int .i64) 2)]), (.x (.var (.int .i64) 3))] false [(true, [.slice, .int .i64, .int .i64])]
     (.ret (.agg [(.cst (.bool true)), (.var (.int .u64) 6), (.var (.slice) 8), (.var (.int .i64) 9), (.var (.int .i64) 10)]))))))))))))
set_option maxRecDepth 100000 in
theorem s_spec_BitsTake : sxF c_spec_BitsTake Try.f40 p_spec_BitsTake = some t_spec_BitsTake := by kernel_rfl
theorem e_spec_BitsTake (xs : Array Value) (w : World) : (callFunc F_spec_BitsTake xs).runT Try.prog w #[] = (.ok (.enter F_spec_BitsTake xs) w, #[]) := ent_of Try.func40 (by kernel_rfl) (by kernel_rfl) xs w
theorem run_spec_BitsTake {S : Nat → Prop} {h : Eng.Heap} {Q : Value → Eng.Heap → Prop} {vs : List Value} (hsh : shOk (resShs p_spec_BitsTake) vs) (hi : Inv S h) (hw : t_spec_BitsTake.wp Try.prog S noLeaf Q vs h []) : CallsH Try.prog S F_spec_BitsTake (argVals p_spec_BitsTake vs) h Q :=
  sxF_ok (cfg := c_spec_BitsTake) tabBTOk mixedBT Try.func40 rfl s_spec_BitsTake e_spec_BitsTake rfl hsh hi hw
/- function 41 -/
def c_impl_BitsTake : Cfg := ⟨tabBT, [], [5], [.cell 4 56]⟩
def p_impl_BitsTake : List (Bool × List Sh) := [(true, [.slice, .int .i64, .int .i64]), (false, [.int .i64])]
set_option maxRecDepth 100000 in
def t_impl_BitsTake : Tr :=
(.call F_impl_ValidBits [(.agg [(.var (.slice) 0), (.var (.int .i64) 1), (.var (.int .i64) 2)])] false [(false, [.bool])]
(.lift (.br (.nt (.var (.bool) 4))
 (.ret (.agg [(.cst (.bool false)), (.cst (.int .u64 0)), (.cst .nilSl), (.cst (.int .i64 0)), (.cst (.int .i64 0))]))
 (.call F_impl_sourceOf [(.agg [(.var (.slice) 0), (.var (.int .i64) 1), (.var (.int .i64) 2)])] false [(true, [.slice, .int .i64, .int .i64])]
 (.hall 123 [(1, (.cst .nilSl)), (2, (.cst (.int .i64 0)))]
 (.hsto (.var (.addr) 8) [(.var (.slice) 5), (.var (.int .i64) 6), (.var (.int .i64) 7)]
 (.join [.bool]
  (.br (.nt (.it (.cm .lss (.var (.int .i64) 3) (.cst (.int .i64 0))) (.cst (.bool true)) (.cm .gtr (.var (.int .i64) 3) (.cst (.int .i64 32)))))
   (.call F_impl_source__left [(.x (.fld (.var (.addr) 8) 0))] false [(false, [.int .i64])]
   (.cont 1 [(.cm .gtr (.var (.int .i64) 3) (.var (.int .i64) 9))]))
   (.cont 1 [(.cst (.bool true))]))
  (.lift (.br (.var (.bool) 9)
   (.load (.fld (.var (.addr) 8) 0) [.slice, .int .i64, .int .i64]
   (.call F_impl_source__bits [(.agg [(.var (.slice) 10), (.var (.int .i64) 11), (.var (.int .i64) 12)])] false [(true, [.slice, .int .i64, .int .i64])]
   (.ret (.agg [(.cst (.bool false)), (.cst (.int .u64 0)), (.var (.slice) 13), (.var (.int .i64) 14), (.var (.int .i64) 15)]))))
   (.call F_impl_bitReader__take [(.x (.var (.addr) 8)), (.x (.var (.int .i64) 3))] false [(false, [.int .u64])]
   (.load (.fld (.var (.addr) 8) 0) [.slice, .int .i64, .int .i64]
   (.call F_impl_source__bits [(.agg [(.var (.slice) 11), (.var (.int .i64) 12), (.var (.int .i64) 13)])] false [(true, [.slice, .int .i64, .int .i64])]
   (.ret (.agg [(.cst (.bool true)), (.var (.int .u64) 10), (.var (.slice) 14), (.var (.int .i64) 15), (.var (.int .i64) 16)]))))))))))))))
set_option maxRecDepth 100000 in
theorem s_impl_BitsTake : sxF c_impl_BitsTake Try.f41 p_impl_BitsTake = some t_impl_BitsTake := by kernel_rfl
theorem e_impl_BitsTake (xs : Array Value) (w : World) : (callFunc F_impl_BitsTake xs).runT Try.prog w #[] = (.ok (.enter F_impl_BitsTake xs) w, #[]) := ent_of Try.func41 (by kernel_rfl) (by kernel_rfl) xs w
theorem run_impl_BitsTake {S : Nat → Prop} {h : Eng.Heap} {Q : Value → Eng.Heap → Prop} {vs : List Value} (hsh : shOk (resShs p_impl_BitsTake) vs) (hi : Inv S h) (hw : t_impl_BitsTake.wp Try.prog S noLeaf Q vs h []) : CallsH Try.prog S F_impl_BitsTake (argVals p_impl_BitsTake vs) h Q :=
  sxF_ok (cfg := c_impl_BitsTake) tabBTOk mixedBT Try.func41 rfl s_impl_BitsTake e_impl_BitsTake rfl hsh hi hw
/- function 42 -/
def c_laws_eqBitRes : Cfg := ⟨tabBT, [], [], [.tmp 4]⟩
def p_laws_eqBitRes : List (Bool × List Sh) := [(true, [.bool, .int .u64, .slice, .int .i64, .int .i64]), (true, [.bool, .int .u64, .slice, .int .i64, .int .i64])]
set_option maxRecDepth 100000 in
def t_laws_eqBitRes : Tr :=
(.lift (.br (.nt (.bq (.var (.bool) 0) (.var (.bool) 5)))
 (.ret (.x (.cst (.bool false))))
 (.lift (.br (.cm .neq (.var (.int .u64) 1) (.var (.int .u64) 6))
  (.ret (.x (.cst (.bool false))))
  (.call F_laws_eqBits [(.agg [(.var (.slice) 2), (.var (.int .i64) 3), (.var (.int .i64) 4)]), (.agg [(.var (.slice) 7), (.var (.int .i64) 8), (.var (.int .i64) 9)])] false [(false, [.bool])]
  (.lift (.br (.nt (.var (.bool) 10))
   (.ret (.x (.cst (.bool false))))
   (.ret (.x (.cst (.bool true)))))))))))
set_option maxRecDepth 100000 in
theorem s_laws_eqBitRes : sxF c_laws_eqBitRes Try.f42 p_laws_eqBitRes = some t_laws_eqBitRes := by kernel_rfl
theorem e_laws_eqBitRes (xs : Array Value) (w : World) : (callFunc F_laws_eqBitRes xs).runT Try.prog w #[] = (.ok (.enter F_laws_eqBitRes xs) w, #[]) := ent_of Try.func42 (by kernel_rfl) (by kernel_rfl) xs w
theorem run_laws_eqBitRes {S : Nat → Prop} {h : Eng.Heap} {Q : Value → Eng.Heap → Prop} {vs : List Value} (hsh : shOk (resShs p_laws_eqBitRes) vs) (hi : Inv S h) (hw : t_laws_eqBitRes.wp Try.prog S noLeaf Q vs h []) : CallsH Try.prog S F_laws_eqBitRes (argVals p_laws_eqBitRes vs) h Q :=
  sxF_ok (cfg := c_laws_eqBitRes) tabBTOk mixedBT Try.func42 rfl s_laws_eqBitRes e_laws_eqBitRes rfl hsh hi hw
/- function 43 -/
def c_laws_markBitRes : Cfg := ⟨tabBT, [], [], [.tmp 4]⟩
def p_laws_markBitRes : List (Bool × List Sh) := [(true, [.bool, .int .u64, .slice, .int .i64, .int .i64]), (false, [.int .i64])]
set_option maxRecDepth 100000 in
def t_laws_markBitRes : Tr :=
(.call F_laws_markBits [(.agg [(.var (.slice) 2), (.var (.int .i64) 3), (.var (.int .i64) 4)]), (.x (.var (.int .i64) 5))] false [(false, [.int .i64])]
(.ret (.x (.var (.int .i64) 6))))
set_option maxRecDepth 100000 in
theorem s_laws_markBitRes : sxF c_laws_markBitRes Try.f43 p_laws_markBitRes = some t_laws_markBitRes := by kernel_rfl
theorem e_laws_markBitRes (xs : Array Value) (w : World) : (callFunc F_laws_markBitRes xs).runT Try.prog w #[] = (.ok (.enter F_laws_markBitRes xs) w, #[]) := ent_of Try.func43 (by kernel_rfl) (by kernel_rfl) xs w
theorem run_laws_markBitRes {S : Nat → Prop} {h : Eng.Heap} {Q : Value → Eng.Heap → Prop} {vs : List Value} (hsh : shOk (resShs p_laws_markBitRes) vs) (hi : Inv S h) (hw : t_laws_markBitRes.wp Try.prog S noLeaf Q vs h []) : CallsH Try.prog S F_laws_markBitRes (argVals p_laws_markBitRes vs) h Q :=
  sxF_ok (cfg := c_laws_markBitRes) tabBTOk mixedBT Try.func43 rfl s_laws_markBitRes e_laws_markBitRes rfl hsh hi hw
/- function 44 -/
def c_laws_heldBitRes : Cfg := ⟨tabBT, [], [], [.tmp 4]⟩
def p_laws_heldBitRes : List (Bool × List Sh) := [(true, [.bool, .int .u64, .slice, .int .i64, .int .i64]), (false, [.int .i64])]
set_option maxRecDepth 100000 in
def t_laws_heldBitRes : Tr :=
(.call F_laws_heldBits [(.agg [(.var (.slice) 2), (.var (.int .i64) 3), (.var (.int .i64) 4)]), (.x (.var (.int .i64) 5))] false [(false, [.int .i64])]
(.lift (.br (.cm .lss (.var (.int .i64) 6) (.cst (.int .i64 0)))
 (.ret (.x (.cst (.int .i64 (-1)))))
 (.ret (.x (.var (.int .i64) 6))))))
set_option maxRecDepth 100000 in
theorem s_laws_heldBitRes : sxF c_laws_heldBitRes Try.f44 p_laws_heldBitRes = some t_laws_heldBitRes := by kernel_rfl
theorem e_laws_heldBitRes (xs : Array Value) (w : World) : (callFunc F_laws_heldBitRes xs).runT Try.prog w #[] = (.ok (.enter F_laws_heldBitRes xs) w, #[]) := ent_of Try.func44 (by kernel_rfl) (by kernel_rfl) xs w
theorem run_laws_heldBitRes {S : Nat → Prop} {h : Eng.Heap} {Q : Value → Eng.Heap → Prop} {vs : List Value} (hsh : shOk (resShs p_laws_heldBitRes) vs) (hi : Inv S h) (hw : t_laws_heldBitRes.wp Try.prog S noLeaf Q vs h []) : CallsH Try.prog S F_laws_heldBitRes (argVals p_laws_heldBitRes vs) h Q :=
  sxF_ok (cfg := c_laws_heldBitRes) tabBTOk mixedBT Try.func44 rfl s_laws_heldBitRes e_laws_heldBitRes rfl hsh hi hw
/- function 99 -/
def c_spec_l2Bit : Cfg := ⟨tabBT, [], [], [.tmp 4]⟩
def p_spec_l2Bit : List (Bool × List Sh) := [(false, [.slice]), (false, [.int .i64])]
set_option maxRecDepth 100000 in
def t_spec_l2Bit : Tr :=
(.need (.nt (.nn (.var (.slice) 0)))
(.need (.cm .leq (.cst (.int .i64 0)) (.ar .quo .i64 (.var (.int .i64) 1) (.cst (.int .i64 8))))
(.need (.cm .lss (.ar .quo .i64 (.var (.int .i64) 1) (.cst (.int .i64 8))) (.ln (.var (.slice) 0)))
(.load (.ix 1 (.var (.slice) 0) (.ar .quo .i64 (.var (.int .i64) 1) (.cst (.int .i64 8)))) [.int .u8]
(.need (.cm .geq (.cv .u64 (.ar .rem .i64 (.var (.int .i64) 1) (.cst (.int .i64 8)))) (.cst (.int .u64 0)))
(.ret (.x (.ar .rem .u64 (.cv .u64 (.ar .shr .u8 (.var (.int .u8) 2) (.cv .u64 (.ar .rem .i64 (.var (.int .i64) 1) (.cst (.int .i64 8)))))) (.cst (.int .u64 2))))))))))
set_option maxRecDepth 100000 in
theorem s_spec_l2Bit : sxF c_spec_l2Bit Try.f99 p_spec_l2Bit = some t_spec_l2Bit := by kernel_rfl
theorem e_spec_l2Bit (xs : Array Value) (w : World) : (callFunc F_spec_l2Bit xs).runT Try.prog w #[] = (.ok (.enter F_spec_l2Bit xs) w, #[]) := ent_of Try.func99 (by kernel_rfl) (by kernel_rfl) xs w
theorem run_spec_l2Bit {S : Nat → Prop} {h : Eng.Heap} {Q : Value → Eng.Heap → Prop} {vs : List Value} (hsh : shOk (resShs p_spec_l2Bit) vs) (hi : Inv S h) (hw : t_spec_l2Bit.wp Try.prog S noLeaf Q vs h []) : CallsH Try.prog S F_spec_l2Bit (argVals p_spec_l2Bit vs) h Q :=
  sxF_ok (cfg := c_spec_l2Bit) tabBTOk mixedBT Try.func99 rfl s_spec_l2Bit e_spec_l2Bit rfl hsh hi hw
/- function 100 -/
def c_impl_bitReader__take : Cfg := ⟨tabBT, [⟨3, [5, 9], [], [6, 7, 10, 11, 12, 13, 14, 15, 16, 17, 18, 19, 20, 21, 22, 23, 24, 25, 26, 27, 28, 29, 30, 31, 32, 33, 34, 35, 36, 37]⟩], [], [.tmp 4]⟩
def p_impl_bitReader__take : List (Bool × List Sh) := [(false, [.ptr]), (false, [.int .i64])]
set_option maxRecDepth 100000 in
def t_impl_bitReader__take : Tr :=
(.loop [.int .u64, .int .i64] [(.cst (.int .u64 0)), (.cst (.int .i64 0))]
 (.lift (.br (.cm .lss (.var (.int .i64) 3) (.var (.int .i64) 1))
  (.need (.nt (.nn (.var (.ptr) 0)))
  (.load (.fld (.fld (.nz (.var (.ptr) 0)) 0) 1) [.int .i64]
  (.need (.nt (.nn (.var (.ptr) 0)))
  (.load (.fld (.fld (.nz (.var (.ptr) 0)) 0) 0) [.slice]
  (.need (.nt (.nn (.var (.slice) 5)))
  (.need (.cm .leq (.cst (.int .i64 0)) (.ar .quo .i64 (.ar .add .i64 (.var (.int .i64) 4) (.var (.int .i64) 3)) (.cst (.int .i64 8))))
  (.need (.cm .lss (.ar .quo .i64 (.ar .add .i64 (.var (.int .i64) 4) (.var (.int .i64) 3)) (.cst (.int .i64 8))) (.ln (.var (.slice) 5)))
  (.load (.ix 1 (.var (.slice) 5) (.ar .quo .i64 (.ar .add .i64 (.var (.int .i64) 4) (.var (.int .i64) 3)) (.cst (.int .i64 8)))) [.int .u8]
  (.need (.cm .geq (.ar .rem .i64 (.ar .add .i64 (.var (.int .i64) 4) (.var (.int .i64) 3)) (.cst (.int .i64 8))) (.cst (.int .i64 0)))
  (.need (.cm .geq (.var (.int .i64) 3) (.cst (.int .i64 0)))
  (.cont 0 [(.ar .or .u64 (.var (.int .u64) 2) (.ar .shl .u64 (.cv .u64 (.ar .and .u8 (.ar .shr .u8 (.var (.int .u8) 6) (.ar .rem .i64 (.ar .add .i64 (.var (.int .i64) 4) (.var (.int .i64) 3)) (.cst (.int .i64 8)))) (.cst (.int .u8 1)))) (.var (.int .i64) 3))), (.ar .add .i64 (.var (.int .i64) 3) (.cst (.int .i64 1)))])))))))))))
  (.need (.nt (.nn (.var (.ptr) 0)))
  (.call F_impl_source__skip [(.x (.fld (.nz (.var (.ptr) 0)) 0)), (.x (.var (.int .i64) 1))] true []
  (.ret (.x (.var (.int .u64) 2))))))))
set_option maxRecDepth 100000 in
theorem s_impl_bitReader__take : sxF c_impl_bitReader__take Try.f100 p_impl_bitReader__take = some t_impl_bitReader__take := by kernel_rfl
theorem e_impl_bitReader__take (xs : Array Value) (w : World) : (callFunc F_impl_bitReader__take xs).runT Try.prog w #[] = (.ok (.enter F_impl_bitReader__take xs) w, #[]) := ent_of Try.func100 (by kernel_rfl) (by kernel_rfl) xs w
theorem run_impl_bitReader__take {S : Nat → Prop} {h : Eng.Heap} {Q : Value → Eng.Heap → Prop} {vs : List Value} (hsh : shOk (resShs p_impl_bitReader__take) vs) (hi : Inv S h) (hw : t_impl_bitReader__take.wp Try.prog S noLeaf Q vs h []) : CallsH Try.prog S F_impl_bitReader__take (argVals p_impl_bitReader__take vs) h Q :=
  sxF_ok (cfg := c_impl_bitReader__take) tabBTOk mixedBT Try.func100 rfl s_impl_bitReader__take e_impl_bitReader__take rfl hsh hi hw
end Go.Proofs.Ytchlnichbaoeaaa
