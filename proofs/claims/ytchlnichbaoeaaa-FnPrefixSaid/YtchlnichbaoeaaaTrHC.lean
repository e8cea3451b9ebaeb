-- printed by a generator of my own (wip/eng/Gen) from the translation
import Derived.Test.YtchlnichbaoeaaaEng2
import Derived.Test.YtchlnichbaoeaaaChecked
import Derived.Test.YtchlnichbaoeaaaNums
set_option linter.unusedVariables false
set_option linter.unusedSimpArgs false
namespace Go.Proofs.Ytchlnichbaoeaaa
open Go Go.Eng
def tabHC : List (TypeId × TyD) := [(0, ⟨.oth, 1, 0, [], none, some []⟩),
  (2, ⟨(.int .i64), 1, 8, [.int .i64], some [(1, (.int .i64 0))], none⟩),
  (3, ⟨(.int .i64), 1, 8, [.int .i64], some [(1, (.int .i64 0))], none⟩),
  (4, ⟨.bool, 1, 1, [.bool], some [(1, (.bool false))], none⟩),
  (54, ⟨(.int .u64), 1, 8, [.int .u64], some [(1, (.int .u64 0))], none⟩),
  (72, ⟨(.sl 2), 1, 24, [.slice], some [(1, .nilSl)], none⟩),
  (73, ⟨(.sl 105), 1, 24, [.slice], some [(1, .nilSl)], none⟩),
  (101, ⟨(.int .u64), 1, 8, [.int .u64], some [(1, (.int .u64 0))], none⟩),
  (105, ⟨(.st [(0, 2), (1, 54)]), 2, 16, [.int .i64, .int .u64], some [(1, (.int .i64 0)), (1, (.int .u64 0))], none⟩),
  (129, ⟨(.arr 17 54), 17, 136, [.int .u64, .int .u64, .int .u64, .int .u64, .int .u64, .int .u64, .int .u64, .int .u64, .int .u64, .int .u64, .int .u64, .int .u64, .int .u64, .int .u64, .int .u64, .int .u64, .int .u64], some [(17, (.int .u64 0))], none⟩)]
set_option maxRecDepth 100000 in
theorem tabHCOk : TabOk Try.prog tabHC := tabOk_of (by kernel_rfl)
theorem mixedHC : Try.prog.follows .mixedOrders = true := by kernel_rfl
/- function 10 -/
def c_laws_FnExactHuffCodes : Cfg := ⟨tabHC, [], [], [.tmp 2]⟩
def p_laws_FnExactHuffCodes : List (Bool × List Sh) := [(false, [.slice])]
set_option maxRecDepth 100000 in
def t_laws_FnExactHuffCodes : Tr :=
(.lift (.br (.cm .gtr (.ln (.var (.slice) 0)) (.cst (.int .i64 1048576)))
 (.ret (.x (.cst (.bool true))))
 (.call F_laws_toInt64S [(.x (.var (.slice) 0))] false [(false, [.slice])]
 (.call F_spec_HuffCodes [(.x (.var (.slice) 1))] false [(false, [.slice])]
 (.call F_laws_toInt64S [(.x (.var (.slice) 0))] false [(false, [.slice])]
 (.call F_impl_HuffCodes [(.x (.var (.slice) 3))] false [(false, [.slice])]
 (.call F_laws_eqHuffCodeS [(.x (.var (.slice) 4)), (.x (.var (.slice) 2))] false [(false, [.bool])]
 (.lift (.br (.nt (.var (.bool) 5))
  (.ret (.x (.cst (.bool false))))
  (.call F_laws_toInt64S [(.x (.var (.slice) 0))] false [(false, [.slice])]
  (.call F_laws_eqInt64S [(.x (.var (.slice) 3)), (.x (.var (.slice) 6))] false [(false, [.bool])]
  (.lift (.br (.nt (.var (.bool) 7))
   (.ret (.x (.cst (.bool false))))
   (.call F_laws_markInt64S [(.x (.var (.slice) 3)), (.x (.cst (.int .i64 1)))] false [(false, [.int .i64])]
   (.join [.bool]
    (.br (.nt (.cm .lss (.var (.int .i64) 8) (.cst (.int .i64 0))))
     (.call F_laws_eqHuffCodeS [(.x (.var (.slice) 4)), (.x (.var (.slice) 2))] false [(false, [.bool])]
     (.cont 3 [(.nt (.var (.bool) 9))]))
     (.cont 3 [(.cst (.bool true))]))
    (.lift (.br (.var (.bool) 9)
     (.ret (.x (.cst (.bool false))))
     (.call F_laws_markHuffCodeS [(.x (.var (.slice) 4)), (.x (.cst (.int .i64 1)))] false [(false, [.int .i64])]
     (.call F_laws_heldHuffCodeS [(.x (.var (.slice) 4)), (.x (.cst (.int .i64 1)))] false [(false, [.int .i64])]
     (.lift (.br (.cm .lss (.var (.int .i64) 11) (.cst (.int .i64 0)))
      (.ret (.x (.cst (.bool false))))
      (.lift (.br (.cm .neq (.var (.int .i64) 11) (.var (.int .i64) 10))
       (.ret (.x (.cst (.bool false))))
       (.call F_laws_toInt64S [(.x (.var (.slice) 0))] false [(false, [.slice])]
       (.call F_impl_HuffCodes [(.x (.var (.slice) 12))] false [(false, [.slice])]
       (.call F_laws_eqHuffCodeS [(.x (.var (.slice) 13)), (.x (.var (.slice) 2))] false [(false, [.bool])]
       (.lift (.br (.nt (.var (.bool) 14))
        (.ret (.x (.cst (.bool false))))
        (.call F_laws_heldHuffCodeS [(.x (.var (.slice) 4)), (.x (.cst (.int .i64 1)))] false [(false, [.int .i64])]
        (.lift (.br (.cm .lss (.var (.int .i64) 15) (.cst (.int .i64 0)))
         (.ret (.x (.cst (.bool false))))
         (.lift (.br (.cm .neq (.var (.int .i64) 15) (.var (.int .i64) 10))
          (.ret (.x (.cst (.bool false))))
          (.ret (.x (.cst (.bool true)))))))))))))))))))))))))))))))))))))
set_option maxRecDepth 100000 in
theorem s_laws_FnExactHuffCodes : sxF c_laws_FnExactHuffCodes Try.f10 p_laws_FnExactHuffCodes = some t_laws_FnExactHuffCodes := by kernel_rfl
theorem e_laws_FnExactHuffCodes (xs : Array Value) (w : World) : (callFunc F_laws_FnExactHuffCodes xs).runT Try.prog w #[] = (.ok (.enter F_laws_FnExactHuffCodes xs) w, #[]) := ent_of Try.func10 (by kernel_rfl) (by kernel_rfl) xs w
theorem run_laws_FnExactHuffCodes {S : Nat → Prop} {h : Eng.Heap} {Q : Value → Eng.Heap → Prop} {vs : List Value} (hsh : shOk (resShs p_laws_FnExactHuffCodes) vs) (hi : Inv S h) (hw : t_laws_FnExactHuffCodes.wp Try.prog S noLeaf Q vs h []) : CallsH Try.prog S F_laws_FnExactHuffCodes (argVals p_laws_FnExactHuffCodes vs) h Q :=
  sxF_ok (cfg := c_laws_FnExactHuffCodes) tabHCOk mixedHC Try.func10 rfl s_laws_FnExactHuffCodes e_laws_FnExactHuffCodes rfl hsh hi hw
/- function 55 -/
def c_spec_HuffCodes : Cfg := ⟨tabHC, [⟨6, [3, 5], [], [19, 20, 21, 22, 23, 24, 25, 26, 27, 28]⟩, ⟨15, [6, 8], [], [35, 36, 37, 38, 39, 40, 41, 42, 43, 44, 45, 46, 47, 48, 49, 50, 51, 52, 53, 54, 55, 56]⟩, ⟨11, [6, 7], [], [8, 29, 30, 31, 32, 33, 34, 35, 36, 37, 38, 39, 40, 41, 42, 43, 44, 45, 46, 47, 48, 49, 50, 51, 52, 53, 54, 55, 56]⟩], [], [.tmp 2]⟩
def p_spec_HuffCodes : List (Bool × List Sh) := [(false, [.slice])]
set_option maxRecDepth 100000 in
def t_spec_HuffCodes : Tr :=
(.hsl 105 0 []
(.call F_spec_HuffKind [(.x (.var (.slice) 0))] false [(false, [.int .i64])]
(.lift (.br (.it (.cm .eql (.var (.int .i64) 2) (.cst (.int .i64 0))) (.cst (.bool true)) (.cm .eql (.var (.int .i64) 2) (.cst (.int .i64 2))))
 (.ret (.x (.var (.slice) 1)))
 (.loop [.slice, .int .i64] [(.var (.slice) 1), (.cst (.int .i64 0))]
  (.lift (.br (.cm .lss (.var (.int .i64) 4) (.ln (.var (.slice) 0)))
   (.hsl 105 1 [(.cst (.int .i64 0)), (.cst (.int .u64 0))]
   (.app 105 2 16 [(.int .i64 0), (.int .u64 0)] (.var (.slice) 3) (.var (.slice) 5)
   (.cont 1 [(.var (.slice) 6), (.ar .add .i64 (.var (.int .i64) 4) (.cst (.int .i64 1)))])))
   (.loop [.int .i64, .int .i64] [(.cst (.int .i64 0)), (.cst (.int .i64 1))]
    (.lift (.br (.cm .leq (.var (.int .i64) 6) (.cst (.int .i64 15)))
     (.loop [.int .i64, .int .i64] [(.ar .mul .i64 (.cst (.int .i64 2)) (.var (.int .i64) 5)), (.cst (.int .i64 0))]
      (.lift (.br (.cm .lss (.var (.int .i64) 8) (.ln (.var (.slice) 0)))
       (.need (.nt (.nn (.var (.slice) 0)))
       (.need (.cm .leq (.cst (.int .i64 0)) (.var (.int .i64) 8))
       (.need (.cm .lss (.var (.int .i64) 8) (.ln (.var (.slice) 0)))
       (.load (.ix 1 (.var (.slice) 0) (.var (.int .i64) 8)) [.int .i64]
       (.join [.int .i64]
        (.br (.cm .eql (.var (.int .i64) 9) (.var (.int .i64) 6))
         (.call F_spec_l3Turn [(.x (.var (.int .i64) 7)), (.x (.var (.int .i64) 6))] false [(false, [.int .u64])]
         (.need (.nt (.nn (.var (.slice) 3)))
         (.need (.cm .leq (.cst (.int .i64 0)) (.var (.int .i64) 8))
         (.need (.cm .lss (.var (.int .i64) 8) (.ln (.var (.slice) 3)))
         (.hsto (.ix 2 (.var (.slice) 3) (.var (.int .i64) 8)) [(.var (.int .i64) 6), (.var (.int .u64) 10)]
         (.cont 7 [(.ar .add .i64 (.var (.int .i64) 7) (.cst (.int .i64 1)))]))))))
         (.cont 7 [(.var (.int .i64) 7)]))
        (.cont 5 [(.var (.int .i64) 10), (.ar .add .i64 (.var (.int .i64) 8) (.cst (.int .i64 1)))]))))))
       (.cont 3 [(.var (.int .i64) 7), (.ar .add .i64 (.var (.int .i64) 6) (.cst (.int .i64 1)))]))))
     (.ret (.x (.var (.slice) 3)))))))))))))
set_option maxRecDepth 100000 in
theorem s_spec_HuffCodes : sxF c_spec_HuffCodes Try.f55 p_spec_HuffCodes = some t_spec_HuffCodes := by kernel_rfl
theorem e_spec_HuffCodes (xs : Array Value) (w : World) : (callFunc F_spec_HuffCodes xs).runT Try.prog w #[] = (.ok (.enter F_spec_HuffCodes xs) w, #[]) := ent_of Try.func55 (by kernel_rfl) (by kernel_rfl) xs w
theorem run_spec_HuffCodes {S : Nat → Prop} {h : Eng.Heap} {Q : Value → Eng.Heap → Prop} {vs : List Value} (hsh : shOk (resShs p_spec_HuffCodes) vs) (hi : Inv S h) (hw : t_spec_HuffCodes.wp Try.prog S noLeaf Q vs h []) : CallsH Try.prog S F_spec_HuffCodes (argVals p_spec_HuffCodes vs) h Q :=
  sxF_ok (cfg := c_spec_HuffCodes) tabHCOk mixedHC Try.func55 rfl s_spec_HuffCodes e_spec_HuffCodes rfl hsh hi hw
/- function 57 -/
def c_impl_HuffCodes : Cfg := ⟨tabHC, [⟨6, [24], [], [6, 25, 26, 27, 28, 29, 30, 31, 32, 33, 34, 35]⟩, ⟨13, [8], [], [37, 38, 39, 40, 41, 42, 43, 44, 45, 46, 47, 48, 49, 50, 51, 52]⟩, ⟨18, [58], [], [10, 11, 59, 60, 61, 62, 63, 64, 65, 66, 67, 68, 69, 70, 71, 72, 73, 74, 75, 76, 77, 78, 79, 80]⟩], [4, 7], [.tmp 2]⟩
def p_impl_HuffCodes : List (Bool × List Sh) := [(false, [.slice])]
set_option maxRecDepth 100000 in
def t_impl_HuffCodes : Tr :=
(.call F_impl_HuffKind [(.x (.var (.slice) 0))] false [(false, [.int .i64])]
(.lift (.br (.it (.cm .eql (.var (.int .i64) 1) (.cst (.int .i64 0))) (.cst (.bool true)) (.cm .eql (.var (.int .i64) 1) (.cst (.int .i64 2))))
 (.hsl 105 0 []
 (.ret (.x (.var (.slice) 2))))
 (.hall 129 [(17, (.cst (.int .u64 0)))]
 (.hsto (.var (.addr) 2) [(.cst (.int .u64 0)), (.cst (.int .u64 0)), (.cst (.int .u64 0)), (.cst (.int .u64 0)), (.cst (.int .u64 0)), (.cst (.int .u64 0)), (.cst (.int .u64 0)), (.cst (.int .u64 0)), (.cst (.int .u64 0)), (.cst (.int .u64 0)), (.cst (.int .u64 0)), (.cst (.int .u64 0)), (.cst (.int .u64 0)), (.cst (.int .u64 0)), (.cst (.int .u64 0)), (.cst (.int .u64 0)), (.cst (.int .u64 0))]
 (.loop [.int .i64] [(.cst (.int .i64 0))]
  (.lift (.br (.cm .lss (.var (.int .i64) 3) (.ln (.var (.slice) 0)))
   (.need (.nt (.nn (.var (.slice) 0)))
   (.need (.cm .leq (.cst (.int .i64 0)) (.var (.int .i64) 3))
   (.need (.cm .lss (.var (.int .i64) 3) (.ln (.var (.slice) 0)))
   (.load (.ix 1 (.var (.slice) 0) (.var (.int .i64) 3)) [.int .i64]
   (.join []
    (.br (.cm .gtr (.var (.int .i64) 4) (.cst (.int .i64 0)))
     (.need (.cm .leq (.cst (.int .i64 0)) (.var (.int .i64) 4))
     (.need (.cm .lss (.var (.int .i64) 4) (.cst (.int .i64 17)))
     (.load (.ia 1 (.var (.addr) 2) (.var (.int .i64) 4)) [.int .u64]
     (.need (.cm .leq (.cst (.int .i64 0)) (.var (.int .i64) 4))
     (.need (.cm .lss (.var (.int .i64) 4) (.cst (.int .i64 17)))
     (.hsto (.ia 1 (.var (.addr) 2) (.var (.int .i64) 4)) [(.ar .add .u64 (.var (.int .u64) 5) (.cst (.int .u64 1)))]
     (.cont 3 [])))))))
     (.cont 3 []))
    (.cont 1 [(.ar .add .i64 (.var (.int .i64) 3) (.cst (.int .i64 1)))]))))))
   (.hall 129 [(17, (.cst (.int .u64 0)))]
   (.hsto (.var (.addr) 4) [(.cst (.int .u64 0)), (.cst (.int .u64 0)), (.cst (.int .u64 0)), (.cst (.int .u64 0)), (.cst (.int .u64 0)), (.cst (.int .u64 0)), (.cst (.int .u64 0)), (.cst (.int .u64 0)), (.cst (.int .u64 0)), (.cst (.int .u64 0)), (.cst (.int .u64 0)), (.cst (.int .u64 0)), (.cst (.int .u64 0)), (.cst (.int .u64 0)), (.cst (.int .u64 0)), (.cst (.int .u64 0)), (.cst (.int .u64 0))]
   (.loop [.int .i64] [(.cst (.int .i64 1))]
    (.lift (.br (.cm .leq (.var (.int .i64) 5) (.cst (.int .i64 15)))
     (.need (.cm .leq (.cst (.int .i64 0)) (.ar .sub .i64 (.var (.int .i64) 5) (.cst (.int .i64 1))))
     (.need (.cm .lss (.ar .sub .i64 (.var (.int .i64) 5) (.cst (.int .i64 1))) (.cst (.int .i64 17)))
     (.load (.ia 1 (.var (.addr) 4) (.ar .sub .i64 (.var (.int .i64) 5) (.cst (.int .i64 1)))) [.int .u64]
     (.need (.cm .leq (.cst (.int .i64 0)) (.ar .sub .i64 (.var (.int .i64) 5) (.cst (.int .i64 1))))
     (.need (.cm .lss (.ar .sub .i64 (.var (.int .i64) 5) (.cst (.int .i64 1))) (.cst (.int .i64 17)))
     (.load (.ia 1 (.var (.addr) 2) (.ar .sub .i64 (.var (.int .i64) 5) (.cst (.int .i64 1)))) [.int .u64]
     (.need (.cm .leq (.cst (.int .i64 0)) (.var (.int .i64) 5))
     (.need (.cm .lss (.var (.int .i64) 5) (.cst (.int .i64 17)))
     (.hsto (.ia 1 (.var (.addr) 4) (.var (.int .i64) 5)) [(.ar .shl .u64 (.ar .add .u64 (.var (.int .u64) 6) (.var (.int .u64) 7)) (.cst (.int .u64 1)))]
     (.cont 3 [(.ar .add .i64 (.var (.int .i64) 5) (.cst (.int .i64 1)))]))))))))))
     (.mks 105 2 16 [(.int .i64 0), (.int .u64 0)] (.ln (.var (.slice) 0)) (.ln (.var (.slice) 0))
     (.loop [.int .i64] [(.cst (.int .i64 0))]
      (.lift (.br (.cm .lss (.var (.int .i64) 7) (.ln (.var (.slice) 0)))
       (.need (.nt (.nn (.var (.slice) 0)))
       (.need (.cm .leq (.cst (.int .i64 0)) (.var (.int .i64) 7))
       (.need (.cm .lss (.var (.int .i64) 7) (.ln (.var (.slice) 0)))
       (.load (.ix 1 (.var (.slice) 0) (.var (.int .i64) 7)) [.int .i64]
       (.join []
        (.br (.cm .gtr (.var (.int .i64) 8) (.cst (.int .i64 0)))
         (.need (.cm .leq (.cst (.int .i64 0)) (.var (.int .i64) 8))
         (.need (.cm .lss (.var (.int .i64) 8) (.cst (.int .i64 17)))
         (.load (.ia 1 (.var (.addr) 4) (.var (.int .i64) 8)) [.int .u64]
         (.call F_impl_turned [(.x (.var (.int .u64) 9)), (.x (.var (.int .i64) 8))] false [(false, [.int .u64])]
         (.need (.nt (.nn (.var (.slice) 6)))
         (.need (.cm .leq (.cst (.int .i64 0)) (.var (.int .i64) 7))
         (.need (.cm .lss (.var (.int .i64) 7) (.ln (.var (.slice) 6)))
         (.hsto (.ix 2 (.var (.slice) 6) (.var (.int .i64) 7)) [(.var (.int .i64) 8), (.var (.int .u64) 10)]
         (.need (.cm .leq (.cst (.int .i64 0)) (.var (.int .i64) 8))
         (.need (.cm .lss (.var (.int .i64) 8) (.cst (.int .i64 17)))
         (.load (.ia 1 (.var (.addr) 4) (.var (.int .i64) 8)) [.int .u64]
         (.need (.cm .leq (.cst (.int .i64 0)) (.var (.int .i64) 8))
         (.need (.cm .lss (.var (.int .i64) 8) (.cst (.int .i64 17)))
         (.hsto (.ia 1 (.var (.addr) 4) (.var (.int .i64) 8)) [(.ar .add .u64 (.var (.int .u64) 11) (.cst (.int .u64 1)))]
         (.cont 7 [])))))))))))))))
         (.cont 7 []))
        (.cont 5 [(.ar .add .i64 (.var (.int .i64) 7) (.cst (.int .i64 1)))]))))))
       (.ret (.x (.var (.slice) 6))))))))))))))))))))
set_option maxRecDepth 100000 in
theorem s_impl_HuffCodes : sxF c_impl_HuffCodes Try.f57 p_impl_HuffCodes = some t_impl_HuffCodes := by kernel_rfl
theorem e_impl_HuffCodes (xs : Array Value) (w : World) : (callFunc F_impl_HuffCodes xs).runT Try.prog w #[] = (.ok (.enter F_impl_HuffCodes xs) w, #[]) := ent_of Try.func57 (by kernel_rfl) (by kernel_rfl) xs w
theorem run_impl_HuffCodes {S : Nat → Prop} {h : Eng.Heap} {Q : Value → Eng.Heap → Prop} {vs : List Value} (hsh : shOk (resShs p_impl_HuffCodes) vs) (hi : Inv S h) (hw : t_impl_HuffCodes.wp Try.prog S noLeaf Q vs h []) : CallsH Try.prog S F_impl_HuffCodes (argVals p_impl_HuffCodes vs) h Q :=
  sxF_ok (cfg := c_impl_HuffCodes) tabHCOk mixedHC Try.func57 rfl s_impl_HuffCodes e_impl_HuffCodes rfl hsh hi hw
/- function 58 -/
def c_laws_eqHuffCodeS : Cfg := ⟨tabHC, [⟨4, [5], [], [11, 12, 13, 14, 15, 16, 17, 18, 19, 20, 21, 22, 23, 24, 25, 26]⟩], [], [.tmp 4]⟩
def p_laws_eqHuffCodeS : List (Bool × List Sh) := [(false, [.slice]), (false, [.slice])]
set_option maxRecDepth 100000 in
def t_laws_eqHuffCodeS : Tr :=
(.lift (.br (.cm .neq (.ln (.var (.slice) 0)) (.ln (.var (.slice) 1)))
 (.ret (.x (.cst (.bool false))))
 (.loop [.int .i64] [(.cst (.int .i64 0))]
  (.lift (.br (.cm .lss (.var (.int .i64) 2) (.ln (.var (.slice) 0)))
   (.need (.nt (.nn (.var (.slice) 0)))
   (.need (.cm .leq (.cst (.int .i64 0)) (.var (.int .i64) 2))
   (.need (.cm .lss (.var (.int .i64) 2) (.ln (.var (.slice) 0)))
   (.load (.ix 2 (.var (.slice) 0) (.var (.int .i64) 2)) [.int .i64, .int .u64]
   (.need (.nt (.nn (.var (.slice) 1)))
   (.need (.cm .leq (.cst (.int .i64 0)) (.var (.int .i64) 2))
   (.need (.cm .lss (.var (.int .i64) 2) (.ln (.var (.slice) 1)))
   (.load (.ix 2 (.var (.slice) 1) (.var (.int .i64) 2)) [.int .i64, .int .u64]
   (.call F_laws_eqHuffCode [(.agg [(.var (.int .i64) 3), (.var (.int .u64) 4)]), (.agg [(.var (.int .i64) 5), (.var (.int .u64) 6)])] false [(false, [.bool])]
   (.lift (.br (.nt (.var (.bool) 7))
    (.ret (.x (.cst (.bool false))))
    (.cont 1 [(.ar .add .i64 (.var (.int .i64) 2) (.cst (.int .i64 1)))]))))))))))))
   (.ret (.x (.cst (.bool true)))))))))
set_option maxRecDepth 100000 in
theorem s_laws_eqHuffCodeS : sxF c_laws_eqHuffCodeS Try.f58 p_laws_eqHuffCodeS = some t_laws_eqHuffCodeS := by kernel_rfl
theorem e_laws_eqHuffCodeS (xs : Array Value) (w : World) : (callFunc F_laws_eqHuffCodeS xs).runT Try.prog w #[] = (.ok (.enter F_laws_eqHuffCodeS xs) w, #[]) := ent_of Try.func58 (by kernel_rfl) (by kernel_rfl) xs w
theorem run_laws_eqHuffCodeS {S : Nat → Prop} {h : Eng.Heap} {Q : Value → Eng.Heap → Prop} {vs : List Value} (hsh : shOk (resShs p_laws_eqHuffCodeS) vs) (hi : Inv S h) (hw : t_laws_eqHuffCodeS.wp Try.prog S noLeaf Q vs h []) : CallsH Try.prog S F_laws_eqHuffCodeS (argVals p_laws_eqHuffCodeS vs) h Q :=
  sxF_ok (cfg := c_laws_eqHuffCodeS) tabHCOk mixedHC Try.func58 rfl s_laws_eqHuffCodeS e_laws_eqHuffCodeS rfl hsh hi hw
/- function 61 -/
def c_laws_markHuffCodeS : Cfg := ⟨tabHC, [⟨2, [1, 5], [], [6, 7, 8, 9, 10, 11, 12, 13, 14, 15, 16, 17, 18, 19, 20, 21, 22, 23, 24, 25, 26]⟩], [], [.tmp 4]⟩
def p_laws_markHuffCodeS : List (Bool × List Sh) := [(false, [.slice]), (false, [.int .i64])]
set_option maxRecDepth 100000 in
def t_laws_markHuffCodeS : Tr :=
(.loop [.int .i64, .int .i64] [(.var (.int .i64) 1), (.cst (.int .i64 0))]
 (.lift (.br (.cm .lss (.var (.int .i64) 3) (.ln (.var (.slice) 0)))
  (.need (.nt (.nn (.var (.slice) 0)))
  (.need (.cm .leq (.cst (.int .i64 0)) (.var (.int .i64) 3))
  (.need (.cm .lss (.var (.int .i64) 3) (.ln (.var (.slice) 0)))
  (.hsto (.fld (.ix 2 (.var (.slice) 0) (.var (.int .i64) 3)) 0) [(.var (.int .i64) 2)]
  (.need (.nt (.nn (.var (.slice) 0)))
  (.need (.cm .leq (.cst (.int .i64 0)) (.var (.int .i64) 3))
  (.need (.cm .lss (.var (.int .i64) 3) (.ln (.var (.slice) 0)))
  (.hsto (.fld (.ix 2 (.var (.slice) 0) (.var (.int .i64) 3)) 1) [(.cv .u64 (.ar .add .i64 (.var (.int .i64) 2) (.cst (.int .i64 1))))]
  (.cont 0 [(.ar .add .i64 (.ar .add .i64 (.var (.int .i64) 2) (.cst (.int .i64 1))) (.cst (.int .i64 1))), (.ar .add .i64 (.var (.int .i64) 3) (.cst (.int .i64 1)))])))))))))
  (.ret (.x (.var (.int .i64) 2))))))
set_option maxRecDepth 100000 in
theorem s_laws_markHuffCodeS : sxF c_laws_markHuffCodeS Try.f61 p_laws_markHuffCodeS = some t_laws_markHuffCodeS := by kernel_rfl
theorem e_laws_markHuffCodeS (xs : Array Value) (w : World) : (callFunc F_laws_markHuffCodeS xs).runT Try.prog w #[] = (.ok (.enter F_laws_markHuffCodeS xs) w, #[]) := ent_of Try.func61 (by kernel_rfl) (by kernel_rfl) xs w
theorem run_laws_markHuffCodeS {S : Nat → Prop} {h : Eng.Heap} {Q : Value → Eng.Heap → Prop} {vs : List Value} (hsh : shOk (resShs p_laws_markHuffCodeS) vs) (hi : Inv S h) (hw : t_laws_markHuffCodeS.wp Try.prog S noLeaf Q vs h []) : CallsH Try.prog S F_laws_markHuffCodeS (argVals p_laws_markHuffCodeS vs) h Q :=
  sxF_ok (cfg := c_laws_markHuffCodeS) tabHCOk mixedHC Try.func61 rfl s_laws_markHuffCodeS e_laws_markHuffCodeS rfl hsh hi hw
/- function 62 -/
def c_laws_heldHuffCodeS : Cfg := ⟨tabHC, [⟨2, [1, 5], [], [6, 7, 8, 9, 10, 11, 12, 13, 14, 15, 16, 17, 18, 19, 20, 21, 22, 23, 24, 25, 26, 27, 28, 29, 30]⟩], [], [.tmp 4]⟩
def p_laws_heldHuffCodeS : List (Bool × List Sh) := [(false, [.slice]), (false, [.int .i64])]
set_option maxRecDepth 100000 in
def t_laws_heldHuffCodeS : Tr :=
(.loop [.int .i64, .int .i64] [(.var (.int .i64) 1), (.cst (.int .i64 0))]
 (.lift (.br (.cm .lss (.var (.int .i64) 3) (.ln (.var (.slice) 0)))
  (.need (.nt (.nn (.var (.slice) 0)))
  (.need (.cm .leq (.cst (.int .i64 0)) (.var (.int .i64) 3))
  (.need (.cm .lss (.var (.int .i64) 3) (.ln (.var (.slice) 0)))
  (.load (.fld (.ix 2 (.var (.slice) 0) (.var (.int .i64) 3)) 0) [.int .i64]
  (.lift (.br (.cm .neq (.var (.int .i64) 4) (.var (.int .i64) 2))
   (.ret (.x (.cst (.int .i64 (-1)))))
   (.need (.nt (.nn (.var (.slice) 0)))
   (.need (.cm .leq (.cst (.int .i64 0)) (.var (.int .i64) 3))
   (.need (.cm .lss (.var (.int .i64) 3) (.ln (.var (.slice) 0)))
   (.load (.fld (.ix 2 (.var (.slice) 0) (.var (.int .i64) 3)) 1) [.int .u64]
   (.lift (.br (.cm .neq (.var (.int .u64) 5) (.cv .u64 (.ar .add .i64 (.var (.int .i64) 2) (.cst (.int .i64 1)))))
    (.ret (.x (.cst (.int .i64 (-1)))))
    (.cont 0 [(.ar .add .i64 (.ar .add .i64 (.var (.int .i64) 2) (.cst (.int .i64 1))) (.cst (.int .i64 1))), (.ar .add .i64 (.var (.int .i64) 3) (.cst (.int .i64 1)))])))))))))))))
  (.ret (.x (.var (.int .i64) 2))))))
set_option maxRecDepth 100000 in
theorem s_laws_heldHuffCodeS : sxF c_laws_heldHuffCodeS Try.f62 p_laws_heldHuffCodeS = some t_laws_heldHuffCodeS := by kernel_rfl
theorem e_laws_heldHuffCodeS (xs : Array Value) (w : World) : (callFunc F_laws_heldHuffCodeS xs).runT Try.prog w #[] = (.ok (.enter F_laws_heldHuffCodeS xs) w, #[]) := ent_of Try.func62 (by kernel_rfl) (by kernel_rfl) xs w
theorem run_laws_heldHuffCodeS {S : Nat → Prop} {h : Eng.Heap} {Q : Value → Eng.Heap → Prop} {vs : List Value} (hsh : shOk (resShs p_laws_heldHuffCodeS) vs) (hi : Inv S h) (hw : t_laws_heldHuffCodeS.wp Try.prog S noLeaf Q vs h []) : CallsH Try.prog S F_laws_heldHuffCodeS (argVals p_laws_heldHuffCodeS vs) h Q :=
  sxF_ok (cfg := c_laws_heldHuffCodeS) tabHCOk mixedHC Try.func62 rfl s_laws_heldHuffCodeS e_laws_heldHuffCodeS rfl hsh hi hw
/- function 103 -/
def c_spec_l3Turn : Cfg := ⟨tabHC, [⟨3, [0, 5, 6], [], [7, 8, 9, 10, 11, 12, 13, 14, 15, 16, 17, 18, 19]⟩], [], [.tmp 4]⟩
def p_spec_l3Turn : List (Bool × List Sh) := [(false, [.int .i64]), (false, [.int .i64])]
set_option maxRecDepth 100000 in
def t_spec_l3Turn : Tr :=
(.loop [.int .i64, .int .u64, .int .i64] [(.var (.int .i64) 0), (.cst (.int .u64 0)), (.cst (.int .i64 0))]
 (.lift (.br (.cm .lss (.var (.int .i64) 4) (.var (.int .i64) 1))
  (.cont 0 [(.ar .quo .i64 (.var (.int .i64) 2) (.cst (.int .i64 2))), (.ar .add .u64 (.ar .mul .u64 (.cst (.int .u64 2)) (.var (.int .u64) 3)) (.cv .u64 (.ar .rem .i64 (.var (.int .i64) 2) (.cst (.int .i64 2))))), (.ar .add .i64 (.var (.int .i64) 4) (.cst (.int .i64 1)))])
  (.ret (.x (.var (.int .u64) 3))))))
set_option maxRecDepth 100000 in
theorem s_spec_l3Turn : sxF c_spec_l3Turn Try.f103 p_spec_l3Turn = some t_spec_l3Turn := by kernel_rfl
theorem e_spec_l3Turn (xs : Array Value) (w : World) : (callFunc F_spec_l3Turn xs).runT Try.prog w #[] = (.ok (.enter F_spec_l3Turn xs) w, #[]) := ent_of Try.func103 (by kernel_rfl) (by kernel_rfl) xs w
theorem run_spec_l3Turn {S : Nat → Prop} {h : Eng.Heap} {Q : Value → Eng.Heap → Prop} {vs : List Value} (hsh : shOk (resShs p_spec_l3Turn) vs) (hi : Inv S h) (hw : t_spec_l3Turn.wp Try.prog S noLeaf Q vs h []) : CallsH Try.prog S F_spec_l3Turn (argVals p_spec_l3Turn vs) h Q :=
  sxF_ok (cfg := c_spec_l3Turn) tabHCOk mixedHC Try.func103 rfl s_spec_l3Turn e_spec_l3Turn rfl hsh hi hw
/- function 104 -/
def c_impl_turned : Cfg := ⟨tabHC, [⟨3, [5, 8], [], [6, 9, 10, 11, 12, 13, 14, 15, 16, 17, 18, 19, 20, 21, 22]⟩], [], [.tmp 4]⟩
def p_impl_turned : List (Bool × List Sh) := [(false, [.int .u64]), (false, [.int .i64])]
set_option maxRecDepth 100000 in
def t_impl_turned : Tr :=
(.loop [.int .u64, .int .i64] [(.cst (.int .u64 0)), (.cst (.int .i64 0))]
 (.lift (.br (.cm .lss (.var (.int .i64) 3) (.var (.int .i64) 1))
  (.need (.cm .geq (.var (.int .i64) 3) (.cst (.int .i64 0)))
  (.need (.cm .geq (.ar .sub .i64 (.ar .sub .i64 (.var (.int .i64) 1) (.cst (.int .i64 1))) (.var (.int .i64) 3)) (.cst (.int .i64 0)))
  (.cont 0 [(.ar .or .u64 (.var (.int .u64) 2) (.ar .shl .u64 (.ar .and .u64 (.ar .shr .u64 (.var (.int .u64) 0) (.var (.int .i64) 3)) (.cst (.int .u64 1))) (.ar .sub .i64 (.ar .sub .i64 (.var (.int .i64) 1) (.cst (.int .i64 1))) (.var (.int .i64) 3)))), (.ar .add .i64 (.var (.int .i64) 3) (.cst (.int .i64 1)))])))
  (.ret (.x (.var (.int .u64) 2))))))
set_option maxRecDepth 100000 in
theorem s_impl_turned : sxF c_impl_turned Try.f104 p_impl_turned = some t_impl_turned := by kernel_rfl
theorem e_impl_turned (xs : Array Value) (w : World) : (callFunc F_impl_turned xs).runT Try.prog w #[] = (.ok (.enter F_impl_turned xs) w, #[]) := ent_of Try.func104 (by kernel_rfl) (by kernel_rfl) xs w
theorem run_impl_turned {S : Nat → Prop} {h : Eng.Heap} {Q : Value → Eng.Heap → Prop} {vs : List Value} (hsh : shOk (resShs p_impl_turned) vs) (hi : Inv S h) (hw : t_impl_turned.wp Try.prog S noLeaf Q vs h []) : CallsH Try.prog S F_impl_turned (argVals p_impl_turned vs) h Q :=
  sxF_ok (cfg := c_impl_turned) tabHCOk mixedHC Try.func104 rfl s_impl_turned e_impl_turned rfl hsh hi hw
/- function 105 -/
def c_laws_eqHuffCode : Cfg := ⟨tabHC, [], [], [.tmp 4]⟩
def p_laws_eqHuffCode : List (Bool × List Sh) := [(true, [.int .i64, .int .u64]), (true, [.int .i64, .int .u64])]
set_option maxRecDepth 100000 in
def t_laws_eqHuffCode : Tr :=
(.lift (.br (.cm .neq (.var (.int .i64) 0) (.var (.int .i64) 2))
 (.ret (.x (.cst (.bool false))))
 (.lift (.br (.cm .neq (.var (.int .u64) 1) (.var (.int .u64) 3))
  (.ret (.x (.cst (.bool false))))
  (.ret (.x (.cst (.bool true))))))))
set_option maxRecDepth 100000 in
theorem s_laws_eqHuffCode : sxF c_laws_eqHuffCode Try.f105 p_laws_eqHuffCode = some t_laws_eqHuffCode := by kernel_rfl
theorem e_laws_eqHuffCode (xs : Array Value) (w : World) : (callFunc F_laws_eqHuffCode xs).runT Try.prog w #[] = (.ok (.enter F_laws_eqHuffCode xs) w, #[]) := ent_of Try.func105 (by kernel_rfl) (by kernel_rfl) xs w
theorem run_laws_eqHuffCode {S : Nat → Prop} {h : Eng.Heap} {Q : Value → Eng.Heap → Prop} {vs : List Value} (hsh : shOk (resShs p_laws_eqHuffCode) vs) (hi : Inv S h) (hw : t_laws_eqHuffCode.wp Try.prog S noLeaf Q vs h []) : CallsH Try.prog S F_laws_eqHuffCode (argVals p_laws_eqHuffCode vs) h Q :=
  sxF_ok (cfg := c_laws_eqHuffCode) tabHCOk mixedHC Try.func105 rfl s_laws_eqHuffCode e_laws_eqHuffCode rfl hsh hi hw
end Go.Proofs.Ytchlnichbaoeaaa
