-- printed by a generator of my own (wip/eng/Gen) from the translation
import Derived.Test.YteaonnfokkfnlaaDoorEng2
import Derived.Test.YteaonnfokkfnlaaDoorChecked
import Derived.Test.YteaonnfokkfnlaaDoorNums
set_option linter.unusedVariables false
set_option linter.unusedSimpArgs false
namespace Go.Proofs.YteaonnfokkfnlaaDoor
open Go Go.Eng
def tabHC : List (TypeId × TyD) := [(0, ⟨.oth, 1, 0, [], none, some []⟩),
  (2, ⟨(.int .i64), 1, 8, [.int .i64], some [(1, (.int .i64 0))], none⟩),
  (3, ⟨(.int .i64), 1, 8, [.int .i64], some [(1, (.int .i64 0))], none⟩),
  (4, ⟨.bool, 1, 1, [.bool], some [(1, (.bool false))], none⟩),
  (25, ⟨(.int .u64), 1, 8, [.int .u64], some [(1, (.int .u64 0))], none⟩),
  (27, ⟨(.st [(0, 2), (1, 25)]), 2, 16, [.int .i64, .int .u64], some [(1, (.int .i64 0)), (1, (.int .u64 0))], none⟩),
  (28, ⟨(.sl 27), 1, 24, [.slice], some [(1, .nilSl)], none⟩),
  (30, ⟨(.sl 2), 1, 24, [.slice], some [(1, .nilSl)], none⟩),
  (32, ⟨(.int .u64), 1, 8, [.int .u64], some [(1, (.int .u64 0))], none⟩),
  (79, ⟨(.arr 17 25), 17, 136, [.int .u64, .int .u64, .int .u64, .int .u64, .int .u64, .int .u64, .int .u64, .int .u64, .int .u64, .int .u64, .int .u64, .int .u64, .int .u64, .int .u64, .int .u64, .int .u64, .int .u64], some [(17, (.int .u64 0))], none⟩)]
set_option maxRecDepth 100000 in
theorem tabHCOk : TabOk Tryd.prog tabHC := tabOk_of (by kernel_rfl)
theorem mixedHC : Tryd.prog.follows .mixedOrders = true := by kernel_rfl
/- function 7 -/
def c_spec_HuffCodes : Cfg := ⟨tabHC, [⟨6, [3, 5], [], [19, 20, 21, 22, 23, 24, 25, 26, 27, 28]⟩, ⟨15, [6, 8], [], [35, 36, 37, 38, 39, 40, 41, 42, 43, 44, 45, 46, 47, 48, 49, 50, 51, 52, 53, 54, 55, 56]⟩, ⟨11, [6, 7], [], [8, 29, 30, 31, 32, 33, 34, 35, 36, 37, 38, 39, 40, 41, 42, 43, 44, 45, 46, 47, 48, 49, 50, 51, 52, 53, 54, 55, 56]⟩], [], [.tmp 2]⟩
def p_spec_HuffCodes : List (Bool × List Sh) := [(false, [.slice])]
set_option maxRecDepth 100000 in
def t_spec_HuffCodes : Tr :=
(.hsl 27 0 []
(.call F_spec_HuffKind [(.x (.var (.slice) 0))] false [(false, [.int .i64])]
(.lift (.br (.it (.cm .eql (.var (.int .i64) 2) (.cst (.int .i64 0))) (.cst (.bool true)) (.cm .eql (.var (.int .i64) 2) (.cst (.int .i64 2))))
 (.ret (.x (.var (.slice) 1)))
 (.loop [.slice, .int .i64] [(.var (.slice) 1), (.cst (.int .i64 0))]
  (.lift (.br (.cm .lss (.var (.int .i64) 4) (.ln (.var (.slice) 0)))
   (.hsl 27 1 [(.cst (.int .i64 0)), (.cst (.int .u64 0))]
   (.app 27 2 16 [(.int .i64 0), (.int .u64 0)] (.var (.slice) 3) (.var (.slice) 5)
   (.cont 1 [(.var (.slice) 6), (.ar .add .i64 (.var (.int .i64) 4) (.cst (.int .i64 1)))])))
   (.loop [.int .i64, .int .i64] [(.cst (.int .i64 0)), (.cst (.int .i64 1))]
    (.lift (.br (.cm .leq (.var (.int .i64) 6) (.cst (.int .i64 15)))
     (.loop [.int .i64, .int .i64] [(.ar .mul .i64 (.cst (.int .i64 2)) (.var (.int .i64) 5)), (.cst (.int .i64 0))]
      (.lift (.br (.cm .lss (.var (.int .i64) 8) (.ln (.var (.slice) 0)))
       (.need (.nt (.nn (.var (.slice) 0)))
       (.need (.cm .leq (.cst (.int .i64 0)) (.var (.int .i64) 8))
       (.need (.cm .lss (.var (.int .i64) 8) (.ln (.var (.slice) 0)))
       (.load (.ix 1 (.var (.slice) 0) (.var (.int .i64) 8)) [.int .i64]
       (.join [.int .i64]
        (.br (.cm .eql (.var (.int .i64) 9) (.var (.int .i64) 6))
         (.call F_spec_l3Turn [(.x (.var (.int .i64) 7)), (.x (.var (.int .i64) 6))] false [(false, [.int .u64])]
         (.need (.nt (.nn (.var (.slice) 3)))
         (.need (.cm .leq (.cst (.int .i64 0)) (.var (.int .i64) 8))
         (.need (.cm .lss (.var (.int .i64) 8) (.ln (.var (.slice) 3)))
         (.hsto (.ix 2 (.var (.slice) 3) (.var (.int .i64) 8)) [(.var (.int .i64) 6), (.var (.int .u64) 10)]
         (.cont 7 [(.ar .add .i64 (.var (.int .i64) 7) (.cst (.int .i64 1)))]))))))
         (.cont 7 [(.var (.int .i64) 7)]))
        (.cont 5 [(.var (.int .i64) 10), (.ar .add .i64 (.var (.int .i64) 8) (.cst (.int .i64 1)))]))))))
       (.cont 3 [(.var (.int .i64) 7), (.ar .add .i64 (.var (.int .i64) 6) (.cst (.int .i64 1)))]))))
     (.ret (.x (.var (.slice) 3)))))))))))))
set_option maxRecDepth 100000 in
theorem s_spec_HuffCodes : sxF c_spec_HuffCodes Tryd.f7 p_spec_HuffCodes = some t_spec_HuffCodes := by kernel_rfl
theorem e_spec_HuffCodes (xs : Array Value) (w : World) : (callFunc F_spec_HuffCodes xs).runT Tryd.prog w #[] = (.ok (.enter F_spec_HuffCodes xs) w, #[]) := ent_of Tryd.func7 (by kernel_rfl) (by kernel_rfl) xs w
theorem run_spec_HuffCodes {S : Shared} {h : Eng.Heap} {Q : Value → Eng.Heap → Prop} {vs : List Value} (hsh : shOk (resShs p_spec_HuffCodes) vs) (hi : Inv S h) (hw : t_spec_HuffCodes.wp Tryd.prog S noLeaf Q vs h []) : CallsH Tryd.prog S F_spec_HuffCodes (argVals p_spec_HuffCodes vs) h Q :=
  sxF_ok (cfg := c_spec_HuffCodes) tabHCOk mixedHC Tryd.func7 rfl s_spec_HuffCodes e_spec_HuffCodes rfl hsh hi hw
/- function 15 -/
def c_spec_l3Turn : Cfg := ⟨tabHC, [⟨3, [0, 5, 6], [], [7, 8, 9, 10, 11, 12, 13, 14, 15, 16, 17, 18, 19]⟩], [], [.tmp 4]⟩
def p_spec_l3Turn : List (Bool × List Sh) := [(false, [.int .i64]), (false, [.int .i64])]
set_option maxRecDepth 100000 in
def t_spec_l3Turn : Tr :=
(.loop [.int .i64, .int .u64, .int .i64] [(.var (.int .i64) 0), (.cst (.int .u64 0)), (.cst (.int .i64 0))]
 (.lift (.br (.cm .lss (.var (.int .i64) 4) (.var (.int .i64) 1))
  (.cont 0 [(.ar .quo .i64 (.var (.int .i64) 2) (.cst (.int .i64 2))), (.ar .add .u64 (.ar .mul .u64 (.cst (.int .u64 2)) (.var (.int .u64) 3)) (.cv .u64 (.ar .rem .i64 (.var (.int .i64) 2) (.cst (.int .i64 2))))), (.ar .add .i64 (.var (.int .i64) 4) (.cst (.int .i64 1)))])
  (.ret (.x (.var (.int .u64) 3))))))
set_option maxRecDepth 100000 in
theorem s_spec_l3Turn : sxF c_spec_l3Turn Tryd.f15 p_spec_l3Turn = some t_spec_l3Turn := by kernel_rfl
theorem e_spec_l3Turn (xs : Array Value) (w : World) : (callFunc F_spec_l3Turn xs).runT Tryd.prog w #[] = (.ok (.enter F_spec_l3Turn xs) w, #[]) := ent_of Tryd.func15 (by kernel_rfl) (by kernel_rfl) xs w
theorem run_spec_l3Turn {S : Shared} {h : Eng.Heap} {Q : Value → Eng.Heap → Prop} {vs : List Value} (hsh : shOk (resShs p_spec_l3Turn) vs) (hi : Inv S h) (hw : t_spec_l3Turn.wp Tryd.prog S noLeaf Q vs h []) : CallsH Tryd.prog S F_spec_l3Turn (argVals p_spec_l3Turn vs) h Q :=
  sxF_ok (cfg := c_spec_l3Turn) tabHCOk mixedHC Tryd.func15 rfl s_spec_l3Turn e_spec_l3Turn rfl hsh hi hw
/- function 25 -/
def c_impl_HuffCodes : Cfg := ⟨tabHC, [⟨6, [24], [], [6, 25, 26, 27, 28, 29, 30, 31, 32, 33, 34, 35]⟩, ⟨13, [8], [], [37, 38, 39, 40, 41, 42, 43, 44, 45, 46, 47, 48, 49, 50, 51, 52]⟩, ⟨18, [58], [], [10, 11, 59, 60, 61, 62, 63, 64, 65, 66, 67, 68, 69, 70, 71, 72, 73, 74, 75, 76, 77, 78, 79, 80]⟩], [4, 7], [.tmp 2]⟩
def p_impl_HuffCodes : List (Bool × List Sh) := [(false, [.slice])]
set_option maxRecDepth 100000 in
def t_impl_HuffCodes : Tr :=
(.call F_impl_HuffKind [(.x (.var (.slice) 0))] false [(false, [.int .i64])]
(.lift (.br (.it (.cm .eql (.var (.int .i64) 1) (.cst (.int .i64 0))) (.cst (.bool true)) (.cm .eql (.var (.int .i64) 1) (.cst (.int .i64 2))))
 (.hsl 27 0 []
 (.ret (.x (.var (.slice) 2))))
 (.hall 79 [(17, (.cst (.int .u64 0)))]
 (.hsto (.var (.addr) 2) [(.cst (.int .u64 0)), (.cst (.int .u64 0)), (.cst (.int .u64 0)), (.cst (.int .u64 0)), (.cst (.int .u64 0)), (.cst (.int .u64 0)), (.cst (.int .u64 0)), (.cst (.int .u64 0)), (.cst (.int .u64 0)), (.cst (.int .u64 0)), (.cst (.int .u64 0)), (.cst (.int .u64 0)), (.cst (.int .u64 0)), (.cst (.int .u64 0)), (.cst (.int .u64 0)), (.cst (.int .u64 0)), (.cst (.int .u64 0))]
 (.loop [.int .i64] [(.cst (.int .i64 0))]
  (.lift (.br (.cm .lss (.var (.int .i64) 3) (.ln (.var (.slice) 0)))
   (.need (.nt (.nn (.var (.slice) 0)))
   (.need (.cm .leq (.cst (.int .i64 0)) (.var (.int .i64) 3))
   (.need (.cm .lss (.var (.int .i64) 3) (.ln (.var (.slice) 0)))
   (.load (.ix 1 (.var (.slice) 0) (.var (.int .i64) 3)) [.int .i64]
   (.join []
    (.br (.cm .gtr (.var (.int .i64) 4) (.cst (.int .i64 0)))
     (.need (.cm .leq (.cst (.int .i64 0)) (.var (.int .i64) 4))
     (.need (.cm .lss (.var (.int .i64) 4) (.cst (.int .i64 17)))
     (.load (.ia 1 (.var (.addr) 2) (.var (.int .i64) 4)) [.int .u64]
     (.need (.cm .leq (.cst (.int .i64 0)) (.var (.int .i64) 4))
     (.need (.cm .lss (.var (.int .i64) 4) (.cst (.int .i64 17)))
     (.hsto (.ia 1 (.var (.addr) 2) (.var (.int .i64) 4)) [(.ar .add .u64 (.var (.int .u64) 5) (.cst (.int .u64 1)))]
     (.cont 3 [])))))))
     (.cont 3 []))
    (.cont 1 [(.ar .add .i64 (.var (.int .i64) 3) (.cst (.int .i64 1)))]))))))
   (.hall 79 [(17, (.cst (.int .u64 0)))]
   (.hsto (.var (.addr) 4) [(.cst (.int .u64 0)), (.cst (.int .u64 0)), (.cst (.int .u64 0)), (.cst (.int .u64 0)), (.cst (.int .u64 0)), (.cst (.int .u64 0)), (.cst (.int .u64 0)), (.cst (.int .u64 0)), (.cst (.int .u64 0)), (.cst (.int .u64 0)), (.cst (.int .u64 0)), (.cst (.int .u64 0)), (.cst (.int .u64 0)), (.cst (.int .u64 0)), (.cst (.int .u64 0)), (.cst (.int .u64 0)), (.cst (.int .u64 0))]
   (.loop [.int .i64] [(.cst (.int .i64 1))]
    (.lift (.br (.cm .leq (.var (.int .i64) 5) (.cst (.int .i64 15)))
     (.need (.cm .leq (.cst (.int .i64 0)) (.ar .sub .i64 (.var (.int .i64) 5) (.cst (.int .i64 1))))
     (.need (.cm .lss (.ar .sub .i64 (.var (.int .i64) 5) (.cst (.int .i64 1))) (.cst (.int .i64 17)))
     (.load (.ia 1 (.var (.addr) 4) (.ar .sub .i64 (.var (.int .i64) 5) (.cst (.int .i64 1)))) [.int .u64]
     (.need (.cm .leq (.cst (.int .i64 0)) (.ar .sub .i64 (.var (.int .i64) 5) (.cst (.int .i64 1))))
     (.need (.cm .lss (.ar .sub .i64 (.var (.int .i64) 5) (.cst (.int .i64 1))) (.cst (.int .i64 17)))
     (.load (.ia 1 (.var (.addr) 2) (.ar .sub .i64 (.var (.int .i64) 5) (.cst (.int .i64 1)))) [.int .u64]
     (.need (.cm .leq (.cst (.int .i64 0)) (.var (.int .i64) 5))
     (.need (.cm .lss (.var (.int .i64) 5) (.cst (.int .i64 17)))
     (.hsto (.ia 1 (.var (.addr) 4) (.var (.int .i64) 5)) [(.ar .shl .u64 (.ar .add .u64 (.var (.int .u64) 6) (.var (.int .u64) 7)) (.cst (.int .u64 1)))]
     (.cont 3 [(.ar .add .i64 (.var (.int .i64) 5) (.cst (.int .i64 1)))]))))))))))
     (.mks 27 2 16 [(.int .i64 0), (.int .u64 0)] (.ln (.var (.slice) 0)) (.ln (.var (.slice) 0))
     (.loop [.int .i64] [(.cst (.int .i64 0))]
      (.lift (.br (.cm .lss (.var (.int .i64) 7) (.ln (.var (.slice) 0)))
       (.need (.nt (.nn (.var (.slice) 0)))
       (.need (.cm .leq (.cst (.int .i64 0)) (.var (.int .i64) 7))
       (.need (.cm .lss (.var (.int .i64) 7) (.ln (.var (.slice) 0)))
       (.load (.ix 1 (.var (.slice) 0) (.var (.int .i64) 7)) [.int .i64]
       (.join []
        (.br (.cm .gtr (.var (.int .i64) 8) (.cst (.int .i64 0)))
         (.need (.cm .leq (.cst (.int .i64 0)) (.var (.int .i64) 8))
         (.need (.cm .lss (.var (.int .i64) 8) (.cst (.int .i64 17)))
         (.load (.ia 1 (.var (.addr) 4) (.var (.int .i64) 8)) [.int .u64]
         (.call F_impl_turned [(.x (.var (.int .u64) 9)), (.x (.var (.int .i64) 8))] false [(false, [.int .u64])]
         (.need (.nt (.nn (.var (.slice) 6)))
         (.need (.cm .leq (.cst (.int .i64 0)) (.var (.int .i64) 7))
         (.need (.cm .lss (.var (.int .i64) 7) (.ln (.var (.slice) 6)))
         (.hsto (.ix 2 (.var (.slice) 6) (.var (.int .i64) 7)) [(.var (.int .i64) 8), (.var (.int .u64) 10)]
         (.need (.cm .leq (.cst (.int .i64 0)) (.var (.int .i64) 8))
         (.need (.cm .lss (.var (.int .i64) 8) (.cst (.int .i64 17)))
         (.load (.ia 1 (.var (.addr) 4) (.var (.int .i64) 8)) [.int .u64]
         (.need (.cm .leq (.cst (.int .i64 0)) (.var (.int .i64) 8))
         (.need (.cm .lss (.var (.int .i64) 8) (.cst (.int .i64 17)))
         (.hsto (.ia 1 (.var (.addr) 4) (.var (.int .i64) 8)) [(.ar .add .u64 (.var (.int .u64) 11) (.cst (.int .u64 1)))]
         (.cont 7 [])))))))))))))))
         (.cont 7 []))
        (.cont 5 [(.ar .add .i64 (.var (.int .i64) 7) (.cst (.int .i64 1)))]))))))
       (.ret (.x (.var (.slice) 6))))))))))))))))))))
set_option maxRecDepth 100000 in
theorem s_impl_HuffCodes : sxF c_impl_HuffCodes Tryd.f25 p_impl_HuffCodes = some t_impl_HuffCodes := by kernel_rfl
theorem e_impl_HuffCodes (xs : Array Value) (w : World) : (callFunc F_impl_HuffCodes xs).runT Tryd.prog w #[] = (.ok (.enter F_impl_HuffCodes xs) w, #[]) := ent_of Tryd.func25 (by kernel_rfl) (by kernel_rfl) xs w
theorem run_impl_HuffCodes {S : Shared} {h : Eng.Heap} {Q : Value → Eng.Heap → Prop} {vs : List Value} (hsh : shOk (resShs p_impl_HuffCodes) vs) (hi : Inv S h) (hw : t_impl_HuffCodes.wp Tryd.prog S noLeaf Q vs h []) : CallsH Tryd.prog S F_impl_HuffCodes (argVals p_impl_HuffCodes vs) h Q :=
  sxF_ok (cfg := c_impl_HuffCodes) tabHCOk mixedHC Tryd.func25 rfl s_impl_HuffCodes e_impl_HuffCodes rfl hsh hi hw
/- function 37 -/
def c_impl_turned : Cfg := ⟨tabHC, [⟨3, [5, 8], [], [6, 9, 10, 11, 12, 13, 14, 15, 16, 17, 18, 19, 20, 21, 22]⟩], [], [.tmp 4]⟩
def p_impl_turned : List (Bool × List Sh) := [(false, [.int .u64]), (false, [.int .i64])]
set_option maxRecDepth 100000 in
def t_impl_turned : Tr :=
(.loop [.int .u64, .int .i64] [(.cst (.int .u64 0)), (.cst (.int .i64 0))]
 (.lift (.br (.cm .lss (.var (.int .i64) 3) (.var (.int .i64) 1))
  (.need (.cm .geq (.var (.int .i64) 3) (.cst (.int .i64 0)))
  (.need (.cm .geq (.ar .sub .i64 (.ar .sub .i64 (.var (.int .i64) 1) (.cst (.int .i64 1))) (.var (.int .i64) 3)) (.cst (.int .i64 0)))
  (.cont 0 [(.ar .or .u64 (.var (.int .u64) 2) (.ar .shl .u64 (.ar .and .u64 (.ar .shr .u64 (.var (.int .u64) 0) (.var (.int .i64) 3)) (.cst (.int .u64 1))) (.ar .sub .i64 (.ar .sub .i64 (.var (.int .i64) 1) (.cst (.int .i64 1))) (.var (.int .i64) 3)))), (.ar .add .i64 (.var (.int .i64) 3) (.cst (.int .i64 1)))])))
  (.ret (.x (.var (.int .u64) 2))))))
set_option maxRecDepth 100000 in
theorem s_impl_turned : sxF c_impl_turned Tryd.f37 p_impl_turned = some t_impl_turned := by kernel_rfl
theorem e_impl_turned (xs : Array Value) (w : World) : (callFunc F_impl_turned xs).runT Tryd.prog w #[] = (.ok (.enter F_impl_turned xs) w, #[]) := ent_of Tryd.func37 (by kernel_rfl) (by kernel_rfl) xs w
theorem run_impl_turned {S : Shared} {h : Eng.Heap} {Q : Value → Eng.Heap → Prop} {vs : List Value} (hsh : shOk (resShs p_impl_turned) vs) (hi : Inv S h) (hw : t_impl_turned.wp Tryd.prog S noLeaf Q vs h []) : CallsH Tryd.prog S F_impl_turned (argVals p_impl_turned vs) h Q :=
  sxF_ok (cfg := c_impl_turned) tabHCOk mixedHC Tryd.func37 rfl s_impl_turned e_impl_turned rfl hsh hi hw
end Go.Proofs.YteaonnfokkfnlaaDoor
