-- printed by a generator of my own (wip/eng/Gen) from the translation
import Derived.Test.YteaonnfokkfnlaaDoorEng2
import Derived.Test.YteaonnfokkfnlaaDoorChecked
import Derived.Test.YteaonnfokkfnlaaDoorNums
set_option linter.unusedVariables false
set_option linter.unusedSimpArgs false
namespace Go.Proofs.YteaonnfokkfnlaaDoor
open Go Go.Eng
def tabFL : List (TypeId × TyD) := [(0, ⟨.oth, 1, 0, [], none, some []⟩),
  (2, ⟨(.int .i64), 1, 8, [.int .i64], some [(1, (.int .i64 0))], none⟩),
  (3, ⟨(.int .i64), 1, 8, [.int .i64], some [(1, (.int .i64 0))], none⟩),
  (4, ⟨.bool, 1, 1, [.bool], some [(1, (.bool false))], none⟩),
  (5, ⟨(.int .u8), 1, 1, [.int .u8], some [(1, (.int .u8 0))], none⟩),
  (22, ⟨(.sl 5), 1, 24, [.slice], some [(1, .nilSl)], none⟩),
  (25, ⟨(.int .u64), 1, 8, [.int .u64], some [(1, (.int .u64 0))], none⟩),
  (27, ⟨(.st [(0, 2), (1, 25)]), 2, 16, [.int .i64, .int .u64], some [(1, (.int .i64 0)), (1, (.int .u64 0))], none⟩),
  (28, ⟨(.sl 27), 1, 24, [.slice], some [(1, .nilSl)], none⟩),
  (30, ⟨(.sl 2), 1, 24, [.slice], some [(1, .nilSl)], none⟩),
  (32, ⟨(.int .u64), 1, 8, [.int .u64], some [(1, (.int .u64 0))], none⟩),
  (34, ⟨(.st [(0, 2), (1, 22), (2, 2)]), 3, 40, [.int .i64, .slice, .int .i64], some [(1, (.int .i64 0)), (1, .nilSl), (1, (.int .i64 0))], none⟩)]
set_option maxRecDepth 100000 in
theorem tabFLOk : TabOk Tryd.prog tabFL := tabOk_of (by kernel_rfl)
theorem mixedFL : Tryd.prog.follows .mixedOrders = true := by kernel_rfl
/- function 3 -/
def c_laws_FnLarge : Cfg := ⟨tabFL, [⟨7, [4, 5], [], [26, 27, 28, 29, 30, 31, 32, 33, 34, 35, 36, 37, 38, 39]⟩, ⟨14, [7], [], [51, 52, 53, 54, 55, 56, 57, 58, 59, 60, 61, 62, 63, 64, 65, 66, 67, 68, 69, 70, 71, 72, 73, 74]⟩], [], [.tmp 2]⟩
def p_laws_FnLarge : List (Bool × List Sh) := [(false, [.slice])]
set_option maxRecDepth 100000 in
def t_laws_FnLarge : Tr :=
(.lift (.br (.cm .gtr (.ln (.var (.slice) 0)) (.cst (.int .i64 1048576)))
 (.ret (.x (.cst (.bool true))))
 (.call F_laws_lwAt [(.x (.var (.slice) 0)), (.x (.cst (.int .i64 0)))] false [(false, [.int .i64])]
 (.call F_laws_lwAt [(.x (.var (.slice) 0)), (.x (.cst (.int .i64 1)))] false [(false, [.int .i64])]
 (.hsl 5 3 [(.cst (.int .u8 1)), (.cst (.int .u8 1)), (.cst (.int .u8 0))]
 (.call F_laws_lwFixed [] false [(false, [.slice])]
 (.call F_spec_HuffCodes [(.x (.var (.slice) 4))] false [(false, [.slice])]
 (.need (.nt (.nn (.var (.slice) 5)))
 (.need (.cm .leq (.cst (.int .i64 0)) (.cst (.int .i64 7)))
 (.need (.cm .lss (.cst (.int .i64 7)) (.ln (.var (.slice) 5)))
 (.load (.ix 2 (.var (.slice) 5) (.cst (.int .i64 7))) [.int .i64, .int .u64]
 (.call F_laws_lwPut [(.x (.var (.slice) 3)), (.agg [(.var (.int .i64) 6), (.var (.int .u64) 7)])] false [(false, [.slice])]
 (.loop [.slice, .int .i64] [(.var (.slice) 8), (.cst (.int .i64 0))]
  (.lift (.br (.cm .lss (.var (.int .i64) 10) (.ar .rem .i64 (.ar .add .i64 (.ar .mul .i64 (.cst (.int .i64 256)) (.var (.int .i64) 1)) (.var (.int .i64) 2)) (.cst (.int .i64 400))))
   (.call F_laws_lwFixed [] false [(false, [.slice])]
   (.call F_spec_HuffCodes [(.x (.var (.slice) 11))] false [(false, [.slice])]
   (.need (.nt (.nn (.var (.slice) 12)))
   (.need (.cm .leq (.cst (.int .i64 0)) (.cst (.int .i64 285)))
   (.need (.cm .lss (.cst (.int .i64 285)) (.ln (.var (.slice) 12)))
   (.load (.ix 2 (.var (.slice) 12) (.cst (.int .i64 285))) [.int .i64, .int .u64]
   (.call F_laws_lwPut [(.x (.var (.slice) 9)), (.agg [(.var (.int .i64) 13), (.var (.int .u64) 14)])] false [(false, [.slice])]
   (.hsl 5 5 [(.cst (.int .u8 0)), (.cst (.int .u8 0)), (.cst (.int .u8 0)), (.cst (.int .u8 0)), (.cst (.int .u8 0))]
   (.app 5 1 1 [(.int .u8 0)] (.var (.slice) 15) (.var (.slice) 16)
   (.cont 1 [(.var (.slice) 17), (.ar .add .i64 (.var (.int .i64) 10) (.cst (.int .i64 1)))]))))))))))
   (.call F_laws_lwFixed [] false [(false, [.slice])]
   (.call F_spec_HuffCodes [(.x (.var (.slice) 11))] false [(false, [.slice])]
   (.need (.nt (.nn (.var (.slice) 12)))
   (.need (.cm .leq (.cst (.int .i64 0)) (.cst (.int .i64 256)))
   (.need (.cm .lss (.cst (.int .i64 256)) (.ln (.var (.slice) 12)))
   (.load (.ix 2 (.var (.slice) 12) (.cst (.int .i64 256))) [.int .i64, .int .u64]
   (.call F_laws_lwPut [(.x (.var (.slice) 9)), (.agg [(.var (.int .i64) 13), (.var (.int .u64) 14)])] false [(false, [.slice])]
   (.mks 5 1 1 [(.int .u8 0)] (.ar .quo .i64 (.ar .add .i64 (.ln (.var (.slice) 15)) (.cst (.int .i64 7))) (.cst (.int .i64 8))) (.ar .quo .i64 (.ar .add .i64 (.ln (.var (.slice) 15)) (.cst (.int .i64 7))) (.cst (.int .i64 8)))
   (.loop [.int .i64] [(.cst (.int .i64 0))]
    (.lift (.br (.cm .lss (.var (.int .i64) 17) (.ln (.var (.slice) 15)))
     (.need (.nt (.nn (.var (.slice) 16)))
     (.need (.cm .leq (.cst (.int .i64 0)) (.ar .quo .i64 (.var (.int .i64) 17) (.cst (.int .i64 8))))
     (.need (.cm .lss (.ar .quo .i64 (.var (.int .i64) 17) (.cst (.int .i64 8))) (.ln (.var (.slice) 16)))
     (.load (.ix 1 (.var (.slice) 16) (.ar .quo .i64 (.var (.int .i64) 17) (.cst (.int .i64 8)))) [.int .u8]
     (.need (.nt (.nn (.var (.slice) 15)))
     (.need (.cm .leq (.cst (.int .i64 0)) (.var (.int .i64) 17))
     (.need (.cm .lss (.var (.int .i64) 17) (.ln (.var (.slice) 15)))
     (.load (.ix 1 (.var (.slice) 15) (.var (.int .i64) 17)) [.int .u8]
     (.need (.cm .geq (.cv .u64 (.ar .rem .i64 (.var (.int .i64) 17) (.cst (.int .i64 8)))) (.cst (.int .u64 0)))
     (.need (.nt (.nn (.var (.slice) 16)))
     (.need (.cm .leq (.cst (.int .i64 0)) (.ar .quo .i64 (.var (.int .i64) 17) (.cst (.int .i64 8))))
     (.need (.cm .lss (.ar .quo .i64 (.var (.int .i64) 17) (.cst (.int .i64 8))) (.ln (.var (.slice) 16)))
     (.hsto (.ix 1 (.var (.slice) 16) (.ar .quo .i64 (.var (.int .i64) 17) (.cst (.int .i64 8)))) [(.ar .or .u8 (.var (.int .u8) 18) (.ar .shl .u8 (.var (.int .u8) 19) (.cv .u64 (.ar .rem .i64 (.var (.int .i64) 17) (.cst (.int .i64 8))))))]
     (.cont 3 [(.ar .add .i64 (.var (.int .i64) 17) (.cst (.int .i64 1)))]))))))))))))))
     (.hsl 5 0 []
     (.call F_impl_Inflate [(.x (.var (.slice) 16)), (.x (.cst (.int .i64 1))), (.x (.var (.slice) 18))] false [(true, [.int .i64, .slice, .int .i64])]
     (.lift (.br (.cm .gtr (.ar .add .i64 (.cst (.int .i64 1)) (.ar .mul .i64 (.cst (.int .i64 258)) (.ar .rem .i64 (.ar .add .i64 (.ar .mul .i64 (.cst (.int .i64 256)) (.var (.int .i64) 1)) (.var (.int .i64) 2)) (.cst (.int .i64 400))))) (.cst (.int .i64 100000)))
      (.ret (.x (.it (.cm .eql (.var (.int .i64) 19) (.cst (.int .i64 6))) (.cm .eql (.ln (.var (.slice) 20)) (.cst (.int .i64 99847))) (.cst (.bool false)))))
      (.join [.bool, .bool]
       (.br (.it (.it (.cm .eql (.var (.int .i64) 19) (.cst (.int .i64 1))) (.cm .eql (.ln (.var (.slice) 20)) (.ar .add .i64 (.cst (.int .i64 1)) (.ar .mul .i64 (.cst (.int .i64 258)) (.ar .rem .i64 (.ar .add .i64 (.ar .mul .i64 (.cst (.int .i64 256)) (.var (.int .i64) 1)) (.var (.int .i64) 2)) (.cst (.int .i64 400)))))) (.cst (.bool false))) (.cm .eql (.var (.int .i64) 21) (.ln (.var (.slice) 15))) (.cst (.bool false)))
        (.need (.nt (.nn (.var (.slice) 20)))
        (.need (.cm .leq (.cst (.int .i64 0)) (.ar .sub .i64 (.ln (.var (.slice) 20)) (.cst (.int .i64 1))))
        (.need (.cm .lss (.ar .sub .i64 (.ln (.var (.slice) 20)) (.cst (.int .i64 1))) (.ln (.var (.slice) 20)))
        (.load (.ix 1 (.var (.slice) 20) (.ar .sub .i64 (.ln (.var (.slice) 20)) (.cst (.int .i64 1)))) [.int .u8]
        (.cont 6 [(.cm .eql (.var (.int .u8) 22) (.cst (.int .u8 7))), (.cm .eql (.var (.int .u8) 22) (.cst (.int .u8 7)))])))))
        (.cont 6 [(.cst (.bool false)), (.cst (.bool false))]))
       (.ret (.x (.var (.bool) 22))))))))))))))))))))))))))))))))))
set_option maxRecDepth 100000 in
theorem s_laws_FnLarge : sxF c_laws_FnLarge Tryd.f3 p_laws_FnLarge = some t_laws_FnLarge := by kernel_rfl
theorem e_laws_FnLarge (xs : Array Value) (w : World) : (callFunc F_laws_FnLarge xs).runT Tryd.prog w #[] = (.ok (.enter F_laws_FnLarge xs) w, #[]) := ent_of Tryd.func3 (by kernel_rfl) (by kernel_rfl) xs w
theorem run_laws_FnLarge {S : Shared} {h : Eng.Heap} {Q : Value → Eng.Heap → Prop} {vs : List Value} (hsh : shOk (resShs p_laws_FnLarge) vs) (hi : Inv S h) (hw : t_laws_FnLarge.wp Tryd.prog S noLeaf Q vs h []) : CallsH Tryd.prog S F_laws_FnLarge (argVals p_laws_FnLarge vs) h Q :=
  sxF_ok (cfg := c_laws_FnLarge) tabFLOk mixedFL Tryd.func3 rfl s_laws_FnLarge e_laws_FnLarge rfl hsh hi hw
/- function 6 -/
def c_laws_lwPut : Cfg := ⟨tabFL, [⟨2, [0, 5], [], [6, 7, 8, 9, 10, 11, 12, 13, 14, 15, 16, 17, 18, 19, 20, 21]⟩], [], [.tmp 4]⟩
def p_laws_lwPut : List (Bool × List Sh) := [(false, [.slice]), (true, [.int .i64, .int .u64])]
set_option maxRecDepth 100000 in
def t_laws_lwPut : Tr :=
(.loop [.slice, .int .i64] [(.var (.slice) 0), (.cst (.int .i64 0))]
 (.lift (.br (.cm .lss (.var (.int .i64) 4) (.var (.int .i64) 1))
  (.need (.cm .geq (.cv .u64 (.var (.int .i64) 4)) (.cst (.int .u64 0)))
  (.hsl 5 1 [(.ar .rem .u8 (.cv .u8 (.ar .shr .u64 (.var (.int .u64) 2) (.cv .u64 (.var (.int .i64) 4)))) (.cst (.int .u8 2)))]
  (.app 5 1 1 [(.int .u8 0)] (.var (.slice) 3) (.var (.slice) 5)
  (.cont 0 [(.var (.slice) 6), (.ar .add .i64 (.var (.int .i64) 4) (.cst (.int .i64 1)))]))))
  (.ret (.x (.var (.slice) 3))))))
set_option maxRecDepth 100000 in
theorem s_laws_lwPut : sxF c_laws_lwPut Tryd.f6 p_laws_lwPut = some t_laws_lwPut := by kernel_rfl
theorem e_laws_lwPut (xs : Array Value) (w : World) : (callFunc F_laws_lwPut xs).runT Tryd.prog w #[] = (.ok (.enter F_laws_lwPut xs) w, #[]) := ent_of Tryd.func6 (by kernel_rfl) (by kernel_rfl) xs w
theorem run_laws_lwPut {S : Shared} {h : Eng.Heap} {Q : Value → Eng.Heap → Prop} {vs : List Value} (hsh : shOk (resShs p_laws_lwPut) vs) (hi : Inv S h) (hw : t_laws_lwPut.wp Tryd.prog S noLeaf Q vs h []) : CallsH Tryd.prog S F_laws_lwPut (argVals p_laws_lwPut vs) h Q :=
  sxF_ok (cfg := c_laws_lwPut) tabFLOk mixedFL Tryd.func6 rfl s_laws_lwPut e_laws_lwPut rfl hsh hi hw
/- function 8 -/
def c_laws_lwFixed : Cfg := ⟨tabFL, [⟨3, [1, 2], [], [3, 5, 6, 7, 8, 9, 10, 11, 12, 13, 14, 15, 16, 17, 18, 19, 20, 21, 22, 23, 24]⟩], [], [.tmp 0]⟩
def p_laws_lwFixed : List (Bool × List Sh) := []
set_option maxRecDepth 100000 in
def t_laws_lwFixed : Tr :=
(.hsl 2 0 []
(.loop [.slice, .int .i64] [(.var (.slice) 0), (.cst (.int .i64 0))]
 (.lift (.br (.cm .lss (.var (.int .i64) 2) (.cst (.int .i64 288)))
  (.hsl 2 1 [(.it (.it (.cm .geq (.var (.int .i64) 2) (.cst (.int .i64 256))) (.cm .lss (.var (.int .i64) 2) (.cst (.int .i64 280))) (.cst (.bool false))) (.cst (.int .i64 7)) (.it (.it (.cm .geq (.var (.int .i64) 2) (.cst (.int .i64 144))) (.cm .lss (.var (.int .i64) 2) (.cst (.int .i64 256))) (.cst (.bool false))) (.cst (.int .i64 9)) (.cst (.int .i64 8))))]
  (.app 2 1 8 [(.int .i64 0)] (.var (.slice) 1) (.var (.slice) 3)
  (.cont 0 [(.var (.slice) 4), (.ar .add .i64 (.var (.int .i64) 2) (.cst (.int .i64 1)))])))
  (.ret (.x (.var (.slice) 1)))))))
set_option maxRecDepth 100000 in
theorem s_laws_lwFixed : sxF c_laws_lwFixed Tryd.f8 p_laws_lwFixed = some t_laws_lwFixed := by kernel_rfl
theorem e_laws_lwFixed (xs : Array Value) (w : World) : (callFunc F_laws_lwFixed xs).runT Tryd.prog w #[] = (.ok (.enter F_laws_lwFixed xs) w, #[]) := ent_of Tryd.func8 (by kernel_rfl) (by kernel_rfl) xs w
theorem run_laws_lwFixed {S : Shared} {h : Eng.Heap} {Q : Value → Eng.Heap → Prop} {vs : List Value} (hsh : shOk (resShs p_laws_lwFixed) vs) (hi : Inv S h) (hw : t_laws_lwFixed.wp Tryd.prog S noLeaf Q vs h []) : CallsH Tryd.prog S F_laws_lwFixed (argVals p_laws_lwFixed vs) h Q :=
  sxF_ok (cfg := c_laws_lwFixed) tabFLOk mixedFL Tryd.func8 rfl s_laws_lwFixed e_laws_lwFixed rfl hsh hi hw
end Go.Proofs.YteaonnfokkfnlaaDoor
