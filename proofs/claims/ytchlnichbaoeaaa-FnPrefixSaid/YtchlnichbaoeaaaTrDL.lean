-- printed by a generator of my own (wip/eng/Gen) from the translation
import Derived.Test.YtchlnichbaoeaaaEng2
import Derived.Test.YtchlnichbaoeaaaChecked
import Derived.Test.YtchlnichbaoeaaaNums
set_option linter.unusedVariables false
set_option linter.unusedSimpArgs false
namespace Go.Proofs.Ytchlnichbaoeaaa
open Go Go.Eng
def tabDL : List (TypeId × TyD) := [(0, ⟨.oth, 1, 0, [], none, some []⟩),
  (2, ⟨(.int .i64), 1, 8, [.int .i64], some [(1, (.int .i64 0))], none⟩),
  (3, ⟨(.int .i64), 1, 8, [.int .i64], some [(1, (.int .i64 0))], none⟩),
  (4, ⟨.bool, 1, 1, [.bool], some [(1, (.bool false))], none⟩),
  (5, ⟨(.int .u8), 1, 1, [.int .u8], some [(1, (.int .u8 0))], none⟩),
  (22, ⟨(.sl 5), 1, 24, [.slice], some [(1, .nilSl)], none⟩),
  (72, ⟨(.sl 2), 1, 24, [.slice], some [(1, .nilSl)], none⟩),
  (141, ⟨(.ptr 164), 1, 8, [.ptr], some [(1, .nilPtr)], none⟩)]
set_option maxRecDepth 100000 in
theorem tabDLOk : TabOk Try.prog tabDL := tabOk_of (by kernel_rfl)
theorem mixedDL : Try.prog.follows .mixedOrders = true := by kernel_rfl
/- function 79 -/
def c_spec_DrawHuffCodes : Cfg := ⟨tabDL, [], [], [.tmp 2]⟩
def p_spec_DrawHuffCodes : List (Bool × List Sh) := [(false, [.slice])]
set_option maxRecDepth 100000 in
def t_spec_DrawHuffCodes : Tr :=
(.call F_spec_l1New [(.x (.var (.slice) 0))] false [(false, [.ptr])]
(.call F_spec_l3DrawLens [(.x (.var (.ptr) 1))] false [(false, [.slice])]
(.ret (.x (.var (.slice) 2)))))
set_option maxRecDepth 100000 in
theorem s_spec_DrawHuffCodes : sxF c_spec_DrawHuffCodes Try.f79 p_spec_DrawHuffCodes = some t_spec_DrawHuffCodes := by kernel_rfl
theorem e_spec_DrawHuffCodes (xs : Array Value) (w : World) : (callFunc F_spec_DrawHuffCodes xs).runT Try.prog w #[] = (.ok (.enter F_spec_DrawHuffCodes xs) w, #[]) := ent_of Try.func79 (by kernel_rfl) (by kernel_rfl) xs w
theorem run_spec_DrawHuffCodes {S : Nat → Prop} {h : Eng.Heap} {Q : Value → Eng.Heap → Prop} {vs : List Value} (hsh : shOk (resShs p_spec_DrawHuffCodes) vs) (hi : Inv S h) (hw : t_spec_DrawHuffCodes.wp Try.prog S noLeaf Q vs h []) : CallsH Try.prog S F_spec_DrawHuffCodes (argVals p_spec_DrawHuffCodes vs) h Q :=
  sxF_ok (cfg := c_spec_DrawHuffCodes) tabDLOk mixedDL Try.func79 rfl s_spec_DrawHuffCodes e_spec_DrawHuffCodes rfl hsh hi hw
/- function 122 -/
def c_spec_l3DrawLens : Cfg := ⟨tabDL, [⟨14, [6], [], [64, 65, 66, 67, 68, 69, 70, 71, 72]⟩], [], [.tmp 2]⟩
def p_spec_l3DrawLens : List (Bool × List Sh) := [(false, [.ptr])]
set_option maxRecDepth 100000 in
def t_spec_l3DrawLens : Tr :=
(.call F_spec_l1Below [(.x (.var (.ptr) 0)), (.x (.cst (.int .i64 24)))] false [(false, [.int .i64])]
(.call F_spec_l1Below [(.x (.var (.ptr) 0)), (.x (.ar .add .i64 (.ar .add .i64 (.cst (.int .i64 1)) (.var (.int .i64) 1)) (.cst (.int .i64 1))))] false [(false, [.int .i64])]
(.call F_spec_l1Below [(.x (.var (.ptr) 0)), (.x (.cst (.int .i64 15)))] false [(false, [.int .i64])]
(.call F_spec_l3Pick [(.x (.var (.ptr) 0)), (.x (.ar .add .i64 (.cst (.int .i64 1)) (.var (.int .i64) 1))), (.x (.var (.int .i64) 2))] false [(false, [.slice])]
(.call F_spec_l3Spread [(.x (.var (.ptr) 0)), (.x (.ar .add .i64 (.cst (.int .i64 1)) (.var (.int .i64) 1))), (.x (.var (.slice) 4)), (.x (.ar .add .i64 (.cst (.int .i64 1)) (.var (.int .i64) 3)))] false [(false, [.slice])]
(.call F_spec_l1Below [(.x (.var (.ptr) 0)), (.x (.cst (.int .i64 8)))] false [(false, [.int .i64])]
(.call F_spec_l1Below [(.x (.var (.ptr) 0)), (.x (.ar .add .i64 (.cst (.int .i64 1)) (.var (.int .i64) 1)))] false [(false, [.int .i64])]
(.join []
 (.br (.cm .eql (.var (.int .i64) 6) (.cst (.int .i64 0)))
  (.call F_spec_l1Below [(.x (.var (.ptr) 0)), (.x (.cst (.int .i64 18)))] false [(false, [.int .i64])]
  (.need (.nt (.nn (.var (.slice) 5)))
  (.need (.cm .leq (.cst (.int .i64 0)) (.var (.int .i64) 7))
  (.need (.cm .lss (.var (.int .i64) 7) (.ln (.var (.slice) 5)))
  (.hsto (.ix 1 (.var (.slice) 5) (.var (.int .i64) 7)) [(.ar .sub .i64 (.var (.int .i64) 8) (.cst (.int .i64 1)))]
  (.cont 0 []))))))
  (.cont 0 []))
 (.join [.bool]
  (.br (.cm .eql (.var (.int .i64) 6) (.cst (.int .i64 1)))
   (.need (.nt (.nn (.var (.slice) 5)))
   (.need (.cm .leq (.cst (.int .i64 0)) (.var (.int .i64) 7))
   (.need (.cm .lss (.var (.int .i64) 7) (.ln (.var (.slice) 5)))
   (.load (.ix 1 (.var (.slice) 5) (.var (.int .i64) 7)) [.int .i64]
   (.cont 0 [(.cm .lss (.var (.int .i64) 8) (.cst (.int .i64 15)))])))))
   (.cont 0 [(.cst (.bool false))]))
  (.join []
   (.br (.var (.bool) 8)
    (.need (.nt (.nn (.var (.slice) 5)))
    (.need (.cm .leq (.cst (.int .i64 0)) (.var (.int .i64) 7))
    (.need (.cm .lss (.var (.int .i64) 7) (.ln (.var (.slice) 5)))
    (.load (.ix 1 (.var (.slice) 5) (.var (.int .i64) 7)) [.int .i64]
    (.need (.nt (.nn (.var (.slice) 5)))
    (.need (.cm .leq (.cst (.int .i64 0)) (.var (.int .i64) 7))
    (.need (.cm .lss (.var (.int .i64) 7) (.ln (.var (.slice) 5)))
    (.hsto (.ix 1 (.var (.slice) 5) (.var (.int .i64) 7)) [(.ar .add .i64 (.var (.int .i64) 9) (.cst (.int .i64 1)))]
    (.cont 0 [])))))))))
    (.cont 0 []))
   (.join []
    (.br (.cm .eql (.var (.int .i64) 6) (.cst (.int .i64 2)))
     (.need (.nt (.nn (.var (.slice) 5)))
     (.need (.cm .leq (.cst (.int .i64 0)) (.var (.int .i64) 7))
     (.need (.cm .lss (.var (.int .i64) 7) (.ln (.var (.slice) 5)))
     (.hsto (.ix 1 (.var (.slice) 5) (.var (.int .i64) 7)) [(.cst (.int .i64 0))]
     (.cont 0 [])))))
     (.cont 0 []))
    (.call F_spec_l1Once [(.x (.var (.ptr) 0)), (.x (.cst (.int .i64 40)))] false [(false, [.bool])]
    (.join [.slice]
     (.br (.var (.bool) 9)
      (.loop [.slice] [(.var (.slice) 5)]
       (.call F_spec_l1Below [(.x (.var (.ptr) 0)), (.x (.cst (.int .i64 2)))] false [(false, [.int .i64])]
       (.lift (.br (.cm .lss (.ln (.var (.slice) 10)) (.ar .add .i64 (.cst (.int .i64 320)) (.var (.int .i64) 11)))
        (.hsl 2 1 [(.cst (.int .i64 0))]
        (.app 2 1 8 [(.int .i64 0)] (.var (.slice) 10) (.var (.slice) 12)
        (.cont 1 [(.var (.slice) 13)])))
        (.cont 0 [(.var (.slice) 10)])))))
      (.cont 0 [(.var (.slice) 5)]))
     (.ret (.x (.var (.slice) 10))))))))))))))))
set_option maxRecDepth 100000 in
theorem s_spec_l3DrawLens : sxF c_spec_l3DrawLens Try.f122 p_spec_l3DrawLens = some t_spec_l3DrawLens := by kernel_rfl
theorem e_spec_l3DrawLens (xs : Array Value) (w : World) : (callFunc F_spec_l3DrawLens xs).runT Try.prog w #[] = (.ok (.enter F_spec_l3DrawLens xs) w, #[]) := ent_of Try.func122 (by kernel_rfl) (by kernel_rfl) xs w
theorem run_spec_l3DrawLens {S : Nat → Prop} {h : Eng.Heap} {Q : Value → Eng.Heap → Prop} {vs : List Value} (hsh : shOk (resShs p_spec_l3DrawLens) vs) (hi : Inv S h) (hw : t_spec_l3DrawLens.wp Try.prog S noLeaf Q vs h []) : CallsH Try.prog S F_spec_l3DrawLens (argVals p_spec_l3DrawLens vs) h Q :=
  sxF_ok (cfg := c_spec_l3DrawLens) tabDLOk mixedDL Try.func122 rfl s_spec_l3DrawLens e_spec_l3DrawLens rfl hsh hi hw
/- function 126 -/
def c_spec_l1Once : Cfg := ⟨tabDL, [], [], [.tmp 4]⟩
def p_spec_l1Once : List (Bool × List Sh) := [(false, [.ptr]), (false, [.int .i64])]
set_option maxRecDepth 100000 in
def t_spec_l1Once : Tr :=
(.call F_spec_l1Below [(.x (.var (.ptr) 0)), (.x (.var (.int .i64) 1))] false [(false, [.int .i64])]
(.ret (.x (.cm .eql (.var (.int .i64) 2) (.cst (.int .i64 0))))))
set_option maxRecDepth 100000 in
theorem s_spec_l1Once : sxF c_spec_l1Once Try.f126 p_spec_l1Once = some t_spec_l1Once := by kernel_rfl
theorem e_spec_l1Once (xs : Array Value) (w : World) : (callFunc F_spec_l1Once xs).runT Try.prog w #[] = (.ok (.enter F_spec_l1Once xs) w, #[]) := ent_of Try.func126 (by kernel_rfl) (by kernel_rfl) xs w
theorem run_spec_l1Once {S : Nat → Prop} {h : Eng.Heap} {Q : Value → Eng.Heap → Prop} {vs : List Value} (hsh : shOk (resShs p_spec_l1Once) vs) (hi : Inv S h) (hw : t_spec_l1Once.wp Try.prog S noLeaf Q vs h []) : CallsH Try.prog S F_spec_l1Once (argVals p_spec_l1Once vs) h Q :=
  sxF_ok (cfg := c_spec_l1Once) tabDLOk mixedDL Try.func126 rfl s_spec_l1Once e_spec_l1Once rfl hsh hi hw
/- function 128 -/
def c_spec_l3Spread : Cfg := ⟨tabDL, [⟨3, [9, 10], [], [14, 15, 16, 17, 18, 19, 20, 21]⟩, ⟨11, [12], [], [38, 39, 40, 41, 42, 43, 44, 45, 46, 47, 48, 49, 50, 51, 52, 53, 54, 55, 56, 57, 58, 59]⟩], [], [.tmp 8]⟩
def p_spec_l3Spread : List (Bool × List Sh) := [(false, [.ptr]), (false, [.int .i64]), (false, [.slice]), (false, [.int .i64])]
set_option maxRecDepth 100000 in
def t_spec_l3Spread : Tr :=
(.hsl 2 0 []
(.loop [.slice, .int .i64] [(.var (.slice) 4), (.cst (.int .i64 0))]
 (.lift (.br (.cm .lss (.var (.int .i64) 6) (.var (.int .i64) 1))
  (.hsl 2 1 [(.cst (.int .i64 0))]
  (.app 2 1 8 [(.int .i64 0)] (.var (.slice) 5) (.var (.slice) 7)
  (.cont 0 [(.var (.slice) 8), (.ar .add .i64 (.var (.int .i64) 6) (.cst (.int .i64 1)))])))
  (.join []
   (.br (.cm .eql (.ln (.var (.slice) 2)) (.cst (.int .i64 1)))
    (.need (.nt (.nn (.var (.slice) 2)))
    (.need (.cm .leq (.cst (.int .i64 0)) (.cst (.int .i64 0)))
    (.need (.cm .lss (.cst (.int .i64 0)) (.ln (.var (.slice) 2)))
    (.load (.ix 1 (.var (.slice) 2) (.cst (.int .i64 0))) [.int .i64]
    (.need (.nt (.nn (.var (.slice) 5)))
    (.need (.cm .leq (.cst (.int .i64 0)) (.var (.int .i64) 7))
    (.need (.cm .lss (.var (.int .i64) 7) (.ln (.var (.slice) 5)))
    (.hsto (.ix 1 (.var (.slice) 5) (.var (.int .i64) 7)) [(.cst (.int .i64 1))]
    (.cont 2 [])))))))))
    (.cont 2 []))
   (.join []
    (.br (.cm .gtr (.ln (.var (.slice) 2)) (.cst (.int .i64 1)))
     (.call F_spec_l3Leaves [(.x (.var (.ptr) 0)), (.x (.ln (.var (.slice) 2))), (.x (.var (.int .i64) 3))] false [(false, [.slice])]
     (.loop [.int .i64] [(.cst (.int .i64 0))]
      (.lift (.br (.it (.cm .lss (.var (.int .i64) 8) (.ln (.var (.slice) 2))) (.cm .lss (.var (.int .i64) 8) (.ln (.var (.slice) 7))) (.cst (.bool false)))
       (.need (.nt (.nn (.var (.slice) 2)))
       (.need (.cm .leq (.cst (.int .i64 0)) (.var (.int .i64) 8))
       (.need (.cm .lss (.var (.int .i64) 8) (.ln (.var (.slice) 2)))
       (.load (.ix 1 (.var (.slice) 2) (.var (.int .i64) 8)) [.int .i64]
       (.need (.nt (.nn (.var (.slice) 7)))
       (.need (.cm .leq (.cst (.int .i64 0)) (.var (.int .i64) 8))
       (.need (.cm .lss (.var (.int .i64) 8) (.ln (.var (.slice) 7)))
       (.load (.ix 1 (.var (.slice) 7) (.var (.int .i64) 8)) [.int .i64]
       (.need (.nt (.nn (.var (.slice) 5)))
       (.need (.cm .leq (.cst (.int .i64 0)) (.var (.int .i64) 9))
       (.need (.cm .lss (.var (.int .i64) 9) (.ln (.var (.slice) 5)))
       (.hsto (.ix 1 (.var (.slice) 5) (.var (.int .i64) 9)) [(.var (.int .i64) 10)]
       (.cont 3 [(.ar .add .i64 (.var (.int .i64) 8) (.cst (.int .i64 1)))])))))))))))))
       (.cont 2 [])))))
     (.cont 2 []))
    (.ret (.x (.var (.slice) 5)))))))))
set_option maxRecDepth 100000 in
theorem s_spec_l3Spread : sxF c_spec_l3Spread Try.f128 p_spec_l3Spread = some t_spec_l3Spread := by kernel_rfl
theorem e_spec_l3Spread (xs : Array Value) (w : World) : (callFunc F_spec_l3Spread xs).runT Try.prog w #[] = (.ok (.enter F_spec_l3Spread xs) w, #[]) := ent_of Try.func128 (by kernel_rfl) (by kernel_rfl) xs w
theorem run_spec_l3Spread {S : Nat → Prop} {h : Eng.Heap} {Q : Value → Eng.Heap → Prop} {vs : List Value} (hsh : shOk (resShs p_spec_l3Spread) vs) (hi : Inv S h) (hw : t_spec_l3Spread.wp Try.prog S noLeaf Q vs h []) : CallsH Try.prog S F_spec_l3Spread (argVals p_spec_l3Spread vs) h Q :=
  sxF_ok (cfg := c_spec_l3Spread) tabDLOk mixedDL Try.func128 rfl s_spec_l3Spread e_spec_l3Spread rfl hsh hi hw
/- function 129 -/
def c_spec_l3Pick : Cfg := ⟨tabDL, [⟨3, [7, 8], [], [10, 11, 12, 13, 14, 15, 16, 17, 18, 19, 20, 21, 22, 23, 24, 25, 26, 27, 28, 29, 30, 31, 32, 33, 34]⟩], [], [.tmp 6]⟩
def p_spec_l3Pick : List (Bool × List Sh) := [(false, [.ptr]), (false, [.int .i64]), (false, [.int .i64])]
set_option maxRecDepth 100000 in
def t_spec_l3Pick : Tr :=
(.hsl 2 0 []
(.loop [.slice, .int .i64] [(.var (.slice) 3), (.cst (.int .i64 0))]
 (.lift (.br (.it (.cm .lss (.var (.int .i64) 5) (.var (.int .i64) 1)) (.cm .lss (.ln (.var (.slice) 4)) (.var (.int .i64) 2)) (.cst (.bool false)))
  (.call F_spec_l1Below [(.x (.var (.ptr) 0)), (.x (.ar .sub .i64 (.var (.int .i64) 1) (.var (.int .i64) 5)))] false [(false, [.int .i64])]
  (.join [.slice]
   (.br (.cm .lss (.var (.int .i64) 6) (.ar .sub .i64 (.var (.int .i64) 2) (.ln (.var (.slice) 4))))
    (.hsl 2 1 [(.var (.int .i64) 5)]
    (.app 2 1 8 [(.int .i64 0)] (.var (.slice) 4) (.var (.slice) 7)
    (.cont 2 [(.var (.slice) 8)])))
    (.cont 2 [(.var (.slice) 4)]))
   (.cont 0 [(.var (.slice) 7), (.ar .add .i64 (.var (.int .i64) 5) (.cst (.int .i64 1)))])))
  (.ret (.x (.var (.slice) 4)))))))
set_option maxRecDepth 100000 in
theorem s_spec_l3Pick : sxF c_spec_l3Pick Try.f129 p_spec_l3Pick = some t_spec_l3Pick := by kernel_rfl
theorem e_spec_l3Pick (xs : Array Value) (w : World) : (callFunc F_spec_l3Pick xs).runT Try.prog w #[] = (.ok (.enter F_spec_l3Pick xs) w, #[]) := ent_of Try.func129 (by kernel_rfl) (by kernel_rfl) xs w
theorem run_spec_l3Pick {S : Nat → Prop} {h : Eng.Heap} {Q : Value → Eng.Heap → Prop} {vs : List Value} (hsh : shOk (resShs p_spec_l3Pick) vs) (hi : Inv S h) (hw : t_spec_l3Pick.wp Try.prog S noLeaf Q vs h []) : CallsH Try.prog S F_spec_l3Pick (argVals p_spec_l3Pick vs) h Q :=
  sxF_ok (cfg := c_spec_l3Pick) tabDLOk mixedDL Try.func129 rfl s_spec_l3Pick e_spec_l3Pick rfl hsh hi hw
/- function 130 -/
def c_spec_l3Leaves : Cfg := ⟨tabDL, [⟨5, [8, 9], [], [19, 20, 21, 22, 23, 24, 25, 26, 27, 28, 29, 30, 31, 32, 33, 34, 35, 36, 37]⟩, ⟨2, [7], [], [8, 9, 11, 12, 13, 14, 15, 16, 17, 18, 19, 20, 21, 22, 23, 24, 25, 26, 27, 28, 29, 30, 31, 32, 33, 34, 35, 36, 37, 38, 39, 40, 41, 42, 43, 44, 45, 46, 47, 48, 49, 50, 51, 52, 53, 54, 55, 56, 57, 58, 59]⟩], [], [.tmp 6]⟩
def p_spec_l3Leaves : List (Bool × List Sh) := [(false, [.ptr]), (false, [.int .i64]), (false, [.int .i64])]
set_option maxRecDepth 100000 in
def t_spec_l3Leaves : Tr :=
(.hsl 2 2 [(.cst (.int .i64 1)), (.cst (.int .i64 1))]
(.loop [.slice] [(.var (.slice) 3)]
 (.lift (.br (.cm .lss (.ln (.var (.slice) 4)) (.var (.int .i64) 1))
  (.call F_spec_l1Below [(.x (.var (.ptr) 0)), (.x (.ln (.var (.slice) 4)))] false [(false, [.int .i64])]
  (.loop [.int .i64, .int .i64] [(.var (.int .i64) 5), (.cst (.int .i64 0))]
   (.need (.nt (.nn (.var (.slice) 4)))
   (.need (.cm .leq (.cst (.int .i64 0)) (.var (.int .i64) 6))
   (.need (.cm .lss (.var (.int .i64) 6) (.ln (.var (.slice) 4)))
   (.load (.ix 1 (.var (.slice) 4) (.var (.int .i64) 6)) [.int .i64]
   (.lift (.br (.it (.cm .eql (.var (.int .i64) 8) (.var (.int .i64) 2)) (.cm .lss (.var (.int .i64) 7) (.ln (.var (.slice) 4))) (.cst (.bool false)))
    (.need (.cm .neq (.ln (.var (.slice) 4)) (.cst (.int .i64 0)))
    (.cont 2 [(.ar .rem .i64 (.ar .add .i64 (.var (.int .i64) 6) (.cst (.int .i64 1))) (.ln (.var (.slice) 4))), (.ar .add .i64 (.var (.int .i64) 7) (.cst (.int .i64 1)))]))
    (.need (.nt (.nn (.var (.slice) 4)))
    (.need (.cm .leq (.cst (.int .i64 0)) (.var (.int .i64) 6))
    (.need (.cm .lss (.var (.int .i64) 6) (.ln (.var (.slice) 4)))
    (.load (.ix 1 (.var (.slice) 4) (.var (.int .i64) 6)) [.int .i64]
    (.lift (.br (.cm .eql (.var (.int .i64) 9) (.var (.int .i64) 2))
     (.ret (.x (.var (.slice) 4)))
     (.need (.nt (.nn (.var (.slice) 4)))
     (.need (.cm .leq (.cst (.int .i64 0)) (.var (.int .i64) 6))
     (.need (.cm .lss (.var (.int .i64) 6) (.ln (.var (.slice) 4)))
     (.load (.ix 1 (.var (.slice) 4) (.var (.int .i64) 6)) [.int .i64]
     (.need (.nt (.nn (.var (.slice) 4)))
     (.need (.cm .leq (.cst (.int .i64 0)) (.var (.int .i64) 6))
     (.need (.cm .lss (.var (.int .i64) 6) (.ln (.var (.slice) 4)))
     (.hsto (.ix 1 (.var (.slice) 4) (.var (.int .i64) 6)) [(.ar .add .i64 (.var (.int .i64) 10) (.cst (.int .i64 1)))]
     (.need (.nt (.nn (.var (.slice) 4)))
     (.need (.cm .leq (.cst (.int .i64 0)) (.var (.int .i64) 6))
     (.need (.cm .lss (.var (.int .i64) 6) (.ln (.var (.slice) 4)))
     (.load (.ix 1 (.var (.slice) 4) (.var (.int .i64) 6)) [.int .i64]
     (.hsl 2 1 [(.var (.int .i64) 11)]
     (.app 2 1 8 [(.int .i64 0)] (.var (.slice) 4) (.var (.slice) 12)
     (.cont 0 [(.var (.slice) 13)])))))))))))))))))))))))))))))
  (.ret (.x (.var (.slice) 4)))))))
set_option maxRecDepth 100000 in
theorem s_spec_l3Leaves : sxF c_spec_l3Leaves Try.f130 p_spec_l3Leaves = some t_spec_l3Leaves := by kernel_rfl
theorem e_spec_l3Leaves (xs : Array Value) (w : World) : (callFunc F_spec_l3Leaves xs).runT Try.prog w #[] = (.ok (.enter F_spec_l3Leaves xs) w, #[]) := ent_of Try.func130 (by kernel_rfl) (by kernel_rfl) xs w
theorem run_spec_l3Leaves {S : Nat → Prop} {h : Eng.Heap} {Q : Value → Eng.Heap → Prop} {vs : List Value} (hsh : shOk (resShs p_spec_l3Leaves) vs) (hi : Inv S h) (hw : t_spec_l3Leaves.wp Try.prog S noLeaf Q vs h []) : CallsH Try.prog S F_spec_l3Leaves (argVals p_spec_l3Leaves vs) h Q :=
  sxF_ok (cfg := c_spec_l3Leaves) tabDLOk mixedDL Try.func130 rfl s_spec_l3Leaves e_spec_l3Leaves rfl hsh hi hw
end Go.Proofs.Ytchlnichbaoeaaa
