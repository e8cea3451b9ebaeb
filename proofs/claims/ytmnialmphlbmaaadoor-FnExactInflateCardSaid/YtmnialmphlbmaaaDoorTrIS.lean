-- printed by a generator of my own (wip/eng/Gen) from the translation
import Derived.Test.YtmnialmphlbmaaaDoorEng2
import Derived.Test.YtmnialmphlbmaaaDoorChecked
import Derived.Test.YtmnialmphlbmaaaDoorNums
set_option linter.unusedVariables false
set_option linter.unusedSimpArgs false
namespace Go.Proofs.YtmnialmphlbmaaaDoor
open Go Go.Eng
def tabIS : List (TypeId × TyD) := [(0, ⟨.oth, 1, 0, [], none, some []⟩),
  (2, ⟨(.int .i64), 1, 8, [.int .i64], some [(1, (.int .i64 0))], none⟩),
  (3, ⟨(.int .i64), 1, 8, [.int .i64], some [(1, (.int .i64 0))], none⟩),
  (4, ⟨.bool, 1, 1, [.bool], some [(1, (.bool false))], none⟩),
  (5, ⟨(.int .u8), 1, 1, [.int .u8], some [(1, (.int .u8 0))], none⟩),
  (22, ⟨(.sl 5), 1, 24, [.slice], some [(1, .nilSl)], none⟩),
  (25, ⟨(.int .u64), 1, 8, [.int .u64], some [(1, (.int .u64 0))], none⟩),
  (27, ⟨(.st [(0, 2), (1, 25)]), 2, 16, [.int .i64, .int .u64], some [(1, (.int .i64 0)), (1, (.int .u64 0))], none⟩),
  (28, ⟨(.sl 27), 1, 24, [.slice], some [(1, .nilSl)], none⟩),
  (30, ⟨(.sl 2), 1, 24, [.slice], some [(1, .nilSl)], none⟩),
  (34, ⟨(.st [(0, 2), (1, 22), (2, 2)]), 3, 40, [.int .i64, .slice, .int .i64], some [(1, (.int .i64 0)), (1, .nilSl), (1, (.int .i64 0))], none⟩),
  (70, ⟨.oth, 1, 0, [], none, some [30, 30]⟩),
  (74, ⟨(.st [(0, 22), (1, 2), (2, 2)]), 3, 40, [.slice, .int .i64, .int .i64], some [(1, .nilSl), (2, (.int .i64 0))], none⟩),
  (75, ⟨.oth, 1, 0, [], none, some [74, 30, 30]⟩),
  (82, ⟨(.st [(0, 22), (1, 3), (2, 2), (3, 3)]), 4, 48, [.slice, .int .i64, .int .i64, .int .i64], some [(1, .nilSl), (3, (.int .i64 0))], none⟩),
  (83, ⟨.oth, 1, 0, [], none, some [74, 82]⟩),
  (105, ⟨.oth, 1, 0, [], none, some [74, 2]⟩),
  (145, ⟨.oth, 1, 0, [], none, some [2, 2]⟩)]
set_option maxRecDepth 100000 in
theorem tabISOk : TabOk Tryd.prog tabIS := tabOk_of (by kernel_rfl)
theorem mixedIS : Tryd.prog.follows .mixedOrders = true := by kernel_rfl
/- function 24 -/
def c_spec_Inflate : Cfg := ⟨tabIS, [], [], [.cell 6 34]⟩
def p_spec_Inflate : List (Bool × List Sh) := [(false, [.slice]), (false, [.int .i64]), (false, [.slice])]
set_option maxRecDepth 100000 in
def t_spec_Inflate : Tr :=
(.lift (.br (.cm .gtr (.ln (.var (.slice) 0)) (.cst (.int .i64 65536)))
 (.ret (.agg [(.cst (.int .i64 7)), (.cst .nilSl), (.cst (.int .i64 0))]))
 (.lift (.br (.it (.cm .lss (.var (.int .i64) 1) (.cst (.int .i64 1))) (.cst (.bool true)) (.cm .gtr (.var (.int .i64) 1) (.cst (.int .i64 32768))))
  (.ret (.agg [(.cst (.int .i64 3)), (.cst .nilSl), (.cst (.int .i64 0))]))
  (.call F_spec_l5Start [(.x (.var (.int .i64) 1)), (.x (.var (.slice) 2)), (.x (.cst (.int .i64 100000)))] false [(true, [.slice, .int .i64, .int .i64, .int .i64])]
  (.call F_spec_l5Blocks [(.agg [(.var (.slice) 0), (.cst (.int .i64 0)), (.cst (.int .i64 0))]), (.agg [(.var (.slice) 3), (.var (.int .i64) 4), (.var (.int .i64) 5), (.var (.int .i64) 6)])] true [(true, [.slice, .int .i64, .int .i64]), (true, [.slice, .int .i64, .int .i64, .int .i64])]
  (.lift (.br (.cm .neq (.var (.int .i64) 9) (.cst (.int .i64 0)))
   (.call F_spec_l5Out [(.agg [(.var (.slice) 10), (.var (.int .i64) 11), (.var (.int .i64) 12), (.var (.int .i64) 13)])] false [(false, [.slice])]
   (.ret (.agg [(.var (.int .i64) 9), (.var (.slice) 14), (.cst (.int .i64 0))])))
   (.call F_spec_l5Out [(.agg [(.var (.slice) 10), (.var (.int .i64) 11), (.var (.int .i64) 12), (.var (.int .i64) 13)])] false [(false, [.slice])]
   (.ret (.agg [(.cst (.int .i64 1)), (.var (.slice) 14), (.var (.int .i64) 8)])))))))))))
set_option maxRecDepth 100000 in
theorem s_spec_Inflate : sxF c_spec_Inflate Tryd.f24 p_spec_Inflate = some t_spec_Inflate := by kernel_rfl
theorem e_spec_Inflate (xs : Array Value) (w : World) : (callFunc F_spec_Inflate xs).runT Tryd.prog w #[] = (.ok (.enter F_spec_Inflate xs) w, #[]) := ent_of Tryd.func24 (by kernel_rfl) (by kernel_rfl) xs w
theorem run_spec_Inflate {S : Shared} {h : Eng.Heap} {Q : Value → Eng.Heap → Prop} {vs : List Value} (hsh : shOk (resShs p_spec_Inflate) vs) (hi : Inv S h) (hw : t_spec_Inflate.wp Tryd.prog S noLeaf Q vs h []) : CallsH Tryd.prog S F_spec_Inflate (argVals p_spec_Inflate vs) h Q :=
  sxF_ok (cfg := c_spec_Inflate) tabISOk mixedIS Tryd.func24 rfl s_spec_Inflate e_spec_Inflate rfl hsh hi hw
/- function 46 -/
def c_spec_l5Blocks : Cfg := ⟨tabIS, [⟨3, [6, 7], [(0, 0), (0, 1), (0, 2), (1, 0), (1, 1), (1, 2), (1, 3)], [8, 9, 10, 11, 12, 13, 14, 15, 16, 17, 18, 19, 20, 21, 22, 23, 24, 25, 26, 27, 28, 29, 30, 31, 32, 33, 34, 35, 36, 37, 38, 39, 40, 41, 42, 43, 44, 45, 46, 47, 48, 49, 50, 51, 52, 53, 54, 55, 56, 57, 58, 59, 60, 61, 62, 63, 64, 65, 66, 67, 68, 69, 70, 71, 72, 73]⟩], [], [.cell 4 74, .cell 5 82]⟩
def p_spec_l5Blocks : List (Bool × List Sh) := [(true, [.slice, .int .i64, .int .i64]), (true, [.slice, .int .i64, .int .i64, .int .i64])]
set_option maxRecDepth 100000 in
def t_spec_l5Blocks : Tr :=
(.loop [.int .i64, .int .i64, .slice, .int .i64, .int .i64, .slice, .int .i64, .int .i64, .int .i64] [(.cst (.int .i64 0)), (.cst (.int .i64 0)), (.var (.slice) 0), (.var (.int .i64) 1), (.var (.int .i64) 2), (.var (.slice) 3), (.var (.int .i64) 4), (.var (.int .i64) 5), (.var (.int .i64) 6)]
 (.lift (.br (.it (.cm .eql (.var (.int .i64) 11) (.cst (.int .i64 0))) (.cm .eql (.var (.int .i64) 7) (.cst (.int .i64 0))) (.cst (.bool false)))
  (.call F_spec_l5Take [(.agg [(.var (.slice) 9), (.var (.int .i64) 10), (.var (.int .i64) 11)]), (.x (.cst (.int .i64 1)))] true [(true, [.slice, .int .i64, .int .i64]), (false, [.int .i64])]
  (.call F_spec_l5Take [(.agg [(.var (.slice) 16), (.var (.int .i64) 17), (.var (.int .i64) 18)]), (.x (.cst (.int .i64 2)))] true [(true, [.slice, .int .i64, .int .i64]), (false, [.int .i64])]
  (.call F_spec_l5Bad [(.agg [(.var (.slice) 20), (.var (.int .i64) 21), (.var (.int .i64) 22)]), (.x (.cm .eql (.var (.int .i64) 23) (.cst (.int .i64 3))))] false [(true, [.slice, .int .i64, .int .i64])]
  (.join [.slice, .int .i64, .int .i64, .slice, .int .i64, .int .i64, .int .i64]
   (.br (.it (.cm .eql (.var (.int .i64) 26) (.cst (.int .i64 0))) (.cm .eql (.var (.int .i64) 23) (.cst (.int .i64 0))) (.cst (.bool false)))
    (.call F_spec_l5Stored [(.agg [(.var (.slice) 24), (.var (.int .i64) 25), (.var (.int .i64) 26)]), (.agg [(.var (.slice) 12), (.var (.int .i64) 13), (.var (.int .i64) 14), (.var (.int .i64) 15)])] true [(true, [.slice, .int .i64, .int .i64]), (true, [.slice, .int .i64, .int .i64, .int .i64])]
    (.cont 2 [(.var (.slice) 27), (.var (.int .i64) 28), (.var (.int .i64) 29), (.var (.slice) 30), (.var (.int .i64) 31), (.var (.int .i64) 32), (.var (.int .i64) 33)]))
    (.cont 2 [(.var (.slice) 24), (.var (.int .i64) 25), (.var (.int .i64) 26), (.var (.slice) 12), (.var (.int .i64) 13), (.var (.int .i64) 14), (.var (.int .i64) 15)]))
   (.join [.slice, .int .i64, .int .i64, .slice, .int .i64, .int .i64, .int .i64]
    (.br (.it (.cm .eql (.var (.int .i64) 29) (.cst (.int .i64 0))) (.cm .gtr (.var (.int .i64) 23) (.cst (.int .i64 0))) (.cst (.bool false)))
     (.call F_spec_l5Fixed [] true [(false, [.slice]), (false, [.slice])]
     (.join [.slice, .slice, .slice, .int .i64, .int .i64]
      (.br (.cm .eql (.var (.int .i64) 23) (.cst (.int .i64 2)))
       (.call F_spec_l5Lens [(.agg [(.var (.slice) 27), (.var (.int .i64) 28), (.var (.int .i64) 29)])] true [(true, [.slice, .int .i64, .int .i64]), (false, [.slice]), (false, [.slice])]
       (.cont 3 [(.var (.slice) 39), (.var (.slice) 40), (.var (.slice) 36), (.var (.int .i64) 37), (.var (.int .i64) 38)]))
       (.cont 3 [(.var (.slice) 34), (.var (.slice) 35), (.var (.slice) 27), (.var (.int .i64) 28), (.var (.int .i64) 29)]))
      (.join [.slice, .int .i64, .int .i64, .slice, .int .i64, .int .i64, .int .i64]
       (.br (.cm .eql (.var (.int .i64) 40) (.cst (.int .i64 0)))
        (.call F_spec_l5Symbols [(.agg [(.var (.slice) 38), (.var (.int .i64) 39), (.var (.int .i64) 40)]), (.agg [(.var (.slice) 30), (.var (.int .i64) 31), (.var (.int .i64) 32), (.var (.int .i64) 33)]), (.x (.var (.slice) 36)), (.x (.var (.slice) 37))] true [(true, [.slice, .int .i64, .int .i64]), (true, [.slice, .int .i64, .int .i64, .int .i64])]
        (.cont 3 [(.var (.slice) 41), (.var (.int .i64) 42), (.var (.int .i64) 43), (.var (.slice) 44), (.var (.int .i64) 45), (.var (.int .i64) 46), (.var (.int .i64) 47)]))
        (.cont 3 [(.var (.slice) 38), (.var (.int .i64) 39), (.var (.int .i64) 40), (.var (.slice) 30), (.var (.int .i64) 31), (.var (.int .i64) 32), (.var (.int .i64) 33)]))
       (.cont 2 [(.var (.slice) 41), (.var (.int .i64) 42), (.var (.int .i64) 43), (.var (.slice) 44), (.var (.int .i64) 45), (.var (.int .i64) 46), (.var (.int .i64) 47)]))))
     (.cont 2 [(.var (.slice) 27), (.var (.int .i64) 28), (.var (.int .i64) 29), (.var (.slice) 30), (.var (.int .i64) 31), (.var (.int .i64) 32), (.var (.int .i64) 33)]))
    (.cont 0 [(.var (.int .i64) 19), (.var (.int .i64) 23), (.var (.slice) 34), (.var (.int .i64) 35), (.var (.int .i64) 36), (.var (.slice) 37), (.var (.int .i64) 38), (.var (.int .i64) 39), (.var (.int .i64) 40)]))))))
  (.ret (.tup [(true, [(.var (.slice) 9), (.var (.int .i64) 10), (.var (.int .i64) 11)]), (true, [(.var (.slice) 12), (.var (.int .i64) 13), (.var (.int .i64) 14), (.var (.int .i64) 15)])])))))
set_option maxRecDepth 100000 in
theorem s_spec_l5Blocks : sxF c_spec_l5Blocks Tryd.f46 p_spec_l5Blocks = some t_spec_l5Blocks := by kernel_rfl
theorem e_spec_l5Blocks (xs : Array Value) (w : World) : (callFunc F_spec_l5Blocks xs).runT Tryd.prog w #[] = (.ok (.enter F_spec_l5Blocks xs) w, #[]) := ent_of Tryd.func46 (by kernel_rfl) (by kernel_rfl) xs w
theorem run_spec_l5Blocks {S : Shared} {h : Eng.Heap} {Q : Value → Eng.Heap → Prop} {vs : List Value} (hsh : shOk (resShs p_spec_l5Blocks) vs) (hi : Inv S h) (hw : t_spec_l5Blocks.wp Tryd.prog S noLeaf Q vs h []) : CallsH Tryd.prog S F_spec_l5Blocks (argVals p_spec_l5Blocks vs) h Q :=
  sxF_ok (cfg := c_spec_l5Blocks) tabISOk mixedIS Tryd.func46 rfl s_spec_l5Blocks e_spec_l5Blocks rfl hsh hi hw
/- function 47 -/
def c_spec_l5Start : Cfg := ⟨tabIS, [], [], [.cell 6 82]⟩
def p_spec_l5Start : List (Bool × List Sh) := [(false, [.int .i64]), (false, [.slice]), (false, [.int .i64])]
set_option maxRecDepth 100000 in
def t_spec_l5Start : Tr :=
(.call F_spec_l4Last [(.x (.var (.slice) 1)), (.x (.var (.int .i64) 0))] false [(false, [.slice])]
(.ret (.agg [(.var (.slice) 3), (.ln (.var (.slice) 3)), (.var (.int .i64) 0), (.var (.int .i64) 2)])))
set_option maxRecDepth 100000 in
theorem s_spec_l5Start : sxF c_spec_l5Start Tryd.f47 p_spec_l5Start = some t_spec_l5Start := by kernel_rfl
theorem e_spec_l5Start (xs : Array Value) (w : World) : (callFunc F_spec_l5Start xs).runT Tryd.prog w #[] = (.ok (.enter F_spec_l5Start xs) w, #[]) := ent_of Tryd.func47 (by kernel_rfl) (by kernel_rfl) xs w
theorem run_spec_l5Start {S : Shared} {h : Eng.Heap} {Q : Value → Eng.Heap → Prop} {vs : List Value} (hsh : shOk (resShs p_spec_l5Start) vs) (hi : Inv S h) (hw : t_spec_l5Start.wp Tryd.prog S noLeaf Q vs h []) : CallsH Tryd.prog S F_spec_l5Start (argVals p_spec_l5Start vs) h Q :=
  sxF_ok (cfg := c_spec_l5Start) tabISOk mixedIS Tryd.func47 rfl s_spec_l5Start e_spec_l5Start rfl hsh hi hw
/- function 48 -/
def c_spec_l5Out : Cfg := ⟨tabIS, [], [], [.tmp 2]⟩
def p_spec_l5Out : List (Bool × List Sh) := [(true, [.slice, .int .i64, .int .i64, .int .i64])]
set_option maxRecDepth 100000 in
def t_spec_l5Out : Tr :=
(.hsl 5 0 []
(.need (.cm .leq (.cst (.int .i64 0)) (.var (.int .i64) 1))
(.need (.cm .leq (.var (.int .i64) 1) (.ln (.var (.slice) 0)))
(.app 5 1 1 [(.int .u8 0)] (.var (.slice) 4) (.sub 1 (.var (.slice) 0) (.var (.int .i64) 1) .nl .nl)
(.ret (.x (.var (.slice) 5)))))))
set_option maxRecDepth 100000 in
theorem s_spec_l5Out : sxF c_spec_l5Out Tryd.f48 p_spec_l5Out = some t_spec_l5Out := by kernel_rfl
theorem e_spec_l5Out (xs : Array Value) (w : World) : (callFunc F_spec_l5Out xs).runT Tryd.prog w #[] = (.ok (.enter F_spec_l5Out xs) w, #[]) := ent_of Tryd.func48 (by kernel_rfl) (by kernel_rfl) xs w
theorem run_spec_l5Out {S : Shared} {h : Eng.Heap} {Q : Value → Eng.Heap → Prop} {vs : List Value} (hsh : shOk (resShs p_spec_l5Out) vs) (hi : Inv S h) (hw : t_spec_l5Out.wp Tryd.prog S noLeaf Q vs h []) : CallsH Tryd.prog S F_spec_l5Out (argVals p_spec_l5Out vs) h Q :=
  sxF_ok (cfg := c_spec_l5Out) tabISOk mixedIS Tryd.func48 rfl s_spec_l5Out e_spec_l5Out rfl hsh hi hw
/- function 70 -/
def c_spec_l5Stored : Cfg := ⟨tabIS, [⟨10, [8, 9], [(0, 0), (0, 1), (0, 2), (1, 0), (1, 1), (1, 2), (1, 3)], [35, 36, 37, 38, 39, 40, 41, 42, 43, 44, 45, 46, 47, 48, 49, 50, 51, 52, 53, 54, 55, 56, 57, 58]⟩], [], [.cell 4 74, .cell 5 82]⟩
def p_spec_l5Stored : List (Bool × List Sh) := [(true, [.slice, .int .i64, .int .i64]), (true, [.slice, .int .i64, .int .i64, .int .i64])]
set_option maxRecDepth 100000 in
def t_spec_l5Stored : Tr :=
(.call F_spec_l5Take [(.agg [(.var (.slice) 0), (.it (.cm .eql (.var (.int .i64) 2) (.cst (.int .i64 0))) (.ar .mul .i64 (.ar .quo .i64 (.ar .add .i64 (.var (.int .i64) 1) (.cst (.int .i64 7))) (.cst (.int .i64 8))) (.cst (.int .i64 8))) (.var (.int .i64) 1)), (.var (.int .i64) 2)]), (.x (.cst (.int .i64 16)))] true [(true, [.slice, .int .i64, .int .i64]), (false, [.int .i64])]
(.call F_spec_l5Take [(.agg [(.var (.slice) 7), (.var (.int .i64) 8), (.var (.int .i64) 9)]), (.x (.cst (.int .i64 16)))] true [(true, [.slice, .int .i64, .int .i64]), (false, [.int .i64])]
(.call F_spec_l5Bad [(.agg [(.var (.slice) 11), (.var (.int .i64) 12), (.var (.int .i64) 13)]), (.x (.cm .neq (.var (.int .i64) 14) (.ar .sub .i64 (.cst (.int .i64 65535)) (.var (.int .i64) 10))))] false [(true, [.slice, .int .i64, .int .i64])]
(.loop [.int .i64, .int .i64, .slice, .int .i64, .int .i64, .slice, .int .i64, .int .i64, .int .i64] [(.cst (.int .i64 0)), (.cst (.int .i64 0)), (.var (.slice) 15), (.var (.int .i64) 16), (.var (.int .i64) 17), (.var (.slice) 3), (.var (.int .i64) 4), (.var (.int .i64) 5), (.var (.int .i64) 6)]
 (.lift (.br (.it (.cm .lss (.var (.int .i64) 19) (.var (.int .i64) 10)) (.cm .eql (.var (.int .i64) 22) (.cst (.int .i64 0))) (.cst (.bool false)))
  (.call F_spec_l5Take [(.agg [(.var (.slice) 20), (.var (.int .i64) 21), (.var (.int .i64) 22)]), (.x (.cst (.int .i64 8)))] true [(true, [.slice, .int .i64, .int .i64]), (false, [.int .i64])]
  (.hsl 5 1 [(.cv .u8 (.var (.int .i64) 30))]
  (.call F_spec_l5Tell [(.agg [(.var (.slice) 27), (.var (.int .i64) 28), (.var (.int .i64) 29)]), (.agg [(.var (.slice) 23), (.var (.int .i64) 24), (.var (.int .i64) 25), (.var (.int .i64) 26)]), (.x (.var (.slice) 31))] true [(true, [.slice, .int .i64, .int .i64]), (true, [.slice, .int .i64, .int .i64, .int .i64])]
  (.cont 0 [(.var (.int .i64) 30), (.ar .add .i64 (.var (.int .i64) 19) (.cst (.int .i64 1))), (.var (.slice) 32), (.var (.int .i64) 33), (.var (.int .i64) 34), (.var (.slice) 35), (.var (.int .i64) 36), (.var (.int .i64) 37), (.var (.int .i64) 38)]))))
  (.ret (.tup [(true, [(.var (.slice) 20), (.var (.int .i64) 21), (.var (.int .i64) 22)]), (true, [(.var (.slice) 23), (.var (.int .i64) 24), (.var (.int .i64) 25), (.var (.int .i64) 26)])]))))))))
set_option maxRecDepth 100000 in
theorem s_spec_l5Stored : sxF c_spec_l5Stored Tryd.f70 p_spec_l5Stored = some t_spec_l5Stored := by kernel_rfl
theorem e_spec_l5Stored (xs : Array Value) (w : World) : (callFunc F_spec_l5Stored xs).runT Tryd.prog w #[] = (.ok (.enter F_spec_l5Stored xs) w, #[]) := ent_of Tryd.func70 (by kernel_rfl) (by kernel_rfl) xs w
theorem run_spec_l5Stored {S : Shared} {h : Eng.Heap} {Q : Value → Eng.Heap → Prop} {vs : List Value} (hsh : shOk (resShs p_spec_l5Stored) vs) (hi : Inv S h) (hw : t_spec_l5Stored.wp Tryd.prog S noLeaf Q vs h []) : CallsH Tryd.prog S F_spec_l5Stored (argVals p_spec_l5Stored vs) h Q :=
  sxF_ok (cfg := c_spec_l5Stored) tabISOk mixedIS Tryd.func70 rfl s_spec_l5Stored e_spec_l5Stored rfl hsh hi hw
/- function 72 -/
def c_spec_l5Symbols : Cfg := ⟨tabIS, [⟨3, [], [(0, 0), (0, 1), (0, 2), (1, 0), (1, 1), (1, 2), (1, 3)], [12, 17, 18, 19, 20, 21, 22, 23, 24, 25, 26, 27, 28, 29, 30, 31, 32, 33, 34, 35, 36, 37, 38, 39, 40, 41, 42, 43, 44, 45, 46, 47, 48, 49, 50, 51, 52, 53, 54, 55, 56, 57]⟩], [], [.cell 8 74, .cell 9 82]⟩
def p_spec_l5Symbols : List (Bool × List Sh) := [(true, [.slice, .int .i64, .int .i64]), (true, [.slice, .int .i64, .int .i64, .int .i64]), (false, [.slice]), (false, [.slice])]
set_option maxRecDepth 100000 in
def t_spec_l5Symbols : Tr :=
(.call F_spec_HuffCodes [(.x (.var (.slice) 7))] false [(false, [.slice])]
(.call F_spec_HuffCodes [(.x (.var (.slice) 8))] false [(false, [.slice])]
(.loop [.slice, .int .i64, .int .i64, .slice, .int .i64, .int .i64, .int .i64] [(.var (.slice) 0), (.var (.int .i64) 1), (.var (.int .i64) 2), (.var (.slice) 3), (.var (.int .i64) 4), (.var (.int .i64) 5), (.var (.int .i64) 6)]
 (.lift (.br (.cm .eql (.var (.int .i64) 13) (.cst (.int .i64 0)))
  (.call F_spec_l5Sym [(.agg [(.var (.slice) 11), (.var (.int .i64) 12), (.var (.int .i64) 13)]), (.x (.var (.slice) 9))] true [(true, [.slice, .int .i64, .int .i64]), (false, [.int .i64])]
  (.lift (.br (.it (.cm .neq (.var (.int .i64) 20) (.cst (.int .i64 0))) (.cst (.bool true)) (.cm .eql (.var (.int .i64) 21) (.cst (.int .i64 256))))
   (.ret (.tup [(true, [(.var (.slice) 18), (.var (.int .i64) 19), (.var (.int .i64) 20)]), (true, [(.var (.slice) 14), (.var (.int .i64) 15), (.var (.int .i64) 16), (.var (.int .i64) 17)])]))
   (.join [.slice, .int .i64, .int .i64, .slice, .int .i64, .int .i64, .int .i64]
    (.br (.cm .lss (.var (.int .i64) 21) (.cst (.int .i64 256)))
     (.hsl 5 1 [(.cv .u8 (.var (.int .i64) 21))]
     (.call F_spec_l5Tell [(.agg [(.var (.slice) 18), (.var (.int .i64) 19), (.var (.int .i64) 20)]), (.agg [(.var (.slice) 14), (.var (.int .i64) 15), (.var (.int .i64) 16), (.var (.int .i64) 17)]), (.x (.var (.slice) 22))] true [(true, [.slice, .int .i64, .int .i64]), (true, [.slice, .int .i64, .int .i64, .int .i64])]
     (.cont 3 [(.var (.slice) 23), (.var (.int .i64) 24), (.var (.int .i64) 25), (.var (.slice) 26), (.var (.int .i64) 27), (.var (.int .i64) 28), (.var (.int .i64) 29)])))
     (.join [.slice, .int .i64, .int .i64, .slice, .int .i64, .int .i64, .int .i64]
      (.br (.cm .gtr (.var (.int .i64) 21) (.cst (.int .i64 285)))
       (.call F_spec_l5Bad [(.agg [(.var (.slice) 18), (.var (.int .i64) 19), (.var (.int .i64) 20)]), (.x (.cst (.bool true)))] false [(true, [.slice, .int .i64, .int .i64])]
       (.cont 4 [(.var (.slice) 22), (.var (.int .i64) 23), (.var (.int .i64) 24), (.var (.slice) 14), (.var (.int .i64) 15), (.var (.int .i64) 16), (.var (.int .i64) 17)]))
       (.call F_spec_l5Copy [(.agg [(.var (.slice) 18), (.var (.int .i64) 19), (.var (.int .i64) 20)]), (.agg [(.var (.slice) 14), (.var (.int .i64) 15), (.var (.int .i64) 16), (.var (.int .i64) 17)]), (.x (.var (.int .i64) 21)), (.x (.var (.slice) 10))] true [(true, [.slice, .int .i64, .int .i64]), (true, [.slice, .int .i64, .int .i64, .int .i64])]
       (.cont 4 [(.var (.slice) 22), (.var (.int .i64) 23), (.var (.int .i64) 24), (.var (.slice) 25), (.var (.int .i64) 26), (.var (.int .i64) 27), (.var (.int .i64) 28)])))
      (.cont 3 [(.var (.slice) 22), (.var (.int .i64) 23), (.var (.int .i64) 24), (.var (.slice) 25), (.var (.int .i64) 26), (.var (.int .i64) 27), (.var (.int .i64) 28)])))
    (.cont 0 [(.var (.slice) 22), (.var (.int .i64) 23), (.var (.int .i64) 24), (.var (.slice) 25), (.var (.int .i64) 26), (.var (.int .i64) 27), (.var (.int .i64) 28)])))))
  (.ret (.tup [(true, [(.var (.slice) 11), (.var (.int .i64) 12), (.var (.int .i64) 13)]), (true, [(.var (.slice) 14), (.var (.int .i64) 15), (.var (.int .i64) 16), (.var (.int .i64) 17)])])))))))
set_option maxRecDepth 100000 in
theorem s_spec_l5Symbols : sxF c_spec_l5Symbols Tryd.f72 p_spec_l5Symbols = some t_spec_l5Symbols := by kernel_rfl
theorem e_spec_l5Symbols (xs : Array Value) (w : World) : (callFunc F_spec_l5Symbols xs).runT Tryd.prog w #[] = (.ok (.enter F_spec_l5Symbols xs) w, #[]) := ent_of Tryd.func72 (by kernel_rfl) (by kernel_rfl) xs w
theorem run_spec_l5Symbols {S : Shared} {h : Eng.Heap} {Q : Value → Eng.Heap → Prop} {vs : List Value} (hsh : shOk (resShs p_spec_l5Symbols) vs) (hi : Inv S h) (hw : t_spec_l5Symbols.wp Tryd.prog S noLeaf Q vs h []) : CallsH Tryd.prog S F_spec_l5Symbols (argVals p_spec_l5Symbols vs) h Q :=
  sxF_ok (cfg := c_spec_l5Symbols) tabISOk mixedIS Tryd.func72 rfl s_spec_l5Symbols e_spec_l5Symbols rfl hsh hi hw
/- function 86 -/
def c_spec_l5Tell : Cfg := ⟨tabIS, [], [], [.cell 6 74, .cell 7 82]⟩
def p_spec_l5Tell : List (Bool × List Sh) := [(true, [.slice, .int .i64, .int .i64]), (true, [.slice, .int .i64, .int .i64, .int .i64]), (false, [.slice])]
set_option maxRecDepth 100000 in
def t_spec_l5Tell : Tr :=
(.join [.slice]
 (.br (.cm .eql (.it (.it (.cm .eql (.var (.int .i64) 2) (.cst (.int .i64 0))) (.cm .gtr (.ar .add .i64 (.ar .sub .i64 (.ln (.var (.slice) 3)) (.var (.int .i64) 4)) (.ln (.var (.slice) 7))) (.var (.int .i64) 6)) (.cst (.bool false))) (.cst (.int .i64 6)) (.var (.int .i64) 2)) (.cst (.int .i64 0)))
  (.app 5 1 1 [(.int .u8 0)] (.var (.slice) 3) (.var (.slice) 7)
  (.cont 0 [(.var (.slice) 8)]))
  (.cont 0 [(.var (.slice) 3)]))
 (.ret (.tup [(true, [(.var (.slice) 0), (.var (.int .i64) 1), (.it (.it (.cm .eql (.var (.int .i64) 2) (.cst (.int .i64 0))) (.cm .gtr (.ar .add .i64 (.ar .sub .i64 (.ln (.var (.slice) 3)) (.var (.int .i64) 4)) (.ln (.var (.slice) 7))) (.var (.int .i64) 6)) (.cst (.bool false))) (.cst (.int .i64 6)) (.var (.int .i64) 2))]), (true, [(.var (.slice) 8), (.var (.int .i64) 4), (.var (.int .i64) 5), (.var (.int .i64) 6)])])))
set_option maxRecDepth 100000 in
theorem s_spec_l5Tell : sxF c_spec_l5Tell Tryd.f86 p_spec_l5Tell = some t_spec_l5Tell := by kernel_rfl
theorem e_spec_l5Tell (xs : Array Value) (w : World) : (callFunc F_spec_l5Tell xs).runT Tryd.prog w #[] = (.ok (.enter F_spec_l5Tell xs) w, #[]) := ent_of Tryd.func86 (by kernel_rfl) (by kernel_rfl) xs w
theorem run_spec_l5Tell {S : Shared} {h : Eng.Heap} {Q : Value → Eng.Heap → Prop} {vs : List Value} (hsh : shOk (resShs p_spec_l5Tell) vs) (hi : Inv S h) (hw : t_spec_l5Tell.wp Tryd.prog S noLeaf Q vs h []) : CallsH Tryd.prog S F_spec_l5Tell (argVals p_spec_l5Tell vs) h Q :=
  sxF_ok (cfg := c_spec_l5Tell) tabISOk mixedIS Tryd.func86 rfl s_spec_l5Tell e_spec_l5Tell rfl hsh hi hw
/- function 87 -/
def c_spec_l5Copy : Cfg := ⟨tabIS, [⟨18, [16, 17], [], [18, 81, 82, 83, 84, 85, 86, 87, 88, 89, 90, 91, 92, 93, 94, 95, 96, 97, 98, 99, 100, 101, 102]⟩], [], [.cell 8 74, .cell 9 82]⟩
def p_spec_l5Copy : List (Bool × List Sh) := [(true, [.slice, .int .i64, .int .i64]), (true, [.slice, .int .i64, .int .i64, .int .i64]), (false, [.int .i64]), (false, [.slice])]
set_option maxRecDepth 100000 in
def t_spec_l5Copy : Tr :=
(.call F_spec_l5Length [(.x (.var (.int .i64) 7))] true [(false, [.int .i64]), (false, [.int .i64])]
(.call F_spec_l5Take [(.agg [(.var (.slice) 0), (.var (.int .i64) 1), (.var (.int .i64) 2)]), (.x (.var (.int .i64) 10))] true [(true, [.slice, .int .i64, .int .i64]), (false, [.int .i64])]
(.call F_spec_l5Sym [(.agg [(.var (.slice) 11), (.var (.int .i64) 12), (.var (.int .i64) 13)]), (.x (.var (.slice) 8))] true [(true, [.slice, .int .i64, .int .i64]), (false, [.int .i64])]
(.call F_spec_l5Bad [(.agg [(.var (.slice) 15), (.var (.int .i64) 16), (.var (.int .i64) 17)]), (.x (.cm .gtr (.var (.int .i64) 18) (.cst (.int .i64 29))))] false [(true, [.slice, .int .i64, .int .i64])]
(.lift (.br (.cm .neq (.var (.int .i64) 21) (.cst (.int .i64 0)))
 (.ret (.tup [(true, [(.var (.slice) 19), (.var (.int .i64) 20), (.var (.int .i64) 21)]), (true, [(.var (.slice) 3), (.var (.int .i64) 4), (.var (.int .i64) 5), (.var (.int .i64) 6)])]))
 (.call F_spec_l5Dist [(.x (.var (.int .i64) 18))] true [(false, [.int .i64]), (false, [.int .i64])]
 (.call F_spec_l5Take [(.agg [(.var (.slice) 19), (.var (.int .i64) 20), (.var (.int .i64) 21)]), (.x (.var (.int .i64) 23))] true [(true, [.slice, .int .i64, .int .i64]), (false, [.int .i64])]
 (.call F_spec_l5Bad [(.agg [(.var (.slice) 24), (.var (.int .i64) 25), (.var (.int .i64) 26)]), (.x (.it (.cm .gtr (.ar .add .i64 (.var (.int .i64) 22) (.var (.int .i64) 27)) (.ln (.var (.slice) 3))) (.cst (.bool true)) (.cm .gtr (.ar .add .i64 (.var (.int .i64) 22) (.var (.int .i64) 27)) (.var (.int .i64) 5))))] false [(true, [.slice, .int .i64, .int .i64])]
 (.lift (.br (.cm .neq (.var (.int .i64) 30) (.cst (.int .i64 0)))
  (.ret (.tup [(true, [(.var (.slice) 28), (.var (.int .i64) 29), (.var (.int .i64) 30)]), (true, [(.var (.slice) 3), (.var (.int .i64) 4), (.var (.int .i64) 5), (.var (.int .i64) 6)])]))
  (.hsl 5 0 []
  (.loop [.slice, .int .i64] [(.var (.slice) 31), (.cst (.int .i64 0))]
   (.lift (.br (.cm .lss (.var (.int .i64) 33) (.ar .add .i64 (.var (.int .i64) 9) (.var (.int .i64) 14)))
    (.need (.cm .neq (.ar .add .i64 (.var (.int .i64) 22) (.var (.int .i64) 27)) (.cst (.int .i64 0)))
    (.need (.nt (.nn (.var (.slice) 3)))
    (.need (.cm .leq (.cst (.int .i64 0)) (.ar .add .i64 (.ar .sub .i64 (.ln (.var (.slice) 3)) (.ar .add .i64 (.var (.int .i64) 22) (.var (.int .i64) 27))) (.ar .rem .i64 (.var (.int .i64) 33) (.ar .add .i64 (.var (.int .i64) 22) (.var (.int .i64) 27)))))
    (.need (.cm .lss (.ar .add .i64 (.ar .sub .i64 (.ln (.var (.slice) 3)) (.ar .add .i64 (.var (.int .i64) 22) (.var (.int .i64) 27))) (.ar .rem .i64 (.var (.int .i64) 33) (.ar .add .i64 (.var (.int .i64) 22) (.var (.int .i64) 27)))) (.ln (.var (.slice) 3)))
    (.load (.ix 1 (.var (.slice) 3) (.ar .add .i64 (.ar .sub .i64 (.ln (.var (.slice) 3)) (.ar .add .i64 (.var (.int .i64) 22) (.var (.int .i64) 27))) (.ar .rem .i64 (.var (.int .i64) 33) (.ar .add .i64 (.var (.int .i64) 22) (.var (.int .i64) 27))))) [.int .u8]
    (.hsl 5 1 [(.var (.int .u8) 34)]
    (.app 5 1 1 [(.int .u8 0)] (.var (.slice) 32) (.var (.slice) 35)
    (.cont 2 [(.var (.slice) 36), (.ar .add .i64 (.var (.int .i64) 33) (.cst (.int .i64 1)))]))))))))
    (.call F_spec_l5Tell [(.agg [(.var (.slice) 28), (.var (.int .i64) 29), (.var (.int .i64) 30)]), (.agg [(.var (.slice) 3), (.var (.int .i64) 4), (.var (.int .i64) 5), (.var (.int .i64) 6)]), (.x (.var (.slice) 32))] true [(true, [.slice, .int .i64, .int .i64]), (true, [.slice, .int .i64, .int .i64, .int .i64])]
    (.ret (.tup [(true, [(.var (.slice) 34), (.var (.int .i64) 35), (.var (.int .i64) 36)]), (true, [(.var (.slice) 37), (.var (.int .i64) 38), (.var (.int .i64) 39), (.var (.int .i64) 40)])]))))))))))))))))))
set_option maxRecDepth 100000 in
theorem s_spec_l5Copy : sxF c_spec_l5Copy Tryd.f87 p_spec_l5Copy = some t_spec_l5Copy := by kernel_rfl
theorem e_spec_l5Copy (xs : Array Value) (w : World) : (callFunc F_spec_l5Copy xs).runT Tryd.prog w #[] = (.ok (.enter F_spec_l5Copy xs) w, #[]) := ent_of Tryd.func87 (by kernel_rfl) (by kernel_rfl) xs w
theorem run_spec_l5Copy {S : Shared} {h : Eng.Heap} {Q : Value → Eng.Heap → Prop} {vs : List Value} (hsh : shOk (resShs p_spec_l5Copy) vs) (hi : Inv S h) (hw : t_spec_l5Copy.wp Tryd.prog S noLeaf Q vs h []) : CallsH Tryd.prog S F_spec_l5Copy (argVals p_spec_l5Copy vs) h Q :=
  sxF_ok (cfg := c_spec_l5Copy) tabISOk mixedIS Tryd.func87 rfl s_spec_l5Copy e_spec_l5Copy rfl hsh hi hw
/- function 94 -/
def c_spec_l5Length : Cfg := ⟨tabIS, [⟨6, [4, 5, 6], [], [9, 10, 11, 12, 13, 14, 15, 16, 17, 18, 19, 20, 21, 22, 23, 24]⟩], [], [.tmp 2, .tmp 3]⟩
def p_spec_l5Length : List (Bool × List Sh) := [(false, [.int .i64])]
set_option maxRecDepth 100000 in
def t_spec_l5Length : Tr :=
(.lift (.br (.cm .eql (.var (.int .i64) 0) (.cst (.int .i64 285)))
 (.ret (.tup [(false, [(.cst (.int .i64 258))]), (false, [(.cst (.int .i64 0))])]))
 (.loop [.int .i64, .int .i64, .int .i64] [(.cst (.int .i64 3)), (.cst (.int .i64 0)), (.cst (.int .i64 257))]
  (.lift (.br (.cm .leq (.var (.int .i64) 3) (.var (.int .i64) 0))
   (.join [.int .i64]
    (.br (.cm .gtr (.var (.int .i64) 3) (.cst (.int .i64 257)))
     (.call F_spec_l3Pow [(.x (.var (.int .i64) 2))] false [(false, [.int .i64])]
     (.cont 3 [(.ar .add .i64 (.var (.int .i64) 1) (.var (.int .i64) 4))]))
     (.cont 3 [(.var (.int .i64) 1)]))
    (.cont 1 [(.var (.int .i64) 4), (.it (.cm .geq (.var (.int .i64) 3) (.cst (.int .i64 265))) (.ar .quo .i64 (.ar .sub .i64 (.var (.int .i64) 3) (.cst (.int .i64 261))) (.cst (.int .i64 4))) (.cst (.int .i64 0))), (.ar .add .i64 (.var (.int .i64) 3) (.cst (.int .i64 1)))]))
   (.ret (.tup [(false, [(.var (.int .i64) 1)]), (false, [(.var (.int .i64) 2)])])))))))
set_option maxRecDepth 100000 in
theorem s_spec_l5Length : sxF c_spec_l5Length Tryd.f94 p_spec_l5Length = some t_spec_l5Length := by kernel_rfl
theorem e_spec_l5Length (xs : Array Value) (w : World) : (callFunc F_spec_l5Length xs).runT Tryd.prog w #[] = (.ok (.enter F_spec_l5Length xs) w, #[]) := ent_of Tryd.func94 (by kernel_rfl) (by kernel_rfl) xs w
theorem run_spec_l5Length {S : Shared} {h : Eng.Heap} {Q : Value → Eng.Heap → Prop} {vs : List Value} (hsh : shOk (resShs p_spec_l5Length) vs) (hi : Inv S h) (hw : t_spec_l5Length.wp Tryd.prog S noLeaf Q vs h []) : CallsH Tryd.prog S F_spec_l5Length (argVals p_spec_l5Length vs) h Q :=
  sxF_ok (cfg := c_spec_l5Length) tabISOk mixedIS Tryd.func94 rfl s_spec_l5Length e_spec_l5Length rfl hsh hi hw
/- function 95 -/
def c_spec_l5Dist : Cfg := ⟨tabIS, [], [], [.tmp 2, .tmp 3]⟩
def p_spec_l5Dist : List (Bool × List Sh) := [(false, [.int .i64])]
set_option maxRecDepth 100000 in
def t_spec_l5Dist : Tr :=
(.lift (.br (.cm .lss (.var (.int .i64) 0) (.cst (.int .i64 4)))
 (.ret (.tup [(false, [(.ar .add .i64 (.var (.int .i64) 0) (.cst (.int .i64 1)))]), (false, [(.cst (.int .i64 0))])]))
 (.call F_spec_l3Pow [(.x (.ar .sub .i64 (.ar .quo .i64 (.var (.int .i64) 0) (.cst (.int .i64 2))) (.cst (.int .i64 1))))] false [(false, [.int .i64])]
 (.ret (.tup [(false, [(.ar .add .i64 (.ar .mul .i64 (.ar .add .i64 (.cst (.int .i64 2)) (.ar .rem .i64 (.var (.int .i64) 0) (.cst (.int .i64 2)))) (.var (.int .i64) 1)) (.cst (.int .i64 1)))]), (false, [(.ar .sub .i64 (.ar .quo .i64 (.var (.int .i64) 0) (.cst (.int .i64 2))) (.cst (.int .i64 1)))])])))))
set_option maxRecDepth 100000 in
theorem s_spec_l5Dist : sxF c_spec_l5Dist Tryd.f95 p_spec_l5Dist = some t_spec_l5Dist := by kernel_rfl
theorem e_spec_l5Dist (xs : Array Value) (w : World) : (callFunc F_spec_l5Dist xs).runT Tryd.prog w #[] = (.ok (.enter F_spec_l5Dist xs) w, #[]) := ent_of Tryd.func95 (by kernel_rfl) (by kernel_rfl) xs w
theorem run_spec_l5Dist {S : Shared} {h : Eng.Heap} {Q : Value → Eng.Heap → Prop} {vs : List Value} (hsh : shOk (resShs p_spec_l5Dist) vs) (hi : Inv S h) (hw : t_spec_l5Dist.wp Tryd.prog S noLeaf Q vs h []) : CallsH Tryd.prog S F_spec_l5Dist (argVals p_spec_l5Dist vs) h Q :=
  sxF_ok (cfg := c_spec_l5Dist) tabISOk mixedIS Tryd.func95 rfl s_spec_l5Dist e_spec_l5Dist rfl hsh hi hw
end Go.Proofs.YtmnialmphlbmaaaDoor
