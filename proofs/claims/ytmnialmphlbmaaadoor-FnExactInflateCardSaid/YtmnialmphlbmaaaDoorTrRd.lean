-- printed by a generator of my own (wip/eng/Gen) from the translation
import Derived.Test.YtmnialmphlbmaaaDoorEng2
import Derived.Test.YtmnialmphlbmaaaDoorChecked
import Derived.Test.YtmnialmphlbmaaaDoorNums
set_option linter.unusedVariables false
set_option linter.unusedSimpArgs false
namespace Go.Proofs.YtmnialmphlbmaaaDoor
open Go Go.Eng
def tabRd : List (TypeId × TyD) := [(0, ⟨.oth, 1, 0, [], none, some []⟩),
  (2, ⟨(.int .i64), 1, 8, [.int .i64], some [(1, (.int .i64 0))], none⟩),
  (3, ⟨(.int .i64), 1, 8, [.int .i64], some [(1, (.int .i64 0))], none⟩),
  (4, ⟨.bool, 1, 1, [.bool], some [(1, (.bool false))], none⟩),
  (5, ⟨(.int .u8), 1, 1, [.int .u8], some [(1, (.int .u8 0))], none⟩),
  (22, ⟨(.sl 5), 1, 24, [.slice], some [(1, .nilSl)], none⟩),
  (25, ⟨(.int .u64), 1, 8, [.int .u64], some [(1, (.int .u64 0))], none⟩),
  (27, ⟨(.st [(0, 2), (1, 25)]), 2, 16, [.int .i64, .int .u64], some [(1, (.int .i64 0)), (1, (.int .u64 0))], none⟩),
  (28, ⟨(.sl 27), 1, 24, [.slice], some [(1, .nilSl)], none⟩),
  (30, ⟨(.sl 2), 1, 24, [.slice], some [(1, .nilSl)], none⟩),
  (32, ⟨(.int .u64), 1, 8, [.int .u64], some [(1, (.int .u64 0))], none⟩),
  (74, ⟨(.st [(0, 22), (1, 2), (2, 2)]), 3, 40, [.slice, .int .i64, .int .i64], some [(1, .nilSl), (2, (.int .i64 0))], none⟩),
  (105, ⟨.oth, 1, 0, [], none, some [74, 2]⟩),
  (108, ⟨(.sl 3), 1, 24, [.slice], some [(1, .nilSl)], none⟩),
  (111, ⟨.oth, 1, 0, [], none, some [74, 30]⟩),
  (135, ⟨(.st [(0, 2), (1, 2), (2, 2)]), 3, 24, [.int .i64, .int .i64, .int .i64], some [(3, (.int .i64 0))], none⟩)]
set_option maxRecDepth 100000 in
theorem tabRdOk : TabOk Tryd.prog tabRd := tabOk_of (by kernel_rfl)
theorem mixedRd : Tryd.prog.follows .mixedOrders = true := by kernel_rfl
/- function 41 -/
def c_spec_l5Lens : Cfg := ⟨tabRd, [⟨14, [8, 10], [(0, 0), (0, 1), (0, 2)], [43, 44, 45, 46, 47, 48, 49, 50, 51, 52, 53, 54, 55, 56, 57, 58, 59, 60]⟩, ⟨21, [8, 12], [(0, 0), (0, 1), (0, 2)], [69, 70, 71, 72, 73, 74, 75, 76, 77, 78, 79, 80, 81, 82, 83, 84, 85, 86, 87, 88, 89, 90, 91, 92, 93, 94, 95, 96, 97, 98, 99, 100, 101, 102, 103]⟩], [], [.cell 2 74, .tmp 3, .tmp 4]⟩
def p_spec_l5Lens : List (Bool × List Sh) := [(true, [.slice, .int .i64, .int .i64])]
set_option maxRecDepth 100000 in
def t_spec_l5Lens : Tr :=
(.call F_spec_l5Take [(.agg [(.var (.slice) 0), (.var (.int .i64) 1), (.var (.int .i64) 2)]), (.x (.cst (.int .i64 5)))] true [(true, [.slice, .int .i64, .int .i64]), (false, [.int .i64])]
(.call F_spec_l5Bad [(.agg [(.var (.slice) 3), (.var (.int .i64) 4), (.var (.int .i64) 5)]), (.x (.cm .gtr (.ar .add .i64 (.var (.int .i64) 6) (.cst (.int .i64 257))) (.cst (.int .i64 286))))] false [(true, [.slice, .int .i64, .int .i64])]
(.call F_spec_l5Take [(.agg [(.var (.slice) 7), (.var (.int .i64) 8), (.var (.int .i64) 9)]), (.x (.cst (.int .i64 5)))] true [(true, [.slice, .int .i64, .int .i64]), (false, [.int .i64])]
(.call F_spec_l5Bad [(.agg [(.var (.slice) 10), (.var (.int .i64) 11), (.var (.int .i64) 12)]), (.x (.cm .gtr (.ar .add .i64 (.var (.int .i64) 13) (.cst (.int .i64 1))) (.cst (.int .i64 30))))] false [(true, [.slice, .int .i64, .int .i64])]
(.call F_spec_l5Take [(.agg [(.var (.slice) 14), (.var (.int .i64) 15), (.var (.int .i64) 16)]), (.x (.cst (.int .i64 4)))] true [(true, [.slice, .int .i64, .int .i64]), (false, [.int .i64])]
(.hsl 2 19 [(.cst (.int .i64 0)), (.cst (.int .i64 0)), (.cst (.int .i64 0)), (.cst (.int .i64 0)), (.cst (.int .i64 0)), (.cst (.int .i64 0)), (.cst (.int .i64 0)), (.cst (.int .i64 0)), (.cst (.int .i64 0)), (.cst (.int .i64 0)), (.cst (.int .i64 0)), (.cst (.int .i64 0)), (.cst (.int .i64 0)), (.cst (.int .i64 0)), (.cst (.int .i64 0)), (.cst (.int .i64 0)), (.cst (.int .i64 0)), (.cst (.int .i64 0)), (.cst (.int .i64 0))]
(.loop [.int .i64, .int .i64, .slice, .int .i64, .int .i64] [(.cst (.int .i64 0)), (.cst (.int .i64 0)), (.var (.slice) 17), (.var (.int .i64) 18), (.var (.int .i64) 19)]
 (.lift (.br (.cm .lss (.var (.int .i64) 23) (.ar .add .i64 (.var (.int .i64) 20) (.cst (.int .i64 4))))
  (.call F_spec_l5Take [(.agg [(.var (.slice) 24), (.var (.int .i64) 25), (.var (.int .i64) 26)]), (.x (.cst (.int .i64 3)))] true [(true, [.slice, .int .i64, .int .i64]), (false, [.int .i64])]
  (.call F_spec_l5Order [] false [(false, [.slice])]
  (.need (.nt (.nn (.var (.slice) 31)))
  (.need (.cm .leq (.cst (.int .i64 0)) (.var (.int .i64) 23))
  (.need (.cm .lss (.var (.int .i64) 23) (.ln (.var (.slice) 31)))
  (.load (.ix 1 (.var (.slice) 31) (.var (.int .i64) 23)) [.int .i64]
  (.need (.nt (.nn (.var (.slice) 21)))
  (.need (.cm .leq (.cst (.int .i64 0)) (.var (.int .i64) 32))
  (.need (.cm .lss (.var (.int .i64) 32) (.ln (.var (.slice) 21)))
  (.hsto (.ix 1 (.var (.slice) 21) (.var (.int .i64) 32)) [(.var (.int .i64) 30)]
  (.cont 0 [(.var (.int .i64) 30), (.ar .add .i64 (.var (.int .i64) 23) (.cst (.int .i64 1))), (.var (.slice) 27), (.var (.int .i64) 28), (.var (.int .i64) 29)])))))))))))
  (.call F_spec_HuffKind [(.x (.var (.slice) 21))] false [(false, [.int .i64])]
  (.call F_spec_l5Bad [(.agg [(.var (.slice) 24), (.var (.int .i64) 25), (.var (.int .i64) 26)]), (.x (.cm .neq (.var (.int .i64) 27) (.cst (.int .i64 1))))] false [(true, [.slice, .int .i64, .int .i64])]
  (.call F_spec_HuffCodes [(.x (.var (.slice) 21))] false [(false, [.slice])]
  (.hsl 2 0 []
  (.loop [.int .i64, .slice, .slice, .int .i64, .int .i64] [(.var (.int .i64) 22), (.var (.slice) 32), (.var (.slice) 28), (.var (.int .i64) 29), (.var (.int .i64) 30)]
   (.lift (.br (.it (.cm .eql (.var (.int .i64) 37) (.cst (.int .i64 0))) (.cm .lss (.ln (.var (.slice) 34)) (.ar .add .i64 (.ar .add .i64 (.var (.int .i64) 6) (.cst (.int .i64 257))) (.ar .add .i64 (.var (.int .i64) 13) (.cst (.int .i64 1))))) (.cst (.bool false)))
    (.call F_spec_l5Sym [(.agg [(.var (.slice) 35), (.var (.int .i64) 36), (.var (.int .i64) 37)]), (.x (.var (.slice) 31))] true [(true, [.slice, .int .i64, .int .i64]), (false, [.int .i64])]
    (.join [.slice, .slice, .int .i64, .int .i64]
     (.br (.cm .eql (.var (.int .i64) 40) (.cst (.int .i64 0)))
      (.call F_spec_l5Repeat [(.agg [(.var (.slice) 38), (.var (.int .i64) 39), (.var (.int .i64) 40)]), (.x (.var (.slice) 34)), (.x (.var (.int .i64) 41))] true [(true, [.slice, .int .i64, .int .i64]), (false, [.slice])]
      (.call F_spec_l5Bad [(.agg [(.var (.slice) 42), (.var (.int .i64) 43), (.var (.int .i64) 44)]), (.x (.cm .gtr (.ln (.var (.slice) 45)) (.ar .add .i64 (.ar .add .i64 (.var (.int .i64) 6) (.cst (.int .i64 257))) (.ar .add .i64 (.var (.int .i64) 13) (.cst (.int .i64 1))))))] false [(true, [.slice, .int .i64, .int .i64])]
      (.cont 4 [(.var (.slice) 45), (.var (.slice) 46), (.var (.int .i64) 47), (.var (.int .i64) 48)])))
      (.cont 4 [(.var (.slice) 34), (.var (.slice) 38), (.var (.int .i64) 39), (.var (.int .i64) 40)]))
     (.cont 2 [(.var (.int .i64) 41), (.var (.slice) 42), (.var (.slice) 43), (.var (.int .i64) 44), (.var (.int .i64) 45)])))
    (.lift (.br (.cm .neq (.var (.int .i64) 37) (.cst (.int .i64 0)))
     (.hsl 2 0 []
     (.hsl 2 0 []
     (.ret (.tup [(true, [(.var (.slice) 35), (.var (.int .i64) 36), (.var (.int .i64) 37)]), (false, [(.var (.slice) 38)]), (false, [(.var (.slice) 39)])]))))
     (.need (.cm .leq (.cst (.int .i64 0)) (.ar .add .i64 (.var (.int .i64) 6) (.cst (.int .i64 257))))
     (.need (.cm .leq (.ar .add .i64 (.var (.int .i64) 6) (.cst (.int .i64 257))) (.cp (.var (.slice) 34)))
     (.need (.cm .leq (.cst (.int .i64 0)) (.ar .add .i64 (.var (.int .i64) 6) (.cst (.int .i64 257))))
     (.need (.cm .leq (.ar .add .i64 (.var (.int .i64) 6) (.cst (.int .i64 257))) (.ln (.var (.slice) 34)))
     (.join [.int .i64, .bool, .bool, .bool, .bool, .bool, .slice, .int .i64, .int .i64]
      (.need (.nt (.nn (.sub 1 (.var (.slice) 34) .nl (.ar .add .i64 (.var (.int .i64) 6) (.cst (.int .i64 257))) .nl)))
      (.need (.cm .leq (.cst (.int .i64 0)) (.cst (.int .i64 256)))
      (.need (.cm .lss (.cst (.int .i64 256)) (.ln (.sub 1 (.var (.slice) 34) .nl (.ar .add .i64 (.var (.int .i64) 6) (.cst (.int .i64 257))) .nl)))
      (.load (.ix 1 (.sub 1 (.var (.slice) 34) .nl (.ar .add .i64 (.var (.int .i64) 6) (.cst (.int .i64 257))) .nl) (.cst (.int .i64 256))) [.int .i64]
      (.br (.nt (.cm .eql (.var (.int .i64) 38) (.cst (.int .i64 0))))
       (.call F_spec_l5IsKind [(.x (.sub 1 (.var (.slice) 34) .nl (.ar .add .i64 (.var (.int .i64) 6) (.cst (.int .i64 257))) .nl)), (.x (.cst (.int .i64 1))), (.x (.cst (.int .i64 4))), (.x (.cst (.int .i64 4)))] false [(false, [.bool])]
       (.br (.nt (.nt (.var (.bool) 39)))
        (.call F_spec_l5IsKind [(.x (.sub 1 (.var (.slice) 34) (.ar .add .i64 (.var (.int .i64) 6) (.cst (.int .i64 257))) .nl .nl)), (.x (.cst (.int .i64 1))), (.x (.cst (.int .i64 4))), (.x (.cst (.int .i64 5)))] false [(false, [.bool])]
        (.call F_spec_l5Bad [(.agg [(.var (.slice) 35), (.var (.int .i64) 36), (.var (.int .i64) 37)]), (.x (.nt (.var (.bool) 40)))] false [(true, [.slice, .int .i64, .int .i64])]
        (.cont 5 [(.var (.int .i64) 38), (.cm .eql (.var (.int .i64) 38) (.cst (.int .i64 0))), (.cm .eql (.var (.int .i64) 38) (.cst (.int .i64 0))), (.nt (.var (.bool) 39)), (.nt (.var (.bool) 39)), (.nt (.var (.bool) 40)), (.var (.slice) 41), (.var (.int .i64) 42), (.var (.int .i64) 43)])))
        (.call F_spec_l5Bad [(.agg [(.var (.slice) 35), (.var (.int .i64) 36), (.var (.int .i64) 37)]), (.x (.cst (.bool true)))] false [(true, [.slice, .int .i64, .int .i64])]
        (.cont 5 [(.var (.int .i64) 38), (.cm .eql (.var (.int .i64) 38) (.cst (.int .i64 0))), (.cm .eql (.var (.int .i64) 38) (.cst (.int .i64 0))), (.nt (.var (.bool) 39)), (.nt (.var (.bool) 39)), (.cst (.bool true)), (.var (.slice) 40), (.var (.int .i64) 41), (.var (.int .i64) 42)]))))
       (.call F_spec_l5Bad [(.agg [(.var (.slice) 35), (.var (.int .i64) 36), (.var (.int .i64) 37)]), (.x (.cst (.bool true)))] false [(true, [.slice, .int .i64, .int .i64])]
       (.cont 5 [(.var (.int .i64) 38), (.cm .eql (.var (.int .i64) 38) (.cst (.int .i64 0))), (.cm .eql (.var (.int .i64) 38) (.cst (.int .i64 0))), (.cst (.bool true)), (.cst (.bool true)), (.cst (.bool true)), (.var (.slice) 39), (.var (.int .i64) 40), (.var (.int .i64) 41)])))))))
      (.ret (.tup [(true, [(.var (.slice) 44), (.var (.int .i64) 45), (.var (.int .i64) 46)]), (false, [(.sub 1 (.var (.slice) 34) .nl (.ar .add .i64 (.var (.int .i64) 6) (.cst (.int .i64 257))) .nl)]), (false, [(.sub 1 (.var (.slice) 34) (.ar .add .i64 (.var (.int .i64) 6) (.cst (.int .i64 257))) .nl .nl)])])))))))))))))))))))))))))
set_option maxRecDepth 100000 in
theorem s_spec_l5Lens : sxF c_spec_l5Lens Tryd.f41 p_spec_l5Lens = some t_spec_l5Lens := by kernel_rfl
theorem e_spec_l5Lens (xs : Array Value) (w : World) : (callFunc F_spec_l5Lens xs).runT Tryd.prog w #[] = (.ok (.enter F_spec_l5Lens xs) w, #[]) := ent_of Tryd.func41 (by kernel_rfl) (by kernel_rfl) xs w
theorem run_spec_l5Lens {S : Shared} {h : Eng.Heap} {Q : Value → Eng.Heap → Prop} {vs : List Value} (hsh : shOk (resShs p_spec_l5Lens) vs) (hi : Inv S h) (hw : t_spec_l5Lens.wp Tryd.prog S noLeaf Q vs h []) : CallsH Tryd.prog S F_spec_l5Lens (argVals p_spec_l5Lens vs) h Q :=
  sxF_ok (cfg := c_spec_l5Lens) tabRdOk mixedRd Tryd.func41 rfl s_spec_l5Lens e_spec_l5Lens rfl hsh hi hw
/- function 61 -/
def c_spec_l5Take : Cfg := ⟨tabRd, [⟨7, [6, 7], [], [29, 30, 31, 32, 33, 34, 35, 36, 37, 38, 39, 40, 41, 42, 43]⟩], [], [.cell 4 74, .tmp 5]⟩
def p_spec_l5Take : List (Bool × List Sh) := [(true, [.slice, .int .i64, .int .i64]), (false, [.int .i64])]
set_option maxRecDepth 100000 in
def t_spec_l5Take : Tr :=
(.lift (.br (.cm .neq (.it (.it (.cm .eql (.var (.int .i64) 2) (.cst (.int .i64 0))) (.cm .gtr (.ar .add .i64 (.var (.int .i64) 1) (.var (.int .i64) 3)) (.ar .mul .i64 (.cst (.int .i64 8)) (.ln (.var (.slice) 0)))) (.cst (.bool false))) (.cst (.int .i64 2)) (.var (.int .i64) 2)) (.cst (.int .i64 0)))
 (.ret (.tup [(true, [(.var (.slice) 0), (.var (.int .i64) 1), (.it (.it (.cm .eql (.var (.int .i64) 2) (.cst (.int .i64 0))) (.cm .gtr (.ar .add .i64 (.var (.int .i64) 1) (.var (.int .i64) 3)) (.ar .mul .i64 (.cst (.int .i64 8)) (.ln (.var (.slice) 0)))) (.cst (.bool false))) (.cst (.int .i64 2)) (.var (.int .i64) 2))]), (false, [(.cst (.int .i64 0))])]))
 (.loop [.int .i64, .int .i64] [(.cst (.int .i64 0)), (.ar .sub .i64 (.var (.int .i64) 3) (.cst (.int .i64 1)))]
  (.lift (.br (.cm .geq (.var (.int .i64) 5) (.cst (.int .i64 0)))
   (.call F_spec_l2Bit [(.x (.var (.slice) 0)), (.x (.ar .add .i64 (.var (.int .i64) 1) (.var (.int .i64) 5)))] false [(false, [.int .u64])]
   (.cont 1 [(.ar .add .i64 (.ar .mul .i64 (.cst (.int .i64 2)) (.var (.int .i64) 4)) (.cv .i64 (.var (.int .u64) 6))), (.ar .sub .i64 (.var (.int .i64) 5) (.cst (.int .i64 1)))]))
   (.ret (.tup [(true, [(.var (.slice) 0), (.ar .add .i64 (.var (.int .i64) 1) (.var (.int .i64) 3)), (.it (.it (.cm .eql (.var (.int .i64) 2) (.cst (.int .i64 0))) (.cm .gtr (.ar .add .i64 (.var (.int .i64) 1) (.var (.int .i64) 3)) (.ar .mul .i64 (.cst (.int .i64 8)) (.ln (.var (.slice) 0)))) (.cst (.bool false))) (.cst (.int .i64 2)) (.var (.int .i64) 2))]), (false, [(.var (.int .i64) 4)])])))))))
set_option maxRecDepth 100000 in
theorem s_spec_l5Take : sxF c_spec_l5Take Tryd.f61 p_spec_l5Take = some t_spec_l5Take := by kernel_rfl
theorem e_spec_l5Take (xs : Array Value) (w : World) : (callFunc F_spec_l5Take xs).runT Tryd.prog w #[] = (.ok (.enter F_spec_l5Take xs) w, #[]) := ent_of Tryd.func61 (by kernel_rfl) (by kernel_rfl) xs w
theorem run_spec_l5Take {S : Shared} {h : Eng.Heap} {Q : Value → Eng.Heap → Prop} {vs : List Value} (hsh : shOk (resShs p_spec_l5Take) vs) (hi : Inv S h) (hw : t_spec_l5Take.wp Tryd.prog S noLeaf Q vs h []) : CallsH Tryd.prog S F_spec_l5Take (argVals p_spec_l5Take vs) h Q :=
  sxF_ok (cfg := c_spec_l5Take) tabRdOk mixedRd Tryd.func61 rfl s_spec_l5Take e_spec_l5Take rfl hsh hi hw
/- function 62 -/
def c_spec_l5Bad : Cfg := ⟨tabRd, [], [], [.cell 4 74]⟩
def p_spec_l5Bad : List (Bool × List Sh) := [(true, [.slice, .int .i64, .int .i64]), (false, [.bool])]
set_option maxRecDepth 100000 in
def t_spec_l5Bad : Tr :=
(.ret (.agg [(.var (.slice) 0), (.var (.int .i64) 1), (.it (.it (.cm .eql (.var (.int .i64) 2) (.cst (.int .i64 0))) (.var (.bool) 3) (.cst (.bool false))) (.cst (.int .i64 3)) (.var (.int .i64) 2))]))
set_option maxRecDepth 100000 in
theorem s_spec_l5Bad : sxF c_spec_l5Bad Tryd.f62 p_spec_l5Bad = some t_spec_l5Bad := by kernel_rfl
theorem e_spec_l5Bad (xs : Array Value) (w : World) : (callFunc F_spec_l5Bad xs).runT Tryd.prog w #[] = (.ok (.enter F_spec_l5Bad xs) w, #[]) := ent_of Tryd.func62 (by kernel_rfl) (by kernel_rfl) xs w
theorem run_spec_l5Bad {S : Shared} {h : Eng.Heap} {Q : Value → Eng.Heap → Prop} {vs : List Value} (hsh : shOk (resShs p_spec_l5Bad) vs) (hi : Inv S h) (hw : t_spec_l5Bad.wp Tryd.prog S noLeaf Q vs h []) : CallsH Tryd.prog S F_spec_l5Bad (argVals p_spec_l5Bad vs) h Q :=
  sxF_ok (cfg := c_spec_l5Bad) tabRdOk mixedRd Tryd.func62 rfl s_spec_l5Bad e_spec_l5Bad rfl hsh hi hw
/- function 63 -/
def c_spec_l5Order : Cfg := ⟨tabRd, [], [], [.tmp 0]⟩
def p_spec_l5Order : List (Bool × List Sh) := []
set_option maxRecDepth 100000 in
def t_spec_l5Order : Tr :=
(.hsl 3 19 [(.cst (.int .i64 16)), (.cst (.int .i64 17)), (.cst (.int .i64 18)), (.cst (.int .i64 0)), (.cst (.int .i64 8)), (.cst (.int .i64 7)), (.cst (.int .i64 9)), (.cst (.int .i64 6)), (.cst (.int .i64 10)), (.cst (.int .i64 5)), (.cst (.int .i64 11)), (.cst (.int .i64 4)), (.cst (.int .i64 12)), (.cst (.int .i64 3)), (.cst (.int .i64 13)), (.cst (.int .i64 2)), (.cst (.int .i64 14)), (.cst (.int .i64 1)), (.cst (.int .i64 15))]
(.ret (.x (.var (.slice) 0))))
set_option maxRecDepth 100000 in
theorem s_spec_l5Order : sxF c_spec_l5Order Tryd.f63 p_spec_l5Order = some t_spec_l5Order := by kernel_rfl
theorem e_spec_l5Order (xs : Array Value) (w : World) : (callFunc F_spec_l5Order xs).runT Tryd.prog w #[] = (.ok (.enter F_spec_l5Order xs) w, #[]) := ent_of Tryd.func63 (by kernel_rfl) (by kernel_rfl) xs w
theorem run_spec_l5Order {S : Shared} {h : Eng.Heap} {Q : Value → Eng.Heap → Prop} {vs : List Value} (hsh : shOk (resShs p_spec_l5Order) vs) (hi : Inv S h) (hw : t_spec_l5Order.wp Tryd.prog S noLeaf Q vs h []) : CallsH Tryd.prog S F_spec_l5Order (argVals p_spec_l5Order vs) h Q :=
  sxF_ok (cfg := c_spec_l5Order) tabRdOk mixedRd Tryd.func63 rfl s_spec_l5Order e_spec_l5Order rfl hsh hi hw
/- function 64 -/
def c_spec_l5Sym : Cfg := ⟨tabRd, [⟨5, [6, 7], [], [13, 14, 15, 16, 17, 18, 19, 20, 21, 22, 23, 24, 25, 26, 27, 28, 29, 30, 31, 32, 33, 34, 35, 36, 37, 38, 39]⟩], [], [.cell 4 74, .tmp 5]⟩
def p_spec_l5Sym : List (Bool × List Sh) := [(true, [.slice, .int .i64, .int .i64]), (false, [.slice])]
set_option maxRecDepth 100000 in
def t_spec_l5Sym : Tr :=
(.lift (.br (.cm .neq (.var (.int .i64) 2) (.cst (.int .i64 0)))
 (.ret (.tup [(true, [(.var (.slice) 0), (.var (.int .i64) 1), (.var (.int .i64) 2)]), (false, [(.cst (.int .i64 0))])]))
 (.loop [.int .u64, .int .i64] [(.cst (.int .u64 0)), (.cst (.int .i64 0))]
  (.lift (.br (.it (.cm .lss (.var (.int .i64) 5) (.cst (.int .i64 15))) (.cm .lss (.ar .add .i64 (.var (.int .i64) 1) (.var (.int .i64) 5)) (.ar .mul .i64 (.cst (.int .i64 8)) (.ln (.var (.slice) 0)))) (.cst (.bool false)))
   (.call F_spec_l2Bit [(.x (.var (.slice) 0)), (.x (.ar .add .i64 (.var (.int .i64) 1) (.var (.int .i64) 5)))] false [(false, [.int .u64])]
   (.need (.cm .geq (.cv .u64 (.var (.int .i64) 5)) (.cst (.int .u64 0)))
   (.cont 1 [(.ar .add .u64 (.var (.int .u64) 4) (.ar .shl .u64 (.var (.int .u64) 6) (.cv .u64 (.var (.int .i64) 5)))), (.ar .add .i64 (.var (.int .i64) 5) (.cst (.int .i64 1)))])))
   (.call F_spec_l3Next [(.x (.var (.slice) 3)), (.x (.var (.int .u64) 4)), (.x (.var (.int .i64) 5))] false [(true, [.int .i64, .int .i64, .int .i64])]
   (.call F_spec_l5Bad [(.agg [(.var (.slice) 0), (.var (.int .i64) 1), (.it (.cm .eql (.var (.int .i64) 6) (.cst (.int .i64 2))) (.cst (.int .i64 2)) (.var (.int .i64) 2))]), (.x (.cm .eql (.var (.int .i64) 6) (.cst (.int .i64 0))))] false [(true, [.slice, .int .i64, .int .i64])]
   (.ret (.tup [(true, [(.var (.slice) 9), (.ar .add .i64 (.var (.int .i64) 10) (.var (.int .i64) 8)), (.var (.int .i64) 11)]), (false, [(.var (.int .i64) 7)])])))))))))
set_option maxRecDepth 100000 in
theorem s_spec_l5Sym : sxF c_spec_l5Sym Tryd.f64 p_spec_l5Sym = some t_spec_l5Sym := by kernel_rfl
theorem e_spec_l5Sym (xs : Array Value) (w : World) : (callFunc F_spec_l5Sym xs).runT Tryd.prog w #[] = (.ok (.enter F_spec_l5Sym xs) w, #[]) := ent_of Tryd.func64 (by kernel_rfl) (by kernel_rfl) xs w
theorem run_spec_l5Sym {S : Shared} {h : Eng.Heap} {Q : Value → Eng.Heap → Prop} {vs : List Value} (hsh : shOk (resShs p_spec_l5Sym) vs) (hi : Inv S h) (hw : t_spec_l5Sym.wp Tryd.prog S noLeaf Q vs h []) : CallsH Tryd.prog S F_spec_l5Sym (argVals p_spec_l5Sym vs) h Q :=
  sxF_ok (cfg := c_spec_l5Sym) tabRdOk mixedRd Tryd.func64 rfl s_spec_l5Sym e_spec_l5Sym rfl hsh hi hw
/- function 65 -/
def c_spec_l5Repeat : Cfg := ⟨tabRd, [⟨18, [1, 10], [], [53, 54, 55, 56, 57, 58, 59, 60, 61, 62, 63, 64, 65, 66]⟩], [], [.cell 6 74, .tmp 7]⟩
def p_spec_l5Repeat : List (Bool × List Sh) := [(true, [.slice, .int .i64, .int .i64]), (false, [.slice]), (false, [.int .i64])]
set_option maxRecDepth 100000 in
def t_spec_l5Repeat : Tr :=
(.join [.int .i64, .int .i64, .slice, .int .i64, .int .i64]
 (.br (.cm .eql (.var (.int .i64) 4) (.cst (.int .i64 16)))
  (.call F_spec_l5Bad [(.agg [(.var (.slice) 0), (.var (.int .i64) 1), (.var (.int .i64) 2)]), (.x (.cm .eql (.ln (.var (.slice) 3)) (.cst (.int .i64 0))))] false [(true, [.slice, .int .i64, .int .i64])]
  (.call F_spec_l5Take [(.agg [(.var (.slice) 5), (.var (.int .i64) 6), (.var (.int .i64) 7)]), (.x (.cst (.int .i64 2)))] true [(true, [.slice, .int .i64, .int .i64]), (false, [.int .i64])]
  (.join [.int .i64]
   (.br (.cm .eql (.var (.int .i64) 10) (.cst (.int .i64 0)))
    (.need (.nt (.nn (.var (.slice) 3)))
    (.need (.cm .leq (.cst (.int .i64 0)) (.ar .sub .i64 (.ln (.var (.slice) 3)) (.cst (.int .i64 1))))
    (.need (.cm .lss (.ar .sub .i64 (.ln (.var (.slice) 3)) (.cst (.int .i64 1))) (.ln (.var (.slice) 3)))
    (.load (.ix 1 (.var (.slice) 3) (.ar .sub .i64 (.ln (.var (.slice) 3)) (.cst (.int .i64 1)))) [.int .i64]
    (.cont 1 [(.var (.int .i64) 12)])))))
    (.cont 1 [(.var (.int .i64) 4)]))
   (.cont 0 [(.ar .add .i64 (.var (.int .i64) 11) (.cst (.int .i64 3))), (.var (.int .i64) 12), (.var (.slice) 8), (.var (.int .i64) 9), (.var (.int .i64) 10)]))))
  (.cont 0 [(.cst (.int .i64 1)), (.var (.int .i64) 4), (.var (.slice) 0), (.var (.int .i64) 1), (.var (.int .i64) 2)]))
 (.join [.int .i64, .int .i64, .slice, .int .i64, .int .i64]
  (.br (.cm .eql (.var (.int .i64) 4) (.cst (.int .i64 17)))
   (.call F_spec_l5Take [(.agg [(.var (.slice) 7), (.var (.int .i64) 8), (.var (.int .i64) 9)]), (.x (.cst (.int .i64 3)))] true [(true, [.slice, .int .i64, .int .i64]), (false, [.int .i64])]
   (.cont 0 [(.ar .add .i64 (.var (.int .i64) 13) (.cst (.int .i64 3))), (.cst (.int .i64 0)), (.var (.slice) 10), (.var (.int .i64) 11), (.var (.int .i64) 12)]))
   (.cont 0 [(.var (.int .i64) 5), (.var (.int .i64) 6), (.var (.slice) 7), (.var (.int .i64) 8), (.var (.int .i64) 9)]))
  (.join [.int .i64, .int .i64, .slice, .int .i64, .int .i64]
   (.br (.cm .eql (.var (.int .i64) 4) (.cst (.int .i64 18)))
    (.call F_spec_l5Take [(.agg [(.var (.slice) 12), (.var (.int .i64) 13), (.var (.int .i64) 14)]), (.x (.cst (.int .i64 7)))] true [(true, [.slice, .int .i64, .int .i64]), (false, [.int .i64])]
    (.cont 0 [(.ar .add .i64 (.var (.int .i64) 18) (.cst (.int .i64 11))), (.cst (.int .i64 0)), (.var (.slice) 15), (.var (.int .i64) 16), (.var (.int .i64) 17)]))
    (.cont 0 [(.var (.int .i64) 10), (.var (.int .i64) 11), (.var (.slice) 12), (.var (.int .i64) 13), (.var (.int .i64) 14)]))
   (.loop [.slice, .int .i64] [(.var (.slice) 3), (.cst (.int .i64 0))]
    (.lift (.br (.it (.cm .lss (.var (.int .i64) 21) (.var (.int .i64) 15)) (.cm .eql (.var (.int .i64) 19) (.cst (.int .i64 0))) (.cst (.bool false)))
     (.hsl 2 1 [(.var (.int .i64) 16)]
     (.app 2 1 8 [(.int .i64 0)] (.var (.slice) 20) (.var (.slice) 22)
     (.cont 0 [(.var (.slice) 23), (.ar .add .i64 (.var (.int .i64) 21) (.cst (.int .i64 1)))])))
     (.ret (.tup [(true, [(.var (.slice) 17), (.var (.int .i64) 18), (.var (.int .i64) 19)]), (false, [(.var (.slice) 20)])]))))))))
set_option maxRecDepth 100000 in
theorem s_spec_l5Repeat : sxF c_spec_l5Repeat Tryd.f65 p_spec_l5Repeat = some t_spec_l5Repeat := by kernel_rfl
theorem e_spec_l5Repeat (xs : Array Value) (w : World) : (callFunc F_spec_l5Repeat xs).runT Tryd.prog w #[] = (.ok (.enter F_spec_l5Repeat xs) w, #[]) := ent_of Tryd.func65 (by kernel_rfl) (by kernel_rfl) xs w
theorem run_spec_l5Repeat {S : Shared} {h : Eng.Heap} {Q : Value → Eng.Heap → Prop} {vs : List Value} (hsh : shOk (resShs p_spec_l5Repeat) vs) (hi : Inv S h) (hw : t_spec_l5Repeat.wp Tryd.prog S noLeaf Q vs h []) : CallsH Tryd.prog S F_spec_l5Repeat (argVals p_spec_l5Repeat vs) h Q :=
  sxF_ok (cfg := c_spec_l5Repeat) tabRdOk mixedRd Tryd.func65 rfl s_spec_l5Repeat e_spec_l5Repeat rfl hsh hi hw
/- function 66 -/
def c_spec_l5IsKind : Cfg := ⟨tabRd, [], [], [.tmp 8]⟩
def p_spec_l5IsKind : List (Bool × List Sh) := [(false, [.slice]), (false, [.int .i64]), (false, [.int .i64]), (false, [.int .i64])]
set_option maxRecDepth 100000 in
def t_spec_l5IsKind : Tr :=
(.call F_spec_HuffKind [(.x (.var (.slice) 0))] false [(false, [.int .i64])]
(.ret (.x (.it (.it (.cm .eql (.var (.int .i64) 4) (.var (.int .i64) 1)) (.cst (.bool true)) (.cm .eql (.var (.int .i64) 4) (.var (.int .i64) 2))) (.cst (.bool true)) (.cm .eql (.var (.int .i64) 4) (.var (.int .i64) 3))))))
set_option maxRecDepth 100000 in
theorem s_spec_l5IsKind : sxF c_spec_l5IsKind Tryd.f66 p_spec_l5IsKind = some t_spec_l5IsKind := by kernel_rfl
theorem e_spec_l5IsKind (xs : Array Value) (w : World) : (callFunc F_spec_l5IsKind xs).runT Tryd.prog w #[] = (.ok (.enter F_spec_l5IsKind xs) w, #[]) := ent_of Tryd.func66 (by kernel_rfl) (by kernel_rfl) xs w
theorem run_spec_l5IsKind {S : Shared} {h : Eng.Heap} {Q : Value → Eng.Heap → Prop} {vs : List Value} (hsh : shOk (resShs p_spec_l5IsKind) vs) (hi : Inv S h) (hw : t_spec_l5IsKind.wp Tryd.prog S noLeaf Q vs h []) : CallsH Tryd.prog S F_spec_l5IsKind (argVals p_spec_l5IsKind vs) h Q :=
  sxF_ok (cfg := c_spec_l5IsKind) tabRdOk mixedRd Tryd.func66 rfl s_spec_l5IsKind e_spec_l5IsKind rfl hsh hi hw
/- function 83 -/
def c_spec_l2Bit : Cfg := ⟨tabRd, [], [], [.tmp 4]⟩
def p_spec_l2Bit : List (Bool × List Sh) := [(false, [.slice]), (false, [.int .i64])]
set_option maxRecDepth 100000 in
def t_spec_l2Bit : Tr :=
(.need (.nt (.nn (.var (.slice) 0)))
(.need (.cm .leq (.cst (.int .i64 0)) (.ar .quo .i64 (.var (.int .i64) 1) (.cst (.int .i64 8))))
(.need (.cm .lss (.ar .quo .i64 (.var (.int .i64) 1) (.cst (.int .i64 8))) (.ln (.var (.slice) 0)))
(.load (.ix 1 (.var (.slice) 0) (.ar .quo .i64 (.var (.int .i64) 1) (.cst (.int .i64 8)))) [.int .u8]
(.need (.cm .geq (.cv .u64 (.ar .rem .i64 (.var (.int .i64) 1) (.cst (.int .i64 8)))) (.cst (.int .u64 0)))
(.ret (.x (.ar .rem .u64 (.cv .u64 (.ar .shr .u8 (.var (.int .u8) 2) (.cv .u64 (.ar .rem .i64 (.var (.int .i64) 1) (.cst (.int .i64 8)))))) (.cst (.int .u64 2))))))))))
set_option maxRecDepth 100000 in
theorem s_spec_l2Bit : sxF c_spec_l2Bit Tryd.f83 p_spec_l2Bit = some t_spec_l2Bit := by kernel_rfl
theorem e_spec_l2Bit (xs : Array Value) (w : World) : (callFunc F_spec_l2Bit xs).runT Tryd.prog w #[] = (.ok (.enter F_spec_l2Bit xs) w, #[]) := ent_of Tryd.func83 (by kernel_rfl) (by kernel_rfl) xs w
theorem run_spec_l2Bit {S : Shared} {h : Eng.Heap} {Q : Value → Eng.Heap → Prop} {vs : List Value} (hsh : shOk (resShs p_spec_l2Bit) vs) (hi : Inv S h) (hw : t_spec_l2Bit.wp Tryd.prog S noLeaf Q vs h []) : CallsH Tryd.prog S F_spec_l2Bit (argVals p_spec_l2Bit vs) h Q :=
  sxF_ok (cfg := c_spec_l2Bit) tabRdOk mixedRd Tryd.func83 rfl s_spec_l2Bit e_spec_l2Bit rfl hsh hi hw
end Go.Proofs.YtmnialmphlbmaaaDoor
