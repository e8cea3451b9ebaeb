-- printed by a generator of my own (wip/eng/Gen) from the translation
import Derived.Test.YtdcalidppjclpaaEng2
import Derived.Test.YtdcalidppjclpaaChecked
import Derived.Test.YtdcalidppjclpaaNums
set_option linter.unusedVariables false
set_option linter.unusedSimpArgs false
namespace Go.Proofs.Ytdcalidppjclpaa
open Go Go.Eng
def tabBF : List (TypeId × TyD) := [(0, ⟨.oth, 1, 0, [], none, some []⟩),
  (2, ⟨(.int .i64), 1, 8, [.int .i64], some [(1, (.int .i64 0))], none⟩),
  (3, ⟨(.int .i64), 1, 8, [.int .i64], some [(1, (.int .i64 0))], none⟩),
  (4, ⟨.bool, 1, 1, [.bool], some [(1, (.bool false))], none⟩),
  (5, ⟨(.int .u8), 1, 1, [.int .u8], some [(1, (.int .u8 0))], none⟩),
  (22, ⟨(.sl 5), 1, 24, [.slice], some [(1, .nilSl)], none⟩),
  (48, ⟨(.st [(0, 22), (1, 2), (2, 2)]), 3, 40, [.slice, .int .i64, .int .i64], some [(1, .nilSl), (2, (.int .i64 0))], none⟩),
  (50, ⟨(.st [(0, 22), (1, 2), (2, 2)]), 3, 40, [.slice, .int .i64, .int .i64], some [(1, .nilSl), (2, (.int .i64 0))], none⟩),
  (84, ⟨(.st [(0, 22), (1, 2), (2, 2)]), 3, 40, [.slice, .int .i64, .int .i64], some [(1, .nilSl), (2, (.int .i64 0))], none⟩),
  (108, ⟨(.ptr 84), 1, 8, [.ptr], some [(1, .nilPtr)], none⟩)]
set_option maxRecDepth 100000 in
theorem tabBFOk : TabOk Try.prog tabBF := tabOk_of (by kernel_rfl)
theorem mixedBF : Try.prog.follows .mixedOrders = true := by kernel_rfl
/- function 7 -/
def c_laws_FnExactBitsFeed : Cfg := ⟨tabBF, [], [], [.tmp 4]⟩
def p_laws_FnExactBitsFeed : List (Bool × List Sh) := [(true, [.slice, .int .i64, .int .i64]), (false, [.slice])]
set_option maxRecDepth 100000 in
def t_laws_FnExactBitsFeed : Tr :=
(.lift (.br (.cm .gtr (.ln (.var (.slice) 3)) (.cst (.int .i64 1048576)))
 (.ret (.x (.cst (.bool true))))
 (.call F_laws_szBits [(.agg [(.var (.slice) 0), (.var (.int .i64) 1), (.var (.int .i64) 2)]), (.x (.cst (.int .i64 1048576)))] false [(false, [.int .i64])]
 (.lift (.br (.cm .lss (.var (.int .i64) 4) (.cst (.int .i64 0)))
  (.ret (.x (.cst (.bool true))))
  (.call F_laws_toBits [(.agg [(.var (.slice) 0), (.var (.int .i64) 1), (.var (.int .i64) 2)])] false [(true, [.slice, .int .i64, .int .i64])]
  (.call F_laws_toByteS [(.x (.var (.slice) 3))] false [(false, [.slice])]
  (.call F_spec_BitsFeed [(.agg [(.var (.slice) 5), (.var (.int .i64) 6), (.var (.int .i64) 7)]), (.x (.var (.slice) 8))] false [(true, [.slice, .int .i64, .int .i64])]
  (.call F_laws_toBits [(.agg [(.var (.slice) 0), (.var (.int .i64) 1), (.var (.int .i64) 2)])] false [(true, [.slice, .int .i64, .int .i64])]
  (.call F_laws_toByteS [(.x (.var (.slice) 3))] false [(false, [.slice])]
  (.call F_impl_BitsFeed [(.agg [(.var (.slice) 12), (.var (.int .i64) 13), (.var (.int .i64) 14)]), (.x (.var (.slice) 15))] false [(true, [.slice, .int .i64, .int .i64])]
  (.call F_laws_eqBits [(.agg [(.var (.slice) 16), (.var (.int .i64) 17), (.var (.int .i64) 18)]), (.agg [(.var (.slice) 9), (.var (.int .i64) 10), (.var (.int .i64) 11)])] false [(false, [.bool])]
  (.lift (.br (.nt (.var (.bool) 19))
   (.ret (.x (.cst (.bool false))))
   (.call F_laws_toBits [(.agg [(.var (.slice) 0), (.var (.int .i64) 1), (.var (.int .i64) 2)])] false [(true, [.slice, .int .i64, .int .i64])]
   (.call F_laws_eqBits [(.agg [(.var (.slice) 12), (.var (.int .i64) 13), (.var (.int .i64) 14)]), (.agg [(.var (.slice) 20), (.var (.int .i64) 21), (.var (.int .i64) 22)])] false [(false, [.bool])]
   (.lift (.br (.nt (.var (.bool) 23))
    (.ret (.x (.cst (.bool false))))
    (.call F_laws_toByteS [(.x (.var (.slice) 3))] false [(false, [.slice])]
    (.call F_laws_eqByteS [(.x (.var (.slice) 15)), (.x (.var (.slice) 24))] false [(false, [.bool])]
    (.lift (.br (.nt (.var (.bool) 25))
     (.ret (.x (.cst (.bool false))))
     (.call F_laws_markBits [(.agg [(.var (.slice) 12), (.var (.int .i64) 13), (.var (.int .i64) 14)]), (.x (.cst (.int .i64 1)))] false [(false, [.int .i64])]
     (.call F_laws_markByteS [(.x (.var (.slice) 15)), (.x (.var (.int .i64) 26))] false [(false, [.int .i64])]
     (.join [.bool]
      (.br (.nt (.cm .lss (.var (.int .i64) 27) (.cst (.int .i64 0))))
       (.call F_laws_eqBits [(.agg [(.var (.slice) 16), (.var (.int .i64) 17), (.var (.int .i64) 18)]), (.agg [(.var (.slice) 9), (.var (.int .i64) 10), (.var (.int .i64) 11)])] false [(false, [.bool])]
       (.cont 5 [(.nt (.var (.bool) 28))]))
       (.cont 5 [(.cst (.bool true))]))
      (.lift (.br (.var (.bool) 28)
       (.ret (.x (.cst (.bool false))))
       (.call F_laws_markBits [(.agg [(.var (.slice) 16), (.var (.int .i64) 17), (.var (.int .i64) 18)]), (.x (.cst (.int .i64 1)))] false [(false, [.int .i64])]
       (.call F_laws_heldBits [(.agg [(.var (.slice) 16), (.var (.int .i64) 17), (.var (.int .i64) 18)]), (.x (.cst (.int .i64 1)))] false [(false, [.int .i64])]
       (.lift (.br (.cm .lss (.var (.int .i64) 30) (.cst (.int .i64 0)))
        (.ret (.x (.cst (.bool false))))
        (.lift (.br (.cm .neq (.var (.int .i64) 30) (.var (.int .i64) 29))
         (.ret (.x (.cst (.bool false))))
         (.call F_laws_toBits [(.agg [(.var (.slice) 0), (.var (.int .i64) 1), (.var (.int .i64) 2)])] false [(true, [.slice, .int .i64, .int .i64])]
         (.call F_laws_toByteS [(.x (.var (.slice) 3))] false [(false, [.slice])]
         (.call F_impl_BitsFeed [(.agg [(.var (.slice) 31), (.var (.int .i64) 32), (.var (.int .i64) 33)]), (.x (.var (.slice) 34))] false [(true, [.slice, .int .i64, .int .i64])]
         (.call F_laws_eqBits [(.agg [(.var (.slice) 35), (.var (.int .i64) 36), (.var (.int .i64) 37)]), (.agg [(.var (.slice) 9), (.var (.int .i64) 10), (.var (.int .i64) 11)])] false [(false, [.bool])]
         (.lift (.br (.nt (.var (.bool) 38))
          (.ret (.x (.cst (.bool false))))
          (.call F_laws_heldBits [(.agg [(.var (.slice) 16), (.var (.int .i64) 17), (.var (.int .i64) 18)]), (.x (.cst (.int .i64 1)))] false [(false, [.int .i64])]
          (.lift (.br (.cm .lss (.var (.int .i64) 39) (.cst (.int .i64 0)))
           (.ret (.x (.cst (.bool false))))
           (.lift (.br (.cm .neq (.var (.int .i64) 39) (.var (.int .i64) 29))
            (.ret (.x (.cst (.bool false))))
            (.ret (.x (.cst (.bool true))))))))))))))))))))))))))))))))))))))))))))))))
set_option maxRecDepth 100000 in
theorem s_laws_FnExactBitsFeed : sxF c_laws_FnExactBitsFeed Try.f7 p_laws_FnExactBitsFeed = some t_laws_FnExactBitsFeed := by kernel_rfl
theorem e_laws_FnExactBitsFeed (xs : Array Value) (w : World) : (callFunc F_laws_FnExactBitsFeed xs).runT Try.prog w #[] = (.ok (.enter F_laws_FnExactBitsFeed xs) w, #[]) := ent_of Try.func7 (by kernel_rfl) (by kernel_rfl) xs w
theorem run_laws_FnExactBitsFeed {S : Nat → Prop} {h : Eng.Heap} {Q : Value → Eng.Heap → Prop} {vs : List Value} (hsh : shOk (resShs p_laws_FnExactBitsFeed) vs) (hi : Inv S h) (hw : t_laws_FnExactBitsFeed.wp Try.prog S noLeaf Q vs h []) : CallsH Try.prog S F_laws_FnExactBitsFeed (argVals p_laws_FnExactBitsFeed vs) h Q :=
  sxF_ok (cfg := c_laws_FnExactBitsFeed) tabBFOk mixedBF Try.func7 rfl s_laws_FnExactBitsFeed e_laws_FnExactBitsFeed rfl hsh hi hw
/- function 33 -/
def c_spec_BitsFeed : Cfg := ⟨tabBF, [], [], [.cell 4 50]⟩
def p_spec_BitsFeed : List (Bool × List Sh) := [(true, [.slice, .int .i64, .int .i64]), (false, [.slice])]
set_option maxRecDepth 100000 in
def t_spec_BitsFeed : Tr :=
(.call F_spec_ValidBits [(.agg [(.var (.slice) 0), (.var (.int .i64) 1), (.var (.int .i64) 2)])] false [(false, [.bool])]
(.lift (.br (.nt (.var (.bool) 4))
 (.ret (.agg [(.cst .nilSl), (.cst (.int .i64 0)), (.cst (.int .i64 0))]))
 (.call F_spec_l2Copy [(.agg [(.var (.slice) 0), (.var (.int .i64) 1), (.var (.int .i64) 2)])] false [(true, [.slice, .int .i64, .int .i64])]
 (.join [.slice]
  (.br (.cm .leq (.ar .add .i64 (.ln (.var (.slice) 0)) (.ln (.var (.slice) 3))) (.cst (.int .i64 1000000)))
   (.app 5 1 1 [(.int .u8 0)] (.var (.slice) 5) (.var (.slice) 3)
   (.cont 1 [(.var (.slice) 8)]))
   (.cont 1 [(.var (.slice) 5)]))
  (.ret (.agg [(.var (.slice) 8), (.var (.int .i64) 6), (.var (.int .i64) 7)])))))))
set_option maxRecDepth 100000 in
theorem s_spec_BitsFeed : sxF c_spec_BitsFeed Try.f33 p_spec_BitsFeed = some t_spec_BitsFeed := by kernel_rfl
theorem e_spec_BitsFeed (xs : Array Value) (w : World) : (callFunc F_spec_BitsFeed xs).runT Try.prog w #[] = (.ok (.enter F_spec_BitsFeed xs) w, #[]) := ent_of Try.func33 (by kernel_rfl) (by kernel_rfl) xs w
theorem run_spec_BitsFeed {S : Nat → Prop} {h : Eng.Heap} {Q : Value → Eng.Heap → Prop} {vs : List Value} (hsh : shOk (resShs p_spec_BitsFeed) vs) (hi : Inv S h) (hw : t_spec_BitsFeed.wp Try.prog S noLeaf Q vs h []) : CallsH Try.prog S F_spec_BitsFeed (argVals p_spec_BitsFeed vs) h Q :=
  sxF_ok (cfg := c_spec_BitsFeed) tabBFOk mixedBF Try.func33 rfl s_spec_BitsFeed e_spec_BitsFeed rfl hsh hi hw
/- function 35 -/
def c_impl_BitsFeed : Cfg := ⟨tabBF, [], [5], [.cell 4 50]⟩
def p_impl_BitsFeed : List (Bool × List Sh) := [(true, [.slice, .int .i64, .int .i64]), (false, [.slice])]
set_option maxRecDepth 100000 in
def t_impl_BitsFeed : Tr :=
(.call F_impl_ValidBits [(.agg [(.var (.slice) 0), (.var (.int .i64) 1), (.var (.int .i64) 2)])] false [(false, [.bool])]
(.lift (.br (.nt (.var (.bool) 4))
 (.ret (.agg [(.cst .nilSl), (.cst (.int .i64 0)), (.cst (.int .i64 0))]))
 (.call F_impl_sourceOf [(.agg [(.var (.slice) 0), (.var (.int .i64) 1), (.var (.int .i64) 2)])] false [(true, [.slice, .int .i64, .int .i64])]
 (.hall 84 [(1, (.cst .nilSl)), (2, (.cst (.int .i64 0)))]
 (.hsto (.var (.addr) 8) [(.var (.slice) 5), (.var (.int .i64) 6), (.var (.int .i64) 7)]
 (.join []
  (.br (.cm .leq (.ar .add .i64 (.ln (.var (.slice) 0)) (.ln (.var (.slice) 3))) (.cst (.int .i64 1000000)))
   (.call F_impl_source__feed [(.x (.var (.addr) 8)), (.x (.var (.slice) 3))] true []
   (.cont 1 []))
   (.cont 1 []))
  (.load (.var (.addr) 8) [.slice, .int .i64, .int .i64]
  (.call F_impl_source__bits [(.agg [(.var (.slice) 9), (.var (.int .i64) 10), (.var (.int .i64) 11)])] false [(true, [.slice, .int .i64, .int .i64])]
  (.ret (.agg [(.var (.slice) 12), (.var (.int .i64) 13), (.var (.int .i64) 14)])))))))))))
set_option maxRecDepth 100000 in
theorem s_impl_BitsFeed : sxF c_impl_BitsFeed Try.f35 p_impl_BitsFeed = some t_impl_BitsFeed := by kernel_rfl
theorem e_impl_BitsFeed (xs : Array Value) (w : World) : (callFunc F_impl_BitsFeed xs).runT Try.prog w #[] = (.ok (.enter F_impl_BitsFeed xs) w, #[]) := ent_of Try.func35 (by kernel_rfl) (by kernel_rfl) xs w
theorem run_impl_BitsFeed {S : Nat → Prop} {h : Eng.Heap} {Q : Value → Eng.Heap → Prop} {vs : List Value} (hsh : shOk (resShs p_impl_BitsFeed) vs) (hi : Inv S h) (hw : t_impl_BitsFeed.wp Try.prog S noLeaf Q vs h []) : CallsH Try.prog S F_impl_BitsFeed (argVals p_impl_BitsFeed vs) h Q :=
  sxF_ok (cfg := c_impl_BitsFeed) tabBFOk mixedBF Try.func35 rfl s_impl_BitsFeed e_impl_BitsFeed rfl hsh hi hw
/- function 66 -/
def c_spec_l2Copy : Cfg := ⟨tabBF, [], [], [.cell 2 50]⟩
def p_spec_l2Copy : List (Bool × List Sh) := [(true, [.slice, .int .i64, .int .i64])]
set_option maxRecDepth 100000 in
def t_spec_l2Copy : Tr :=
(.hsl 5 0 []
(.app 5 1 1 [(.int .u8 0)] (.var (.slice) 3) (.var (.slice) 0)
(.ret (.agg [(.var (.slice) 4), (.var (.int .i64) 1), (.var (.int .i64) 2)]))))
set_option maxRecDepth 100000 in
theorem s_spec_l2Copy : sxF c_spec_l2Copy Try.f66 p_spec_l2Copy = some t_spec_l2Copy := by kernel_rfl
theorem e_spec_l2Copy (xs : Array Value) (w : World) : (callFunc F_spec_l2Copy xs).runT Try.prog w #[] = (.ok (.enter F_spec_l2Copy xs) w, #[]) := ent_of Try.func66 (by kernel_rfl) (by kernel_rfl) xs w
theorem run_spec_l2Copy {S : Nat → Prop} {h : Eng.Heap} {Q : Value → Eng.Heap → Prop} {vs : List Value} (hsh : shOk (resShs p_spec_l2Copy) vs) (hi : Inv S h) (hw : t_spec_l2Copy.wp Try.prog S noLeaf Q vs h []) : CallsH Try.prog S F_spec_l2Copy (argVals p_spec_l2Copy vs) h Q :=
  sxF_ok (cfg := c_spec_l2Copy) tabBFOk mixedBF Try.func66 rfl s_spec_l2Copy e_spec_l2Copy rfl hsh hi hw
/- function 68 -/
def c_impl_sourceOf : Cfg := ⟨tabBF, [], [], [.cell 2 84]⟩
def p_impl_sourceOf : List (Bool × List Sh) := [(true, [.slice, .int .i64, .int .i64])]
set_option maxRecDepth 100000 in
def t_impl_sourceOf : Tr :=
(.hsl 5 0 []
(.app 5 1 1 [(.int .u8 0)] (.var (.slice) 3) (.var (.slice) 0)
(.ret (.agg [(.var (.slice) 4), (.var (.int .i64) 1), (.var (.int .i64) 2)]))))
set_option maxRecDepth 100000 in
theorem s_impl_sourceOf : sxF c_impl_sourceOf Try.f68 p_impl_sourceOf = some t_impl_sourceOf := by kernel_rfl
theorem e_impl_sourceOf (xs : Array Value) (w : World) : (callFunc F_impl_sourceOf xs).runT Try.prog w #[] = (.ok (.enter F_impl_sourceOf xs) w, #[]) := ent_of Try.func68 (by kernel_rfl) (by kernel_rfl) xs w
theorem run_impl_sourceOf {S : Nat → Prop} {h : Eng.Heap} {Q : Value → Eng.Heap → Prop} {vs : List Value} (hsh : shOk (resShs p_impl_sourceOf) vs) (hi : Inv S h) (hw : t_impl_sourceOf.wp Try.prog S noLeaf Q vs h []) : CallsH Try.prog S F_impl_sourceOf (argVals p_impl_sourceOf vs) h Q :=
  sxF_ok (cfg := c_impl_sourceOf) tabBFOk mixedBF Try.func68 rfl s_impl_sourceOf e_impl_sourceOf rfl hsh hi hw
/- function 69 -/
def c_impl_source__feed : Cfg := ⟨tabBF, [], [], []⟩
def p_impl_source__feed : List (Bool × List Sh) := [(false, [.ptr]), (false, [.slice])]
set_option maxRecDepth 100000 in
def t_impl_source__feed : Tr :=
(.need (.nt (.nn (.var (.ptr) 0)))
(.load (.fld (.nz (.var (.ptr) 0)) 0) [.slice]
(.app 5 1 1 [(.int .u8 0)] (.var (.slice) 2) (.var (.slice) 1)
(.need (.nt (.nn (.var (.ptr) 0)))
(.hsto (.fld (.nz (.var (.ptr) 0)) 0) [(.var (.slice) 3)]
(.ret (.tup [])))))))
set_option maxRecDepth 100000 in
theorem s_impl_source__feed : sxF c_impl_source__feed Try.f69 p_impl_source__feed = some t_impl_source__feed := by kernel_rfl
theorem e_impl_source__feed (xs : Array Value) (w : World) : (callFunc F_impl_source__feed xs).runT Try.prog w #[] = (.ok (.enter F_impl_source__feed xs) w, #[]) := ent_of Try.func69 (by kernel_rfl) (by kernel_rfl) xs w
theorem run_impl_source__feed {S : Nat → Prop} {h : Eng.Heap} {Q : Value → Eng.Heap → Prop} {vs : List Value} (hsh : shOk (resShs p_impl_source__feed) vs) (hi : Inv S h) (hw : t_impl_source__feed.wp Try.prog S noLeaf Q vs h []) : CallsH Try.prog S F_impl_source__feed (argVals p_impl_source__feed vs) h Q :=
  sxF_ok (cfg := c_impl_source__feed) tabBFOk mixedBF Try.func69 rfl s_impl_source__feed e_impl_source__feed rfl hsh hi hw
/- function 70 -/
def c_impl_source__bits : Cfg := ⟨tabBF, [], [], [.cell 2 50]⟩
def p_impl_source__bits : List (Bool × List Sh) := [(true, [.slice, .int .i64, .int .i64])]
set_option maxRecDepth 100000 in
def t_impl_source__bits : Tr :=
(.ret (.agg [(.var (.slice) 0), (.var (.int .i64) 1), (.var (.int .i64) 2)]))
set_option maxRecDepth 100000 in
theorem s_impl_source__bits : sxF c_impl_source__bits Try.f70 p_impl_source__bits = some t_impl_source__bits := by kernel_rfl
theorem e_impl_source__bits (xs : Array Value) (w : World) : (callFunc F_impl_source__bits xs).runT Try.prog w #[] = (.ok (.enter F_impl_source__bits xs) w, #[]) := ent_of Try.func70 (by kernel_rfl) (by kernel_rfl) xs w
theorem run_impl_source__bits {S : Nat → Prop} {h : Eng.Heap} {Q : Value → Eng.Heap → Prop} {vs : List Value} (hsh : shOk (resShs p_impl_source__bits) vs) (hi : Inv S h) (hw : t_impl_source__bits.wp Try.prog S noLeaf Q vs h []) : CallsH Try.prog S F_impl_source__bits (argVals p_impl_source__bits vs) h Q :=
  sxF_ok (cfg := c_impl_source__bits) tabBFOk mixedBF Try.func70 rfl s_impl_source__bits e_impl_source__bits rfl hsh hi hw
end Go.Proofs.Ytdcalidppjclpaa
