-- printed by a generator of my own (wip/eng/Gen) from the translation
import Derived.Test.YtchlnichbaoeaaaEng2
import Derived.Test.YtchlnichbaoeaaaChecked
import Derived.Test.YtchlnichbaoeaaaNums
set_option linter.unusedVariables false
set_option linter.unusedSimpArgs false
namespace Go.Proofs.Ytchlnichbaoeaaa
open Go Go.Eng
def tabBFi : List (TypeId × TyD) := [(0, ⟨.oth, 1, 0, [], none, some []⟩),
  (2, ⟨(.int .i64), 1, 8, [.int .i64], some [(1, (.int .i64 0))], none⟩),
  (3, ⟨(.int .i64), 1, 8, [.int .i64], some [(1, (.int .i64 0))], none⟩),
  (4, ⟨.bool, 1, 1, [.bool], some [(1, (.bool false))], none⟩),
  (5, ⟨(.int .u8), 1, 1, [.int .u8], some [(1, (.int .u8 0))], none⟩),
  (22, ⟨(.sl 5), 1, 24, [.slice], some [(1, .nilSl)], none⟩),
  (48, ⟨(.st [(0, 22), (1, 2), (2, 2)]), 3, 40, [.slice, .int .i64, .int .i64], some [(1, .nilSl), (2, (.int .i64 0))], none⟩),
  (116, ⟨(.st [(0, 22), (1, 2), (2, 2)]), 3, 40, [.slice, .int .i64, .int .i64], some [(1, .nilSl), (2, (.int .i64 0))], none⟩),
  (154, ⟨(.ptr 116), 1, 8, [.ptr], some [(1, .nilPtr)], none⟩)]
set_option maxRecDepth 100000 in
theorem tabBFiOk : TabOk Try.prog tabBFi := tabOk_of (by kernel_rfl)
theorem mixedBFi : Try.prog.follows .mixedOrders = true := by kernel_rfl
/- function 75 -/
def c_impl_BitsFeed : Cfg := ⟨tabBFi, [], [5], [.cell 4 48]⟩
def p_impl_BitsFeed : List (Bool × List Sh) := [(true, [.slice, .int .i64, .int .i64]), (false, [.slice])]
set_option maxRecDepth 100000 in
def t_impl_BitsFeed : Tr :=
(.call F_impl_ValidBits [(.agg [(.var (.slice) 0), (.var (.int .i64) 1), (.var (.int .i64) 2)])] false [(false, [.bool])]
(.lift (.br (.nt (.var (.bool) 4))
 (.ret (.agg [(.cst .nilSl), (.cst (.int .i64 0)), (.cst (.int .i64 0))]))
 (.call F_impl_sourceOf [(.agg [(.var (.slice) 0), (.var (.int .i64) 1), (.var (.int .i64) 2)])] false [(true, [.slice, .int .i64, .int .i64])]
 (.hall 116 [(1, (.cst .nilSl)), (2, (.cst (.int .i64 0)))]
 (.hsto (.var (.addr) 8) [(.var (.slice) 5), (.var (.int .i64) 6), (.var (.int .i64) 7)]
 (.join []
  (.br (.cm .leq (.ar .add .i64 (.ln (.var (.slice) 0)) (.ln (.var (.slice) 3))) (.cst (.int .i64 1000000)))
   (.call F_impl_source__feed [(.x (.var (.addr) 8)), (.x (.var (.slice) 3))] true []
   (.cont 1 []))
   (.cont 1 []))
  (.load (.var (.addr) 8) [.slice, .int .i64, .int .i64]
  (.call F_impl_source__bits [(.agg [(.var (.slice) 9), (.var (.int .i64) 10), (.var (.int .i64) 11)])] false [(true, [.slice, .int .i64, .int .i64])]
  (.ret (.agg [(.var (.slice) 12), (.var (.int .i64) 13), (.var (.int .i64) 14)])))))))))))
set_option maxRecDepth 100000 in
theorem s_impl_BitsFeed : sxF c_impl_BitsFeed Try.f75 p_impl_BitsFeed = some t_impl_BitsFeed := by kernel_rfl
theorem e_impl_BitsFeed (xs : Array Value) (w : World) : (callFunc F_impl_BitsFeed xs).runT Try.prog w #[] = (.ok (.enter F_impl_BitsFeed xs) w, #[]) := ent_of Try.func75 (by kernel_rfl) (by kernel_rfl) xs w
theorem run_impl_BitsFeed {S : Nat → Prop} {h : Eng.Heap} {Q : Value → Eng.Heap → Prop} {vs : List Value} (hsh : shOk (resShs p_impl_BitsFeed) vs) (hi : Inv S h) (hw : t_impl_BitsFeed.wp Try.prog S noLeaf Q vs h []) : CallsH Try.prog S F_impl_BitsFeed (argVals p_impl_BitsFeed vs) h Q :=
  sxF_ok (cfg := c_impl_BitsFeed) tabBFiOk mixedBFi Try.func75 rfl s_impl_BitsFeed e_impl_BitsFeed rfl hsh hi hw
/- function 120 -/
def c_impl_source__feed : Cfg := ⟨tabBFi, [], [], []⟩
def p_impl_source__feed : List (Bool × List Sh) := [(false, [.ptr]), (false, [.slice])]
set_option maxRecDepth 100000 in
def t_impl_source__feed : Tr :=
(.need (.nt (.nn (.var (.ptr) 0)))
(.load (.fld (.nz (.var (.ptr) 0)) 0) [.slice]
(.app 5 1 1 [(.int .u8 0)] (.var (.slice) 2) (.var (.slice) 1)
(.need (.nt (.nn (.var (.ptr) 0)))
(.hsto (.fld (.nz (.var (.ptr) 0)) 0) [(.var (.slice) 3)]
(.ret (.tup [])))))))
set_option maxRecDepth 100000 in
theorem s_impl_source__feed : sxF c_impl_source__feed Try.f120 p_impl_source__feed = some t_impl_source__feed := by kernel_rfl
theorem e_impl_source__feed (xs : Array Value) (w : World) : (callFunc F_impl_source__feed xs).runT Try.prog w #[] = (.ok (.enter F_impl_source__feed xs) w, #[]) := ent_of Try.func120 (by kernel_rfl) (by kernel_rfl) xs w
theorem run_impl_source__feed {S : Nat → Prop} {h : Eng.Heap} {Q : Value → Eng.Heap → Prop} {vs : List Value} (hsh : shOk (resShs p_impl_source__feed) vs) (hi : Inv S h) (hw : t_impl_source__feed.wp Try.prog S noLeaf Q vs h []) : CallsH Try.prog S F_impl_source__feed (argVals p_impl_source__feed vs) h Q :=
  sxF_ok (cfg := c_impl_source__feed) tabBFiOk mixedBFi Try.func120 rfl s_impl_source__feed e_impl_source__feed rfl hsh hi hw
end Go.Proofs.Ytchlnichbaoeaaa
