-- printed by a generator of my own (wip/eng/Gen) from the translation
import Derived.Test.YteaonnfokkfnlaaDoorEng2
import Derived.Test.YteaonnfokkfnlaaDoorChecked
import Derived.Test.YteaonnfokkfnlaaDoorNums
set_option linter.unusedVariables false
set_option linter.unusedSimpArgs false
namespace Go.Proofs.YteaonnfokkfnlaaDoor
open Go Go.Eng
def tabWC : List (TypeId × TyD) := [(0, ⟨.oth, 1, 0, [], none, some []⟩),
  (3, ⟨(.int .i64), 1, 8, [.int .i64], some [(1, (.int .i64 0))], none⟩),
  (4, ⟨.bool, 1, 1, [.bool], some [(1, (.bool false))], none⟩),
  (5, ⟨(.int .u8), 1, 1, [.int .u8], some [(1, (.int .u8 0))], none⟩),
  (22, ⟨(.sl 5), 1, 24, [.slice], some [(1, .nilSl)], none⟩),
  (45, ⟨(.ptr 66), 1, 8, [.ptr], some [(1, .nilPtr)], none⟩),
  (64, ⟨(.arr 32768 5), 32768, 32768, [], some [(32768, (.int .u8 0))], none⟩),
  (66, ⟨(.st [(0, 3), (1, 64), (32769, 3), (32770, 3)]), 32771, 32792, [], some [(1, (.int .i64 0)), (32768, (.int .u8 0)), (2, (.int .i64 0))], none⟩)]
set_option maxRecDepth 100000 in
theorem tabWCOk : TabOk Tryd.prog tabWC := tabOk_of (by kernel_rfl)
theorem mixedWC : Tryd.prog.follows .mixedOrders = true := by kernel_rfl
/- function 52 -/
def c_impl_ring__repeat : Cfg := ⟨tabWC, [⟨3, [7, 11], [], [8, 12, 13, 14, 15, 16, 17, 18, 19, 20, 21, 22, 23, 24]⟩], [], [.tmp 6]⟩
def p_impl_ring__repeat : List (Bool × List Sh) := [(false, [.ptr]), (false, [.int .i64]), (false, [.int .i64])]
set_option maxRecDepth 100000 in
def t_impl_ring__repeat : Tr :=
(.hsl 5 0 []
(.loop [.slice, .int .i64] [(.var (.slice) 3), (.cst (.int .i64 0))]
 (.lift (.br (.cm .lss (.var (.int .i64) 5) (.var (.int .i64) 2))
  (.call F_impl_ring__back [(.x (.var (.ptr) 0)), (.x (.var (.int .i64) 1))] false [(false, [.int .u8])]
  (.hsl 5 1 [(.var (.int .u8) 6)]
  (.app 5 1 1 [(.int .u8 0)] (.var (.slice) 4) (.var (.slice) 7)
  (.hsl 5 1 [(.var (.int .u8) 6)]
  (.call F_impl_ring__put [(.x (.var (.ptr) 0)), (.x (.var (.slice) 9))] true []
  (.cont 0 [(.var (.slice) 8), (.ar .add .i64 (.var (.int .i64) 5) (.cst (.int .i64 1)))]))))))
  (.ret (.x (.var (.slice) 4)))))))
set_option maxRecDepth 100000 in
theorem s_impl_ring__repeat : sxF c_impl_ring__repeat Tryd.f52 p_impl_ring__repeat = some t_impl_ring__repeat := by kernel_rfl
theorem e_impl_ring__repeat (xs : Array Value) (w : World) : (callFunc F_impl_ring__repeat xs).runT Tryd.prog w #[] = (.ok (.enter F_impl_ring__repeat xs) w, #[]) := ent_of Tryd.func52 (by kernel_rfl) (by kernel_rfl) xs w
theorem run_impl_ring__repeat {S : Shared} {h : Eng.Heap} {Q : Value → Eng.Heap → Prop} {vs : List Value} (hsh : shOk (resShs p_impl_ring__repeat) vs) (hi : Inv S h) (hw : t_impl_ring__repeat.wp Tryd.prog S noLeaf Q vs h []) : CallsH Tryd.prog S F_impl_ring__repeat (argVals p_impl_ring__repeat vs) h Q :=
  sxF_ok (cfg := c_impl_ring__repeat) tabWCOk mixedWC Tryd.func52 rfl s_impl_ring__repeat e_impl_ring__repeat rfl hsh hi hw
/- function 58 -/
def c_impl_ring__back : Cfg := ⟨tabWC, [], [], [.tmp 4]⟩
def p_impl_ring__back : List (Bool × List Sh) := [(false, [.ptr]), (false, [.int .i64])]
set_option maxRecDepth 100000 in
def t_impl_ring__back : Tr :=
(.need (.nt (.nn (.var (.ptr) 0)))
(.load (.fld (.nz (.var (.ptr) 0)) 32769) [.int .i64]
(.need (.nt (.nn (.var (.ptr) 0)))
(.load (.fld (.nz (.var (.ptr) 0)) 0) [.int .i64]
(.need (.nt (.nn (.var (.ptr) 0)))
(.load (.fld (.nz (.var (.ptr) 0)) 0) [.int .i64]
(.need (.cm .neq (.var (.int .i64) 4) (.cst (.int .i64 0)))
(.need (.nt (.nn (.var (.ptr) 0)))
(.need (.cm .leq (.cst (.int .i64 0)) (.ar .rem .i64 (.ar .add .i64 (.ar .sub .i64 (.var (.int .i64) 2) (.var (.int .i64) 1)) (.var (.int .i64) 3)) (.var (.int .i64) 4)))
(.need (.cm .lss (.ar .rem .i64 (.ar .add .i64 (.ar .sub .i64 (.var (.int .i64) 2) (.var (.int .i64) 1)) (.var (.int .i64) 3)) (.var (.int .i64) 4)) (.cst (.int .i64 32768)))
(.load (.ia 1 (.fld (.nz (.var (.ptr) 0)) 1) (.ar .rem .i64 (.ar .add .i64 (.ar .sub .i64 (.var (.int .i64) 2) (.var (.int .i64) 1)) (.var (.int .i64) 3)) (.var (.int .i64) 4))) [.int .u8]
(.ret (.x (.var (.int .u8) 5))))))))))))))
set_option maxRecDepth 100000 in
theorem s_impl_ring__back : sxF c_impl_ring__back Tryd.f58 p_impl_ring__back = some t_impl_ring__back := by kernel_rfl
theorem e_impl_ring__back (xs : Array Value) (w : World) : (callFunc F_impl_ring__back xs).runT Tryd.prog w #[] = (.ok (.enter F_impl_ring__back xs) w, #[]) := ent_of Tryd.func58 (by kernel_rfl) (by kernel_rfl) xs w
theorem run_impl_ring__back {S : Shared} {h : Eng.Heap} {Q : Value → Eng.Heap → Prop} {vs : List Value} (hsh : shOk (resShs p_impl_ring__back) vs) (hi : Inv S h) (hw : t_impl_ring__back.wp Tryd.prog S noLeaf Q vs h []) : CallsH Tryd.prog S F_impl_ring__back (argVals p_impl_ring__back vs) h Q :=
  sxF_ok (cfg := c_impl_ring__back) tabWCOk mixedWC Tryd.func58 rfl s_impl_ring__back e_impl_ring__back rfl hsh hi hw
end Go.Proofs.YteaonnfokkfnlaaDoor
