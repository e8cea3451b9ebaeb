-- printed by a generator of my own (wip/eng/Gen) from the translation
import Derived.Test.YteaonnfokkfnlaaDoorEng2
import Derived.Test.YteaonnfokkfnlaaDoorChecked
import Derived.Test.YteaonnfokkfnlaaDoorNums
set_option linter.unusedVariables false
set_option linter.unusedSimpArgs false
namespace Go.Proofs.YteaonnfokkfnlaaDoor
open Go Go.Eng
def tabWN : List (TypeId × TyD) := [(0, ⟨.oth, 1, 0, [], none, some []⟩),
  (2, ⟨(.int .i64), 1, 8, [.int .i64], some [(1, (.int .i64 0))], none⟩),
  (3, ⟨(.int .i64), 1, 8, [.int .i64], some [(1, (.int .i64 0))], none⟩),
  (5, ⟨(.int .u8), 1, 1, [.int .u8], some [(1, (.int .u8 0))], none⟩),
  (22, ⟨(.sl 5), 1, 24, [.slice], some [(1, .nilSl)], none⟩),
  (45, ⟨(.ptr 66), 1, 8, [.ptr], some [(1, .nilPtr)], none⟩),
  (64, ⟨(.arr 32768 5), 32768, 32768, [], some [(32768, (.int .u8 0))], none⟩),
  (66, ⟨(.st [(0, 3), (1, 64), (32769, 3), (32770, 3)]), 32771, 32792, [], some [(1, (.int .i64 0)), (32768, (.int .u8 0)), (2, (.int .i64 0))], none⟩)]
set_option maxRecDepth 100000 in
theorem tabWNOk : TabOk Tryd.prog tabWN := tabOk_of (by kernel_rfl)
theorem mixedWN : Tryd.prog.follows .mixedOrders = true := by kernel_rfl
/- function 16 -/
def c_impl_ringOf : Cfg := ⟨tabWN, [], [8], [.tmp 4]⟩
def p_impl_ringOf : List (Bool × List Sh) := [(false, [.int .i64]), (false, [.slice])]
set_option maxRecDepth 100000 in
def t_impl_ringOf : Tr :=
(.hall 66 [(1, (.var (.int .i64) 0)), (32768, (.cst (.int .u8 0))), (2, (.cst (.int .i64 0)))]
(.call F_impl_ring__put [(.x (.var (.addr) 2)), (.x (.var (.slice) 1))] true []
(.ret (.x (.var (.addr) 2)))))
set_option maxRecDepth 100000 in
theorem s_impl_ringOf : sxF c_impl_ringOf Tryd.f16 p_impl_ringOf = some t_impl_ringOf := by kernel_rfl
theorem e_impl_ringOf (xs : Array Value) (w : World) : (callFunc F_impl_ringOf xs).runT Tryd.prog w #[] = (.ok (.enter F_impl_ringOf xs) w, #[]) := ent_of Tryd.func16 (by kernel_rfl) (by kernel_rfl) xs w
theorem run_impl_ringOf {S : Shared} {h : Eng.Heap} {Q : Value → Eng.Heap → Prop} {vs : List Value} (hsh : shOk (resShs p_impl_ringOf) vs) (hi : Inv S h) (hw : t_impl_ringOf.wp Tryd.prog S noLeaf Q vs h []) : CallsH Tryd.prog S F_impl_ringOf (argVals p_impl_ringOf vs) h Q :=
  sxF_ok (cfg := c_impl_ringOf) tabWNOk mixedWN Tryd.func16 rfl s_impl_ringOf e_impl_ringOf rfl hsh hi hw
/- function 28 -/
def c_impl_ring__put : Cfg := ⟨tabWN, [⟨1, [17], [], [5, 18, 19, 20, 21, 22, 23, 24, 25, 26, 27, 28, 29, 30, 31, 32, 33, 34, 35, 36, 37, 38, 39, 40, 41, 42, 43, 44, 45, 46, 47, 48, 49, 50, 51, 52, 53, 54, 55, 56]⟩], [], []⟩
def p_impl_ring__put : List (Bool × List Sh) := [(false, [.ptr]), (false, [.slice])]
set_option maxRecDepth 100000 in
def t_impl_ring__put : Tr :=
(.need (.nt (.nn (.var (.ptr) 0)))
(.load (.fld (.nz (.var (.ptr) 0)) 0) [.int .i64]
(.need (.cm .leq (.cst (.int .i64 0)) (.mx (.cst (.int .i64 0)) (.ar .sub .i64 (.ln (.var (.slice) 1)) (.var (.int .i64) 2))))
(.need (.cm .leq (.mx (.cst (.int .i64 0)) (.ar .sub .i64 (.ln (.var (.slice) 1)) (.var (.int .i64) 2))) (.ln (.var (.slice) 1)))
(.loop [.int .i64] [(.cst (.int .i64 0))]
 (.lift (.br (.cm .lss (.var (.int .i64) 3) (.ln (.sub 1 (.var (.slice) 1) (.mx (.cst (.int .i64 0)) (.ar .sub .i64 (.ln (.var (.slice) 1)) (.var (.int .i64) 2))) .nl .nl)))
  (.need (.nt (.nn (.sub 1 (.var (.slice) 1) (.mx (.cst (.int .i64 0)) (.ar .sub .i64 (.ln (.var (.slice) 1)) (.var (.int .i64) 2))) .nl .nl)))
  (.need (.cm .leq (.cst (.int .i64 0)) (.var (.int .i64) 3))
  (.need (.cm .lss (.var (.int .i64) 3) (.ln (.sub 1 (.var (.slice) 1) (.mx (.cst (.int .i64 0)) (.ar .sub .i64 (.ln (.var (.slice) 1)) (.var (.int .i64) 2))) .nl .nl)))
  (.load (.ix 1 (.sub 1 (.var (.slice) 1) (.mx (.cst (.int .i64 0)) (.ar .sub .i64 (.ln (.var (.slice) 1)) (.var (.int .i64) 2))) .nl .nl) (.var (.int .i64) 3)) [.int .u8]
  (.need (.nt (.nn (.var (.ptr) 0)))
  (.load (.fld (.nz (.var (.ptr) 0)) 32769) [.int .i64]
  (.need (.nt (.nn (.var (.ptr) 0)))
  (.need (.cm .leq (.cst (.int .i64 0)) (.var (.int .i64) 5))
  (.need (.cm .lss (.var (.int .i64) 5) (.cst (.int .i64 32768)))
  (.hsto (.ia 1 (.fld (.nz (.var (.ptr) 0)) 1) (.var (.int .i64) 5)) [(.var (.int .u8) 4)]
  (.need (.nt (.nn (.var (.ptr) 0)))
  (.load (.fld (.nz (.var (.ptr) 0)) 32769) [.int .i64]
  (.need (.nt (.nn (.var (.ptr) 0)))
  (.load (.fld (.nz (.var (.ptr) 0)) 0) [.int .i64]
  (.need (.cm .neq (.var (.int .i64) 7) (.cst (.int .i64 0)))
  (.need (.nt (.nn (.var (.ptr) 0)))
  (.hsto (.fld (.nz (.var (.ptr) 0)) 32769) [(.ar .rem .i64 (.ar .add .i64 (.var (.int .i64) 6) (.cst (.int .i64 1))) (.var (.int .i64) 7))]
  (.need (.nt (.nn (.var (.ptr) 0)))
  (.load (.fld (.nz (.var (.ptr) 0)) 32770) [.int .i64]
  (.need (.nt (.nn (.var (.ptr) 0)))
  (.load (.fld (.nz (.var (.ptr) 0)) 0) [.int .i64]
  (.need (.nt (.nn (.var (.ptr) 0)))
  (.hsto (.fld (.nz (.var (.ptr) 0)) 32770) [(.mn (.ar .add .i64 (.var (.int .i64) 8) (.cst (.int .i64 1))) (.var (.int .i64) 9))]
  (.cont 0 [(.ar .add .i64 (.var (.int .i64) 3) (.cst (.int .i64 1)))]))))))))))))))))))))))))
  (.ret (.tup [])))))))))
set_option maxRecDepth 100000 in
theorem s_impl_ring__put : sxF c_impl_ring__put Tryd.f28 p_impl_ring__put = some t_impl_ring__put := by kernel_rfl
theorem e_impl_ring__put (xs : Array Value) (w : World) : (callFunc F_impl_ring__put xs).runT Tryd.prog w #[] = (.ok (.enter F_impl_ring__put xs) w, #[]) := ent_of Tryd.func28 (by kernel_rfl) (by kernel_rfl) xs w
theorem run_impl_ring__put {S : Shared} {h : Eng.Heap} {Q : Value → Eng.Heap → Prop} {vs : List Value} (hsh : shOk (resShs p_impl_ring__put) vs) (hi : Inv S h) (hw : t_impl_ring__put.wp Tryd.prog S noLeaf Q vs h []) : CallsH Tryd.prog S F_impl_ring__put (argVals p_impl_ring__put vs) h Q :=
  sxF_ok (cfg := c_impl_ring__put) tabWNOk mixedWN Tryd.func28 rfl s_impl_ring__put e_impl_ring__put rfl hsh hi hw
end Go.Proofs.YteaonnfokkfnlaaDoor
