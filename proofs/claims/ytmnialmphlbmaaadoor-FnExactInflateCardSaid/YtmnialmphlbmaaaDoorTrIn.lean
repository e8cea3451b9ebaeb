-- printed by a generator of my own (wip/eng/Gen) from the translation
import Derived.Test.YtmnialmphlbmaaaDoorEng2
import Derived.Test.YtmnialmphlbmaaaDoorChecked
import Derived.Test.YtmnialmphlbmaaaDoorNums
set_option linter.unusedVariables false
set_option linter.unusedSimpArgs false
namespace Go.Proofs.YtmnialmphlbmaaaDoor
open Go Go.Eng
def tabIn : List (TypeId × TyD) := [(0, ⟨.oth, 1, 0, [], none, some []⟩),
  (2, ⟨(.int .i64), 1, 8, [.int .i64], some [(1, (.int .i64 0))], none⟩),
  (3, ⟨(.int .i64), 1, 8, [.int .i64], some [(1, (.int .i64 0))], none⟩),
  (4, ⟨.bool, 1, 1, [.bool], some [(1, (.bool false))], none⟩),
  (30, ⟨(.sl 2), 1, 24, [.slice], some [(1, .nilSl)], none⟩)]
set_option maxRecDepth 100000 in
theorem tabInOk : TabOk Tryd.prog tabIn := tabOk_of (by kernel_rfl)
theorem mixedIn : Tryd.prog.follows .mixedOrders = true := by kernel_rfl
/- function 43 -/
def c_laws_eqInt64S : Cfg := ⟨tabIn, [⟨4, [5], [], [11, 12, 13, 14, 15, 16, 17, 18, 19, 20, 21, 22, 23, 24, 25]⟩], [], [.tmp 4]⟩
def p_laws_eqInt64S : List (Bool × List Sh) := [(false, [.slice]), (false, [.slice])]
set_option maxRecDepth 100000 in
def t_laws_eqInt64S : Tr :=
(.lift (.br (.cm .neq (.ln (.var (.slice) 0)) (.ln (.var (.slice) 1)))
 (.ret (.x (.cst (.bool false))))
 (.loop [.int .i64] [(.cst (.int .i64 0))]
  (.lift (.br (.cm .lss (.var (.int .i64) 2) (.ln (.var (.slice) 0)))
   (.need (.nt (.nn (.var (.slice) 0)))
   (.need (.cm .leq (.cst (.int .i64 0)) (.var (.int .i64) 2))
   (.need (.cm .lss (.var (.int .i64) 2) (.ln (.var (.slice) 0)))
   (.load (.ix 1 (.var (.slice) 0) (.var (.int .i64) 2)) [.int .i64]
   (.need (.nt (.nn (.var (.slice) 1)))
   (.need (.cm .leq (.cst (.int .i64 0)) (.var (.int .i64) 2))
   (.need (.cm .lss (.var (.int .i64) 2) (.ln (.var (.slice) 1)))
   (.load (.ix 1 (.var (.slice) 1) (.var (.int .i64) 2)) [.int .i64]
   (.lift (.br (.cm .neq (.var (.int .i64) 3) (.var (.int .i64) 4))
    (.ret (.x (.cst (.bool false))))
    (.cont 1 [(.ar .add .i64 (.var (.int .i64) 2) (.cst (.int .i64 1)))])))))))))))
   (.ret (.x (.cst (.bool true)))))))))
set_option maxRecDepth 100000 in
theorem s_laws_eqInt64S : sxF c_laws_eqInt64S Tryd.f43 p_laws_eqInt64S = some t_laws_eqInt64S := by kernel_rfl
theorem e_laws_eqInt64S (xs : Array Value) (w : World) : (callFunc F_laws_eqInt64S xs).runT Tryd.prog w #[] = (.ok (.enter F_laws_eqInt64S xs) w, #[]) := ent_of Tryd.func43 (by kernel_rfl) (by kernel_rfl) xs w
theorem run_laws_eqInt64S {S : Shared} {h : Eng.Heap} {Q : Value → Eng.Heap → Prop} {vs : List Value} (hsh : shOk (resShs p_laws_eqInt64S) vs) (hi : Inv S h) (hw : t_laws_eqInt64S.wp Tryd.prog S noLeaf Q vs h []) : CallsH Tryd.prog S F_laws_eqInt64S (argVals p_laws_eqInt64S vs) h Q :=
  sxF_ok (cfg := c_laws_eqInt64S) tabInOk mixedIn Tryd.func43 rfl s_laws_eqInt64S e_laws_eqInt64S rfl hsh hi hw
/- function 44 -/
def c_laws_markInt64S : Cfg := ⟨tabIn, [⟨2, [1, 5], [], [6, 7, 8, 9, 10, 11, 12, 13, 14, 15, 16, 17]⟩], [], [.tmp 4]⟩
def p_laws_markInt64S : List (Bool × List Sh) := [(false, [.slice]), (false, [.int .i64])]
set_option maxRecDepth 100000 in
def t_laws_markInt64S : Tr :=
(.loop [.int .i64, .int .i64] [(.var (.int .i64) 1), (.cst (.int .i64 0))]
 (.lift (.br (.cm .lss (.var (.int .i64) 3) (.ln (.var (.slice) 0)))
  (.need (.nt (.nn (.var (.slice) 0)))
  (.need (.cm .leq (.cst (.int .i64 0)) (.var (.int .i64) 3))
  (.need (.cm .lss (.var (.int .i64) 3) (.ln (.var (.slice) 0)))
  (.hsto (.ix 1 (.var (.slice) 0) (.var (.int .i64) 3)) [(.var (.int .i64) 2)]
  (.cont 0 [(.ar .add .i64 (.var (.int .i64) 2) (.cst (.int .i64 1))), (.ar .add .i64 (.var (.int .i64) 3) (.cst (.int .i64 1)))])))))
  (.ret (.x (.var (.int .i64) 2))))))
set_option maxRecDepth 100000 in
theorem s_laws_markInt64S : sxF c_laws_markInt64S Tryd.f44 p_laws_markInt64S = some t_laws_markInt64S := by kernel_rfl
theorem e_laws_markInt64S (xs : Array Value) (w : World) : (callFunc F_laws_markInt64S xs).runT Tryd.prog w #[] = (.ok (.enter F_laws_markInt64S xs) w, #[]) := ent_of Tryd.func44 (by kernel_rfl) (by kernel_rfl) xs w
theorem run_laws_markInt64S {S : Shared} {h : Eng.Heap} {Q : Value → Eng.Heap → Prop} {vs : List Value} (hsh : shOk (resShs p_laws_markInt64S) vs) (hi : Inv S h) (hw : t_laws_markInt64S.wp Tryd.prog S noLeaf Q vs h []) : CallsH Tryd.prog S F_laws_markInt64S (argVals p_laws_markInt64S vs) h Q :=
  sxF_ok (cfg := c_laws_markInt64S) tabInOk mixedIn Tryd.func44 rfl s_laws_markInt64S e_laws_markInt64S rfl hsh hi hw
end Go.Proofs.YtmnialmphlbmaaaDoor
