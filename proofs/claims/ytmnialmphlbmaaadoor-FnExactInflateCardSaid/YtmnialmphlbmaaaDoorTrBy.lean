-- printed by a generator of my own (wip/eng/Gen) from the translation
import Derived.Test.YtmnialmphlbmaaaDoorEng2
import Derived.Test.YtmnialmphlbmaaaDoorChecked
import Derived.Test.YtmnialmphlbmaaaDoorNums
set_option linter.unusedVariables false
set_option linter.unusedSimpArgs false
namespace Go.Proofs.YtmnialmphlbmaaaDoor
open Go Go.Eng
def tabBy : List (TypeId × TyD) := [(0, ⟨.oth, 1, 0, [], none, some []⟩),
  (3, ⟨(.int .i64), 1, 8, [.int .i64], some [(1, (.int .i64 0))], none⟩),
  (4, ⟨.bool, 1, 1, [.bool], some [(1, (.bool false))], none⟩),
  (5, ⟨(.int .u8), 1, 1, [.int .u8], some [(1, (.int .u8 0))], none⟩),
  (22, ⟨(.sl 5), 1, 24, [.slice], some [(1, .nilSl)], none⟩)]
set_option maxRecDepth 100000 in
theorem tabByOk : TabOk Tryd.prog tabBy := tabOk_of (by kernel_rfl)
theorem mixedBy : Tryd.prog.follows .mixedOrders = true := by kernel_rfl
/- function 17 -/
def c_laws_toByteS : Cfg := ⟨tabBy, [⟨3, [4], [], [8, 9, 10, 11, 12, 13, 14, 15, 16, 17, 18, 19, 20]⟩], [], [.tmp 2]⟩
def p_laws_toByteS : List (Bool × List Sh) := [(false, [.slice])]
set_option maxRecDepth 100000 in
def t_laws_toByteS : Tr :=
(.mks 5 1 1 [(.int .u8 0)] (.ln (.var (.slice) 0)) (.ln (.var (.slice) 0))
(.loop [.int .i64] [(.cst (.int .i64 0))]
 (.lift (.br (.cm .lss (.var (.int .i64) 2) (.ln (.var (.slice) 0)))
  (.need (.nt (.nn (.var (.slice) 0)))
  (.need (.cm .leq (.cst (.int .i64 0)) (.var (.int .i64) 2))
  (.need (.cm .lss (.var (.int .i64) 2) (.ln (.var (.slice) 0)))
  (.load (.ix 1 (.var (.slice) 0) (.var (.int .i64) 2)) [.int .u8]
  (.need (.nt (.nn (.var (.slice) 1)))
  (.need (.cm .leq (.cst (.int .i64 0)) (.var (.int .i64) 2))
  (.need (.cm .lss (.var (.int .i64) 2) (.ln (.var (.slice) 1)))
  (.hsto (.ix 1 (.var (.slice) 1) (.var (.int .i64) 2)) [(.var (.int .u8) 3)]
  (.cont 0 [(.ar .add .i64 (.var (.int .i64) 2) (.cst (.int .i64 1)))])))))))))
  (.ret (.x (.var (.slice) 1)))))))
set_option maxRecDepth 100000 in
theorem s_laws_toByteS : sxF c_laws_toByteS Tryd.f17 p_laws_toByteS = some t_laws_toByteS := by kernel_rfl
theorem e_laws_toByteS (xs : Array Value) (w : World) : (callFunc F_laws_toByteS xs).runT Tryd.prog w #[] = (.ok (.enter F_laws_toByteS xs) w, #[]) := ent_of Tryd.func17 (by kernel_rfl) (by kernel_rfl) xs w
theorem run_laws_toByteS {S : Shared} {h : Eng.Heap} {Q : Value → Eng.Heap → Prop} {vs : List Value} (hsh : shOk (resShs p_laws_toByteS) vs) (hi : Inv S h) (hw : t_laws_toByteS.wp Tryd.prog S noLeaf Q vs h []) : CallsH Tryd.prog S F_laws_toByteS (argVals p_laws_toByteS vs) h Q :=
  sxF_ok (cfg := c_laws_toByteS) tabByOk mixedBy Tryd.func17 rfl s_laws_toByteS e_laws_toByteS rfl hsh hi hw
/- function 20 -/
def c_laws_eqByteS : Cfg := ⟨tabBy, [⟨4, [5], [], [11, 12, 13, 14, 15, 16, 17, 18, 19, 20, 21, 22, 23, 24, 25]⟩], [], [.tmp 4]⟩
def p_laws_eqByteS : List (Bool × List Sh) := [(false, [.slice]), (false, [.slice])]
set_option maxRecDepth 100000 in
def t_laws_eqByteS : Tr :=
(.lift (.br (.cm .neq (.ln (.var (.slice) 0)) (.ln (.var (.slice) 1)))
 (.ret (.x (.cst (.bool false))))
 (.loop [.int .i64] [(.cst (.int .i64 0))]
  (.lift (.br (.cm .lss (.var (.int .i64) 2) (.ln (.var (.slice) 0)))
   (.need (.nt (.nn (.var (.slice) 0)))
   (.need (.cm .leq (.cst (.int .i64 0)) (.var (.int .i64) 2))
   (.need (.cm .lss (.var (.int .i64) 2) (.ln (.var (.slice) 0)))
   (.load (.ix 1 (.var (.slice) 0) (.var (.int .i64) 2)) [.int .u8]
   (.need (.nt (.nn (.var (.slice) 1)))
   (.need (.cm .leq (.cst (.int .i64 0)) (.var (.int .i64) 2))
   (.need (.cm .lss (.var (.int .i64) 2) (.ln (.var (.slice) 1)))
   (.load (.ix 1 (.var (.slice) 1) (.var (.int .i64) 2)) [.int .u8]
   (.lift (.br (.cm .neq (.var (.int .u8) 3) (.var (.int .u8) 4))
    (.ret (.x (.cst (.bool false))))
    (.cont 1 [(.ar .add .i64 (.var (.int .i64) 2) (.cst (.int .i64 1)))])))))))))))
   (.ret (.x (.cst (.bool true)))))))))
set_option maxRecDepth 100000 in
theorem s_laws_eqByteS : sxF c_laws_eqByteS Tryd.f20 p_laws_eqByteS = some t_laws_eqByteS := by kernel_rfl
theorem e_laws_eqByteS (xs : Array Value) (w : World) : (callFunc F_laws_eqByteS xs).runT Tryd.prog w #[] = (.ok (.enter F_laws_eqByteS xs) w, #[]) := ent_of Tryd.func20 (by kernel_rfl) (by kernel_rfl) xs w
theorem run_laws_eqByteS {S : Shared} {h : Eng.Heap} {Q : Value → Eng.Heap → Prop} {vs : List Value} (hsh : shOk (resShs p_laws_eqByteS) vs) (hi : Inv S h) (hw : t_laws_eqByteS.wp Tryd.prog S noLeaf Q vs h []) : CallsH Tryd.prog S F_laws_eqByteS (argVals p_laws_eqByteS vs) h Q :=
  sxF_ok (cfg := c_laws_eqByteS) tabByOk mixedBy Tryd.func20 rfl s_laws_eqByteS e_laws_eqByteS rfl hsh hi hw
/- function 21 -/
def c_laws_markByteS : Cfg := ⟨tabBy, [⟨2, [1, 5], [], [6, 7, 8, 9, 10, 11, 12, 13, 14, 15, 16, 17, 18]⟩], [], [.tmp 4]⟩
def p_laws_markByteS : List (Bool × List Sh) := [(false, [.slice]), (false, [.int .i64])]
set_option maxRecDepth 100000 in
def t_laws_markByteS : Tr :=
(.loop [.int .i64, .int .i64] [(.var (.int .i64) 1), (.cst (.int .i64 0))]
 (.lift (.br (.cm .lss (.var (.int .i64) 3) (.ln (.var (.slice) 0)))
  (.need (.nt (.nn (.var (.slice) 0)))
  (.need (.cm .leq (.cst (.int .i64 0)) (.var (.int .i64) 3))
  (.need (.cm .lss (.var (.int .i64) 3) (.ln (.var (.slice) 0)))
  (.hsto (.ix 1 (.var (.slice) 0) (.var (.int .i64) 3)) [(.cv .u8 (.var (.int .i64) 2))]
  (.cont 0 [(.ar .add .i64 (.var (.int .i64) 2) (.cst (.int .i64 1))), (.ar .add .i64 (.var (.int .i64) 3) (.cst (.int .i64 1)))])))))
  (.ret (.x (.var (.int .i64) 2))))))
set_option maxRecDepth 100000 in
theorem s_laws_markByteS : sxF c_laws_markByteS Tryd.f21 p_laws_markByteS = some t_laws_markByteS := by kernel_rfl
theorem e_laws_markByteS (xs : Array Value) (w : World) : (callFunc F_laws_markByteS xs).runT Tryd.prog w #[] = (.ok (.enter F_laws_markByteS xs) w, #[]) := ent_of Tryd.func21 (by kernel_rfl) (by kernel_rfl) xs w
theorem run_laws_markByteS {S : Shared} {h : Eng.Heap} {Q : Value → Eng.Heap → Prop} {vs : List Value} (hsh : shOk (resShs p_laws_markByteS) vs) (hi : Inv S h) (hw : t_laws_markByteS.wp Tryd.prog S noLeaf Q vs h []) : CallsH Tryd.prog S F_laws_markByteS (argVals p_laws_markByteS vs) h Q :=
  sxF_ok (cfg := c_laws_markByteS) tabByOk mixedBy Tryd.func21 rfl s_laws_markByteS e_laws_markByteS rfl hsh hi hw
/- function 49 -/
def c_laws_heldByteS : Cfg := ⟨tabBy, [⟨2, [1, 5], [], [6, 7, 8, 9, 10, 11, 12, 13, 14, 15, 16, 17, 18, 19, 20]⟩], [], [.tmp 4]⟩
def p_laws_heldByteS : List (Bool × List Sh) := [(false, [.slice]), (false, [.int .i64])]
set_option maxRecDepth 100000 in
def t_laws_heldByteS : Tr :=
(.loop [.int .i64, .int .i64] [(.var (.int .i64) 1), (.cst (.int .i64 0))]
 (.lift (.br (.cm .lss (.var (.int .i64) 3) (.ln (.var (.slice) 0)))
  (.need (.nt (.nn (.var (.slice) 0)))
  (.need (.cm .leq (.cst (.int .i64 0)) (.var (.int .i64) 3))
  (.need (.cm .lss (.var (.int .i64) 3) (.ln (.var (.slice) 0)))
  (.load (.ix 1 (.var (.slice) 0) (.var (.int .i64) 3)) [.int .u8]
  (.lift (.br (.cm .neq (.var (.int .u8) 4) (.cv .u8 (.var (.int .i64) 2)))
   (.ret (.x (.cst (.int .i64 (-1)))))
   (.cont 0 [(.ar .add .i64 (.var (.int .i64) 2) (.cst (.int .i64 1))), (.ar .add .i64 (.var (.int .i64) 3) (.cst (.int .i64 1)))])))))))
  (.ret (.x (.var (.int .i64) 2))))))
set_option maxRecDepth 100000 in
theorem s_laws_heldByteS : sxF c_laws_heldByteS Tryd.f49 p_laws_heldByteS = some t_laws_heldByteS := by kernel_rfl
theorem e_laws_heldByteS (xs : Array Value) (w : World) : (callFunc F_laws_heldByteS xs).runT Tryd.prog w #[] = (.ok (.enter F_laws_heldByteS xs) w, #[]) := ent_of Tryd.func49 (by kernel_rfl) (by kernel_rfl) xs w
theorem run_laws_heldByteS {S : Shared} {h : Eng.Heap} {Q : Value → Eng.Heap → Prop} {vs : List Value} (hsh : shOk (resShs p_laws_heldByteS) vs) (hi : Inv S h) (hw : t_laws_heldByteS.wp Tryd.prog S noLeaf Q vs h []) : CallsH Tryd.prog S F_laws_heldByteS (argVals p_laws_heldByteS vs) h Q :=
  sxF_ok (cfg := c_laws_heldByteS) tabByOk mixedBy Tryd.func49 rfl s_laws_heldByteS e_laws_heldByteS rfl hsh hi hw
end Go.Proofs.YtmnialmphlbmaaaDoor
