-- printed by a generator of my own (wip/eng/Gen) from the translation
import Derived.Test.YtmnialmphlbmaaaEng2
import Derived.Test.YtmnialmphlbmaaaChecked
import Derived.Test.YtmnialmphlbmaaaNums
set_option linter.unusedVariables false
set_option linter.unusedSimpArgs false
namespace Go.Proofs.Ytmnialmphlbmaaa
open Go Go.Eng
def tabAt : List (TypeId × TyD) := [(0, ⟨.oth, 1, 0, [], none, some []⟩),
  (2, ⟨(.int .i64), 1, 8, [.int .i64], some [(1, (.int .i64 0))], none⟩),
  (3, ⟨(.int .i64), 1, 8, [.int .i64], some [(1, (.int .i64 0))], none⟩),
  (4, ⟨.bool, 1, 1, [.bool], some [(1, (.bool false))], none⟩),
  (5, ⟨(.int .u8), 1, 1, [.int .u8], some [(1, (.int .u8 0))], none⟩),
  (23, ⟨(.sl 5), 1, 24, [.slice], some [(1, .nilSl)], none⟩)]
set_option maxRecDepth 100000 in
theorem tabAtOk : TabOk Try.prog tabAt := tabOk_of (by kernel_rfl)
theorem mixedAt : Try.prog.follows .mixedOrders = true := by kernel_rfl
/- function 15 -/
def c_laws_lwAt : Cfg := ⟨tabAt, [], [], [.tmp 4]⟩
def p_laws_lwAt : List (Bool × List Sh) := [(false, [.slice]), (false, [.int .i64])]
set_option maxRecDepth 100000 in
def t_laws_lwAt : Tr :=
(.lift (.br (.cm .lss (.var (.int .i64) 1) (.ln (.var (.slice) 0)))
 (.need (.nt (.nn (.var (.slice) 0)))
 (.need (.cm .leq (.cst (.int .i64 0)) (.var (.int .i64) 1))
 (.need (.cm .lss (.var (.int .i64) 1) (.ln (.var (.slice) 0)))
 (.load (.ix 1 (.var (.slice) 0) (.var (.int .i64) 1)) [.int .u8]
 (.ret (.x (.cv .i64 (.var (.int .u8) 2))))))))
 (.ret (.x (.ar .rem .i64 (.ar .add .i64 (.ar .mul .i64 (.var (.int .i64) 1) (.cst (.int .i64 47))) (.cst (.int .i64 13))) (.cst (.int .i64 256)))))))
set_option maxRecDepth 100000 in
theorem s_laws_lwAt : sxF c_laws_lwAt Try.f15 p_laws_lwAt = some t_laws_lwAt := by kernel_rfl
theorem e_laws_lwAt (xs : Array Value) (w : World) : (callFunc F_laws_lwAt xs).runT Try.prog w #[] = (.ok (.enter F_laws_lwAt xs) w, #[]) := ent_of Try.func15 (by kernel_rfl) (by kernel_rfl) xs w
theorem run_laws_lwAt {S : Shared} {h : Eng.Heap} {Q : Value → Eng.Heap → Prop} {vs : List Value} (hsh : shOk (resShs p_laws_lwAt) vs) (hi : Inv S h) (hw : t_laws_lwAt.wp Try.prog S noLeaf Q vs h []) : CallsH Try.prog S F_laws_lwAt (argVals p_laws_lwAt vs) h Q :=
  sxF_ok (cfg := c_laws_lwAt) tabAtOk mixedAt Try.func15 rfl s_laws_lwAt e_laws_lwAt rfl hsh hi hw
end Go.Proofs.Ytmnialmphlbmaaa
