-- printed by a generator of my own (wip/eng/Gen) from the translation
import Derived.Test.YtmnialmphlbmaaaEng2
import Derived.Test.YtmnialmphlbmaaaChecked
import Derived.Test.YtmnialmphlbmaaaNums
set_option linter.unusedVariables false
set_option linter.unusedSimpArgs false
namespace Go.Proofs.Ytmnialmphlbmaaa
open Go Go.Eng
def tabAd : List (TypeId × TyD) := [(0, ⟨.oth, 1, 0, [], none, some []⟩),
  (2, ⟨(.int .i64), 1, 8, [.int .i64], some [(1, (.int .i64 0))], none⟩),
  (3, ⟨(.int .i64), 1, 8, [.int .i64], some [(1, (.int .i64 0))], none⟩),
  (4, ⟨.bool, 1, 1, [.bool], some [(1, (.bool false))], none⟩),
  (5, ⟨(.int .u8), 1, 1, [.int .u8], some [(1, (.int .u8 0))], none⟩),
  (22, ⟨(.int .u32), 1, 4, [.int .u32], some [(1, (.int .u32 0))], none⟩),
  (23, ⟨(.sl 5), 1, 24, [.slice], some [(1, .nilSl)], none⟩),
  (45, ⟨(.sl 22), 1, 24, [.slice], some [(1, .nilSl)], none⟩),
  (46, ⟨(.sl 2), 1, 24, [.slice], some [(1, .nilSl)], none⟩),
  (47, ⟨.oth, 1, 0, [], none, some [45, 46]⟩),
  (49, ⟨.fnk, 1, 8, [.fnv], some [(1, .nilFn)], none⟩)]
set_option maxRecDepth 100000 in
theorem tabAdOk : TabOk Try.prog tabAd := tabOk_of (by kernel_rfl)
theorem mixedAd : Try.prog.follows .mixedOrders = true := by kernel_rfl
/- function 3 -/
def c_laws_FnExactAdlerUpdate : Cfg := ⟨tabAd, [], [], [.tmp 4]⟩
def p_laws_FnExactAdlerUpdate : List (Bool × List Sh) := [(false, [.int .u32]), (false, [.slice])]
set_option maxRecDepth 100000 in
def t_laws_FnExactAdlerUpdate : Tr :=
(.lift (.br (.cm .gtr (.ln (.var (.slice) 1)) (.cst (.int .i64 1048576)))
 (.ret (.x (.cst (.bool true))))
 (.call F_laws_toByteS [(.x (.var (.slice) 1))] false [(false, [.slice])]
 (.call F_spec_AdlerUpdate [(.x (.var (.int .u32) 0)), (.x (.var (.slice) 2))] false [(false, [.int .u32])]
 (.call F_laws_toByteS [(.x (.var (.slice) 1))] false [(false, [.slice])]
 (.call F_impl_AdlerUpdate [(.x (.var (.int .u32) 0)), (.x (.var (.slice) 4))] false [(false, [.int .u32])]
 (.lift (.br (.cm .neq (.var (.int .u32) 5) (.var (.int .u32) 3))
  (.ret (.x (.cst (.bool false))))
  (.call F_laws_toByteS [(.x (.var (.slice) 1))] false [(false, [.slice])]
  (.call F_laws_eqByteS [(.x (.var (.slice) 4)), (.x (.var (.slice) 6))] false [(false, [.bool])]
  (.lift (.br (.nt (.var (.bool) 7))
   (.ret (.x (.cst (.bool false))))
   (.ret (.x (.cst (.bool true))))))))))))))))
set_option maxRecDepth 100000 in
theorem s_laws_FnExactAdlerUpdate : sxF c_laws_FnExactAdlerUpdate Try.f3 p_laws_FnExactAdlerUpdate = some t_laws_FnExactAdlerUpdate := by kernel_rfl
theorem e_laws_FnExactAdlerUpdate (xs : Array Value) (w : World) : (callFunc F_laws_FnExactAdlerUpdate xs).runT Try.prog w #[] = (.ok (.enter F_laws_FnExactAdlerUpdate xs) w, #[]) := ent_of Try.func3 (by kernel_rfl) (by kernel_rfl) xs w
theorem run_laws_FnExactAdlerUpdate {S : Shared} {h : Eng.Heap} {Q : Value → Eng.Heap → Prop} {vs : List Value} (hsh : shOk (resShs p_laws_FnExactAdlerUpdate) vs) (hi : Inv S h) (hw : t_laws_FnExactAdlerUpdate.wp Try.prog S noLeaf Q vs h []) : CallsH Try.prog S F_laws_FnExactAdlerUpdate (argVals p_laws_FnExactAdlerUpdate vs) h Q :=
  sxF_ok (cfg := c_laws_FnExactAdlerUpdate) tabAdOk mixedAd Try.func3 rfl s_laws_FnExactAdlerUpdate e_laws_FnExactAdlerUpdate rfl hsh hi hw
/- function 9 -/
def c_spec_AdlerUpdate : Cfg := ⟨tabAd, [⟨4, [5, 6, 7], [], [14, 15, 16, 17, 18, 19, 20, 21, 22, 23, 24, 25, 26, 27, 28, 29, 30, 31]⟩], [], [.tmp 4]⟩
def p_spec_AdlerUpdate : List (Bool × List Sh) := [(false, [.int .u32]), (false, [.slice])]
set_option maxRecDepth 100000 in
def t_spec_AdlerUpdate : Tr :=
(.loop [.int .u32, .int .u32, .int .i64] [(.ar .rem .u32 (.ar .rem .u32 (.var (.int .u32) 0) (.cst (.int .u32 65536))) (.cst (.int .u32 65521))), (.ar .rem .u32 (.ar .quo .u32 (.var (.int .u32) 0) (.cst (.int .u32 65536))) (.cst (.int .u32 65521))), (.cst (.int .i64 0))]
 (.lift (.br (.cm .lss (.var (.int .i64) 4) (.ln (.var (.slice) 1)))
  (.need (.nt (.nn (.var (.slice) 1)))
  (.need (.cm .leq (.cst (.int .i64 0)) (.var (.int .i64) 4))
  (.need (.cm .lss (.var (.int .i64) 4) (.ln (.var (.slice) 1)))
  (.load (.ix 1 (.var (.slice) 1) (.var (.int .i64) 4)) [.int .u8]
  (.cont 0 [(.ar .rem .u32 (.ar .add .u32 (.var (.int .u32) 2) (.cv .u32 (.var (.int .u8) 5))) (.cst (.int .u32 65521))), (.ar .rem .u32 (.ar .add .u32 (.var (.int .u32) 3) (.ar .rem .u32 (.ar .add .u32 (.var (.int .u32) 2) (.cv .u32 (.var (.int .u8) 5))) (.cst (.int .u32 65521)))) (.cst (.int .u32 65521))), (.ar .add .i64 (.var (.int .i64) 4) (.cst (.int .i64 1)))])))))
  (.ret (.x (.ar .add .u32 (.ar .mul .u32 (.var (.int .u32) 3) (.cst (.int .u32 65536))) (.var (.int .u32) 2)))))))
set_option maxRecDepth 100000 in
theorem s_spec_AdlerUpdate : sxF c_spec_AdlerUpdate Try.f9 p_spec_AdlerUpdate = some t_spec_AdlerUpdate := by kernel_rfl
theorem e_spec_AdlerUpdate (xs : Array Value) (w : World) : (callFunc F_spec_AdlerUpdate xs).runT Try.prog w #[] = (.ok (.enter F_spec_AdlerUpdate xs) w, #[]) := ent_of Try.func9 (by kernel_rfl) (by kernel_rfl) xs w
theorem run_spec_AdlerUpdate {S : Shared} {h : Eng.Heap} {Q : Value → Eng.Heap → Prop} {vs : List Value} (hsh : shOk (resShs p_spec_AdlerUpdate) vs) (hi : Inv S h) (hw : t_spec_AdlerUpdate.wp Try.prog S noLeaf Q vs h []) : CallsH Try.prog S F_spec_AdlerUpdate (argVals p_spec_AdlerUpdate vs) h Q :=
  sxF_ok (cfg := c_spec_AdlerUpdate) tabAdOk mixedAd Try.func9 rfl s_spec_AdlerUpdate e_spec_AdlerUpdate rfl hsh hi hw
/- function 11 -/
def c_impl_AdlerUpdate : Cfg := ⟨tabAd, [⟨6, [0, 24], [], [7, 8, 25, 26, 27, 28, 29, 30, 31, 32, 33, 34, 35, 36]⟩], [], [.tmp 4]⟩
def p_impl_AdlerUpdate : List (Bool × List Sh) := [(false, [.int .u32]), (false, [.slice])]
set_option maxRecDepth 100000 in
def t_impl_AdlerUpdate : Tr :=
(.lift (.br (.cm .leq (.ln (.var (.slice) 1)) (.cst (.int .i64 32768)))
 (.call F_impl_adler [(.x (.var (.int .u32) 0)), (.x (.var (.slice) 1))] false [(false, [.int .u32])]
 (.ret (.x (.var (.int .u32) 2))))
 (.call F_impl_adler [(.x (.var (.int .u32) 0)), (.x (.cst .nilSl))] false [(false, [.int .u32])]
 (.call F_impl_inParts [(.x (.var (.slice) 1)), (.x (.fn 31 .nl .nl))] true [(false, [.slice]), (false, [.slice])]
 (.loop [.int .u32, .int .i64] [(.var (.int .u32) 2), (.cst (.int .i64 0))]
  (.lift (.br (.cm .lss (.var (.int .i64) 6) (.ln (.var (.slice) 3)))
   (.need (.nt (.nn (.var (.slice) 3)))
   (.need (.cm .leq (.cst (.int .i64 0)) (.var (.int .i64) 6))
   (.need (.cm .lss (.var (.int .i64) 6) (.ln (.var (.slice) 3)))
   (.load (.ix 1 (.var (.slice) 3) (.var (.int .i64) 6)) [.int .u32]
   (.need (.nt (.nn (.var (.slice) 4)))
   (.need (.cm .leq (.cst (.int .i64 0)) (.var (.int .i64) 6))
   (.need (.cm .lss (.var (.int .i64) 6) (.ln (.var (.slice) 4)))
   (.load (.ix 1 (.var (.slice) 4) (.var (.int .i64) 6)) [.int .i64]
   (.call F_impl_AdlerJoin [(.x (.var (.int .u32) 5)), (.x (.var (.int .u32) 7)), (.x (.var (.int .i64) 8))] false [(false, [.int .u32])]
   (.cont 1 [(.var (.int .u32) 9), (.ar .add .i64 (.var (.int .i64) 6) (.cst (.int .i64 1)))]))))))))))
   (.ret (.x (.var (.int .u32) 5))))))))))
set_option maxRecDepth 100000 in
theorem s_impl_AdlerUpdate : sxF c_impl_AdlerUpdate Try.f11 p_impl_AdlerUpdate = some t_impl_AdlerUpdate := by kernel_rfl
theorem e_impl_AdlerUpdate (xs : Array Value) (w : World) : (callFunc F_impl_AdlerUpdate xs).runT Try.prog w #[] = (.ok (.enter F_impl_AdlerUpdate xs) w, #[]) := ent_of Try.func11 (by kernel_rfl) (by kernel_rfl) xs w
theorem run_impl_AdlerUpdate {S : Shared} {h : Eng.Heap} {Q : Value → Eng.Heap → Prop} {vs : List Value} (hsh : shOk (resShs p_impl_AdlerUpdate) vs) (hi : Inv S h) (hw : t_impl_AdlerUpdate.wp Try.prog S noLeaf Q vs h []) : CallsH Try.prog S F_impl_AdlerUpdate (argVals p_impl_AdlerUpdate vs) h Q :=
  sxF_ok (cfg := c_impl_AdlerUpdate) tabAdOk mixedAd Try.func11 rfl s_impl_AdlerUpdate e_impl_AdlerUpdate rfl hsh hi hw
/- function 16 -/
def c_impl_AdlerJoin : Cfg := ⟨tabAd, [], [], [.tmp 6]⟩
def p_impl_AdlerJoin : List (Bool × List Sh) := [(false, [.int .u32]), (false, [.int .u32]), (false, [.int .i64])]
set_option maxRecDepth 100000 in
def t_impl_AdlerJoin : Tr :=
(.lift (.br (.it (.cm .lss (.var (.int .i64) 2) (.cst (.int .i64 0))) (.cst (.bool true)) (.cm .gtr (.var (.int .i64) 2) (.cst (.int .i64 1000000))))
 (.ret (.x (.cst (.int .u32 0))))
 (.ret (.x (.cv .u32 (.ar .add .i64 (.ar .mul .i64 (.ar .rem .i64 (.ar .add .i64 (.ar .rem .i64 (.ar .add .i64 (.ar .add .i64 (.cv .i64 (.ar .rem .u32 (.ar .quo .u32 (.var (.int .u32) 0) (.cst (.int .u32 65536))) (.cst (.int .u32 65521)))) (.cv .i64 (.ar .rem .u32 (.ar .quo .u32 (.var (.int .u32) 1) (.cst (.int .u32 65536))) (.cst (.int .u32 65521))))) (.ar .mul .i64 (.var (.int .i64) 2) (.ar .sub .i64 (.cv .i64 (.ar .rem .u32 (.ar .rem .u32 (.var (.int .u32) 0) (.cst (.int .u32 65536))) (.cst (.int .u32 65521)))) (.cst (.int .i64 1))))) (.cst (.int .i64 65521))) (.cst (.int .i64 65521))) (.cst (.int .i64 65521))) (.cst (.int .i64 65536))) (.ar .rem .i64 (.ar .add .i64 (.ar .sub .i64 (.ar .add .i64 (.cv .i64 (.ar .rem .u32 (.ar .rem .u32 (.var (.int .u32) 0) (.cst (.int .u32 65536))) (.cst (.int .u32 65521)))) (.cv .i64 (.ar .rem .u32 (.ar .rem .u32 (.var (.int .u32) 1) (.cst (.int .u32 65536))) (.cst (.int .u32 65521))))) (.cst (.int .i64 1))) (.cst (.int .i64 65521))) (.cst (.int .i64 65521)))))))))
set_option maxRecDepth 100000 in
theorem s_impl_AdlerJoin : sxF c_impl_AdlerJoin Try.f16 p_impl_AdlerJoin = some t_impl_AdlerJoin := by kernel_rfl
theorem e_impl_AdlerJoin (xs : Array Value) (w : World) : (callFunc F_impl_AdlerJoin xs).runT Try.prog w #[] = (.ok (.enter F_impl_AdlerJoin xs) w, #[]) := ent_of Try.func16 (by kernel_rfl) (by kernel_rfl) xs w
theorem run_impl_AdlerJoin {S : Shared} {h : Eng.Heap} {Q : Value → Eng.Heap → Prop} {vs : List Value} (hsh : shOk (resShs p_impl_AdlerJoin) vs) (hi : Inv S h) (hw : t_impl_AdlerJoin.wp Try.prog S noLeaf Q vs h []) : CallsH Try.prog S F_impl_AdlerJoin (argVals p_impl_AdlerJoin vs) h Q :=
  sxF_ok (cfg := c_impl_AdlerJoin) tabAdOk mixedAd Try.func16 rfl s_impl_AdlerJoin e_impl_AdlerJoin rfl hsh hi hw
/- function 29 -/
def c_impl_adler : Cfg := ⟨tabAd, [⟨3, [5, 6, 17], [], [8, 18, 19, 20, 21, 22, 23, 24, 25, 26, 27, 28, 29, 30]⟩], [], [.tmp 4]⟩
def p_impl_adler : List (Bool × List Sh) := [(false, [.int .u32]), (false, [.slice])]
set_option maxRecDepth 100000 in
def t_impl_adler : Tr :=
(.loop [.int .u32, .int .u32, .int .i64] [(.ar .rem .u32 (.ar .rem .u32 (.var (.int .u32) 0) (.cst (.int .u32 65536))) (.cst (.int .u32 65521))), (.ar .rem .u32 (.ar .quo .u32 (.var (.int .u32) 0) (.cst (.int .u32 65536))) (.cst (.int .u32 65521))), (.cst (.int .i64 0))]
 (.lift (.br (.cm .lss (.var (.int .i64) 4) (.ln (.var (.slice) 1)))
  (.need (.nt (.nn (.var (.slice) 1)))
  (.need (.cm .leq (.cst (.int .i64 0)) (.var (.int .i64) 4))
  (.need (.cm .lss (.var (.int .i64) 4) (.ln (.var (.slice) 1)))
  (.load (.ix 1 (.var (.slice) 1) (.var (.int .i64) 4)) [.int .u8]
  (.cont 0 [(.ar .rem .u32 (.ar .add .u32 (.var (.int .u32) 2) (.cv .u32 (.var (.int .u8) 5))) (.cst (.int .u32 65521))), (.ar .rem .u32 (.ar .add .u32 (.var (.int .u32) 3) (.ar .rem .u32 (.ar .add .u32 (.var (.int .u32) 2) (.cv .u32 (.var (.int .u8) 5))) (.cst (.int .u32 65521)))) (.cst (.int .u32 65521))), (.ar .add .i64 (.var (.int .i64) 4) (.cst (.int .i64 1)))])))))
  (.ret (.x (.ar .add .u32 (.ar .mul .u32 (.var (.int .u32) 3) (.cst (.int .u32 65536))) (.var (.int .u32) 2)))))))
set_option maxRecDepth 100000 in
theorem s_impl_adler : sxF c_impl_adler Try.f29 p_impl_adler = some t_impl_adler := by kernel_rfl
theorem e_impl_adler (xs : Array Value) (w : World) : (callFunc F_impl_adler xs).runT Try.prog w #[] = (.ok (.enter F_impl_adler xs) w, #[]) := ent_of Try.func29 (by kernel_rfl) (by kernel_rfl) xs w
theorem run_impl_adler {S : Shared} {h : Eng.Heap} {Q : Value → Eng.Heap → Prop} {vs : List Value} (hsh : shOk (resShs p_impl_adler) vs) (hi : Inv S h) (hw : t_impl_adler.wp Try.prog S noLeaf Q vs h []) : CallsH Try.prog S F_impl_adler (argVals p_impl_adler vs) h Q :=
  sxF_ok (cfg := c_impl_adler) tabAdOk mixedAd Try.func29 rfl s_impl_adler e_impl_adler rfl hsh hi hw
/- function 31 -/
def c_impl_AdlerUpdate_1 : Cfg := ⟨tabAd, [], [], [.tmp 2]⟩
def p_impl_AdlerUpdate_1 : List (Bool × List Sh) := [(false, [.slice])]
set_option maxRecDepth 100000 in
def t_impl_AdlerUpdate_1 : Tr :=
(.call F_impl_adler [(.x (.cst (.int .u32 1))), (.x (.var (.slice) 0))] false [(false, [.int .u32])]
(.ret (.x (.var (.int .u32) 1))))
set_option maxRecDepth 100000 in
theorem s_impl_AdlerUpdate_1 : sxF c_impl_AdlerUpdate_1 Try.f31 p_impl_AdlerUpdate_1 = some t_impl_AdlerUpdate_1 := by kernel_rfl
theorem e_impl_AdlerUpdate_1 (xs : Array Value) (w : World) : (callFunc F_impl_AdlerUpdate_1 xs).runT Try.prog w #[] = (.ok (.enter F_impl_AdlerUpdate_1 xs) w, #[]) := ent_of Try.func31 (by kernel_rfl) (by kernel_rfl) xs w
theorem run_impl_AdlerUpdate_1 {S : Shared} {h : Eng.Heap} {Q : Value → Eng.Heap → Prop} {vs : List Value} (hsh : shOk (resShs p_impl_AdlerUpdate_1) vs) (hi : Inv S h) (hw : t_impl_AdlerUpdate_1.wp Try.prog S noLeaf Q vs h []) : CallsH Try.prog S F_impl_AdlerUpdate_1 (argVals p_impl_AdlerUpdate_1 vs) h Q :=
  sxF_ok (cfg := c_impl_AdlerUpdate_1) tabAdOk mixedAd Try.func31 rfl s_impl_AdlerUpdate_1 e_impl_AdlerUpdate_1 rfl hsh hi hw
end Go.Proofs.Ytmnialmphlbmaaa
