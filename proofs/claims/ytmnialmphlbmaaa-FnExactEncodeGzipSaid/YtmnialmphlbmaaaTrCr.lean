-- printed by a generator of my own (wip/eng/Gen) from the translation
import Derived.Test.YtmnialmphlbmaaaEng2
import Derived.Test.YtmnialmphlbmaaaChecked
import Derived.Test.YtmnialmphlbmaaaNums
set_option linter.unusedVariables false
set_option linter.unusedSimpArgs false
namespace Go.Proofs.Ytmnialmphlbmaaa
open Go Go.Eng
def tabCr : List (TypeId × TyD) := [(0, ⟨.oth, 1, 0, [], none, some []⟩),
  (2, ⟨(.int .i64), 1, 8, [.int .i64], some [(1, (.int .i64 0))], none⟩),
  (3, ⟨(.int .i64), 1, 8, [.int .i64], some [(1, (.int .i64 0))], none⟩),
  (4, ⟨.bool, 1, 1, [.bool], some [(1, (.bool false))], none⟩),
  (5, ⟨(.int .u8), 1, 1, [.int .u8], some [(1, (.int .u8 0))], none⟩),
  (22, ⟨(.int .u32), 1, 4, [.int .u32], some [(1, (.int .u32 0))], none⟩),
  (23, ⟨(.sl 5), 1, 24, [.slice], some [(1, .nilSl)], none⟩),
  (45, ⟨(.sl 22), 1, 24, [.slice], some [(1, .nilSl)], none⟩),
  (46, ⟨(.sl 2), 1, 24, [.slice], some [(1, .nilSl)], none⟩),
  (47, ⟨.oth, 1, 0, [], none, some [45, 46]⟩),
  (49, ⟨.fnk, 1, 8, [.fnv], some [(1, .nilFn)], none⟩),
  (59, ⟨(.int .u64), 1, 8, [.int .u64], some [(1, (.int .u64 0))], none⟩),
  (72, ⟨(.arr 256 22), 256, 1024, [], some [(256, (.int .u32 0))], none⟩)]
set_option maxRecDepth 100000 in
theorem tabCrOk : TabOk Try.prog tabCr := tabOk_of (by kernel_rfl)
theorem mixedCr : Try.prog.follows .mixedOrders = true := by kernel_rfl
/- function 4 -/
def c_laws_FnExactCrcUpdate : Cfg := ⟨tabCr, [], [], [.tmp 4]⟩
def p_laws_FnExactCrcUpdate : List (Bool × List Sh) := [(false, [.int .u32]), (false, [.slice])]
set_option maxRecDepth 100000 in
def t_laws_FnExactCrcUpdate : Tr :=
(.lift (.br (.cm .gtr (.ln (.var (.slice) 1)) (.cst (.int .i64 1048576)))
 (.ret (.x (.cst (.bool true))))
 (.call F_laws_toByteS [(.x (.var (.slice) 1))] false [(false, [.slice])]
 (.call F_spec_CrcUpdate [(.x (.var (.int .u32) 0)), (.x (.var (.slice) 2))] false [(false, [.int .u32])]
 (.call F_laws_toByteS [(.x (.var (.slice) 1))] false [(false, [.slice])]
 (.call F_impl_CrcUpdate [(.x (.var (.int .u32) 0)), (.x (.var (.slice) 4))] false [(false, [.int .u32])]
 (.lift (.br (.cm .neq (.var (.int .u32) 5) (.var (.int .u32) 3))
  (.ret (.x (.cst (.bool false))))
  (.call F_laws_toByteS [(.x (.var (.slice) 1))] false [(false, [.slice])]
  (.call F_laws_eqByteS [(.x (.var (.slice) 4)), (.x (.var (.slice) 6))] false [(false, [.bool])]
  (.lift (.br (.nt (.var (.bool) 7))
   (.ret (.x (.cst (.bool false))))
   (.ret (.x (.cst (.bool true))))))))))))))))
set_option maxRecDepth 100000 in
theorem s_laws_FnExactCrcUpdate : sxF c_laws_FnExactCrcUpdate Try.f4 p_laws_FnExactCrcUpdate = some t_laws_FnExactCrcUpdate := by kernel_rfl
theorem e_laws_FnExactCrcUpdate (xs : Array Value) (w : World) : (callFunc F_laws_FnExactCrcUpdate xs).runT Try.prog w #[] = (.ok (.enter F_laws_FnExactCrcUpdate xs) w, #[]) := ent_of Try.func4 (by kernel_rfl) (by kernel_rfl) xs w
theorem run_laws_FnExactCrcUpdate {S : Shared} {h : Eng.Heap} {Q : Value → Eng.Heap → Prop} {vs : List Value} (hsh : shOk (resShs p_laws_FnExactCrcUpdate) vs) (hi : Inv S h) (hw : t_laws_FnExactCrcUpdate.wp Try.prog S noLeaf Q vs h []) : CallsH Try.prog S F_laws_FnExactCrcUpdate (argVals p_laws_FnExactCrcUpdate vs) h Q :=
  sxF_ok (cfg := c_laws_FnExactCrcUpdate) tabCrOk mixedCr Try.func4 rfl s_laws_FnExactCrcUpdate e_laws_FnExactCrcUpdate rfl hsh hi hw
/- function 13 -/
def c_spec_CrcUpdate : Cfg := ⟨tabCr, [⟨7, [0, 6], [], [22, 23, 24, 25, 26, 27]⟩, ⟨3, [0, 5], [], [6, 9, 10, 11, 12, 13, 14, 15, 16, 17, 18, 19, 20, 21, 22, 23, 24, 25, 26, 27]⟩], [], [.tmp 4]⟩
def p_spec_CrcUpdate : List (Bool × List Sh) := [(false, [.int .u32]), (false, [.slice])]
set_option maxRecDepth 100000 in
def t_spec_CrcUpdate : Tr :=
(.loop [.int .u32, .int .i64] [(.ar .xor .u32 (.cst (.int .u32 4294967295)) (.var (.int .u32) 0)), (.cst (.int .i64 0))]
 (.lift (.br (.cm .lss (.var (.int .i64) 3) (.ln (.var (.slice) 1)))
  (.need (.nt (.nn (.var (.slice) 1)))
  (.need (.cm .leq (.cst (.int .i64 0)) (.var (.int .i64) 3))
  (.need (.cm .lss (.var (.int .i64) 3) (.ln (.var (.slice) 1)))
  (.load (.ix 1 (.var (.slice) 1) (.var (.int .i64) 3)) [.int .u8]
  (.loop [.int .u32, .int .i64] [(.ar .xor .u32 (.var (.int .u32) 2) (.cv .u32 (.var (.int .u8) 4))), (.cst (.int .i64 0))]
   (.lift (.br (.cm .lss (.var (.int .i64) 6) (.cst (.int .i64 8)))
    (.call F_spec_l1Half [(.x (.var (.int .u32) 5))] false [(false, [.int .u32])]
    (.cont 2 [(.var (.int .u32) 7), (.ar .add .i64 (.var (.int .i64) 6) (.cst (.int .i64 1)))]))
    (.cont 0 [(.var (.int .u32) 5), (.ar .add .i64 (.var (.int .i64) 3) (.cst (.int .i64 1)))]))))))))
  (.ret (.x (.ar .xor .u32 (.cst (.int .u32 4294967295)) (.var (.int .u32) 2)))))))
set_option maxRecDepth 100000 in
theorem s_spec_CrcUpdate : sxF c_spec_CrcUpdate Try.f13 p_spec_CrcUpdate = some t_spec_CrcUpdate := by kernel_rfl
theorem e_spec_CrcUpdate (xs : Array Value) (w : World) : (callFunc F_spec_CrcUpdate xs).runT Try.prog w #[] = (.ok (.enter F_spec_CrcUpdate xs) w, #[]) := ent_of Try.func13 (by kernel_rfl) (by kernel_rfl) xs w
theorem run_spec_CrcUpdate {S : Shared} {h : Eng.Heap} {Q : Value → Eng.Heap → Prop} {vs : List Value} (hsh : shOk (resShs p_spec_CrcUpdate) vs) (hi : Inv S h) (hw : t_spec_CrcUpdate.wp Try.prog S noLeaf Q vs h []) : CallsH Try.prog S F_spec_CrcUpdate (argVals p_spec_CrcUpdate vs) h Q :=
  sxF_ok (cfg := c_spec_CrcUpdate) tabCrOk mixedCr Try.func13 rfl s_spec_CrcUpdate e_spec_CrcUpdate rfl hsh hi hw
/- function 14 -/
def c_impl_CrcUpdate : Cfg := ⟨tabCr, [⟨5, [0, 22], [], [7, 8, 23, 24, 25, 26, 27, 28, 29, 30, 31, 32, 33, 34]⟩], [], [.tmp 4]⟩
def p_impl_CrcUpdate : List (Bool × List Sh) := [(false, [.int .u32]), (false, [.slice])]
set_option maxRecDepth 100000 in
def t_impl_CrcUpdate : Tr :=
(.lift (.br (.cm .leq (.ln (.var (.slice) 1)) (.cst (.int .i64 32768)))
 (.call F_impl_crc [(.x (.var (.int .u32) 0)), (.x (.var (.slice) 1))] false [(false, [.int .u32])]
 (.ret (.x (.var (.int .u32) 2))))
 (.call F_impl_inParts [(.x (.var (.slice) 1)), (.x (.fn 34 .nl .nl))] true [(false, [.slice]), (false, [.slice])]
 (.loop [.int .u32, .int .i64] [(.var (.int .u32) 0), (.cst (.int .i64 0))]
  (.lift (.br (.cm .lss (.var (.int .i64) 5) (.ln (.var (.slice) 2)))
   (.need (.nt (.nn (.var (.slice) 2)))
   (.need (.cm .leq (.cst (.int .i64 0)) (.var (.int .i64) 5))
   (.need (.cm .lss (.var (.int .i64) 5) (.ln (.var (.slice) 2)))
   (.load (.ix 1 (.var (.slice) 2) (.var (.int .i64) 5)) [.int .u32]
   (.need (.nt (.nn (.var (.slice) 3)))
   (.need (.cm .leq (.cst (.int .i64 0)) (.var (.int .i64) 5))
   (.need (.cm .lss (.var (.int .i64) 5) (.ln (.var (.slice) 3)))
   (.load (.ix 1 (.var (.slice) 3) (.var (.int .i64) 5)) [.int .i64]
   (.call F_impl_CrcJoin [(.x (.var (.int .u32) 4)), (.x (.var (.int .u32) 6)), (.x (.var (.int .i64) 7))] false [(false, [.int .u32])]
   (.cont 1 [(.var (.int .u32) 8), (.ar .add .i64 (.var (.int .i64) 5) (.cst (.int .i64 1)))]))))))))))
   (.ret (.x (.var (.int .u32) 4)))))))))
set_option maxRecDepth 100000 in
theorem s_impl_CrcUpdate : sxF c_impl_CrcUpdate Try.f14 p_impl_CrcUpdate = some t_impl_CrcUpdate := by kernel_rfl
theorem e_impl_CrcUpdate (xs : Array Value) (w : World) : (callFunc F_impl_CrcUpdate xs).runT Try.prog w #[] = (.ok (.enter F_impl_CrcUpdate xs) w, #[]) := ent_of Try.func14 (by kernel_rfl) (by kernel_rfl) xs w
theorem run_impl_CrcUpdate {S : Shared} {h : Eng.Heap} {Q : Value → Eng.Heap → Prop} {vs : List Value} (hsh : shOk (resShs p_impl_CrcUpdate) vs) (hi : Inv S h) (hw : t_impl_CrcUpdate.wp Try.prog S noLeaf Q vs h []) : CallsH Try.prog S F_impl_CrcUpdate (argVals p_impl_CrcUpdate vs) h Q :=
  sxF_ok (cfg := c_impl_CrcUpdate) tabCrOk mixedCr Try.func14 rfl s_impl_CrcUpdate e_impl_CrcUpdate rfl hsh hi hw
/- function 17 -/
def c_impl_CrcJoin : Cfg := ⟨tabCr, [⟨4, [0, 15], [], [16, 17, 18, 19]⟩], [], [.tmp 6]⟩
def p_impl_CrcJoin : List (Bool × List Sh) := [(false, [.int .u32]), (false, [.int .u32]), (false, [.int .i64])]
set_option maxRecDepth 100000 in
def t_impl_CrcJoin : Tr :=
(.lift (.br (.it (.cm .lss (.var (.int .i64) 2) (.cst (.int .i64 0))) (.cst (.bool true)) (.cm .gtr (.var (.int .i64) 2) (.cst (.int .i64 1000000))))
 (.ret (.x (.cst (.int .u32 0))))
 (.loop [.int .u32, .int .i64] [(.var (.int .u32) 0), (.cst (.int .i64 0))]
  (.lift (.br (.cm .lss (.var (.int .i64) 4) (.ar .mul .i64 (.cst (.int .i64 8)) (.var (.int .i64) 2)))
   (.call F_impl_step [(.x (.var (.int .u32) 3))] false [(false, [.int .u32])]
   (.cont 1 [(.var (.int .u32) 5), (.ar .add .i64 (.var (.int .i64) 4) (.cst (.int .i64 1)))]))
   (.ret (.x (.ar .xor .u32 (.var (.int .u32) 3) (.var (.int .u32) 1)))))))))
set_option maxRecDepth 100000 in
theorem s_impl_CrcJoin : sxF c_impl_CrcJoin Try.f17 p_impl_CrcJoin = some t_impl_CrcJoin := by kernel_rfl
theorem e_impl_CrcJoin (xs : Array Value) (w : World) : (callFunc F_impl_CrcJoin xs).runT Try.prog w #[] = (.ok (.enter F_impl_CrcJoin xs) w, #[]) := ent_of Try.func17 (by kernel_rfl) (by kernel_rfl) xs w
theorem run_impl_CrcJoin {S : Shared} {h : Eng.Heap} {Q : Value → Eng.Heap → Prop} {vs : List Value} (hsh : shOk (resShs p_impl_CrcJoin) vs) (hi : Inv S h) (hw : t_impl_CrcJoin.wp Try.prog S noLeaf Q vs h []) : CallsH Try.prog S F_impl_CrcJoin (argVals p_impl_CrcJoin vs) h Q :=
  sxF_ok (cfg := c_impl_CrcJoin) tabCrOk mixedCr Try.func17 rfl s_impl_CrcJoin e_impl_CrcJoin rfl hsh hi hw
/- function 32 -/
def c_spec_l1Half : Cfg := ⟨tabCr, [], [], [.tmp 2]⟩
def p_spec_l1Half : List (Bool × List Sh) := [(false, [.int .u32])]
set_option maxRecDepth 100000 in
def t_spec_l1Half : Tr :=
(.lift (.br (.cm .eql (.ar .rem .u32 (.var (.int .u32) 0) (.cst (.int .u32 2))) (.cst (.int .u32 1)))
 (.ret (.x (.ar .xor .u32 (.ar .quo .u32 (.var (.int .u32) 0) (.cst (.int .u32 2))) (.cst (.int .u32 3988292384)))))
 (.ret (.x (.ar .quo .u32 (.var (.int .u32) 0) (.cst (.int .u32 2)))))))
set_option maxRecDepth 100000 in
theorem s_spec_l1Half : sxF c_spec_l1Half Try.f32 p_spec_l1Half = some t_spec_l1Half := by kernel_rfl
theorem e_spec_l1Half (xs : Array Value) (w : World) : (callFunc F_spec_l1Half xs).runT Try.prog w #[] = (.ok (.enter F_spec_l1Half xs) w, #[]) := ent_of Try.func32 (by kernel_rfl) (by kernel_rfl) xs w
theorem run_spec_l1Half {S : Shared} {h : Eng.Heap} {Q : Value → Eng.Heap → Prop} {vs : List Value} (hsh : shOk (resShs p_spec_l1Half) vs) (hi : Inv S h) (hw : t_spec_l1Half.wp Try.prog S noLeaf Q vs h []) : CallsH Try.prog S F_spec_l1Half (argVals p_spec_l1Half vs) h Q :=
  sxF_ok (cfg := c_spec_l1Half) tabCrOk mixedCr Try.func32 rfl s_spec_l1Half e_spec_l1Half rfl hsh hi hw
/- function 33 -/
def c_impl_crc : Cfg := ⟨tabCr, [⟨8, [7, 19], [], [20, 21, 22, 23]⟩, ⟨4, [14], [], [6, 7, 15, 16, 17, 18, 19, 20, 21, 22, 23, 24, 25, 26, 27]⟩, ⟨21, [0, 52], [], [53, 54, 55, 56]⟩, ⟨15, [0, 32], [], [9, 33, 34, 35, 36, 37, 38, 39, 40, 41, 42, 43, 44, 45, 46, 47, 48, 49, 50, 51, 52, 53, 54, 55, 56, 57]⟩], [5], [.tmp 4]⟩
def p_impl_crc : List (Bool × List Sh) := [(false, [.int .u32]), (false, [.slice])]
set_option maxRecDepth 100000 in
def t_impl_crc : Tr :=
(.hall 72 [(256, (.cst (.int .u32 0)))]
(.hsto (.var (.addr) 2) [(.cst (.int .u32 0)), (.cst (.int .u32 0)), (.cst (.int .u32 0)), (.cst (.int .u32 0)), (.cst (.int .u32 0)), (.cst (.int .u32 0)), (.cst (.int .u32 0)), (.cst (.int .u32 0)), (.cst (.int .u32 0)), (.cst (.int .u32 0)), (.cst (.int .u32 0)), (.cst (.int .u32 0)), (.cst (.int .u32 0)), (.cst (.int .u32 0)), (.cst (.int .u32 0)), (.cst (.int .u32 0)), (.cst (.int .u32 0)), (.cst (.int .u32 0)), (.cst (.int .u32 0)), (.cst (.int .u32 0)), (.cst (.int .u32 0)), (.cst (.int .u32 0)), (.cst (.int .u32 0)), (.cst (.int .u32 0)), (.cst (.int .u32 0)), (.cst (.int .u32 0)), (.cst (.int .u32 0)), (.cst (.int .u32 0)), (.cst (.int .u32 0)), (.cst (.int .u32 0)), (.cst (.int .u32 0)), (.cst (.int .u32 0)), (.cst (.int .u32 0)), (.cst (.int .u32 0)), (.cst (.int .u32 0)), (.cst (.int .u32 0)), (.cst (.int .u32 0)), (.cst (.int .u32 0)), (.cst (.int .u32 0)), (.cst (.int .u32 0)), (.cst (.int .u32 0)), (.cst (.int .u32 0)), (.cst (.int .u32 0)), (.cst (.int .u32 0)), (.cst (.int .u32 0)), (.cst (.int .u32 0)), (.cst (.int .u32 0)), (.cst (.int .u32 0)), (.cst (.int .u32 0)), (.cst (.int .u32 0)), (.cst (.int .u32 0)), (.cst (.int .u32 0)), (.cst (.int .u32 0)), (.cst (.int .u32 0)), (.cst (.int .u32 0)), (.cst (.int .u32 0)), (.cst (.int .u32 0)), (.cst (.int .u32 0)), (.cst (.int .u32 0)), (.cst (.int .u32 0)), (.cst (.int .u32 0)), (.cst (.int .u32 0)), (.cst (.int .u32 0)), (.cst (.int .u32 0)), (.cst (.int .u32 0)), (.cst (.int .u32 0)), (.cst (.int .u32 0)), (.cst (.int .u32 0)), (.cst (.int .u32 0)), (.cst (.int .u32 0)), (.cst (.int .u32 0)), (.cst (.int .u32 0)), (.cst (.int .u32 0)), (.cst (.int .u32 0)), (.cst (.int .u32 0)), (.cst (.int .u32 0)), (.cst (.int .u32 0)), (.cst (.int .u32 0)), (.cst (.int .u32 0)), (.cst (.int .u32 0)), (.cst (.int .u32 0)), (.cst (.int .u32 0)), (.cst (.int .u32 0)), (.cst (.int .u32 0)), (.cst (.int .u32 0)), (.cst (.int .u32 0)), (.cst (.int .u32 0)), (.cst (.int .u32 0)), (.cst (.int .u32 0)), (.cst (.int .u32 0)), (.cst (.int .u32 0)), (.cst (.int .u32 0)), (.cst (.int .u32 0)), (.cst (.int .u32 0)), (.cst (.int .u32 0)), (.cst (.int .u32 0)), (.cst (.int .u32 0)), (.cst (.int .u32 0)), (.cst (.int .u32 0)), (.cst (.int .u32 0)), (.cst (.int .u32 0)), (.cst (.int .u32 0)), (.cst (.int .u32 0)), (.cst (.int .u32 0)), (.cst (.int .u32 0)), (.cst (.int .u32 0)), (.cst (.int .u32 0)), (.cst (.int .u32 0)), (.cst (.int .u32 0)), (.cst (.int .u32 0)), (.cst (.int .u32 0)), (.cst (.int .u32 0)), (.cst (.int .u32 0)), (.cst (.int .u32 0)), (.cst (.int .u32 0)), (.cst (.int .u32 0)), (.cst (.int .u32 0)), (.cst (.int .u32 0)), (.cst (.int .u32 0)), (.cst (.int .u32 0)), (.cst (.int .u32 0)), (.cst (.int .u32 0)), (.cst (.int .u32 0)), (.cst (.int .u32 0)), (.cst (.int .u32 0)), (.cst (.int .u32 0)), (.cst (.int .u32 0)), (.cst (.int .u32 0)), (.cst (.int .u32 0)), (.cst (.int .u32 0)), (.cst (.int .u32 0)), (.cst (.int .u32 0)), (.cst (.int .u32 0)), (.cst (.int .u32 0)), (.cst (.int .u32 0)), (.cst (.int .u32 0)), (.cst (.int .u32 0)), (.cst (.int .u32 0)), (.cst (.int .u32 0)), (.cst (.int .u32 0)), (.cst (.int .u32 0)), (.cst (.int .u32 0)), (.cst (.int .u32 0)), (.cst (.int .u32 0)), (.cst (.int .u32 0)), (.cst (.int .u32 0)), (.cst (.int .u32 0)), (.cst (.int .u32 0)), (.cst (.int .u32 0)), (.cst (.int .u32 0)), (.cst (.int .u32 0)), (.cst (.int .u32 0)), (.cst (.int .u32 0)), (.cst (.int .u32 0)), (.cst (.int .u32 0)), (.cst (.int .u32 0)), (.cst (.int .u32 0)), (.cst (.int .u32 0)), (.cst (.int .u32 0)), (.cst (.int .u32 0)), (.cst (.int .u32 0)), (.cst (.int .u32 0)), (.cst (.int .u32 0)), (.cst (.int .u32 0)), (.cst (.int .u32 0)), (.cst (.int .u32 0)), (.cst (.int .u32 0)), (.cst (.int .u32 0)), (.cst (.int .u32 0)), (.cst (.int .u32 0)), (.cst (.int .u32 0)), (.cst (.int .u32 0)), (.cst (.int .u32 0)), (.cst (.int .u32 0)), (.cst (.int .u32 0)), (.cst (.int .u32 0)), (.cst (.int .u32 0)), (.cst (.int .u32 0)), (.cst (.int .u32 0)), (.cst (.int .u32 0)), (.cst (.int .u32 0)), (.cst (.int .u32 0)), (.cst (.int .u32 0)), (.cst (.int .u32 0)), (.cst (.int .u32 0)), (.cst (.int .u32 0)), (.cst (.int .u32 0)), (.cst (.int .u32 0)), (.cst (.int .u32 0)), (.cst (.int .u32 0)), (.cst (.int .u32 0)), (.cst (.int .u32 0)), (.cst (.int .u32 0)), (.cst (.int .u32 0)), (.cst (.int .u32 0)), (.cst (.int .u32 0)), (.cst (.int .u32 0)), (.cst (.int .u32 0)), (.cst (.int .u32 0)), (.cst (.int .u32 0)), (.cst (.int .u32 0)), (.cst (.int .u32 0)), (.cst (.int .u32 0)), (.cst (.int .u32 0)), (.cst (.int .u32 0)), (.cst (.int .u32 0)), (.cst (.int .u32 0)), (.cst (.int .u32 0)), (.cst (.int .u32 0)), (.cst (.int .u32 0)), (.cst (.int .u32 0)), (.cst (.int .u32 0)), (.cst (.int .u32 0)), (.cst (.int .u32 0)), (.cst (.int .u32 0)), (.cst (.int .u32 0)), (.cst (.int .u32 0)), (.cst (.int .u32 0)), (.cst (.int .u32 0)), (.cst (.int .u32 0)), (.cst (.int .u32 0)), (.cst (.int .u32 0)), (.cst (.int .u32 0)), (.cst (.int .u32 0)), (.cst (.int .u32 0)), (.cst (.int .u32 0)), (.cst (.int .u32 0)), (.cst (.int .u32 0)), (.cst (.int .u32 0)), (.cst (.int .u32 0)), (.cst (.int .u32 0)), (.cst (.int .u32 0)), (.cst (.int .u32 0)), (.cst (.int .u32 0)), (.cst (.int .u32 0)), (.cst (.int .u32 0)), (.cst (.int .u32 0)), (.cst (.int .u32 0)), (.cst (.int .u32 0)), (.cst (.int .u32 0)), (.cst (.int .u32 0)), (.cst (.int .u32 0)), (.cst (.int .u32 0)), (.cst (.int .u32 0)), (.cst (.int .u32 0)), (.cst (.int .u32 0)), (.cst (.int .u32 0)), (.cst (.int .u32 0)), (.cst (.int .u32 0)), (.cst (.int .u32 0)), (.cst (.int .u32 0)), (.cst (.int .u32 0)), (.cst (.int .u32 0)), (.cst (.int .u32 0)), (.cst (.int .u32 0)), (.cst (.int .u32 0))]
(.join []
 (.br (.cm .geq (.ln (.var (.slice) 1)) (.cst (.int .i64 64)))
  (.loop [.int .i64] [(.cst (.int .i64 0))]
   (.lift (.br (.cm .lss (.var (.int .i64) 3) (.cst (.int .i64 256)))
    (.loop [.int .u32, .int .i64] [(.cv .u32 (.var (.int .i64) 3)), (.cst (.int .i64 0))]
     (.lift (.br (.cm .lss (.var (.int .i64) 5) (.cst (.int .i64 8)))
      (.call F_impl_step [(.x (.var (.int .u32) 4))] false [(false, [.int .u32])]
      (.cont 3 [(.var (.int .u32) 6), (.ar .add .i64 (.var (.int .i64) 5) (.cst (.int .i64 1)))]))
      (.need (.cm .leq (.cst (.int .i64 0)) (.var (.int .i64) 3))
      (.need (.cm .lss (.var (.int .i64) 3) (.cst (.int .i64 256)))
      (.hsto (.ia 1 (.var (.addr) 2) (.var (.int .i64) 3)) [(.var (.int .u32) 4)]
      (.cont 1 [(.ar .add .i64 (.var (.int .i64) 3) (.cst (.int .i64 1)))])))))))
    (.cont 0 []))))
  (.cont 0 []))
 (.loop [.int .u32, .int .i64] [(.ar .xor .u32 (.cst (.int .u32 4294967295)) (.var (.int .u32) 0)), (.cst (.int .i64 0))]
  (.lift (.br (.cm .lss (.var (.int .i64) 4) (.ln (.var (.slice) 1)))
   (.need (.nt (.nn (.var (.slice) 1)))
   (.need (.cm .leq (.cst (.int .i64 0)) (.var (.int .i64) 4))
   (.need (.cm .lss (.var (.int .i64) 4) (.ln (.var (.slice) 1)))
   (.load (.ix 1 (.var (.slice) 1) (.var (.int .i64) 4)) [.int .u8]
   (.lift (.br (.cm .geq (.ln (.var (.slice) 1)) (.cst (.int .i64 64)))
    (.need (.cm .leq (.cst (.int .i64 0)) (.ar .xor .u8 (.cv .u8 (.var (.int .u32) 3)) (.var (.int .u8) 5)))
    (.need (.cm .lss (.ar .xor .u8 (.cv .u8 (.var (.int .u32) 3)) (.var (.int .u8) 5)) (.cst (.int .i64 256)))
    (.load (.ia 1 (.var (.addr) 2) (.ar .xor .u8 (.cv .u8 (.var (.int .u32) 3)) (.var (.int .u8) 5))) [.int .u32]
    (.cont 0 [(.ar .xor .u32 (.ar .shr .u32 (.var (.int .u32) 3) (.cst (.int .u64 8))) (.var (.int .u32) 6)), (.ar .add .i64 (.var (.int .i64) 4) (.cst (.int .i64 1)))]))))
    (.loop [.int .u32, .int .i64] [(.ar .xor .u32 (.var (.int .u32) 3) (.cv .u32 (.var (.int .u8) 5))), (.cst (.int .i64 0))]
     (.lift (.br (.cm .lss (.var (.int .i64) 7) (.cst (.int .i64 8)))
      (.call F_impl_step [(.x (.var (.int .u32) 6))] false [(false, [.int .u32])]
      (.cont 3 [(.var (.int .u32) 8), (.ar .add .i64 (.var (.int .i64) 7) (.cst (.int .i64 1)))]))
      (.cont 0 [(.var (.int .u32) 6), (.ar .add .i64 (.var (.int .i64) 4) (.cst (.int .i64 1)))]))))))))))
   (.ret (.x (.ar .xor .u32 (.cst (.int .u32 4294967295)) (.var (.int .u32) 3))))))))))
set_option maxRecDepth 100000 in
theorem s_impl_crc : sxF c_impl_crc Try.f33 p_impl_crc = some t_impl_crc := by kernel_rfl
theorem e_impl_crc (xs : Array Value) (w : World) : (callFunc F_impl_crc xs).runT Try.prog w #[] = (.ok (.enter F_impl_crc xs) w, #[]) := ent_of Try.func33 (by kernel_rfl) (by kernel_rfl) xs w
theorem run_impl_crc {S : Shared} {h : Eng.Heap} {Q : Value → Eng.Heap → Prop} {vs : List Value} (hsh : shOk (resShs p_impl_crc) vs) (hi : Inv S h) (hw : t_impl_crc.wp Try.prog S noLeaf Q vs h []) : CallsH Try.prog S F_impl_crc (argVals p_impl_crc vs) h Q :=
  sxF_ok (cfg := c_impl_crc) tabCrOk mixedCr Try.func33 rfl s_impl_crc e_impl_crc rfl hsh hi hw
/- function 34 -/
def c_impl_CrcUpdate_1 : Cfg := ⟨tabCr, [], [], [.tmp 2]⟩
def p_impl_CrcUpdate_1 : List (Bool × List Sh) := [(false, [.slice])]
set_option maxRecDepth 100000 in
def t_impl_CrcUpdate_1 : Tr :=
(.call F_impl_crc [(.x (.cst (.int .u32 0))), (.x (.var (.slice) 0))] false [(false, [.int .u32])]
(.ret (.x (.var (.int .u32) 1))))
set_option maxRecDepth 100000 in
theorem s_impl_CrcUpdate_1 : sxF c_impl_CrcUpdate_1 Try.f34 p_impl_CrcUpdate_1 = some t_impl_CrcUpdate_1 := by kernel_rfl
theorem e_impl_CrcUpdate_1 (xs : Array Value) (w : World) : (callFunc F_impl_CrcUpdate_1 xs).runT Try.prog w #[] = (.ok (.enter F_impl_CrcUpdate_1 xs) w, #[]) := ent_of Try.func34 (by kernel_rfl) (by kernel_rfl) xs w
theorem run_impl_CrcUpdate_1 {S : Shared} {h : Eng.Heap} {Q : Value → Eng.Heap → Prop} {vs : List Value} (hsh : shOk (resShs p_impl_CrcUpdate_1) vs) (hi : Inv S h) (hw : t_impl_CrcUpdate_1.wp Try.prog S noLeaf Q vs h []) : CallsH Try.prog S F_impl_CrcUpdate_1 (argVals p_impl_CrcUpdate_1 vs) h Q :=
  sxF_ok (cfg := c_impl_CrcUpdate_1) tabCrOk mixedCr Try.func34 rfl s_impl_CrcUpdate_1 e_impl_CrcUpdate_1 rfl hsh hi hw
/- function 35 -/
def c_impl_step : Cfg := ⟨tabCr, [], [], [.tmp 2]⟩
def p_impl_step : List (Bool × List Sh) := [(false, [.int .u32])]
set_option maxRecDepth 100000 in
def t_impl_step : Tr :=
(.lift (.br (.cm .eql (.ar .and .u32 (.var (.int .u32) 0) (.cst (.int .u32 1))) (.cst (.int .u32 1)))
 (.ret (.x (.ar .xor .u32 (.ar .shr .u32 (.var (.int .u32) 0) (.cst (.int .u64 1))) (.cst (.int .u32 3988292384)))))
 (.ret (.x (.ar .shr .u32 (.var (.int .u32) 0) (.cst (.int .u64 1)))))))
set_option maxRecDepth 100000 in
theorem s_impl_step : sxF c_impl_step Try.f35 p_impl_step = some t_impl_step := by kernel_rfl
theorem e_impl_step (xs : Array Value) (w : World) : (callFunc F_impl_step xs).runT Try.prog w #[] = (.ok (.enter F_impl_step xs) w, #[]) := ent_of Try.func35 (by kernel_rfl) (by kernel_rfl) xs w
theorem run_impl_step {S : Shared} {h : Eng.Heap} {Q : Value → Eng.Heap → Prop} {vs : List Value} (hsh : shOk (resShs p_impl_step) vs) (hi : Inv S h) (hw : t_impl_step.wp Try.prog S noLeaf Q vs h []) : CallsH Try.prog S F_impl_step (argVals p_impl_step vs) h Q :=
  sxF_ok (cfg := c_impl_step) tabCrOk mixedCr Try.func35 rfl s_impl_step e_impl_step rfl hsh hi hw
end Go.Proofs.Ytmnialmphlbmaaa
