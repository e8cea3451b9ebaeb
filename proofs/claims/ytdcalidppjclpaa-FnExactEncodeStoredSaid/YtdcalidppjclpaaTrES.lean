-- printed by a generator of my own (wip/eng/Gen) from the translation
import Derived.Test.YtdcalidppjclpaaEng2
import Derived.Test.YtdcalidppjclpaaChecked
import Derived.Test.YtdcalidppjclpaaNums
set_option linter.unusedVariables false
set_option linter.unusedSimpArgs false
namespace Go.Proofs.Ytdcalidppjclpaa
open Go Go.Eng
def tabES : List (TypeId × TyD) := [(2, ⟨(.int .i64), 1, 8, [.int .i64], some [(1, (.int .i64 0))], none⟩),
  (3, ⟨(.int .i64), 1, 8, [.int .i64], some [(1, (.int .i64 0))], none⟩),
  (4, ⟨.bool, 1, 1, [.bool], some [(1, (.bool false))], none⟩),
  (5, ⟨(.int .u8), 1, 1, [.int .u8], some [(1, (.int .u8 0))], none⟩),
  (22, ⟨(.sl 5), 1, 24, [.slice], some [(1, .nilSl)], none⟩),
  (75, ⟨(.int .u64), 1, 8, [.int .u64], some [(1, (.int .u64 0))], none⟩)]
set_option maxRecDepth 100000 in
theorem tabESOk : TabOk Try.prog tabES := tabOk_of (by kernel_rfl)
theorem mixedES : Try.prog.follows .mixedOrders = true := by kernel_rfl
/- function 3 -/
def c_laws_FnExactEncodeStored : Cfg := ⟨tabES, [], [], [.tmp 4]⟩
def p_laws_FnExactEncodeStored : List (Bool × List Sh) := [(false, [.slice]), (false, [.int .i64])]
set_option maxRecDepth 100000 in
def t_laws_FnExactEncodeStored : Tr :=
(.lift (.br (.cm .gtr (.ln (.var (.slice) 0)) (.cst (.int .i64 1048576)))
 (.ret (.x (.cst (.bool true))))
 (.call F_laws_toByteS [(.x (.var (.slice) 0))] false [(false, [.slice])]
 (.call F_spec_EncodeStored [(.x (.var (.slice) 2)), (.x (.var (.int .i64) 1))] false [(false, [.slice])]
 (.call F_laws_toByteS [(.x (.var (.slice) 0))] false [(false, [.slice])]
 (.call F_impl_EncodeStored [(.x (.var (.slice) 4)), (.x (.var (.int .i64) 1))] false [(false, [.slice])]
 (.call F_laws_eqByteS [(.x (.var (.slice) 5)), (.x (.var (.slice) 3))] false [(false, [.bool])]
 (.lift (.br (.nt (.var (.bool) 6))
  (.ret (.x (.cst (.bool false))))
  (.call F_laws_toByteS [(.x (.var (.slice) 0))] false [(false, [.slice])]
  (.call F_laws_eqByteS [(.x (.var (.slice) 4)), (.x (.var (.slice) 7))] false [(false, [.bool])]
  (.lift (.br (.nt (.var (.bool) 8))
   (.ret (.x (.cst (.bool false))))
   (.call F_laws_markByteS [(.x (.var (.slice) 4)), (.x (.cst (.int .i64 1)))] false [(false, [.int .i64])]
   (.join [.bool]
    (.br (.nt (.cm .lss (.var (.int .i64) 9) (.cst (.int .i64 0))))
     (.call F_laws_eqByteS [(.x (.var (.slice) 5)), (.x (.var (.slice) 3))] false [(false, [.bool])]
     (.cont 3 [(.nt (.var (.bool) 10))]))
     (.cont 3 [(.cst (.bool true))]))
    (.lift (.br (.var (.bool) 10)
     (.ret (.x (.cst (.bool false))))
     (.call F_laws_markByteS [(.x (.var (.slice) 5)), (.x (.cst (.int .i64 1)))] false [(false, [.int .i64])]
     (.call F_laws_heldByteS [(.x (.var (.slice) 5)), (.x (.cst (.int .i64 1)))] false [(false, [.int .i64])]
     (.lift (.br (.cm .lss (.var (.int .i64) 12) (.cst (.int .i64 0)))
      (.ret (.x (.cst (.bool false))))
      (.lift (.br (.cm .neq (.var (.int .i64) 12) (.var (.int .i64) 11))
       (.ret (.x (.cst (.bool false))))
       (.call F_laws_toByteS [(.x (.var (.slice) 0))] false [(false, [.slice])]
       (.call F_impl_EncodeStored [(.x (.var (.slice) 13)), (.x (.var (.int .i64) 1))] false [(false, [.slice])]
       (.call F_laws_eqByteS [(.x (.var (.slice) 14)), (.x (.var (.slice) 3))] false [(false, [.bool])]
       (.lift (.br (.nt (.var (.bool) 15))
        (.ret (.x (.cst (.bool false))))
        (.call F_laws_heldByteS [(.x (.var (.slice) 5)), (.x (.cst (.int .i64 1)))] false [(false, [.int .i64])]
        (.lift (.br (.cm .lss (.var (.int .i64) 16) (.cst (.int .i64 0)))
         (.ret (.x (.cst (.bool false))))
         (.lift (.br (.cm .neq (.var (.int .i64) 16) (.var (.int .i64) 11))
          (.ret (.x (.cst (.bool false))))
          (.ret (.x (.cst (.bool true)))))))))))))))))))))))))))))))))))))
set_option maxRecDepth 100000 in
theorem s_laws_FnExactEncodeStored : sxF c_laws_FnExactEncodeStored Try.f3 p_laws_FnExactEncodeStored = some t_laws_FnExactEncodeStored := by kernel_rfl
theorem e_laws_FnExactEncodeStored (xs : Array Value) (w : World) : (callFunc F_laws_FnExactEncodeStored xs).runT Try.prog w #[] = (.ok (.enter F_laws_FnExactEncodeStored xs) w, #[]) := ent_of Try.func3 (by kernel_rfl) (by kernel_rfl) xs w
theorem run_laws_FnExactEncodeStored {S : Nat → Prop} {h : Eng.Heap} {Q : Value → Eng.Heap → Prop} {vs : List Value} (hsh : shOk (resShs p_laws_FnExactEncodeStored) vs) (hi : Inv S h) (hw : t_laws_FnExactEncodeStored.wp Try.prog S noLeaf Q vs h []) : CallsH Try.prog S F_laws_FnExactEncodeStored (argVals p_laws_FnExactEncodeStored vs) h Q :=
  sxF_ok (cfg := c_laws_FnExactEncodeStored) tabESOk mixedES Try.func3 rfl s_laws_FnExactEncodeStored e_laws_FnExactEncodeStored rfl hsh hi hw
/- function 12 -/
def c_spec_EncodeStored : Cfg := ⟨tabES, [⟨4, [0, 5], [], [6, 7, 21, 22, 23, 24, 25, 26, 27, 28, 29, 30, 31, 32, 33, 34, 35, 36, 37, 38, 39, 40, 41, 42, 43, 44, 45, 46, 47, 48, 49, 50, 51, 52, 53, 54, 55]⟩], [], [.tmp 4]⟩
def p_spec_EncodeStored : List (Bool × List Sh) := [(false, [.slice]), (false, [.int .i64])]
set_option maxRecDepth 100000 in
def t_spec_EncodeStored : Tr :=
(.hsl 5 0 []
(.lift (.br (.it (.it (.cm .lss (.var (.int .i64) 1) (.cst (.int .i64 1))) (.cst (.bool true)) (.cm .gtr (.var (.int .i64) 1) (.cst (.int .i64 65535)))) (.cst (.bool true)) (.cm .gtr (.ln (.var (.slice) 0)) (.cst (.int .i64 100000))))
 (.ret (.x (.var (.slice) 2)))
 (.loop [.slice, .slice] [(.var (.slice) 0), (.var (.slice) 2)]
  (.hsl 5 5 [(.it (.cm .gtr (.ln (.var (.slice) 3)) (.var (.int .i64) 1)) (.cst (.int .u8 0)) (.cst (.int .u8 1))), (.cv .u8 (.ar .rem .i64 (.it (.cm .gtr (.ln (.var (.slice) 3)) (.var (.int .i64) 1)) (.var (.int .i64) 1) (.ln (.var (.slice) 3))) (.cst (.int .i64 256)))), (.cv .u8 (.ar .quo .i64 (.it (.cm .gtr (.ln (.var (.slice) 3)) (.var (.int .i64) 1)) (.var (.int .i64) 1) (.ln (.var (.slice) 3))) (.cst (.int .i64 256)))), (.cv .u8 (.ar .sub .i64 (.cst (.int .i64 255)) (.ar .rem .i64 (.it (.cm .gtr (.ln (.var (.slice) 3)) (.var (.int .i64) 1)) (.var (.int .i64) 1) (.ln (.var (.slice) 3))) (.cst (.int .i64 256))))), (.cv .u8 (.ar .sub .i64 (.cst (.int .i64 255)) (.ar .quo .i64 (.it (.cm .gtr (.ln (.var (.slice) 3)) (.var (.int .i64) 1)) (.var (.int .i64) 1) (.ln (.var (.slice) 3))) (.cst (.int .i64 256)))))]
  (.app 5 1 1 [(.int .u8 0)] (.var (.slice) 4) (.var (.slice) 5)
  (.need (.cm .leq (.cst (.int .i64 0)) (.it (.cm .gtr (.ln (.var (.slice) 3)) (.var (.int .i64) 1)) (.var (.int .i64) 1) (.ln (.var (.slice) 3))))
  (.need (.cm .leq (.it (.cm .gtr (.ln (.var (.slice) 3)) (.var (.int .i64) 1)) (.var (.int .i64) 1) (.ln (.var (.slice) 3))) (.cp (.var (.slice) 3)))
  (.app 5 1 1 [(.int .u8 0)] (.var (.slice) 6) (.sub 1 (.var (.slice) 3) .nl (.it (.cm .gtr (.ln (.var (.slice) 3)) (.var (.int .i64) 1)) (.var (.int .i64) 1) (.ln (.var (.slice) 3))) .nl)
  (.need (.cm .leq (.cst (.int .i64 0)) (.it (.cm .gtr (.ln (.var (.slice) 3)) (.var (.int .i64) 1)) (.var (.int .i64) 1) (.ln (.var (.slice) 3))))
  (.need (.cm .leq (.it (.cm .gtr (.ln (.var (.slice) 3)) (.var (.int .i64) 1)) (.var (.int .i64) 1) (.ln (.var (.slice) 3))) (.ln (.var (.slice) 3)))
  (.lift (.br (.cm .eql (.it (.cm .gtr (.ln (.var (.slice) 3)) (.var (.int .i64) 1)) (.cst (.int .u8 0)) (.cst (.int .u8 1))) (.cst (.int .u8 1)))
   (.ret (.x (.var (.slice) 7)))
   (.cont 1 [(.sub 1 (.var (.slice) 3) (.it (.cm .gtr (.ln (.var (.slice) 3)) (.var (.int .i64) 1)) (.var (.int .i64) 1) (.ln (.var (.slice) 3))) .nl .nl), (.var (.slice) 7)]))))))))))))))
set_option maxRecDepth 100000 in
theorem s_spec_EncodeStored : sxF c_spec_EncodeStored Try.f12 p_spec_EncodeStored = some t_spec_EncodeStored := by kernel_rfl
theorem e_spec_EncodeStored (xs : Array Value) (w : World) : (callFunc F_spec_EncodeStored xs).runT Try.prog w #[] = (.ok (.enter F_spec_EncodeStored xs) w, #[]) := ent_of Try.func12 (by kernel_rfl) (by kernel_rfl) xs w
theorem run_spec_EncodeStored {S : Nat → Prop} {h : Eng.Heap} {Q : Value → Eng.Heap → Prop} {vs : List Value} (hsh : shOk (resShs p_spec_EncodeStored) vs) (hi : Inv S h) (hw : t_spec_EncodeStored.wp Try.prog S noLeaf Q vs h []) : CallsH Try.prog S F_spec_EncodeStored (argVals p_spec_EncodeStored vs) h Q :=
  sxF_ok (cfg := c_spec_EncodeStored) tabESOk mixedES Try.func12 rfl s_spec_EncodeStored e_spec_EncodeStored rfl hsh hi hw
/- function 14 -/
def c_impl_EncodeStored : Cfg := ⟨tabES, [⟨5, [0, 5, 6], [], [7, 8, 22, 23, 24, 25, 26, 27, 28, 29, 30, 31, 32, 33, 34, 35, 36, 37, 38, 39, 40, 41, 42, 43, 44, 45, 46, 47, 48, 49, 50, 51, 52, 53, 54, 55, 56, 57, 58, 59]⟩], [], [.tmp 4]⟩
def p_impl_EncodeStored : List (Bool × List Sh) := [(false, [.slice]), (false, [.int .i64])]
set_option maxRecDepth 100000 in
def t_impl_EncodeStored : Tr :=
(.lift (.br (.it (.it (.cm .lss (.var (.int .i64) 1) (.cst (.int .i64 1))) (.cst (.bool true)) (.cm .gtr (.var (.int .i64) 1) (.cst (.int .i64 65535)))) (.cst (.bool true)) (.cm .gtr (.ln (.var (.slice) 0)) (.cst (.int .i64 100000))))
 (.hsl 5 0 []
 (.ret (.x (.var (.slice) 2))))
 (.hsl 5 0 []
 (.loop [.slice, .slice, .bool] [(.var (.slice) 0), (.var (.slice) 2), (.cst (.bool true))]
  (.lift (.br (.it (.var (.bool) 5) (.cst (.bool true)) (.cm .gtr (.ln (.var (.slice) 3)) (.cst (.int .i64 0))))
   (.hsl 5 5 [(.it (.cm .eql (.mn (.var (.int .i64) 1) (.ln (.var (.slice) 3))) (.ln (.var (.slice) 3))) (.cst (.int .u8 1)) (.cst (.int .u8 0))), (.cv .u8 (.mn (.var (.int .i64) 1) (.ln (.var (.slice) 3)))), (.cv .u8 (.ar .shr .i64 (.mn (.var (.int .i64) 1) (.ln (.var (.slice) 3))) (.cst (.int .u64 8)))), (.ar .xor .u8 (.cst (.int .u8 255)) (.cv .u8 (.mn (.var (.int .i64) 1) (.ln (.var (.slice) 3))))), (.ar .xor .u8 (.cst (.int .u8 255)) (.cv .u8 (.ar .shr .i64 (.mn (.var (.int .i64) 1) (.ln (.var (.slice) 3))) (.cst (.int .u64 8)))))]
   (.app 5 1 1 [(.int .u8 0)] (.var (.slice) 4) (.var (.slice) 6)
   (.need (.cm .leq (.cst (.int .i64 0)) (.mn (.var (.int .i64) 1) (.ln (.var (.slice) 3))))
   (.need (.cm .leq (.mn (.var (.int .i64) 1) (.ln (.var (.slice) 3))) (.cp (.var (.slice) 3)))
   (.app 5 1 1 [(.int .u8 0)] (.var (.slice) 7) (.sub 1 (.var (.slice) 3) .nl (.mn (.var (.int .i64) 1) (.ln (.var (.slice) 3))) .nl)
   (.need (.cm .leq (.cst (.int .i64 0)) (.mn (.var (.int .i64) 1) (.ln (.var (.slice) 3))))
   (.need (.cm .leq (.mn (.var (.int .i64) 1) (.ln (.var (.slice) 3))) (.ln (.var (.slice) 3)))
   (.cont 1 [(.sub 1 (.var (.slice) 3) (.mn (.var (.int .i64) 1) (.ln (.var (.slice) 3))) .nl .nl), (.var (.slice) 8), (.cst (.bool false))]))))))))
   (.ret (.x (.var (.slice) 4)))))))))
set_option maxRecDepth 100000 in
theorem s_impl_EncodeStored : sxF c_impl_EncodeStored Try.f14 p_impl_EncodeStored = some t_impl_EncodeStored := by kernel_rfl
theorem e_impl_EncodeStored (xs : Array Value) (w : World) : (callFunc F_impl_EncodeStored xs).runT Try.prog w #[] = (.ok (.enter F_impl_EncodeStored xs) w, #[]) := ent_of Try.func14 (by kernel_rfl) (by kernel_rfl) xs w
theorem run_impl_EncodeStored {S : Nat → Prop} {h : Eng.Heap} {Q : Value → Eng.Heap → Prop} {vs : List Value} (hsh : shOk (resShs p_impl_EncodeStored) vs) (hi : Inv S h) (hw : t_impl_EncodeStored.wp Try.prog S noLeaf Q vs h []) : CallsH Try.prog S F_impl_EncodeStored (argVals p_impl_EncodeStored vs) h Q :=
  sxF_ok (cfg := c_impl_EncodeStored) tabESOk mixedES Try.func14 rfl s_impl_EncodeStored e_impl_EncodeStored rfl hsh hi hw
end Go.Proofs.Ytdcalidppjclpaa
