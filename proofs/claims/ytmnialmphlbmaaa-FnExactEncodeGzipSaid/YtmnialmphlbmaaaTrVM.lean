-- printed by a generator of my own (wip/eng/Gen) from the translation
import Derived.Test.YtmnialmphlbmaaaEng2
import Derived.Test.YtmnialmphlbmaaaChecked
import Derived.Test.YtmnialmphlbmaaaNums
set_option linter.unusedVariables false
set_option linter.unusedSimpArgs false
namespace Go.Proofs.Ytmnialmphlbmaaa
open Go Go.Eng
def tabVM : List (TypeId × TyD) := [(0, ⟨.oth, 1, 0, [], none, some []⟩),
  (2, ⟨(.int .i64), 1, 8, [.int .i64], some [(1, (.int .i64 0))], none⟩),
  (3, ⟨(.int .i64), 1, 8, [.int .i64], some [(1, (.int .i64 0))], none⟩),
  (4, ⟨.bool, 1, 1, [.bool], some [(1, (.bool false))], none⟩),
  (5, ⟨(.int .u8), 1, 1, [.int .u8], some [(1, (.int .u8 0))], none⟩),
  (23, ⟨(.sl 5), 1, 24, [.slice], some [(1, .nilSl)], none⟩),
  (37, ⟨(.st [(0, 2), (1, 2), (2, 2), (3, 2), (4, 23), (5, 23), (6, 23), (7, 2)]), 8, 112, [.int .i64, .int .i64, .int .i64, .int .i64, .slice, .slice, .slice, .int .i64], some [(4, (.int .i64 0)), (3, .nilSl), (1, (.int .i64 0))], none⟩),
  (40, ⟨(.st [(0, 2), (1, 2), (2, 2), (3, 2), (4, 23), (5, 23), (6, 23), (7, 2)]), 8, 112, [.int .i64, .int .i64, .int .i64, .int .i64, .slice, .slice, .slice, .int .i64], some [(4, (.int .i64 0)), (3, .nilSl), (1, (.int .i64 0))], none⟩),
  (84, ⟨.fnk, 1, 8, [.fnv], some [(1, .nilFn)], none⟩),
  (85, ⟨.fnk, 1, 8, [.fnv], some [(1, .nilFn)], none⟩)]
set_option maxRecDepth 100000 in
theorem tabVMOk : TabOk Try.prog tabVM := tabOk_of (by kernel_rfl)
theorem mixedVM : Try.prog.follows .mixedOrders = true := by kernel_rfl
/- function 23 -/
def c_laws_szMember : Cfg := ⟨tabVM, [], [], [.tmp 4]⟩
def p_laws_szMember : List (Bool × List Sh) := [(true, [.int .i64, .int .i64, .int .i64, .int .i64, .slice, .slice, .slice, .int .i64]), (false, [.int .i64])]
set_option maxRecDepth 100000 in
def t_laws_szMember : Tr :=
(.call F_laws_szByteS [(.x (.var (.slice) 4)), (.x (.var (.int .i64) 8))] false [(false, [.int .i64])]
(.lift (.br (.cm .lss (.var (.int .i64) 9) (.cst (.int .i64 0)))
 (.ret (.x (.cst (.int .i64 (-1)))))
 (.call F_laws_szByteS [(.x (.var (.slice) 5)), (.x (.var (.int .i64) 9))] false [(false, [.int .i64])]
 (.lift (.br (.cm .lss (.var (.int .i64) 10) (.cst (.int .i64 0)))
  (.ret (.x (.cst (.int .i64 (-1)))))
  (.call F_laws_szByteS [(.x (.var (.slice) 6)), (.x (.var (.int .i64) 10))] false [(false, [.int .i64])]
  (.lift (.br (.cm .lss (.var (.int .i64) 11) (.cst (.int .i64 0)))
   (.ret (.x (.cst (.int .i64 (-1)))))
   (.ret (.x (.var (.int .i64) 11))))))))))))
set_option maxRecDepth 100000 in
theorem s_laws_szMember : sxF c_laws_szMember Try.f23 p_laws_szMember = some t_laws_szMember := by kernel_rfl
theorem e_laws_szMember (xs : Array Value) (w : World) : (callFunc F_laws_szMember xs).runT Try.prog w #[] = (.ok (.enter F_laws_szMember xs) w, #[]) := ent_of Try.func23 (by kernel_rfl) (by kernel_rfl) xs w
theorem run_laws_szMember {S : Shared} {h : Eng.Heap} {Q : Value → Eng.Heap → Prop} {vs : List Value} (hsh : shOk (resShs p_laws_szMember) vs) (hi : Inv S h) (hw : t_laws_szMember.wp Try.prog S noLeaf Q vs h []) : CallsH Try.prog S F_laws_szMember (argVals p_laws_szMember vs) h Q :=
  sxF_ok (cfg := c_laws_szMember) tabVMOk mixedVM Try.func23 rfl s_laws_szMember e_laws_szMember rfl hsh hi hw
/- function 25 -/
def c_laws_toMember : Cfg := ⟨tabVM, [], [], [.cell 2 40]⟩
def p_laws_toMember : List (Bool × List Sh) := [(true, [.int .i64, .int .i64, .int .i64, .int .i64, .slice, .slice, .slice, .int .i64])]
set_option maxRecDepth 100000 in
def t_laws_toMember : Tr :=
(.call F_laws_toByteS [(.x (.var (.slice) 4))] false [(false, [.slice])]
(.call F_laws_toByteS [(.x (.var (.slice) 5))] false [(false, [.slice])]
(.call F_laws_toByteS [(.x (.var (.slice) 6))] false [(false, [.slice])]
(.ret (.agg [(.var (.int .i64) 0), (.var (.int .i64) 1), (.var (.int .i64) 2), (.var (.int .i64) 3), (.var (.slice) 8), (.var (.slice) 9), (.var (.slice) 10), (.var (.int .i64) 7)])))))
set_option maxRecDepth 100000 in
theorem s_laws_toMember : sxF c_laws_toMember Try.f25 p_laws_toMember = some t_laws_toMember := by kernel_rfl
theorem e_laws_toMember (xs : Array Value) (w : World) : (callFunc F_laws_toMember xs).runT Try.prog w #[] = (.ok (.enter F_laws_toMember xs) w, #[]) := ent_of Try.func25 (by kernel_rfl) (by kernel_rfl) xs w
theorem run_laws_toMember {S : Shared} {h : Eng.Heap} {Q : Value → Eng.Heap → Prop} {vs : List Value} (hsh : shOk (resShs p_laws_toMember) vs) (hi : Inv S h) (hw : t_laws_toMember.wp Try.prog S noLeaf Q vs h []) : CallsH Try.prog S F_laws_toMember (argVals p_laws_toMember vs) h Q :=
  sxF_ok (cfg := c_laws_toMember) tabVMOk mixedVM Try.func25 rfl s_laws_toMember e_laws_toMember rfl hsh hi hw
/- function 27 -/
def c_laws_eqMember : Cfg := ⟨tabVM, [], [], [.tmp 4]⟩
def p_laws_eqMember : List (Bool × List Sh) := [(true, [.int .i64, .int .i64, .int .i64, .int .i64, .slice, .slice, .slice, .int .i64]), (true, [.int .i64, .int .i64, .int .i64, .int .i64, .slice, .slice, .slice, .int .i64])]
set_option maxRecDepth 100000 in
def t_laws_eqMember : Tr :=
(.lift (.br (.cm .neq (.var (.int .i64) 0) (.var (.int .i64) 8))
 (.ret (.x (.cst (.bool false))))
 (.lift (.br (.cm .neq (.var (.int .i64) 1) (.var (.int .i64) 9))
  (.ret (.x (.cst (.bool false))))
  (.lift (.br (.cm .neq (.var (.int .i64) 2) (.var (.int .i64) 10))
   (.ret (.x (.cst (.bool false))))
   (.lift (.br (.cm .neq (.var (.int .i64) 3) (.var (.int .i64) 11))
    (.ret (.x (.cst (.bool false))))
    (.call F_laws_eqByteS [(.x (.var (.slice) 4)), (.x (.var (.slice) 12))] false [(false, [.bool])]
    (.lift (.br (.nt (.var (.bool) 16))
     (.ret (.x (.cst (.bool false))))
     (.call F_laws_eqByteS [(.x (.var (.slice) 5)), (.x (.var (.slice) 13))] false [(false, [.bool])]
     (.lift (.br (.nt (.var (.bool) 17))
      (.ret (.x (.cst (.bool false))))
      (.call F_laws_eqByteS [(.x (.var (.slice) 6)), (.x (.var (.slice) 14))] false [(false, [.bool])]
      (.lift (.br (.nt (.var (.bool) 18))
       (.ret (.x (.cst (.bool false))))
       (.lift (.br (.cm .neq (.var (.int .i64) 7) (.var (.int .i64) 15))
        (.ret (.x (.cst (.bool false))))
        (.ret (.x (.cst (.bool true)))))))))))))))))))))))
set_option maxRecDepth 100000 in
theorem s_laws_eqMember : sxF c_laws_eqMember Try.f27 p_laws_eqMember = some t_laws_eqMember := by kernel_rfl
theorem e_laws_eqMember (xs : Array Value) (w : World) : (callFunc F_laws_eqMember xs).runT Try.prog w #[] = (.ok (.enter F_laws_eqMember xs) w, #[]) := ent_of Try.func27 (by kernel_rfl) (by kernel_rfl) xs w
theorem run_laws_eqMember {S : Shared} {h : Eng.Heap} {Q : Value → Eng.Heap → Prop} {vs : List Value} (hsh : shOk (resShs p_laws_eqMember) vs) (hi : Inv S h) (hw : t_laws_eqMember.wp Try.prog S noLeaf Q vs h []) : CallsH Try.prog S F_laws_eqMember (argVals p_laws_eqMember vs) h Q :=
  sxF_ok (cfg := c_laws_eqMember) tabVMOk mixedVM Try.func27 rfl s_laws_eqMember e_laws_eqMember rfl hsh hi hw
/- function 28 -/
def c_laws_markMember : Cfg := ⟨tabVM, [], [], [.tmp 4]⟩
def p_laws_markMember : List (Bool × List Sh) := [(true, [.int .i64, .int .i64, .int .i64, .int .i64, .slice, .slice, .slice, .int .i64]), (false, [.int .i64])]
set_option maxRecDepth 100000 in
def t_laws_markMember : Tr :=
(.call F_laws_markByteS [(.x (.var (.slice) 4)), (.x (.var (.int .i64) 8))] false [(false, [.int .i64])]
(.call F_laws_markByteS [(.x (.var (.slice) 5)), (.x (.var (.int .i64) 9))] false [(false, [.int .i64])]
(.call F_laws_markByteS [(.x (.var (.slice) 6)), (.x (.var (.int .i64) 10))] false [(false, [.int .i64])]
(.ret (.x (.var (.int .i64) 11))))))
set_option maxRecDepth 100000 in
theorem s_laws_markMember : sxF c_laws_markMember Try.f28 p_laws_markMember = some t_laws_markMember := by kernel_rfl
theorem e_laws_markMember (xs : Array Value) (w : World) : (callFunc F_laws_markMember xs).runT Try.prog w #[] = (.ok (.enter F_laws_markMember xs) w, #[]) := ent_of Try.func28 (by kernel_rfl) (by kernel_rfl) xs w
theorem run_laws_markMember {S : Shared} {h : Eng.Heap} {Q : Value → Eng.Heap → Prop} {vs : List Value} (hsh : shOk (resShs p_laws_markMember) vs) (hi : Inv S h) (hw : t_laws_markMember.wp Try.prog S noLeaf Q vs h []) : CallsH Try.prog S F_laws_markMember (argVals p_laws_markMember vs) h Q :=
  sxF_ok (cfg := c_laws_markMember) tabVMOk mixedVM Try.func28 rfl s_laws_markMember e_laws_markMember rfl hsh hi hw
/- function 46 -/
def c_spec_ValidMember : Cfg := ⟨tabVM, [], [], [.tmp 2]⟩
def p_spec_ValidMember : List (Bool × List Sh) := [(true, [.int .i64, .int .i64, .int .i64, .int .i64, .slice, .slice, .slice, .int .i64])]
set_option maxRecDepth 100000 in
def t_spec_ValidMember : Tr :=
(.lift (.br (.it (.it (.it (.it (.it (.it (.it (.cm .lss (.var (.int .i64) 0) (.cst (.int .i64 0))) (.cst (.bool true)) (.cm .gtr (.var (.int .i64) 0) (.cst (.int .i64 31)))) (.cst (.bool true)) (.cm .lss (.var (.int .i64) 1) (.cst (.int .i64 0)))) (.cst (.bool true)) (.cm .gtr (.var (.int .i64) 1) (.cst (.int .i64 4294967295)))) (.cst (.bool true)) (.cm .lss (.var (.int .i64) 2) (.cst (.int .i64 0)))) (.cst (.bool true)) (.cm .gtr (.var (.int .i64) 2) (.cst (.int .i64 255)))) (.cst (.bool true)) (.cm .lss (.var (.int .i64) 3) (.cst (.int .i64 0)))) (.cst (.bool true)) (.cm .gtr (.var (.int .i64) 3) (.cst (.int .i64 255))))
 (.ret (.x (.cst (.bool false))))
 (.lift (.br (.it (.it (.it (.cm .eql (.ar .rem .i64 (.ar .quo .i64 (.var (.int .i64) 0) (.cst (.int .i64 4))) (.cst (.int .i64 2))) (.cst (.int .i64 0))) (.cm .gtr (.ln (.var (.slice) 4)) (.cst (.int .i64 0))) (.cst (.bool false))) (.cst (.bool true)) (.it (.cm .eql (.ar .rem .i64 (.ar .quo .i64 (.var (.int .i64) 0) (.cst (.int .i64 8))) (.cst (.int .i64 2))) (.cst (.int .i64 0))) (.cm .gtr (.ln (.var (.slice) 5)) (.cst (.int .i64 0))) (.cst (.bool false)))) (.cst (.bool true)) (.it (.cm .eql (.ar .rem .i64 (.ar .quo .i64 (.var (.int .i64) 0) (.cst (.int .i64 16))) (.cst (.int .i64 2))) (.cst (.int .i64 0))) (.cm .gtr (.ln (.var (.slice) 6)) (.cst (.int .i64 0))) (.cst (.bool false))))
  (.ret (.x (.cst (.bool false))))
  (.join [.bool, .bool, .bool, .bool, .bool, .bool, .bool, .bool, .bool, .bool]
   (.br (.cm .leq (.ln (.var (.slice) 4)) (.cst (.int .i64 65535)))
    (.call F_spec_l6NoZero [(.x (.var (.slice) 5))] false [(false, [.bool])]
    (.br (.var (.bool) 8)
     (.call F_spec_l6NoZero [(.x (.var (.slice) 6))] false [(false, [.bool])]
     (.cont 2 [(.it (.it (.it (.var (.bool) 9) (.cm .leq (.ar .add .i64 (.ar .add .i64 (.ln (.var (.slice) 4)) (.ln (.var (.slice) 5))) (.ln (.var (.slice) 6))) (.cst (.int .i64 65536))) (.cst (.bool false))) (.cm .geq (.var (.int .i64) 7) (.cst (.int .i64 0))) (.cst (.bool false))) (.cm .leq (.var (.int .i64) 7) (.cst (.int .i64 100000))) (.cst (.bool false))), (.var (.bool) 8), (.var (.bool) 8), (.var (.bool) 9), (.var (.bool) 9), (.it (.var (.bool) 9) (.cm .leq (.ar .add .i64 (.ar .add .i64 (.ln (.var (.slice) 4)) (.ln (.var (.slice) 5))) (.ln (.var (.slice) 6))) (.cst (.int .i64 65536))) (.cst (.bool false))), (.it (.var (.bool) 9) (.cm .leq (.ar .add .i64 (.ar .add .i64 (.ln (.var (.slice) 4)) (.ln (.var (.slice) 5))) (.ln (.var (.slice) 6))) (.cst (.int .i64 65536))) (.cst (.bool false))), (.it (.it (.var (.bool) 9) (.cm .leq (.ar .add .i64 (.ar .add .i64 (.ln (.var (.slice) 4)) (.ln (.var (.slice) 5))) (.ln (.var (.slice) 6))) (.cst (.int .i64 65536))) (.cst (.bool false))) (.cm .geq (.var (.int .i64) 7) (.cst (.int .i64 0))) (.cst (.bool false))), (.it (.it (.var (.bool) 9) (.cm .leq (.ar .add .i64 (.ar .add .i64 (.ln (.var (.slice) 4)) (.ln (.var (.slice) 5))) (.ln (.var (.slice) 6))) (.cst (.int .i64 65536))) (.cst (.bool false))) (.cm .geq (.var (.int .i64) 7) (.cst (.int .i64 0))) (.cst (.bool false))), (.it (.it (.it (.var (.bool) 9) (.cm .leq (.ar .add .i64 (.ar .add .i64 (.ln (.var (.slice) 4)) (.ln (.var (.slice) 5))) (.ln (.var (.slice) 6))) (.cst (.int .i64 65536))) (.cst (.bool false))) (.cm .geq (.var (.int .i64) 7) (.cst (.int .i64 0))) (.cst (.bool false))) (.cm .leq (.var (.int .i64) 7) (.cst (.int .i64 100000))) (.cst (.bool false)))]))
     (.cont 2 [(.cst (.bool false)), (.var (.bool) 8), (.var (.bool) 8), (.cst (.bool false)), (.cst (.bool false)), (.cst (.bool false)), (.cst (.bool false)), (.cst (.bool false)), (.cst (.bool false)), (.cst (.bool false))])))
    (.cont 2 [(.cst (.bool false)), (.cst (.bool false)), (.cst (.bool false)), (.cst (.bool false)), (.cst (.bool false)), (.cst (.bool false)), (.cst (.bool false)), (.cst (.bool false)), (.cst (.bool false)), (.cst (.bool false))]))
   (.ret (.x (.var (.bool) 8))))))))
set_option maxRecDepth 100000 in
theorem s_spec_ValidMember : sxF c_spec_ValidMember Try.f46 p_spec_ValidMember = some t_spec_ValidMember := by kernel_rfl
theorem e_spec_ValidMember (xs : Array Value) (w : World) : (callFunc F_spec_ValidMember xs).runT Try.prog w #[] = (.ok (.enter F_spec_ValidMember xs) w, #[]) := ent_of Try.func46 (by kernel_rfl) (by kernel_rfl) xs w
theorem run_spec_ValidMember {S : Shared} {h : Eng.Heap} {Q : Value → Eng.Heap → Prop} {vs : List Value} (hsh : shOk (resShs p_spec_ValidMember) vs) (hi : Inv S h) (hw : t_spec_ValidMember.wp Try.prog S noLeaf Q vs h []) : CallsH Try.prog S F_spec_ValidMember (argVals p_spec_ValidMember vs) h Q :=
  sxF_ok (cfg := c_spec_ValidMember) tabVMOk mixedVM Try.func46 rfl s_spec_ValidMember e_spec_ValidMember rfl hsh hi hw
/- function 47 -/
def c_impl_ValidMember : Cfg := ⟨tabVM, [], [1], [.tmp 2]⟩
def p_impl_ValidMember : List (Bool × List Sh) := [(true, [.int .i64, .int .i64, .int .i64, .int .i64, .slice, .slice, .slice, .int .i64])]
set_option maxRecDepth 100000 in
def t_impl_ValidMember : Tr :=
(.hall 40 [(1, (.var (.int .i64) 0)), (1, (.var (.int .i64) 1)), (1, (.var (.int .i64) 2)), (1, (.var (.int .i64) 3)), (1, (.var (.slice) 4)), (1, (.var (.slice) 5)), (1, (.var (.slice) 6)), (1, (.var (.int .i64) 7))]
(.join [.bool, .int .i64, .bool, .bool, .bool, .bool, .bool, .bool, .bool, .bool, .bool, .bool, .bool, .bool, .bool, .bool, .bool, .bool, .bool, .bool, .bool, .bool, .bool, .bool, .bool]
 (.load (.fld (.var (.addr) 8) 0) [.int .i64]
 (.call F_impl_ValidMember_1 [(.x (.var (.int .i64) 9)), (.x (.cst (.int .i64 31)))] false [(false, [.bool])]
 (.br (.var (.bool) 10)
  (.load (.fld (.var (.addr) 8) 1) [.int .i64]
  (.call F_impl_ValidMember_1 [(.x (.var (.int .i64) 11)), (.x (.cst (.int .i64 4294967295)))] false [(false, [.bool])]
  (.br (.var (.bool) 12)
   (.load (.fld (.var (.addr) 8) 2) [.int .i64]
   (.call F_impl_ValidMember_1 [(.x (.var (.int .i64) 13)), (.x (.cst (.int .i64 255)))] false [(false, [.bool])]
   (.br (.var (.bool) 14)
    (.load (.fld (.var (.addr) 8) 3) [.int .i64]
    (.call F_impl_ValidMember_1 [(.x (.var (.int .i64) 15)), (.x (.cst (.int .i64 255)))] false [(false, [.bool])]
    (.br (.var (.bool) 16)
     (.load (.fld (.var (.addr) 8) 4) [.slice]
     (.br (.cm .leq (.ln (.var (.slice) 17)) (.cst (.int .i64 65535)))
      (.load (.fld (.var (.addr) 8) 7) [.int .i64]
      (.call F_impl_ValidMember_1 [(.x (.var (.int .i64) 18)), (.x (.cst (.int .i64 100000)))] false [(false, [.bool])]
      (.br (.var (.bool) 19)
       (.load (.fld (.var (.addr) 8) 4) [.slice]
       (.call F_impl_ValidMember_2 [(.x (.var (.slice) 20)), (.x (.cst (.int .i64 4))), (.x (.var (.addr) 8))] false [(false, [.bool])]
       (.br (.var (.bool) 21)
        (.load (.fld (.var (.addr) 8) 5) [.slice]
        (.call F_impl_ValidMember_2 [(.x (.var (.slice) 22)), (.x (.cst (.int .i64 8))), (.x (.var (.addr) 8))] false [(false, [.bool])]
        (.br (.var (.bool) 23)
         (.load (.fld (.var (.addr) 8) 6) [.slice]
         (.call F_impl_ValidMember_2 [(.x (.var (.slice) 24)), (.x (.cst (.int .i64 16))), (.x (.var (.addr) 8))] false [(false, [.bool])]
         (.br (.var (.bool) 25)
          (.load (.fld (.var (.addr) 8) 5) [.slice]
          (.call F_impl_plainText [(.x (.var (.slice) 26))] false [(false, [.bool])]
          (.br (.var (.bool) 27)
           (.load (.fld (.var (.addr) 8) 6) [.slice]
           (.call F_impl_plainText [(.x (.var (.slice) 28))] false [(false, [.bool])]
           (.br (.var (.bool) 29)
            (.load (.fld (.var (.addr) 8) 4) [.slice]
            (.load (.fld (.var (.addr) 8) 5) [.slice]
            (.load (.fld (.var (.addr) 8) 6) [.slice]
            (.cont 0 [(.cm .leq (.ar .add .i64 (.ar .add .i64 (.ln (.var (.slice) 30)) (.ln (.var (.slice) 31))) (.ln (.var (.slice) 32))) (.cst (.int .i64 65536))), (.var (.int .i64) 9), (.var (.bool) 10), (.var (.bool) 10), (.var (.bool) 12), (.var (.bool) 12), (.var (.bool) 14), (.var (.bool) 14), (.var (.bool) 16), (.var (.bool) 16), (.cm .leq (.ln (.var (.slice) 17)) (.cst (.int .i64 65535))), (.cm .leq (.ln (.var (.slice) 17)) (.cst (.int .i64 65535))), (.var (.bool) 19), (.var (.bool) 19), (.var (.bool) 21), (.var (.bool) 21), (.var (.bool) 23), (.var (.bool) 23), (.var (.bool) 25), (.var (.bool) 25), (.var (.bool) 27), (.var (.bool) 27), (.var (.bool) 29), (.var (.bool) 29), (.cm .leq (.ar .add .i64 (.ar .add .i64 (.ln (.var (.slice) 30)) (.ln (.var (.slice) 31))) (.ln (.var (.slice) 32))) (.cst (.int .i64 65536)))]))))
            (.cont 0 [(.cst (.bool false)), (.var (.int .i64) 9), (.var (.bool) 10), (.var (.bool) 10), (.var (.bool) 12), (.var (.bool) 12), (.var (.bool) 14), (.var (.bool) 14), (.var (.bool) 16), (.var (.bool) 16), (.cm .leq (.ln (.var (.slice) 17)) (.cst (.int .i64 65535))), (.cm .leq (.ln (.var (.slice) 17)) (.cst (.int .i64 65535))), (.var (.bool) 19), (.var (.bool) 19), (.var (.bool) 21), (.var (.bool) 21), (.var (.bool) 23), (.var (.bool) 23), (.var (.bool) 25), (.var (.bool) 25), (.var (.bool) 27), (.var (.bool) 27), (.var (.bool) 29), (.var (.bool) 29), (.cst (.bool false))]))))
           (.cont 0 [(.cst (.bool false)), (.var (.int .i64) 9), (.var (.bool) 10), (.var (.bool) 10), (.var (.bool) 12), (.var (.bool) 12), (.var (.bool) 14), (.var (.bool) 14), (.var (.bool) 16), (.var (.bool) 16), (.cm .leq (.ln (.var (.slice) 17)) (.cst (.int .i64 65535))), (.cm .leq (.ln (.var (.slice) 17)) (.cst (.int .i64 65535))), (.var (.bool) 19), (.var (.bool) 19), (.var (.bool) 21), (.var (.bool) 21), (.var (.bool) 23), (.var (.bool) 23), (.var (.bool) 25), (.var (.bool) 25), (.var (.bool) 27), (.var (.bool) 27), (.cst (.bool false)), (.cst (.bool false)), (.cst (.bool false))]))))
          (.cont 0 [(.cst (.bool false)), (.var (.int .i64) 9), (.var (.bool) 10), (.var (.bool) 10), (.var (.bool) 12), (.var (.bool) 12), (.var (.bool) 14), (.var (.bool) 14), (.var (.bool) 16), (.var (.bool) 16), (.cm .leq (.ln (.var (.slice) 17)) (.cst (.int .i64 65535))), (.cm .leq (.ln (.var (.slice) 17)) (.cst (.int .i64 65535))), (.var (.bool) 19), (.var (.bool) 19), (.var (.bool) 21), (.var (.bool) 21), (.var (.bool) 23), (.var (.bool) 23), (.var (.bool) 25), (.var (.bool) 25), (.cst (.bool false)), (.cst (.bool false)), (.cst (.bool false)), (.cst (.bool false)), (.cst (.bool false))]))))
         (.cont 0 [(.cst (.bool false)), (.var (.int .i64) 9), (.var (.bool) 10), (.var (.bool) 10), (.var (.bool) 12), (.var (.bool) 12), (.var (.bool) 14), (.var (.bool) 14), (.var (.bool) 16), (.var (.bool) 16), (.cm .leq (.ln (.var (.slice) 17)) (.cst (.int .i64 65535))), (.cm .leq (.ln (.var (.slice) 17)) (.cst (.int .i64 65535))), (.var (.bool) 19), (.var (.bool) 19), (.var (.bool) 21), (.var (.bool) 21), (.var (.bool) 23), (.var (.bool) 23), (.cst (.bool false)), (.cst (.bool false)), (.cst (.bool false)), (.cst (.bool false)), (.cst (.bool false)), (.cst (.bool false)), (.cst (.bool false))]))))
        (.cont 0 [(.cst (.bool false)), (.var (.int .i64) 9), (.var (.bool) 10), (.var (.bool) 10), (.var (.bool) 12), (.var (.bool) 12), (.var (.bool) 14), (.var (.bool) 14), (.var (.bool) 16), (.var (.bool) 16), (.cm .leq (.ln (.var (.slice) 17)) (.cst (.int .i64 65535))), (.cm .leq (.ln (.var (.slice) 17)) (.cst (.int .i64 65535))), (.var (.bool) 19), (.var (.bool) 19), (.var (.bool) 21), (.var (.bool) 21), (.cst (.bool false)), (.cst (.bool false)), (.cst (.bool false)), (.cst (.bool false)), (.cst (.bool false)), (.cst (.bool false)), (.cst (.bool false)), (.cst (.bool false)), (.cst (.bool false))]))))
       (.cont 0 [(.cst (.bool false)), (.var (.int .i64) 9), (.var (.bool) 10), (.var (.bool) 10), (.var (.bool) 12), (.var (.bool) 12), (.var (.bool) 14), (.var (.bool) 14), (.var (.bool) 16), (.var (.bool) 16), (.cm .leq (.ln (.var (.slice) 17)) (.cst (.int .i64 65535))), (.cm .leq (.ln (.var (.slice) 17)) (.cst (.int .i64 65535))), (.var (.bool) 19), (.var (.bool) 19), (.cst (.bool false)), (.cst (.bool false)), (.cst (.bool false)), (.cst (.bool false)), (.cst (.bool false)), (.cst (.bool false)), (.cst (.bool false)), (.cst (.bool false)), (.cst (.bool false)), (.cst (.bool false)), (.cst (.bool false))]))))
      (.cont 0 [(.cst (.bool false)), (.var (.int .i64) 9), (.var (.bool) 10), (.var (.bool) 10), (.var (.bool) 12), (.var (.bool) 12), (.var (.bool) 14), (.var (.bool) 14), (.var (.bool) 16), (.var (.bool) 16), (.cm .leq (.ln (.var (.slice) 17)) (.cst (.int .i64 65535))), (.cm .leq (.ln (.var (.slice) 17)) (.cst (.int .i64 65535))), (.cst (.bool false)), (.cst (.bool false)), (.cst (.bool false)), (.cst (.bool false)), (.cst (.bool false)), (.cst (.bool false)), (.cst (.bool false)), (.cst (.bool false)), (.cst (.bool false)), (.cst (.bool false)), (.cst (.bool false)), (.cst (.bool false)), (.cst (.bool false))])))
     (.cont 0 [(.cst (.bool false)), (.var (.int .i64) 9), (.var (.bool) 10), (.var (.bool) 10), (.var (.bool) 12), (.var (.bool) 12), (.var (.bool) 14), (.var (.bool) 14), (.var (.bool) 16), (.var (.bool) 16), (.cst (.bool false)), (.cst (.bool false)), (.cst (.bool false)), (.cst (.bool false)), (.cst (.bool false)), (.cst (.bool false)), (.cst (.bool false)), (.cst (.bool false)), (.cst (.bool false)), (.cst (.bool false)), (.cst (.bool false)), (.cst (.bool false)), (.cst (.bool false)), (.cst (.bool false)), (.cst (.bool false))]))))
    (.cont 0 [(.cst (.bool false)), (.var (.int .i64) 9), (.var (.bool) 10), (.var (.bool) 10), (.var (.bool) 12), (.var (.bool) 12), (.var (.bool) 14), (.var (.bool) 14), (.cst (.bool false)), (.cst (.bool false)), (.cst (.bool false)), (.cst (.bool false)), (.cst (.bool false)), (.cst (.bool false)), (.cst (.bool false)), (.cst (.bool false)), (.cst (.bool false)), (.cst (.bool false)), (.cst (.bool false)), (.cst (.bool false)), (.cst (.bool false)), (.cst (.bool false)), (.cst (.bool false)), (.cst (.bool false)), (.cst (.bool false))]))))
   (.cont 0 [(.cst (.bool false)), (.var (.int .i64) 9), (.var (.bool) 10), (.var (.bool) 10), (.var (.bool) 12), (.var (.bool) 12), (.cst (.bool false)), (.cst (.bool false)), (.cst (.bool false)), (.cst (.bool false)), (.cst (.bool false)), (.cst (.bool false)), (.cst (.bool false)), (.cst (.bool false)), (.cst (.bool false)), (.cst (.bool false)), (.cst (.bool false)), (.cst (.bool false)), (.cst (.bool false)), (.cst (.bool false)), (.cst (.bool false)), (.cst (.bool false)), (.cst (.bool false)), (.cst (.bool false)), (.cst (.bool false))]))))
  (.cont 0 [(.cst (.bool false)), (.var (.int .i64) 9), (.var (.bool) 10), (.var (.bool) 10), (.cst (.bool false)), (.cst (.bool false)), (.cst (.bool false)), (.cst (.bool false)), (.cst (.bool false)), (.cst (.bool false)), (.cst (.bool false)), (.cst (.bool false)), (.cst (.bool false)), (.cst (.bool false)), (.cst (.bool false)), (.cst (.bool false)), (.cst (.bool false)), (.cst (.bool false)), (.cst (.bool false)), (.cst (.bool false)), (.cst (.bool false)), (.cst (.bool false)), (.cst (.bool false)), (.cst (.bool false)), (.cst (.bool false))]))))
 (.ret (.x (.var (.bool) 9)))))
set_option maxRecDepth 100000 in
theorem s_impl_ValidMember : sxF c_impl_ValidMember Try.f47 p_impl_ValidMember = some t_impl_ValidMember := by kernel_rfl
theorem e_impl_ValidMember (xs : Array Value) (w : World) : (callFunc F_impl_ValidMember xs).runT Try.prog w #[] = (.ok (.enter F_impl_ValidMember xs) w, #[]) := ent_of Try.func47 (by kernel_rfl) (by kernel_rfl) xs w
theorem run_impl_ValidMember {S : Shared} {h : Eng.Heap} {Q : Value → Eng.Heap → Prop} {vs : List Value} (hsh : shOk (resShs p_impl_ValidMember) vs) (hi : Inv S h) (hw : t_impl_ValidMember.wp Try.prog S noLeaf Q vs h []) : CallsH Try.prog S F_impl_ValidMember (argVals p_impl_ValidMember vs) h Q :=
  sxF_ok (cfg := c_impl_ValidMember) tabVMOk mixedVM Try.func47 rfl s_impl_ValidMember e_impl_ValidMember rfl hsh hi hw
/- function 61 -/
def c_spec_l6NoZero : Cfg := ⟨tabVM, [⟨2, [3], [], [4, 5, 6, 7, 8, 9, 10, 11, 12, 13, 14]⟩], [], [.tmp 2]⟩
def p_spec_l6NoZero : List (Bool × List Sh) := [(false, [.slice])]
set_option maxRecDepth 100000 in
def t_spec_l6NoZero : Tr :=
(.loop [.int .i64] [(.cst (.int .i64 0))]
 (.lift (.br (.cm .lss (.var (.int .i64) 1) (.ln (.var (.slice) 0)))
  (.need (.nt (.nn (.var (.slice) 0)))
  (.need (.cm .leq (.cst (.int .i64 0)) (.var (.int .i64) 1))
  (.need (.cm .lss (.var (.int .i64) 1) (.ln (.var (.slice) 0)))
  (.load (.ix 1 (.var (.slice) 0) (.var (.int .i64) 1)) [.int .u8]
  (.lift (.br (.cm .eql (.var (.int .u8) 2) (.cst (.int .u8 0)))
   (.ret (.x (.cst (.bool false))))
   (.cont 0 [(.ar .add .i64 (.var (.int .i64) 1) (.cst (.int .i64 1)))])))))))
  (.ret (.x (.cst (.bool true)))))))
set_option maxRecDepth 100000 in
theorem s_spec_l6NoZero : sxF c_spec_l6NoZero Try.f61 p_spec_l6NoZero = some t_spec_l6NoZero := by kernel_rfl
theorem e_spec_l6NoZero (xs : Array Value) (w : World) : (callFunc F_spec_l6NoZero xs).runT Try.prog w #[] = (.ok (.enter F_spec_l6NoZero xs) w, #[]) := ent_of Try.func61 (by kernel_rfl) (by kernel_rfl) xs w
theorem run_spec_l6NoZero {S : Shared} {h : Eng.Heap} {Q : Value → Eng.Heap → Prop} {vs : List Value} (hsh : shOk (resShs p_spec_l6NoZero) vs) (hi : Inv S h) (hw : t_spec_l6NoZero.wp Try.prog S noLeaf Q vs h []) : CallsH Try.prog S F_spec_l6NoZero (argVals p_spec_l6NoZero vs) h Q :=
  sxF_ok (cfg := c_spec_l6NoZero) tabVMOk mixedVM Try.func61 rfl s_spec_l6NoZero e_spec_l6NoZero rfl hsh hi hw
/- function 62 -/
def c_impl_ValidMember_1 : Cfg := ⟨tabVM, [], [], [.tmp 4]⟩
def p_impl_ValidMember_1 : List (Bool × List Sh) := [(false, [.int .i64]), (false, [.int .i64])]
set_option maxRecDepth 100000 in
def t_impl_ValidMember_1 : Tr :=
(.ret (.x (.it (.cm .geq (.var (.int .i64) 0) (.cst (.int .i64 0))) (.cm .leq (.var (.int .i64) 0) (.var (.int .i64) 1)) (.cst (.bool false)))))
set_option maxRecDepth 100000 in
theorem s_impl_ValidMember_1 : sxF c_impl_ValidMember_1 Try.f62 p_impl_ValidMember_1 = some t_impl_ValidMember_1 := by kernel_rfl
theorem e_impl_ValidMember_1 (xs : Array Value) (w : World) : (callFunc F_impl_ValidMember_1 xs).runT Try.prog w #[] = (.ok (.enter F_impl_ValidMember_1 xs) w, #[]) := ent_of Try.func62 (by kernel_rfl) (by kernel_rfl) xs w
theorem run_impl_ValidMember_1 {S : Shared} {h : Eng.Heap} {Q : Value → Eng.Heap → Prop} {vs : List Value} (hsh : shOk (resShs p_impl_ValidMember_1) vs) (hi : Inv S h) (hw : t_impl_ValidMember_1.wp Try.prog S noLeaf Q vs h []) : CallsH Try.prog S F_impl_ValidMember_1 (argVals p_impl_ValidMember_1 vs) h Q :=
  sxF_ok (cfg := c_impl_ValidMember_1) tabVMOk mixedVM Try.func62 rfl s_impl_ValidMember_1 e_impl_ValidMember_1 rfl hsh hi hw
/- function 63 -/
def c_impl_ValidMember_2 : Cfg := ⟨tabVM, [], [], [.tmp 5]⟩
def p_impl_ValidMember_2 : List (Bool × List Sh) := [(false, [.slice]), (false, [.int .i64]), (false, [.addr])]
set_option maxRecDepth 100000 in
def t_impl_ValidMember_2 : Tr :=
(.join [.bool, .bool]
 (.br (.nt (.cm .eql (.ln (.var (.slice) 0)) (.cst (.int .i64 0))))
  (.load (.fld (.var (.addr) 2) 0) [.int .i64]
  (.cont 0 [(.cm .neq (.ar .and .i64 (.var (.int .i64) 3) (.var (.int .i64) 1)) (.cst (.int .i64 0))), (.cm .neq (.ar .and .i64 (.var (.int .i64) 3) (.var (.int .i64) 1)) (.cst (.int .i64 0)))]))
  (.cont 0 [(.cst (.bool true)), (.cst (.bool true))]))
 (.ret (.x (.var (.bool) 3))))
set_option maxRecDepth 100000 in
theorem s_impl_ValidMember_2 : sxF c_impl_ValidMember_2 Try.f63 p_impl_ValidMember_2 = some t_impl_ValidMember_2 := by kernel_rfl
theorem e_impl_ValidMember_2 (xs : Array Value) (w : World) : (callFunc F_impl_ValidMember_2 xs).runT Try.prog w #[] = (.ok (.enter F_impl_ValidMember_2 xs) w, #[]) := ent_of Try.func63 (by kernel_rfl) (by kernel_rfl) xs w
theorem run_impl_ValidMember_2 {S : Shared} {h : Eng.Heap} {Q : Value → Eng.Heap → Prop} {vs : List Value} (hsh : shOk (resShs p_impl_ValidMember_2) vs) (hi : Inv S h) (hw : t_impl_ValidMember_2.wp Try.prog S noLeaf Q vs h []) : CallsH Try.prog S F_impl_ValidMember_2 (argVals p_impl_ValidMember_2 vs) h Q :=
  sxF_ok (cfg := c_impl_ValidMember_2) tabVMOk mixedVM Try.func63 rfl s_impl_ValidMember_2 e_impl_ValidMember_2 rfl hsh hi hw
/- function 64 -/
def c_impl_plainText : Cfg := ⟨tabVM, [⟨2, [7], [], [4, 8, 9, 10, 11, 12, 13]⟩], [], [.tmp 2]⟩
def p_impl_plainText : List (Bool × List Sh) := [(false, [.slice])]
set_option maxRecDepth 100000 in
def t_impl_plainText : Tr :=
(.loop [.int .i64] [(.cst (.int .i64 0))]
 (.lift (.br (.cm .lss (.var (.int .i64) 1) (.ln (.var (.slice) 0)))
  (.need (.nt (.nn (.var (.slice) 0)))
  (.need (.cm .leq (.cst (.int .i64 0)) (.var (.int .i64) 1))
  (.need (.cm .lss (.var (.int .i64) 1) (.ln (.var (.slice) 0)))
  (.load (.ix 1 (.var (.slice) 0) (.var (.int .i64) 1)) [.int .u8]
  (.lift (.br (.cm .eql (.var (.int .u8) 2) (.cst (.int .u8 0)))
   (.ret (.x (.cst (.bool false))))
   (.cont 0 [(.ar .add .i64 (.var (.int .i64) 1) (.cst (.int .i64 1)))])))))))
  (.ret (.x (.cst (.bool true)))))))
set_option maxRecDepth 100000 in
theorem s_impl_plainText : sxF c_impl_plainText Try.f64 p_impl_plainText = some t_impl_plainText := by kernel_rfl
theorem e_impl_plainText (xs : Array Value) (w : World) : (callFunc F_impl_plainText xs).runT Try.prog w #[] = (.ok (.enter F_impl_plainText xs) w, #[]) := ent_of Try.func64 (by kernel_rfl) (by kernel_rfl) xs w
theorem run_impl_plainText {S : Shared} {h : Eng.Heap} {Q : Value → Eng.Heap → Prop} {vs : List Value} (hsh : shOk (resShs p_impl_plainText) vs) (hi : Inv S h) (hw : t_impl_plainText.wp Try.prog S noLeaf Q vs h []) : CallsH Try.prog S F_impl_plainText (argVals p_impl_plainText vs) h Q :=
  sxF_ok (cfg := c_impl_plainText) tabVMOk mixedVM Try.func64 rfl s_impl_plainText e_impl_plainText rfl hsh hi hw
end Go.Proofs.Ytmnialmphlbmaaa
