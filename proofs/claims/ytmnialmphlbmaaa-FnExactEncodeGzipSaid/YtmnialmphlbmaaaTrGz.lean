-- printed by a generator of my own (wip/eng/Gen) from the translation
import Derived.Test.YtmnialmphlbmaaaEng2
import Derived.Test.YtmnialmphlbmaaaChecked
import Derived.Test.YtmnialmphlbmaaaNums
set_option linter.unusedVariables false
set_option linter.unusedSimpArgs false
namespace Go.Proofs.Ytmnialmphlbmaaa
open Go Go.Eng
def tabGz : List (TypeId × TyD) := [(0, ⟨.oth, 1, 0, [], none, some []⟩),
  (2, ⟨(.int .i64), 1, 8, [.int .i64], some [(1, (.int .i64 0))], none⟩),
  (3, ⟨(.int .i64), 1, 8, [.int .i64], some [(1, (.int .i64 0))], none⟩),
  (4, ⟨.bool, 1, 1, [.bool], some [(1, (.bool false))], none⟩),
  (5, ⟨(.int .u8), 1, 1, [.int .u8], some [(1, (.int .u8 0))], none⟩),
  (22, ⟨(.int .u32), 1, 4, [.int .u32], some [(1, (.int .u32 0))], none⟩),
  (23, ⟨(.sl 5), 1, 24, [.slice], some [(1, .nilSl)], none⟩),
  (37, ⟨(.st [(0, 2), (1, 2), (2, 2), (3, 2), (4, 23), (5, 23), (6, 23), (7, 2)]), 8, 112, [.int .i64, .int .i64, .int .i64, .int .i64, .slice, .slice, .slice, .int .i64], some [(4, (.int .i64 0)), (3, .nilSl), (1, (.int .i64 0))], none⟩),
  (40, ⟨(.st [(0, 2), (1, 2), (2, 2), (3, 2), (4, 23), (5, 23), (6, 23), (7, 2)]), 8, 112, [.int .i64, .int .i64, .int .i64, .int .i64, .slice, .slice, .slice, .int .i64], some [(4, (.int .i64 0)), (3, .nilSl), (1, (.int .i64 0))], none⟩),
  (58, ⟨(.int .u64), 1, 8, [.int .u64], some [(1, (.int .u64 0))], none⟩)]
set_option maxRecDepth 100000 in
theorem tabGzOk : TabOk Try.prog tabGz := tabOk_of (by kernel_rfl)
theorem mixedGz : Try.prog.follows .mixedOrders = true := by kernel_rfl
/- function 8 -/
def c_laws_FnExactEncodeGzip : Cfg := ⟨tabGz, [], [], [.tmp 4]⟩
def p_laws_FnExactEncodeGzip : List (Bool × List Sh) := [(true, [.int .i64, .int .i64, .int .i64, .int .i64, .slice, .slice, .slice, .int .i64]), (false, [.slice])]
set_option maxRecDepth 100000 in
def t_laws_FnExactEncodeGzip : Tr :=
(.lift (.br (.cm .gtr (.ln (.var (.slice) 8)) (.cst (.int .i64 1048576)))
 (.ret (.x (.cst (.bool true))))
 (.call F_laws_szMember [(.agg [(.var (.int .i64) 0), (.var (.int .i64) 1), (.var (.int .i64) 2), (.var (.int .i64) 3), (.var (.slice) 4), (.var (.slice) 5), (.var (.slice) 6), (.var (.int .i64) 7)]), (.x (.cst (.int .i64 1048576)))] false [(false, [.int .i64])]
 (.lift (.br (.cm .lss (.var (.int .i64) 9) (.cst (.int .i64 0)))
  (.ret (.x (.cst (.bool true))))
  (.call F_laws_toMember [(.agg [(.var (.int .i64) 0), (.var (.int .i64) 1), (.var (.int .i64) 2), (.var (.int .i64) 3), (.var (.slice) 4), (.var (.slice) 5), (.var (.slice) 6), (.var (.int .i64) 7)])] false [(true, [.int .i64, .int .i64, .int .i64, .int .i64, .slice, .slice, .slice, .int .i64])]
  (.call F_laws_toByteS [(.x (.var (.slice) 8))] false [(false, [.slice])]
  (.call F_spec_EncodeGzip [(.agg [(.var (.int .i64) 10), (.var (.int .i64) 11), (.var (.int .i64) 12), (.var (.int .i64) 13), (.var (.slice) 14), (.var (.slice) 15), (.var (.slice) 16), (.var (.int .i64) 17)]), (.x (.var (.slice) 18))] false [(false, [.slice])]
  (.call F_laws_toMember [(.agg [(.var (.int .i64) 0), (.var (.int .i64) 1), (.var (.int .i64) 2), (.var (.int .i64) 3), (.var (.slice) 4), (.var (.slice) 5), (.var (.slice) 6), (.var (.int .i64) 7)])] false [(true, [.int .i64, .int .i64, .int .i64, .int .i64, .slice, .slice, .slice, .int .i64])]
  (.call F_laws_toByteS [(.x (.var (.slice) 8))] false [(false, [.slice])]
  (.call F_impl_EncodeGzip [(.agg [(.var (.int .i64) 20), (.var (.int .i64) 21), (.var (.int .i64) 22), (.var (.int .i64) 23), (.var (.slice) 24), (.var (.slice) 25), (.var (.slice) 26), (.var (.int .i64) 27)]), (.x (.var (.slice) 28))] false [(false, [.slice])]
  (.call F_laws_eqByteS [(.x (.var (.slice) 29)), (.x (.var (.slice) 19))] false [(false, [.bool])]
  (.lift (.br (.nt (.var (.bool) 30))
   (.ret (.x (.cst (.bool false))))
   (.call F_laws_toMember [(.agg [(.var (.int .i64) 0), (.var (.int .i64) 1), (.var (.int .i64) 2), (.var (.int .i64) 3), (.var (.slice) 4), (.var (.slice) 5), (.var (.slice) 6), (.var (.int .i64) 7)])] false [(true, [.int .i64, .int .i64, .int .i64, .int .i64, .slice, .slice, .slice, .int .i64])]
   (.call F_laws_eqMember [(.agg [(.var (.int .i64) 20), (.var (.int .i64) 21), (.var (.int .i64) 22), (.var (.int .i64) 23), (.var (.slice) 24), (.var (.slice) 25), (.var (.slice) 26), (.var (.int .i64) 27)]), (.agg [(.var (.int .i64) 31), (.var (.int .i64) 32), (.var (.int .i64) 33), (.var (.int .i64) 34), (.var (.slice) 35), (.var (.slice) 36), (.var (.slice) 37), (.var (.int .i64) 38)])] false [(false, [.bool])]
   (.lift (.br (.nt (.var (.bool) 39))
    (.ret (.x (.cst (.bool false))))
    (.call F_laws_toByteS [(.x (.var (.slice) 8))] false [(false, [.slice])]
    (.call F_laws_eqByteS [(.x (.var (.slice) 28)), (.x (.var (.slice) 40))] false [(false, [.bool])]
    (.lift (.br (.nt (.var (.bool) 41))
     (.ret (.x (.cst (.bool false))))
     (.call F_laws_markMember [(.agg [(.var (.int .i64) 20), (.var (.int .i64) 21), (.var (.int .i64) 22), (.var (.int .i64) 23), (.var (.slice) 24), (.var (.slice) 25), (.var (.slice) 26), (.var (.int .i64) 27)]), (.x (.cst (.int .i64 1)))] false [(false, [.int .i64])]
     (.call F_laws_markByteS [(.x (.var (.slice) 28)), (.x (.var (.int .i64) 42))] false [(false, [.int .i64])]
     (.join [.bool]
      (.br (.nt (.cm .lss (.var (.int .i64) 43) (.cst (.int .i64 0))))
       (.call F_laws_eqByteS [(.x (.var (.slice) 29)), (.x (.var (.slice) 19))] false [(false, [.bool])]
       (.cont 5 [(.nt (.var (.bool) 44))]))
       (.cont 5 [(.cst (.bool true))]))
      (.lift (.br (.var (.bool) 44)
       (.ret (.x (.cst (.bool false))))
       (.call F_laws_markByteS [(.x (.var (.slice) 29)), (.x (.cst (.int .i64 1)))] false [(false, [.int .i64])]
       (.call F_laws_heldByteS [(.x (.var (.slice) 29)), (.x (.cst (.int .i64 1)))] false [(false, [.int .i64])]
       (.lift (.br (.cm .lss (.var (.int .i64) 46) (.cst (.int .i64 0)))
        (.ret (.x (.cst (.bool false))))
        (.lift (.br (.cm .neq (.var (.int .i64) 46) (.var (.int .i64) 45))
         (.ret (.x (.cst (.bool false))))
         (.call F_laws_toMember [(.agg [(.var (.int .i64) 0), (.var (.int .i64) 1), (.var (.int .i64) 2), (.var (.int .i64) 3), (.var (.slice) 4), (.var (.slice) 5), (.var (.slice) 6), (.var (.int .i64) 7)])] false [(true, [.int .i64, .int .i64, .int .i64, .int .i64, .slice, .slice, .slice, .int .i64])]
         (.call F_laws_toByteS [(.x (.var (.slice) 8))] false [(false, [.slice])]
         (.call F_impl_EncodeGzip [(.agg [(.var (.int .i64) 47), (.var (.int .i64) 48), (.var (.int .i64) 49), (.var (.int .i64) 50), (.var (.slice) 51), (.var (.slice) 52), (.var (.slice) 53), (.var (.int .i64) 54)]), (.x (.var (.slice) 55))] false [(false, [.slice])]
         (.call F_laws_eqByteS [(.x (.var (.slice) 56)), (.x (.var (.slice) 19))] false [(false, [.bool])]
         (.lift (.br (.nt (.var (.bool) 57))
          (.ret (.x (.cst (.bool false))))
          (.call F_laws_heldByteS [(.x (.var (.slice) 29)), (.x (.cst (.int .i64 1)))] false [(false, [.int .i64])]
          (.lift (.br (.cm .lss (.var (.int .i64) 58) (.cst (.int .i64 0)))
           (.ret (.x (.cst (.bool false))))
           (.lift (.br (.cm .neq (.var (.int .i64) 58) (.var (.int .i64) 45))
            (.ret (.x (.cst (.bool false))))
            (.ret (.x (.cst (.bool true))))))))))))))))))))))))))))))))))))))))))))))))
set_option maxRecDepth 100000 in
theorem s_laws_FnExactEncodeGzip : sxF c_laws_FnExactEncodeGzip Try.f8 p_laws_FnExactEncodeGzip = some t_laws_FnExactEncodeGzip := by kernel_rfl
theorem e_laws_FnExactEncodeGzip (xs : Array Value) (w : World) : (callFunc F_laws_FnExactEncodeGzip xs).runT Try.prog w #[] = (.ok (.enter F_laws_FnExactEncodeGzip xs) w, #[]) := ent_of Try.func8 (by kernel_rfl) (by kernel_rfl) xs w
theorem run_laws_FnExactEncodeGzip {S : Shared} {h : Eng.Heap} {Q : Value → Eng.Heap → Prop} {vs : List Value} (hsh : shOk (resShs p_laws_FnExactEncodeGzip) vs) (hi : Inv S h) (hw : t_laws_FnExactEncodeGzip.wp Try.prog S noLeaf Q vs h []) : CallsH Try.prog S F_laws_FnExactEncodeGzip (argVals p_laws_FnExactEncodeGzip vs) h Q :=
  sxF_ok (cfg := c_laws_FnExactEncodeGzip) tabGzOk mixedGz Try.func8 rfl s_laws_FnExactEncodeGzip e_laws_FnExactEncodeGzip rfl hsh hi hw
/- function 24 -/
def c_spec_EncodeGzip : Cfg := ⟨tabGz, [], [], [.tmp 4]⟩
def p_spec_EncodeGzip : List (Bool × List Sh) := [(true, [.int .i64, .int .i64, .int .i64, .int .i64, .slice, .slice, .slice, .int .i64]), (false, [.slice])]
set_option maxRecDepth 100000 in
def t_spec_EncodeGzip : Tr :=
(.call F_spec_ValidMember [(.agg [(.var (.int .i64) 0), (.var (.int .i64) 1), (.var (.int .i64) 2), (.var (.int .i64) 3), (.var (.slice) 4), (.var (.slice) 5), (.var (.slice) 6), (.var (.int .i64) 7)])] false [(false, [.bool])]
(.lift (.br (.it (.nt (.var (.bool) 9)) (.cst (.bool true)) (.cm .neq (.var (.int .i64) 7) (.ln (.var (.slice) 8))))
 (.hsl 5 0 []
 (.ret (.x (.var (.slice) 10))))
 (.hsl 5 4 [(.cst (.int .u8 31)), (.cst (.int .u8 139)), (.cst (.int .u8 8)), (.cv .u8 (.var (.int .i64) 0))]
 (.call F_spec_l6Put [(.x (.cv .u64 (.var (.int .i64) 1))), (.x (.cst (.int .i64 4))), (.x (.cst (.bool false)))] false [(false, [.slice])]
 (.app 5 1 1 [(.int .u8 0)] (.var (.slice) 10) (.var (.slice) 11)
 (.hsl 5 2 [(.cv .u8 (.var (.int .i64) 2)), (.cv .u8 (.var (.int .i64) 3))]
 (.app 5 1 1 [(.int .u8 0)] (.var (.slice) 12) (.var (.slice) 13)
 (.join [.slice]
  (.br (.cm .eql (.ar .rem .i64 (.ar .quo .i64 (.var (.int .i64) 0) (.cst (.int .i64 4))) (.cst (.int .i64 2))) (.cst (.int .i64 1)))
   (.call F_spec_l6Put [(.x (.cv .u64 (.ln (.var (.slice) 4)))), (.x (.cst (.int .i64 2))), (.x (.cst (.bool false)))] false [(false, [.slice])]
   (.app 5 1 1 [(.int .u8 0)] (.var (.slice) 14) (.var (.slice) 15)
   (.app 5 1 1 [(.int .u8 0)] (.var (.slice) 16) (.var (.slice) 4)
   (.cont 1 [(.var (.slice) 17)]))))
   (.cont 1 [(.var (.slice) 14)]))
  (.join [.slice]
   (.br (.cm .eql (.ar .rem .i64 (.ar .quo .i64 (.var (.int .i64) 0) (.cst (.int .i64 8))) (.cst (.int .i64 2))) (.cst (.int .i64 1)))
    (.app 5 1 1 [(.int .u8 0)] (.var (.slice) 15) (.var (.slice) 5)
    (.hsl 5 1 [(.cst (.int .u8 0))]
    (.app 5 1 1 [(.int .u8 0)] (.var (.slice) 16) (.var (.slice) 17)
    (.cont 1 [(.var (.slice) 18)]))))
    (.cont 1 [(.var (.slice) 15)]))
   (.join [.slice]
    (.br (.cm .eql (.ar .rem .i64 (.ar .quo .i64 (.var (.int .i64) 0) (.cst (.int .i64 16))) (.cst (.int .i64 2))) (.cst (.int .i64 1)))
     (.app 5 1 1 [(.int .u8 0)] (.var (.slice) 16) (.var (.slice) 6)
     (.hsl 5 1 [(.cst (.int .u8 0))]
     (.app 5 1 1 [(.int .u8 0)] (.var (.slice) 17) (.var (.slice) 18)
     (.cont 1 [(.var (.slice) 19)]))))
     (.cont 1 [(.var (.slice) 16)]))
    (.join [.slice]
     (.br (.cm .eql (.ar .rem .i64 (.ar .quo .i64 (.var (.int .i64) 0) (.cst (.int .i64 2))) (.cst (.int .i64 2))) (.cst (.int .i64 1)))
      (.call F_spec_CrcUpdate [(.x (.cst (.int .u32 0))), (.x (.var (.slice) 17))] false [(false, [.int .u32])]
      (.call F_spec_l6Put [(.x (.cv .u64 (.ar .rem .u32 (.var (.int .u32) 18) (.cst (.int .u32 65536))))), (.x (.cst (.int .i64 2))), (.x (.cst (.bool false)))] false [(false, [.slice])]
      (.app 5 1 1 [(.int .u8 0)] (.var (.slice) 17) (.var (.slice) 19)
      (.cont 1 [(.var (.slice) 20)]))))
      (.cont 1 [(.var (.slice) 17)]))
     (.call F_spec_EncodeFixed [(.x (.var (.slice) 8))] false [(false, [.slice])]
     (.app 5 1 1 [(.int .u8 0)] (.var (.slice) 18) (.var (.slice) 19)
     (.call F_spec_CrcUpdate [(.x (.cst (.int .u32 0))), (.x (.var (.slice) 8))] false [(false, [.int .u32])]
     (.call F_spec_l6Put [(.x (.cv .u64 (.var (.int .u32) 21))), (.x (.cst (.int .i64 4))), (.x (.cst (.bool false)))] false [(false, [.slice])]
     (.app 5 1 1 [(.int .u8 0)] (.var (.slice) 20) (.var (.slice) 22)
     (.call F_spec_l6Put [(.x (.cv .u64 (.ln (.var (.slice) 8)))), (.x (.cst (.int .i64 4))), (.x (.cst (.bool false)))] false [(false, [.slice])]
     (.app 5 1 1 [(.int .u8 0)] (.var (.slice) 23) (.var (.slice) 24)
     (.ret (.x (.var (.slice) 25))))))))))))))))))))))
set_option maxRecDepth 100000 in
theorem s_spec_EncodeGzip : sxF c_spec_EncodeGzip Try.f24 p_spec_EncodeGzip = some t_spec_EncodeGzip := by kernel_rfl
theorem e_spec_EncodeGzip (xs : Array Value) (w : World) : (callFunc F_spec_EncodeGzip xs).runT Try.prog w #[] = (.ok (.enter F_spec_EncodeGzip xs) w, #[]) := ent_of Try.func24 (by kernel_rfl) (by kernel_rfl) xs w
theorem run_spec_EncodeGzip {S : Shared} {h : Eng.Heap} {Q : Value → Eng.Heap → Prop} {vs : List Value} (hsh : shOk (resShs p_spec_EncodeGzip) vs) (hi : Inv S h) (hw : t_spec_EncodeGzip.wp Try.prog S noLeaf Q vs h []) : CallsH Try.prog S F_spec_EncodeGzip (argVals p_spec_EncodeGzip vs) h Q :=
  sxF_ok (cfg := c_spec_EncodeGzip) tabGzOk mixedGz Try.func24 rfl s_spec_EncodeGzip e_spec_EncodeGzip rfl hsh hi hw
/- function 26 -/
def c_impl_EncodeGzip : Cfg := ⟨tabGz, [], [], [.tmp 4]⟩
def p_impl_EncodeGzip : List (Bool × List Sh) := [(true, [.int .i64, .int .i64, .int .i64, .int .i64, .slice, .slice, .slice, .int .i64]), (false, [.slice])]
set_option maxRecDepth 100000 in
def t_impl_EncodeGzip : Tr :=
(.call F_impl_ValidMember [(.agg [(.var (.int .i64) 0), (.var (.int .i64) 1), (.var (.int .i64) 2), (.var (.int .i64) 3), (.var (.slice) 4), (.var (.slice) 5), (.var (.slice) 6), (.var (.int .i64) 7)])] false [(false, [.bool])]
(.lift (.br (.it (.nt (.var (.bool) 9)) (.cst (.bool true)) (.cm .neq (.var (.int .i64) 7) (.ln (.var (.slice) 8))))
 (.hsl 5 0 []
 (.ret (.x (.var (.slice) 10))))
 (.hsl 5 4 [(.cst (.int .u8 31)), (.cst (.int .u8 139)), (.cst (.int .u8 8)), (.cv .u8 (.var (.int .i64) 0))]
 (.call F_impl_appendLittle [(.x (.var (.slice) 10)), (.x (.cv .u64 (.var (.int .i64) 1))), (.x (.cst (.int .i64 4)))] false [(false, [.slice])]
 (.hsl 5 2 [(.cv .u8 (.var (.int .i64) 2)), (.cv .u8 (.var (.int .i64) 3))]
 (.app 5 1 1 [(.int .u8 0)] (.var (.slice) 11) (.var (.slice) 12)
 (.join [.slice]
  (.br (.cm .neq (.ar .and .i64 (.var (.int .i64) 0) (.cst (.int .i64 4))) (.cst (.int .i64 0)))
   (.call F_impl_appendLittle [(.x (.var (.slice) 13)), (.x (.cv .u64 (.ln (.var (.slice) 4)))), (.x (.cst (.int .i64 2)))] false [(false, [.slice])]
   (.app 5 1 1 [(.int .u8 0)] (.var (.slice) 14) (.var (.slice) 4)
   (.cont 1 [(.var (.slice) 15)])))
   (.cont 1 [(.var (.slice) 13)]))
  (.join [.slice]
   (.br (.cm .neq (.ar .and .i64 (.var (.int .i64) 0) (.cst (.int .i64 8))) (.cst (.int .i64 0)))
    (.app 5 1 1 [(.int .u8 0)] (.var (.slice) 14) (.var (.slice) 5)
    (.hsl 5 1 [(.cst (.int .u8 0))]
    (.app 5 1 1 [(.int .u8 0)] (.var (.slice) 15) (.var (.slice) 16)
    (.cont 1 [(.var (.slice) 17)]))))
    (.cont 1 [(.var (.slice) 14)]))
   (.join [.slice]
    (.br (.cm .neq (.ar .and .i64 (.var (.int .i64) 0) (.cst (.int .i64 16))) (.cst (.int .i64 0)))
     (.app 5 1 1 [(.int .u8 0)] (.var (.slice) 15) (.var (.slice) 6)
     (.hsl 5 1 [(.cst (.int .u8 0))]
     (.app 5 1 1 [(.int .u8 0)] (.var (.slice) 16) (.var (.slice) 17)
     (.cont 1 [(.var (.slice) 18)]))))
     (.cont 1 [(.var (.slice) 15)]))
    (.join [.slice]
     (.br (.cm .neq (.ar .and .i64 (.var (.int .i64) 0) (.cst (.int .i64 2))) (.cst (.int .i64 0)))
      (.call F_impl_CrcUpdate [(.x (.cst (.int .u32 0))), (.x (.var (.slice) 16))] false [(false, [.int .u32])]
      (.call F_impl_appendLittle [(.x (.var (.slice) 16)), (.x (.cv .u64 (.var (.int .u32) 17))), (.x (.cst (.int .i64 2)))] false [(false, [.slice])]
      (.cont 1 [(.var (.slice) 18)])))
      (.cont 1 [(.var (.slice) 16)]))
     (.call F_impl_EncodeFixed [(.x (.var (.slice) 8))] false [(false, [.slice])]
     (.app 5 1 1 [(.int .u8 0)] (.var (.slice) 17) (.var (.slice) 18)
     (.call F_impl_CrcUpdate [(.x (.cst (.int .u32 0))), (.x (.var (.slice) 8))] false [(false, [.int .u32])]
     (.call F_impl_appendLittle [(.x (.var (.slice) 19)), (.x (.cv .u64 (.var (.int .u32) 20))), (.x (.cst (.int .i64 4)))] false [(false, [.slice])]
     (.call F_impl_appendLittle [(.x (.var (.slice) 21)), (.x (.cv .u64 (.ln (.var (.slice) 8)))), (.x (.cst (.int .i64 4)))] false [(false, [.slice])]
     (.ret (.x (.var (.slice) 22)))))))))))))))))))
set_option maxRecDepth 100000 in
theorem s_impl_EncodeGzip : sxF c_impl_EncodeGzip Try.f26 p_impl_EncodeGzip = some t_impl_EncodeGzip := by kernel_rfl
theorem e_impl_EncodeGzip (xs : Array Value) (w : World) : (callFunc F_impl_EncodeGzip xs).runT Try.prog w #[] = (.ok (.enter F_impl_EncodeGzip xs) w, #[]) := ent_of Try.func26 (by kernel_rfl) (by kernel_rfl) xs w
theorem run_impl_EncodeGzip {S : Shared} {h : Eng.Heap} {Q : Value → Eng.Heap → Prop} {vs : List Value} (hsh : shOk (resShs p_impl_EncodeGzip) vs) (hi : Inv S h) (hw : t_impl_EncodeGzip.wp Try.prog S noLeaf Q vs h []) : CallsH Try.prog S F_impl_EncodeGzip (argVals p_impl_EncodeGzip vs) h Q :=
  sxF_ok (cfg := c_impl_EncodeGzip) tabGzOk mixedGz Try.func26 rfl s_impl_EncodeGzip e_impl_EncodeGzip rfl hsh hi hw
end Go.Proofs.Ytmnialmphlbmaaa
