-- printed by a generator of my own (wip/eng/Gen) from the translation
import Derived.Test.YtmnialmphlbmaaaEng2
import Derived.Test.YtmnialmphlbmaaaChecked
import Derived.Test.YtmnialmphlbmaaaNums
set_option linter.unusedVariables false
set_option linter.unusedSimpArgs false
namespace Go.Proofs.Ytmnialmphlbmaaa
open Go Go.Eng
def tabZl : List (TypeId × TyD) := [(2, ⟨(.int .i64), 1, 8, [.int .i64], some [(1, (.int .i64 0))], none⟩),
  (3, ⟨(.int .i64), 1, 8, [.int .i64], some [(1, (.int .i64 0))], none⟩),
  (4, ⟨.bool, 1, 1, [.bool], some [(1, (.bool false))], none⟩),
  (5, ⟨(.int .u8), 1, 1, [.int .u8], some [(1, (.int .u8 0))], none⟩),
  (22, ⟨(.int .u32), 1, 4, [.int .u32], some [(1, (.int .u32 0))], none⟩),
  (23, ⟨(.sl 5), 1, 24, [.slice], some [(1, .nilSl)], none⟩),
  (58, ⟨(.int .u64), 1, 8, [.int .u64], some [(1, (.int .u64 0))], none⟩),
  (59, ⟨(.int .u64), 1, 8, [.int .u64], some [(1, (.int .u64 0))], none⟩)]
set_option maxRecDepth 100000 in
theorem tabZlOk : TabOk Try.prog tabZl := tabOk_of (by kernel_rfl)
theorem mixedZl : Try.prog.follows .mixedOrders = true := by kernel_rfl
/- function 7 -/
def c_laws_FnExactEncodeZlib : Cfg := ⟨tabZl, [], [], [.tmp 6]⟩
def p_laws_FnExactEncodeZlib : List (Bool × List Sh) := [(false, [.slice]), (false, [.int .i64]), (false, [.slice])]
set_option maxRecDepth 100000 in
def t_laws_FnExactEncodeZlib : Tr :=
(.lift (.br (.cm .gtr (.ln (.var (.slice) 0)) (.cst (.int .i64 1048576)))
 (.ret (.x (.cst (.bool true))))
 (.lift (.br (.cm .gtr (.ln (.var (.slice) 2)) (.cst (.int .i64 1048576)))
  (.ret (.x (.cst (.bool true))))
  (.call F_laws_toByteS [(.x (.var (.slice) 0))] false [(false, [.slice])]
  (.call F_laws_toByteS [(.x (.var (.slice) 2))] false [(false, [.slice])]
  (.call F_spec_EncodeZlib [(.x (.var (.slice) 3)), (.x (.var (.int .i64) 1)), (.x (.var (.slice) 4))] false [(false, [.slice])]
  (.call F_laws_toByteS [(.x (.var (.slice) 0))] false [(false, [.slice])]
  (.call F_laws_toByteS [(.x (.var (.slice) 2))] false [(false, [.slice])]
  (.call F_impl_EncodeZlib [(.x (.var (.slice) 6)), (.x (.var (.int .i64) 1)), (.x (.var (.slice) 7))] false [(false, [.slice])]
  (.call F_laws_eqByteS [(.x (.var (.slice) 8)), (.x (.var (.slice) 5))] false [(false, [.bool])]
  (.lift (.br (.nt (.var (.bool) 9))
   (.ret (.x (.cst (.bool false))))
   (.call F_laws_toByteS [(.x (.var (.slice) 0))] false [(false, [.slice])]
   (.call F_laws_eqByteS [(.x (.var (.slice) 6)), (.x (.var (.slice) 10))] false [(false, [.bool])]
   (.lift (.br (.nt (.var (.bool) 11))
    (.ret (.x (.cst (.bool false))))
    (.call F_laws_toByteS [(.x (.var (.slice) 2))] false [(false, [.slice])]
    (.call F_laws_eqByteS [(.x (.var (.slice) 7)), (.x (.var (.slice) 12))] false [(false, [.bool])]
    (.lift (.br (.nt (.var (.bool) 13))
     (.ret (.x (.cst (.bool false))))
     (.call F_laws_markByteS [(.x (.var (.slice) 6)), (.x (.cst (.int .i64 1)))] false [(false, [.int .i64])]
     (.call F_laws_markByteS [(.x (.var (.slice) 7)), (.x (.var (.int .i64) 14))] false [(false, [.int .i64])]
     (.join [.bool]
      (.br (.nt (.cm .lss (.var (.int .i64) 15) (.cst (.int .i64 0))))
       (.call F_laws_eqByteS [(.x (.var (.slice) 8)), (.x (.var (.slice) 5))] false [(false, [.bool])]
       (.cont 5 [(.nt (.var (.bool) 16))]))
       (.cont 5 [(.cst (.bool true))]))
      (.lift (.br (.var (.bool) 16)
       (.ret (.x (.cst (.bool false))))
       (.call F_laws_markByteS [(.x (.var (.slice) 8)), (.x (.cst (.int .i64 1)))] false [(false, [.int .i64])]
       (.call F_laws_heldByteS [(.x (.var (.slice) 8)), (.x (.cst (.int .i64 1)))] false [(false, [.int .i64])]
       (.lift (.br (.cm .lss (.var (.int .i64) 18) (.cst (.int .i64 0)))
        (.ret (.x (.cst (.bool false))))
        (.lift (.br (.cm .neq (.var (.int .i64) 18) (.var (.int .i64) 17))
         (.ret (.x (.cst (.bool false))))
         (.call F_laws_toByteS [(.x (.var (.slice) 0))] false [(false, [.slice])]
         (.call F_laws_toByteS [(.x (.var (.slice) 2))] false [(false, [.slice])]
         (.call F_impl_EncodeZlib [(.x (.var (.slice) 19)), (.x (.var (.int .i64) 1)), (.x (.var (.slice) 20))] false [(false, [.slice])]
         (.call F_laws_eqByteS [(.x (.var (.slice) 21)), (.x (.var (.slice) 5))] false [(false, [.bool])]
         (.lift (.br (.nt (.var (.bool) 22))
          (.ret (.x (.cst (.bool false))))
          (.call F_laws_heldByteS [(.x (.var (.slice) 8)), (.x (.cst (.int .i64 1)))] false [(false, [.int .i64])]
          (.lift (.br (.cm .lss (.var (.int .i64) 23) (.cst (.int .i64 0)))
           (.ret (.x (.cst (.bool false))))
           (.lift (.br (.cm .neq (.var (.int .i64) 23) (.var (.int .i64) 17))
            (.ret (.x (.cst (.bool false))))
            (.ret (.x (.cst (.bool true)))))))))))))))))))))))))))))))))))))))))))))))
set_option maxRecDepth 100000 in
theorem s_laws_FnExactEncodeZlib : sxF c_laws_FnExactEncodeZlib Try.f7 p_laws_FnExactEncodeZlib = some t_laws_FnExactEncodeZlib := by kernel_rfl
theorem e_laws_FnExactEncodeZlib (xs : Array Value) (w : World) : (callFunc F_laws_FnExactEncodeZlib xs).runT Try.prog w #[] = (.ok (.enter F_laws_FnExactEncodeZlib xs) w, #[]) := ent_of Try.func7 (by kernel_rfl) (by kernel_rfl) xs w
theorem run_laws_FnExactEncodeZlib {S : Shared} {h : Eng.Heap} {Q : Value → Eng.Heap → Prop} {vs : List Value} (hsh : shOk (resShs p_laws_FnExactEncodeZlib) vs) (hi : Inv S h) (hw : t_laws_FnExactEncodeZlib.wp Try.prog S noLeaf Q vs h []) : CallsH Try.prog S F_laws_FnExactEncodeZlib (argVals p_laws_FnExactEncodeZlib vs) h Q :=
  sxF_ok (cfg := c_laws_FnExactEncodeZlib) tabZlOk mixedZl Try.func7 rfl s_laws_FnExactEncodeZlib e_laws_FnExactEncodeZlib rfl hsh hi hw
/- function 19 -/
def c_spec_EncodeZlib : Cfg := ⟨tabZl, [], [], [.tmp 6]⟩
def p_spec_EncodeZlib : List (Bool × List Sh) := [(false, [.slice]), (false, [.int .i64]), (false, [.slice])]
set_option maxRecDepth 100000 in
def t_spec_EncodeZlib : Tr :=
(.lift (.br (.it (.it (.cm .lss (.var (.int .i64) 1) (.cst (.int .i64 0))) (.cst (.bool true)) (.cm .gtr (.var (.int .i64) 1) (.cst (.int .i64 7)))) (.cst (.bool true)) (.cm .gtr (.ln (.var (.slice) 0)) (.cst (.int .i64 100000))))
 (.hsl 5 0 []
 (.ret (.x (.var (.slice) 3))))
 (.hsl 5 0 []
 (.call F_spec_l6Put [(.x (.cv .u64 (.ar .add .i64 (.it (.cm .gtr (.ln (.var (.slice) 2)) (.cst (.int .i64 0))) (.ar .add .i64 (.ar .mul .i64 (.cst (.int .i64 256)) (.ar .add .i64 (.ar .mul .i64 (.cst (.int .i64 16)) (.var (.int .i64) 1)) (.cst (.int .i64 8)))) (.cst (.int .i64 32))) (.ar .mul .i64 (.cst (.int .i64 256)) (.ar .add .i64 (.ar .mul .i64 (.cst (.int .i64 16)) (.var (.int .i64) 1)) (.cst (.int .i64 8))))) (.ar .rem .i64 (.ar .sub .i64 (.cst (.int .i64 31)) (.ar .rem .i64 (.it (.cm .gtr (.ln (.var (.slice) 2)) (.cst (.int .i64 0))) (.ar .add .i64 (.ar .mul .i64 (.cst (.int .i64 256)) (.ar .add .i64 (.ar .mul .i64 (.cst (.int .i64 16)) (.var (.int .i64) 1)) (.cst (.int .i64 8)))) (.cst (.int .i64 32))) (.ar .mul .i64 (.cst (.int .i64 256)) (.ar .add .i64 (.ar .mul .i64 (.cst (.int .i64 16)) (.var (.int .i64) 1)) (.cst (.int .i64 8))))) (.cst (.int .i64 31)))) (.cst (.int .i64 31)))))), (.x (.cst (.int .i64 2))), (.x (.cst (.bool true)))] false [(false, [.slice])]
 (.app 5 1 1 [(.int .u8 0)] (.var (.slice) 3) (.var (.slice) 4)
 (.join [.slice]
  (.br (.cm .gtr (.ln (.var (.slice) 2)) (.cst (.int .i64 0)))
   (.call F_spec_AdlerUpdate [(.x (.cst (.int .u32 1))), (.x (.var (.slice) 2))] false [(false, [.int .u32])]
   (.call F_spec_l6Put [(.x (.cv .u64 (.var (.int .u32) 6))), (.x (.cst (.int .i64 4))), (.x (.cst (.bool true)))] false [(false, [.slice])]
   (.app 5 1 1 [(.int .u8 0)] (.var (.slice) 5) (.var (.slice) 7)
   (.cont 1 [(.var (.slice) 8)]))))
   (.cont 1 [(.var (.slice) 5)]))
  (.call F_spec_EncodeFixed [(.x (.var (.slice) 0))] false [(false, [.slice])]
  (.app 5 1 1 [(.int .u8 0)] (.var (.slice) 6) (.var (.slice) 7)
  (.call F_spec_AdlerUpdate [(.x (.cst (.int .u32 1))), (.x (.var (.slice) 0))] false [(false, [.int .u32])]
  (.call F_spec_l6Put [(.x (.cv .u64 (.var (.int .u32) 9))), (.x (.cst (.int .i64 4))), (.x (.cst (.bool true)))] false [(false, [.slice])]
  (.app 5 1 1 [(.int .u8 0)] (.var (.slice) 8) (.var (.slice) 10)
  (.ret (.x (.var (.slice) 11))))))))))))))
set_option maxRecDepth 100000 in
theorem s_spec_EncodeZlib : sxF c_spec_EncodeZlib Try.f19 p_spec_EncodeZlib = some t_spec_EncodeZlib := by kernel_rfl
theorem e_spec_EncodeZlib (xs : Array Value) (w : World) : (callFunc F_spec_EncodeZlib xs).runT Try.prog w #[] = (.ok (.enter F_spec_EncodeZlib xs) w, #[]) := ent_of Try.func19 (by kernel_rfl) (by kernel_rfl) xs w
theorem run_spec_EncodeZlib {S : Shared} {h : Eng.Heap} {Q : Value → Eng.Heap → Prop} {vs : List Value} (hsh : shOk (resShs p_spec_EncodeZlib) vs) (hi : Inv S h) (hw : t_spec_EncodeZlib.wp Try.prog S noLeaf Q vs h []) : CallsH Try.prog S F_spec_EncodeZlib (argVals p_spec_EncodeZlib vs) h Q :=
  sxF_ok (cfg := c_spec_EncodeZlib) tabZlOk mixedZl Try.func19 rfl s_spec_EncodeZlib e_spec_EncodeZlib rfl hsh hi hw
/- function 20 -/
def c_impl_EncodeZlib : Cfg := ⟨tabZl, [], [], [.tmp 6]⟩
def p_impl_EncodeZlib : List (Bool × List Sh) := [(false, [.slice]), (false, [.int .i64]), (false, [.slice])]
set_option maxRecDepth 100000 in
def t_impl_EncodeZlib : Tr :=
(.lift (.br (.it (.it (.cm .lss (.var (.int .i64) 1) (.cst (.int .i64 0))) (.cst (.bool true)) (.cm .gtr (.var (.int .i64) 1) (.cst (.int .i64 7)))) (.cst (.bool true)) (.cm .gtr (.ln (.var (.slice) 0)) (.cst (.int .i64 100000))))
 (.hsl 5 0 []
 (.ret (.x (.var (.slice) 3))))
 (.hsl 5 2 [(.cv .u8 (.ar .shr .u32 (.ar .add .u32 (.it (.cm .gtr (.ln (.var (.slice) 2)) (.cst (.int .i64 0))) (.ar .or .u32 (.ar .shl .u32 (.cv .u32 (.ar .add .i64 (.ar .mul .i64 (.cst (.int .i64 16)) (.var (.int .i64) 1)) (.cst (.int .i64 8)))) (.cst (.int .u64 8))) (.cst (.int .u32 32))) (.ar .shl .u32 (.cv .u32 (.ar .add .i64 (.ar .mul .i64 (.cst (.int .i64 16)) (.var (.int .i64) 1)) (.cst (.int .i64 8)))) (.cst (.int .u64 8)))) (.ar .rem .u32 (.ar .sub .u32 (.cst (.int .u32 31)) (.ar .rem .u32 (.it (.cm .gtr (.ln (.var (.slice) 2)) (.cst (.int .i64 0))) (.ar .or .u32 (.ar .shl .u32 (.cv .u32 (.ar .add .i64 (.ar .mul .i64 (.cst (.int .i64 16)) (.var (.int .i64) 1)) (.cst (.int .i64 8)))) (.cst (.int .u64 8))) (.cst (.int .u32 32))) (.ar .shl .u32 (.cv .u32 (.ar .add .i64 (.ar .mul .i64 (.cst (.int .i64 16)) (.var (.int .i64) 1)) (.cst (.int .i64 8)))) (.cst (.int .u64 8)))) (.cst (.int .u32 31)))) (.cst (.int .u32 31)))) (.cst (.int .u64 8)))), (.cv .u8 (.ar .add .u32 (.it (.cm .gtr (.ln (.var (.slice) 2)) (.cst (.int .i64 0))) (.ar .or .u32 (.ar .shl .u32 (.cv .u32 (.ar .add .i64 (.ar .mul .i64 (.cst (.int .i64 16)) (.var (.int .i64) 1)) (.cst (.int .i64 8)))) (.cst (.int .u64 8))) (.cst (.int .u32 32))) (.ar .shl .u32 (.cv .u32 (.ar .add .i64 (.ar .mul .i64 (.cst (.int .i64 16)) (.var (.int .i64) 1)) (.cst (.int .i64 8)))) (.cst (.int .u64 8)))) (.ar .rem .u32 (.ar .sub .u32 (.cst (.int .u32 31)) (.ar .rem .u32 (.it (.cm .gtr (.ln (.var (.slice) 2)) (.cst (.int .i64 0))) (.ar .or .u32 (.ar .shl .u32 (.cv .u32 (.ar .add .i64 (.ar .mul .i64 (.cst (.int .i64 16)) (.var (.int .i64) 1)) (.cst (.int .i64 8)))) (.cst (.int .u64 8))) (.cst (.int .u32 32))) (.ar .shl .u32 (.cv .u32 (.ar .add .i64 (.ar .mul .i64 (.cst (.int .i64 16)) (.var (.int .i64) 1)) (.cst (.int .i64 8)))) (.cst (.int .u64 8)))) (.cst (.int .u32 31)))) (.cst (.int .u32 31)))))]
 (.join [.slice]
  (.br (.cm .gtr (.ln (.var (.slice) 2)) (.cst (.int .i64 0)))
   (.call F_impl_AdlerUpdate [(.x (.cst (.int .u32 1))), (.x (.var (.slice) 2))] false [(false, [.int .u32])]
   (.call F_impl_appendBig [(.x (.var (.slice) 3)), (.x (.var (.int .u32) 4))] false [(false, [.slice])]
   (.cont 1 [(.var (.slice) 5)])))
   (.cont 1 [(.var (.slice) 3)]))
  (.call F_impl_EncodeFixed [(.x (.var (.slice) 0))] false [(false, [.slice])]
  (.app 5 1 1 [(.int .u8 0)] (.var (.slice) 4) (.var (.slice) 5)
  (.call F_impl_AdlerUpdate [(.x (.cst (.int .u32 1))), (.x (.var (.slice) 0))] false [(false, [.int .u32])]
  (.call F_impl_appendBig [(.x (.var (.slice) 6)), (.x (.var (.int .u32) 7))] false [(false, [.slice])]
  (.ret (.x (.var (.slice) 8)))))))))))
set_option maxRecDepth 100000 in
theorem s_impl_EncodeZlib : sxF c_impl_EncodeZlib Try.f20 p_impl_EncodeZlib = some t_impl_EncodeZlib := by kernel_rfl
theorem e_impl_EncodeZlib (xs : Array Value) (w : World) : (callFunc F_impl_EncodeZlib xs).runT Try.prog w #[] = (.ok (.enter F_impl_EncodeZlib xs) w, #[]) := ent_of Try.func20 (by kernel_rfl) (by kernel_rfl) xs w
theorem run_impl_EncodeZlib {S : Shared} {h : Eng.Heap} {Q : Value → Eng.Heap → Prop} {vs : List Value} (hsh : shOk (resShs p_impl_EncodeZlib) vs) (hi : Inv S h) (hw : t_impl_EncodeZlib.wp Try.prog S noLeaf Q vs h []) : CallsH Try.prog S F_impl_EncodeZlib (argVals p_impl_EncodeZlib vs) h Q :=
  sxF_ok (cfg := c_impl_EncodeZlib) tabZlOk mixedZl Try.func20 rfl s_impl_EncodeZlib e_impl_EncodeZlib rfl hsh hi hw
/- function 41 -/
def c_spec_l6Put : Cfg := ⟨tabZl, [⟨3, [0, 7, 8], [], [10, 11, 12, 13, 14, 15, 16, 17, 18, 19, 20, 21, 22, 23, 24, 25, 26, 27, 28, 29]⟩], [], [.tmp 6]⟩
def p_spec_l6Put : List (Bool × List Sh) := [(false, [.int .u64]), (false, [.int .i64]), (false, [.bool])]
set_option maxRecDepth 100000 in
def t_spec_l6Put : Tr :=
(.hsl 5 0 []
(.loop [.int .u64, .slice, .int .i64] [(.var (.int .u64) 0), (.var (.slice) 3), (.cst (.int .i64 0))]
 (.lift (.br (.cm .lss (.var (.int .i64) 6) (.var (.int .i64) 1))
  (.join [.slice]
   (.br (.var (.bool) 2)
    (.hsl 5 1 [(.cv .u8 (.ar .rem .u64 (.var (.int .u64) 4) (.cst (.int .u64 256))))]
    (.app 5 1 1 [(.int .u8 0)] (.var (.slice) 7) (.var (.slice) 5)
    (.cont 2 [(.var (.slice) 8)])))
    (.hsl 5 1 [(.cv .u8 (.ar .rem .u64 (.var (.int .u64) 4) (.cst (.int .u64 256))))]
    (.app 5 1 1 [(.int .u8 0)] (.var (.slice) 5) (.var (.slice) 7)
    (.cont 2 [(.var (.slice) 8)]))))
   (.cont 0 [(.ar .quo .u64 (.var (.int .u64) 4) (.cst (.int .u64 256))), (.var (.slice) 7), (.ar .add .i64 (.var (.int .i64) 6) (.cst (.int .i64 1)))]))
  (.ret (.x (.var (.slice) 5)))))))
set_option maxRecDepth 100000 in
theorem s_spec_l6Put : sxF c_spec_l6Put Try.f41 p_spec_l6Put = some t_spec_l6Put := by kernel_rfl
theorem e_spec_l6Put (xs : Array Value) (w : World) : (callFunc F_spec_l6Put xs).runT Try.prog w #[] = (.ok (.enter F_spec_l6Put xs) w, #[]) := ent_of Try.func41 (by kernel_rfl) (by kernel_rfl) xs w
theorem run_spec_l6Put {S : Shared} {h : Eng.Heap} {Q : Value → Eng.Heap → Prop} {vs : List Value} (hsh : shOk (resShs p_spec_l6Put) vs) (hi : Inv S h) (hw : t_spec_l6Put.wp Try.prog S noLeaf Q vs h []) : CallsH Try.prog S F_spec_l6Put (argVals p_spec_l6Put vs) h Q :=
  sxF_ok (cfg := c_spec_l6Put) tabZlOk mixedZl Try.func41 rfl s_spec_l6Put e_spec_l6Put rfl hsh hi hw
/- function 43 -/
def c_impl_appendBig : Cfg := ⟨tabZl, [], [], [.tmp 4]⟩
def p_impl_appendBig : List (Bool × List Sh) := [(false, [.slice]), (false, [.int .u32])]
set_option maxRecDepth 100000 in
def t_impl_appendBig : Tr :=
(.hsl 5 4 [(.cv .u8 (.ar .shr .u32 (.var (.int .u32) 1) (.cst (.int .u64 24)))), (.cv .u8 (.ar .shr .u32 (.var (.int .u32) 1) (.cst (.int .u64 16)))), (.cv .u8 (.ar .shr .u32 (.var (.int .u32) 1) (.cst (.int .u64 8)))), (.cv .u8 (.var (.int .u32) 1))]
(.app 5 1 1 [(.int .u8 0)] (.var (.slice) 0) (.var (.slice) 2)
(.ret (.x (.var (.slice) 3)))))
set_option maxRecDepth 100000 in
theorem s_impl_appendBig : sxF c_impl_appendBig Try.f43 p_impl_appendBig = some t_impl_appendBig := by kernel_rfl
theorem e_impl_appendBig (xs : Array Value) (w : World) : (callFunc F_impl_appendBig xs).runT Try.prog w #[] = (.ok (.enter F_impl_appendBig xs) w, #[]) := ent_of Try.func43 (by kernel_rfl) (by kernel_rfl) xs w
theorem run_impl_appendBig {S : Shared} {h : Eng.Heap} {Q : Value → Eng.Heap → Prop} {vs : List Value} (hsh : shOk (resShs p_impl_appendBig) vs) (hi : Inv S h) (hw : t_impl_appendBig.wp Try.prog S noLeaf Q vs h []) : CallsH Try.prog S F_impl_appendBig (argVals p_impl_appendBig vs) h Q :=
  sxF_ok (cfg := c_impl_appendBig) tabZlOk mixedZl Try.func43 rfl s_impl_appendBig e_impl_appendBig rfl hsh hi hw
/- function 48 -/
def c_impl_appendLittle : Cfg := ⟨tabZl, [⟨2, [0, 1, 8], [], [9, 10, 11, 12, 13, 14, 15, 16, 17]⟩], [], [.tmp 6]⟩
def p_impl_appendLittle : List (Bool × List Sh) := [(false, [.slice]), (false, [.int .u64]), (false, [.int .i64])]
set_option maxRecDepth 100000 in
def t_impl_appendLittle : Tr :=
(.loop [.slice, .int .u64, .int .i64] [(.var (.slice) 0), (.var (.int .u64) 1), (.cst (.int .i64 0))]
 (.lift (.br (.cm .lss (.var (.int .i64) 5) (.var (.int .i64) 2))
  (.hsl 5 1 [(.cv .u8 (.var (.int .u64) 4))]
  (.app 5 1 1 [(.int .u8 0)] (.var (.slice) 3) (.var (.slice) 6)
  (.cont 0 [(.var (.slice) 7), (.ar .shr .u64 (.var (.int .u64) 4) (.cst (.int .u64 8))), (.ar .add .i64 (.var (.int .i64) 5) (.cst (.int .i64 1)))])))
  (.ret (.x (.var (.slice) 3))))))
set_option maxRecDepth 100000 in
theorem s_impl_appendLittle : sxF c_impl_appendLittle Try.f48 p_impl_appendLittle = some t_impl_appendLittle := by kernel_rfl
theorem e_impl_appendLittle (xs : Array Value) (w : World) : (callFunc F_impl_appendLittle xs).runT Try.prog w #[] = (.ok (.enter F_impl_appendLittle xs) w, #[]) := ent_of Try.func48 (by kernel_rfl) (by kernel_rfl) xs w
theorem run_impl_appendLittle {S : Shared} {h : Eng.Heap} {Q : Value → Eng.Heap → Prop} {vs : List Value} (hsh : shOk (resShs p_impl_appendLittle) vs) (hi : Inv S h) (hw : t_impl_appendLittle.wp Try.prog S noLeaf Q vs h []) : CallsH Try.prog S F_impl_appendLittle (argVals p_impl_appendLittle vs) h Q :=
  sxF_ok (cfg := c_impl_appendLittle) tabZlOk mixedZl Try.func48 rfl s_impl_appendLittle e_impl_appendLittle rfl hsh hi hw
end Go.Proofs.Ytmnialmphlbmaaa
