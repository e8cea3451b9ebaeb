-- printed by a generator of my own (wip/eng/Gen) from the translation
import Derived.Test.YtchlnichbaoeaaaEng2
import Derived.Test.YtchlnichbaoeaaaChecked
import Derived.Test.YtchlnichbaoeaaaNums
set_option linter.unusedVariables false
set_option linter.unusedSimpArgs false
namespace Go.Proofs.Ytchlnichbaoeaaa
open Go Go.Eng
def tabFF : List (TypeId × TyD) := [(0, ⟨.oth, 1, 0, [], none, some []⟩),
  (2, ⟨(.int .i64), 1, 8, [.int .i64], some [(1, (.int .i64 0))], none⟩),
  (3, ⟨(.int .i64), 1, 8, [.int .i64], some [(1, (.int .i64 0))], none⟩),
  (4, ⟨.bool, 1, 1, [.bool], some [(1, (.bool false))], none⟩),
  (5, ⟨(.int .u8), 1, 1, [.int .u8], some [(1, (.int .u8 0))], none⟩),
  (22, ⟨(.sl 5), 1, 24, [.slice], some [(1, .nilSl)], none⟩),
  (48, ⟨(.st [(0, 22), (1, 2), (2, 2)]), 3, 40, [.slice, .int .i64, .int .i64], some [(1, .nilSl), (2, (.int .i64 0))], none⟩),
  (54, ⟨(.int .u64), 1, 8, [.int .u64], some [(1, (.int .u64 0))], none⟩),
  (56, ⟨(.st [(0, 4), (1, 54), (2, 48)]), 5, 56, [.bool, .int .u64, .slice, .int .i64, .int .i64], some [(1, (.bool false)), (1, (.int .u64 0)), (1, .nilSl), (2, (.int .i64 0))], none⟩),
  (91, ⟨(.int .u32), 1, 4, [.int .u32], some [(1, (.int .u32 0))], none⟩),
  (92, ⟨.oth, 1, 0, [], none, some [91, 22]⟩),
  (94, ⟨(.sl 98), 1, 24, [.slice], some [(1, .nilSl)], none⟩),
  (98, ⟨(.st [(0, 22)]), 1, 24, [.slice], some [(1, .nilSl)], none⟩),
  (101, ⟨(.int .u64), 1, 8, [.int .u64], some [(1, (.int .u64 0))], none⟩)]
set_option maxRecDepth 100000 in
theorem tabFFOk : TabOk Try.prog tabFF := tabOk_of (by kernel_rfl)
theorem mixedFF : Try.prog.follows .mixedOrders = true := by kernel_rfl
/- function 14 -/
def c_laws_FnFeed : Cfg := ⟨tabFF, [⟨21, [14, 15], [], [102, 103, 104, 105, 106, 107, 108, 109, 110, 111, 112, 113, 114, 115, 116, 117, 118, 119, 120, 121, 122, 123]⟩, ⟨9, [9, 10, 11], [(0, 0), (0, 1), (0, 2)], [12, 13, 14, 15, 33, 34, 35, 36, 37, 38, 39, 40, 41, 42, 43, 44, 45, 46, 47, 48, 49, 50, 51, 52, 53, 54, 55, 56, 57, 58, 59, 60, 61, 62, 63, 64, 65, 66, 67, 68, 69, 70, 71, 72, 73, 74, 75, 76, 77, 78, 79, 80, 81, 82, 83, 84, 85, 86, 87, 88, 89, 90, 91, 92, 93, 94, 95, 96, 97, 98, 99, 100, 101, 102, 103, 104, 105, 106, 107, 108, 109, 110, 111, 112, 113, 114, 115, 116, 117, 118, 119, 120, 121, 122, 123, 124, 125, 126, 127, 128, 129, 130, 131, 132]⟩], [], [.tmp 4]⟩
def p_laws_FnFeed : List (Bool × List Sh) := [(false, [.slice]), (false, [.slice])]
set_option maxRecDepth 100000 in
def t_laws_FnFeed : Tr :=
(.lift (.br (.it (.cm .gtr (.ln (.var (.slice) 0)) (.cst (.int .i64 1048576))) (.cst (.bool true)) (.cm .gtr (.ln (.var (.slice) 1)) (.cst (.int .i64 1048576))))
 (.ret (.x (.cst (.bool true))))
 (.call F_spec_DrawCrcUpdate [(.x (.var (.slice) 0))] true [(false, [.int .u32]), (false, [.slice])]
 (.call F_laws_lwCut [(.x (.var (.slice) 3)), (.x (.var (.slice) 1)), (.x (.cst (.int .i64 1)))] false [(false, [.slice])]
 (.loop [.int .i64, .int .i64, .int .i64, .slice, .int .i64, .int .i64] [(.cst (.int .i64 0)), (.cst (.int .i64 0)), (.cst (.int .i64 0)), (.cst .nilSl), (.cst (.int .i64 0)), (.cst (.int .i64 0))]
  (.lift (.br (.it (.cm .lss (.var (.int .i64) 7) (.ln (.var (.slice) 4))) (.cst (.bool true)) (.cm .lss (.var (.int .i64) 7) (.cst (.int .i64 40))))
   (.join [.int .i64, .slice, .int .i64, .int .i64]
    (.br (.cm .lss (.var (.int .i64) 7) (.ln (.var (.slice) 4)))
     (.need (.nt (.nn (.var (.slice) 4)))
     (.need (.cm .leq (.cst (.int .i64 0)) (.var (.int .i64) 7))
     (.need (.cm .lss (.var (.int .i64) 7) (.ln (.var (.slice) 4)))
     (.load (.fld (.ix 1 (.var (.slice) 4) (.var (.int .i64) 7)) 0) [.slice]
     (.call F_impl_BitsFeed [(.agg [(.var (.slice) 8), (.var (.int .i64) 9), (.var (.int .i64) 10)]), (.x (.var (.slice) 11))] false [(true, [.slice, .int .i64, .int .i64])]
     (.need (.nt (.nn (.var (.slice) 4)))
     (.need (.cm .leq (.cst (.int .i64 0)) (.var (.int .i64) 7))
     (.need (.cm .lss (.var (.int .i64) 7) (.ln (.var (.slice) 4)))
     (.load (.fld (.ix 1 (.var (.slice) 4) (.var (.int .i64) 7)) 0) [.slice]
     (.cont 3 [(.ar .add .i64 (.var (.int .i64) 5) (.ar .mul .i64 (.cst (.int .i64 8)) (.ln (.var (.slice) 15)))), (.var (.slice) 12), (.var (.int .i64) 13), (.var (.int .i64) 14)]))))))))))
     (.cont 3 [(.var (.int .i64) 5), (.var (.slice) 8), (.var (.int .i64) 9), (.var (.int .i64) 10)]))
    (.call F_laws_lwAt [(.x (.var (.slice) 1)), (.x (.var (.int .i64) 7))] false [(false, [.int .i64])]
    (.call F_impl_BitsTake [(.agg [(.var (.slice) 12), (.var (.int .i64) 13), (.var (.int .i64) 14)]), (.x (.ar .rem .i64 (.var (.int .i64) 15) (.cst (.int .i64 20))))] false [(true, [.bool, .int .u64, .slice, .int .i64, .int .i64])]
    (.join [.bool, .bool, .bool]
     (.br (.nt (.nt (.bq (.var (.bool) 16) (.cm .leq (.ar .rem .i64 (.var (.int .i64) 15) (.cst (.int .i64 20))) (.ar .sub .i64 (.var (.int .i64) 11) (.var (.int .i64) 6))))))
      (.call F_spec_ValidBits [(.agg [(.var (.slice) 18), (.var (.int .i64) 19), (.var (.int .i64) 20)])] false [(false, [.bool])]
      (.br (.nt (.nt (.var (.bool) 21)))
       (.call F_laws_lwOne [(.x (.var (.bool) 16))] false [(false, [.int .i64])]
       (.cont 3 [(.nt (.var (.bool) 21)), (.nt (.var (.bool) 21)), (.cm .neq (.var (.int .i64) 20) (.ar .add .i64 (.var (.int .i64) 14) (.ar .mul .i64 (.ar .rem .i64 (.var (.int .i64) 15) (.cst (.int .i64 20))) (.var (.int .i64) 22))))]))
       (.cont 3 [(.nt (.var (.bool) 21)), (.nt (.var (.bool) 21)), (.cst (.bool true))])))
      (.cont 3 [(.cst (.bool true)), (.cst (.bool true)), (.cst (.bool true))]))
     (.lift (.br (.var (.bool) 23)
      (.ret (.x (.cst (.bool false))))
      (.join [.int .i64]
       (.br (.var (.bool) 16)
        (.loop [.int .u64, .int .i64] [(.cst (.int .u64 0)), (.ar .sub .i64 (.ar .rem .i64 (.var (.int .i64) 15) (.cst (.int .i64 20))) (.cst (.int .i64 1)))]
         (.lift (.br (.cm .geq (.var (.int .i64) 25) (.cst (.int .i64 0)))
          (.need (.nt (.nn (.var (.slice) 3)))
          (.need (.cm .leq (.cst (.int .i64 0)) (.ar .quo .i64 (.ar .add .i64 (.var (.int .i64) 6) (.var (.int .i64) 25)) (.cst (.int .i64 8))))
          (.need (.cm .lss (.ar .quo .i64 (.ar .add .i64 (.var (.int .i64) 6) (.var (.int .i64) 25)) (.cst (.int .i64 8))) (.ln (.var (.slice) 3)))
          (.load (.ix 1 (.var (.slice) 3) (.ar .quo .i64 (.ar .add .i64 (.var (.int .i64) 6) (.var (.int .i64) 25)) (.cst (.int .i64 8)))) [.int .u8]
          (.need (.cm .geq (.cv .u64 (.ar .rem .i64 (.ar .add .i64 (.var (.int .i64) 6) (.var (.int .i64) 25)) (.cst (.int .i64 8)))) (.cst (.int .u64 0)))
          (.cont 5 [(.ar .add .u64 (.ar .mul .u64 (.cst (.int .u64 2)) (.var (.int .u64) 24)) (.ar .rem .u64 (.cv .u64 (.ar .shr .u8 (.var (.int .u8) 26) (.cv .u64 (.ar .rem .i64 (.ar .add .i64 (.var (.int .i64) 6) (.var (.int .i64) 25)) (.cst (.int .i64 8)))))) (.cst (.int .u64 2)))), (.ar .sub .i64 (.var (.int .i64) 25) (.cst (.int .i64 1)))]))))))
          (.lift (.br (.cm .neq (.var (.int .u64) 17) (.var (.int .u64) 24))
           (.ret (.x (.cst (.bool false))))
           (.cont 4 [(.ar .add .i64 (.var (.int .i64) 6) (.ar .rem .i64 (.var (.int .i64) 15) (.cst (.int .i64 20))))]))))))
        (.cont 4 [(.var (.int .i64) 6)]))
       (.cont 1 [(.var (.int .i64) 11), (.var (.int .i64) 24), (.ar .add .i64 (.var (.int .i64) 7) (.cst (.int .i64 1))), (.var (.slice) 18), (.var (.int .i64) 19), (.var (.int .i64) 20)]))))))))
   (.join [.bool, .bool]
    (.br (.cm .eql (.var (.int .i64) 10) (.var (.int .i64) 6))
     (.call F_impl_ValidBits [(.agg [(.var (.slice) 8), (.var (.int .i64) 9), (.var (.int .i64) 10)])] false [(false, [.bool])]
     (.cont 3 [(.var (.bool) 11), (.var (.bool) 11)]))
     (.cont 3 [(.cst (.bool false)), (.cst (.bool false))]))
    (.ret (.x (.var (.bool) 11)))))))))))
set_option maxRecDepth 100000 in
theorem s_laws_FnFeed : sxF c_laws_FnFeed Try.f14 p_laws_FnFeed = some t_laws_FnFeed := by kernel_rfl
theorem e_laws_FnFeed (xs : Array Value) (w : World) : (callFunc F_laws_FnFeed xs).runT Try.prog w #[] = (.ok (.enter F_laws_FnFeed xs) w, #[]) := ent_of Try.func14 (by kernel_rfl) (by kernel_rfl) xs w
theorem run_laws_FnFeed {S : Nat → Prop} {h : Eng.Heap} {Q : Value → Eng.Heap → Prop} {vs : List Value} (hsh : shOk (resShs p_laws_FnFeed) vs) (hi : Inv S h) (hw : t_laws_FnFeed.wp Try.prog S noLeaf Q vs h []) : CallsH Try.prog S F_laws_FnFeed (argVals p_laws_FnFeed vs) h Q :=
  sxF_ok (cfg := c_laws_FnFeed) tabFFOk mixedFF Try.func14 rfl s_laws_FnFeed e_laws_FnFeed rfl hsh hi hw
end Go.Proofs.Ytchlnichbaoeaaa
