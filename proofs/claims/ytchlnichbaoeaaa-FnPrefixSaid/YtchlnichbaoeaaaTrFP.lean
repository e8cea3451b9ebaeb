-- printed by a generator of my own (wip/eng/Gen) from the translation
import Derived.Test.YtchlnichbaoeaaaEng2
import Derived.Test.YtchlnichbaoeaaaChecked
import Derived.Test.YtchlnichbaoeaaaNums
set_option linter.unusedVariables false
set_option linter.unusedSimpArgs false
namespace Go.Proofs.Ytchlnichbaoeaaa
open Go Go.Eng
def tabFP : List (TypeId × TyD) := [(0, ⟨.oth, 1, 0, [], none, some []⟩),
  (2, ⟨(.int .i64), 1, 8, [.int .i64], some [(1, (.int .i64 0))], none⟩),
  (3, ⟨(.int .i64), 1, 8, [.int .i64], some [(1, (.int .i64 0))], none⟩),
  (4, ⟨.bool, 1, 1, [.bool], some [(1, (.bool false))], none⟩),
  (5, ⟨(.int .u8), 1, 1, [.int .u8], some [(1, (.int .u8 0))], none⟩),
  (22, ⟨(.sl 5), 1, 24, [.slice], some [(1, .nilSl)], none⟩),
  (54, ⟨(.int .u64), 1, 8, [.int .u64], some [(1, (.int .u64 0))], none⟩),
  (72, ⟨(.sl 2), 1, 24, [.slice], some [(1, .nilSl)], none⟩),
  (73, ⟨(.sl 105), 1, 24, [.slice], some [(1, .nilSl)], none⟩),
  (82, ⟨(.st [(0, 2), (1, 2), (2, 2)]), 3, 24, [.int .i64, .int .i64, .int .i64], some [(3, (.int .i64 0))], none⟩),
  (101, ⟨(.int .u64), 1, 8, [.int .u64], some [(1, (.int .u64 0))], none⟩),
  (105, ⟨(.st [(0, 2), (1, 54)]), 2, 16, [.int .i64, .int .u64], some [(1, (.int .i64 0)), (1, (.int .u64 0))], none⟩)]
set_option maxRecDepth 100000 in
theorem tabFPOk : TabOk Try.prog tabFP := tabOk_of (by kernel_rfl)
theorem mixedFP : Try.prog.follows .mixedOrders = true := by kernel_rfl
/- function 15 -/
def c_laws_FnPrefix : Cfg := ⟨tabFP, [⟨14, [8, 9], [], [47, 48, 49, 50, 51, 52, 53, 54, 55, 56, 57]⟩, ⟨25, [12], [], [13, 78, 79, 80, 81, 82, 83, 84, 85, 86, 87, 88, 89, 90, 91, 92, 93, 94, 95, 96, 97, 98, 99, 100, 101, 102, 103, 104, 105, 106, 107, 108, 109, 110, 111, 112, 113, 114, 115, 116, 117, 118, 119, 120, 121, 122, 123, 124, 125, 126, 127]⟩, ⟨18, [10], [], [11, 12, 13, 14, 58, 59, 60, 61, 62, 63, 64, 65, 66, 67, 68, 69, 70, 71, 72, 73, 74, 75, 76, 77, 78, 79, 80, 81, 82, 83, 84, 85, 86, 87, 88, 89, 90, 91, 92, 93, 94, 95, 96, 97, 98, 99, 100, 101, 102, 103, 104, 105, 106, 107, 108, 109, 110, 111, 112, 113, 114, 115, 116, 117, 118, 119, 120, 121, 122, 123, 124, 125, 126, 127, 128, 129, 130, 131, 132, 133, 134, 135, 136, 137, 138, 139, 140, 141, 142, 143, 144, 145, 146, 147, 148, 149, 150, 151, 152, 153, 154, 155, 156, 157, 158, 159, 160, 161, 162, 163, 164]⟩], [], [.tmp 4]⟩
def p_laws_FnPrefix : List (Bool × List Sh) := [(false, [.slice]), (false, [.slice])]
set_option maxRecDepth 100000 in
def t_laws_FnPrefix : Tr :=
(.lift (.br (.it (.cm .gtr (.ln (.var (.slice) 0)) (.cst (.int .i64 1048576))) (.cst (.bool true)) (.cm .gtr (.ln (.var (.slice) 1)) (.cst (.int .i64 1048576))))
 (.ret (.x (.cst (.bool true))))
 (.call F_spec_DrawHuffCodes [(.x (.var (.slice) 0))] false [(false, [.slice])]
 (.call F_spec_HuffKind [(.x (.var (.slice) 2))] false [(false, [.int .i64])]
 (.call F_impl_HuffCodes [(.x (.var (.slice) 2))] false [(false, [.slice])]
 (.call F_impl_HuffKind [(.x (.var (.slice) 2))] false [(false, [.int .i64])]
 (.lift (.br (.cm .neq (.var (.int .i64) 5) (.var (.int .i64) 3))
  (.ret (.x (.cst (.bool false))))
  (.lift (.br (.it (.cm .eql (.var (.int .i64) 3) (.cst (.int .i64 0))) (.cst (.bool true)) (.cm .eql (.var (.int .i64) 3) (.cst (.int .i64 2))))
   (.ret (.x (.cm .eql (.ln (.var (.slice) 4)) (.cst (.int .i64 0)))))
   (.lift (.br (.cm .neq (.ln (.var (.slice) 4)) (.ln (.var (.slice) 2)))
    (.ret (.x (.cst (.bool false))))
    (.loop [.int .u64, .int .i64] [(.cst (.int .u64 0)), (.cst (.int .i64 0))]
     (.lift (.br (.cm .lss (.var (.int .i64) 7) (.cst (.int .i64 6)))
      (.call F_laws_lwAt [(.x (.var (.slice) 1)), (.x (.var (.int .i64) 7))] false [(false, [.int .i64])]
      (.cont 4 [(.ar .add .u64 (.ar .mul .u64 (.cst (.int .u64 256)) (.var (.int .u64) 6)) (.cv .u64 (.var (.int .i64) 8))), (.ar .add .i64 (.var (.int .i64) 7) (.cst (.int .i64 1)))]))
      (.loop [.int .i64] [(.cst (.int .i64 0))]
       (.lift (.br (.cm .lss (.var (.int .i64) 8) (.ln (.var (.slice) 4)))
        (.need (.nt (.nn (.var (.slice) 4)))
        (.need (.cm .leq (.cst (.int .i64 0)) (.var (.int .i64) 8))
        (.need (.cm .lss (.var (.int .i64) 8) (.ln (.var (.slice) 4)))
        (.load (.ix 2 (.var (.slice) 4) (.var (.int .i64) 8)) [.int .i64, .int .u64]
        (.need (.nt (.nn (.var (.slice) 2)))
        (.need (.cm .leq (.cst (.int .i64 0)) (.var (.int .i64) 8))
        (.need (.cm .lss (.var (.int .i64) 8) (.ln (.var (.slice) 2)))
        (.load (.ix 1 (.var (.slice) 2) (.var (.int .i64) 8)) [.int .i64]
        (.lift (.br (.cm .neq (.var (.int .i64) 9) (.var (.int .i64) 11))
         (.ret (.x (.cst (.bool false))))
         (.join []
          (.br (.cm .gtr (.var (.int .i64) 9) (.cst (.int .i64 0)))
           (.loop [.int .i64] [(.cst (.int .i64 0))]
            (.lift (.br (.cm .lss (.var (.int .i64) 12) (.var (.int .i64) 8))
             (.need (.nt (.nn (.var (.slice) 4)))
             (.need (.cm .leq (.cst (.int .i64 0)) (.var (.int .i64) 12))
             (.need (.cm .lss (.var (.int .i64) 12) (.ln (.var (.slice) 4)))
             (.load (.ix 2 (.var (.slice) 4) (.var (.int .i64) 12)) [.int .i64, .int .u64]
             (.join [.bool]
              (.br (.cm .gtr (.var (.int .i64) 13) (.cst (.int .i64 0)))
               (.br (.cm .leq (.var (.int .i64) 13) (.var (.int .i64) 9))
                (.need (.cm .geq (.cv .u64 (.var (.int .i64) 13)) (.cst (.int .u64 0)))
                (.need (.cm .neq (.ar .shl .u64 (.cst (.int .u64 1)) (.cv .u64 (.var (.int .i64) 13))) (.cst (.int .u64 0)))
                (.br (.nt (.cm .eql (.ar .rem .u64 (.var (.int .u64) 10) (.ar .shl .u64 (.cst (.int .u64 1)) (.cv .u64 (.var (.int .i64) 13)))) (.var (.int .u64) 14)))
                 (.br (.cm .leq (.var (.int .i64) 9) (.var (.int .i64) 13))
                  (.need (.cm .geq (.cv .u64 (.var (.int .i64) 9)) (.cst (.int .u64 0)))
                  (.need (.cm .neq (.ar .shl .u64 (.cst (.int .u64 1)) (.cv .u64 (.var (.int .i64) 9))) (.cst (.int .u64 0)))
                  (.cont 12 [(.cm .eql (.ar .rem .u64 (.var (.int .u64) 14) (.ar .shl .u64 (.cst (.int .u64 1)) (.cv .u64 (.var (.int .i64) 9)))) (.var (.int .u64) 10))])))
                  (.cont 12 [(.cst (.bool false))]))
                 (.cont 12 [(.cst (.bool true))]))))
                (.br (.cm .leq (.var (.int .i64) 9) (.var (.int .i64) 13))
                 (.need (.cm .geq (.cv .u64 (.var (.int .i64) 9)) (.cst (.int .u64 0)))
                 (.need (.cm .neq (.ar .shl .u64 (.cst (.int .u64 1)) (.cv .u64 (.var (.int .i64) 9))) (.cst (.int .u64 0)))
                 (.cont 12 [(.cm .eql (.ar .rem .u64 (.var (.int .u64) 14) (.ar .shl .u64 (.cst (.int .u64 1)) (.cv .u64 (.var (.int .i64) 9)))) (.var (.int .u64) 10))])))
                 (.cont 12 [(.cst (.bool false))])))
               (.cont 12 [(.cst (.bool false))]))
              (.lift (.br (.var (.bool) 15)
               (.ret (.x (.cst (.bool false))))
               (.cont 10 [(.ar .add .i64 (.var (.int .i64) 12) (.cst (.int .i64 1)))]))))))))
             (.need (.cm .geq (.cv .u64 (.var (.int .i64) 9)) (.cst (.int .u64 0)))
             (.call F_impl_HuffNext [(.x (.var (.slice) 2)), (.x (.ar .add .u64 (.var (.int .u64) 10) (.ar .shl .u64 (.var (.int .u64) 6) (.cv .u64 (.var (.int .i64) 9))))), (.x (.cst (.int .i64 60)))] false [(true, [.int .i64, .int .i64, .int .i64])]
             (.join [.bool]
              (.br (.nt (.it (.it (.cm .neq (.var (.int .i64) 13) (.cst (.int .i64 1))) (.cst (.bool true)) (.cm .neq (.var (.int .i64) 14) (.var (.int .i64) 8))) (.cst (.bool true)) (.cm .neq (.var (.int .i64) 15) (.var (.int .i64) 9))))
               (.call F_impl_HuffNext [(.x (.var (.slice) 2)), (.x (.var (.int .u64) 10)), (.x (.ar .sub .i64 (.var (.int .i64) 9) (.cst (.int .i64 1))))] false [(true, [.int .i64, .int .i64, .int .i64])]
               (.cont 12 [(.cm .neq (.var (.int .i64) 16) (.cst (.int .i64 2)))]))
               (.cont 12 [(.cst (.bool true))]))
              (.lift (.br (.var (.bool) 16)
               (.ret (.x (.cst (.bool false))))
               (.cont 9 [])))))))))
           (.cont 9 []))
          (.cont 6 [(.ar .add .i64 (.var (.int .i64) 8) (.cst (.int .i64 1)))]))))))))))))
        (.join [.bool, .bool]
         (.br (.nt (.cm .neq (.var (.int .i64) 3) (.cst (.int .i64 1))))
          (.call F_impl_HuffNext [(.x (.var (.slice) 2)), (.x (.var (.int .u64) 6)), (.x (.cst (.int .i64 40)))] false [(true, [.int .i64, .int .i64, .int .i64])]
          (.cont 8 [(.cm .eql (.var (.int .i64) 9) (.cst (.int .i64 1))), (.cm .eql (.var (.int .i64) 9) (.cst (.int .i64 1)))]))
          (.cont 8 [(.cst (.bool true)), (.cst (.bool true))]))
         (.ret (.x (.var (.bool) 9))))))))))))))))))))))
set_option maxRecDepth 100000 in
theorem s_laws_FnPrefix : sxF c_laws_FnPrefix Try.f15 p_laws_FnPrefix = some t_laws_FnPrefix := by kernel_rfl
theorem e_laws_FnPrefix (xs : Array Value) (w : World) : (callFunc F_laws_FnPrefix xs).runT Try.prog w #[] = (.ok (.enter F_laws_FnPrefix xs) w, #[]) := ent_of Try.func15 (by kernel_rfl) (by kernel_rfl) xs w
theorem run_laws_FnPrefix {S : Nat → Prop} {h : Eng.Heap} {Q : Value → Eng.Heap → Prop} {vs : List Value} (hsh : shOk (resShs p_laws_FnPrefix) vs) (hi : Inv S h) (hw : t_laws_FnPrefix.wp Try.prog S noLeaf Q vs h []) : CallsH Try.prog S F_laws_FnPrefix (argVals p_laws_FnPrefix vs) h Q :=
  sxF_ok (cfg := c_laws_FnPrefix) tabFPOk mixedFP Try.func15 rfl s_laws_FnPrefix e_laws_FnPrefix rfl hsh hi hw
end Go.Proofs.Ytchlnichbaoeaaa
