import Derived.Test.YtchlnichbaoeaaaTrFP
set_option linter.unusedVariables false
namespace Go.Proofs.Ytchlnichbaoeaaa
open Go Go.Eng
set_option maxRecDepth 100000 in
def fpE : Tr :=
(.join [.bool, .bool] (.br (.nt (.cm .neq (.var (.int .i64) 3) (.cst (.int .i64 1)))) (.call F_impl_HuffNext [(.x (.var (.slice) 2)), (.x (.var (.int .u64) 6)), (.x (.cst (.int .i64
40)))] false [(true, [.int .i64, .int .i64, .int .i64])] (.cont 8 [(.cm .eql (.var (.int .i64) 9) (.cst (.int .i64 1))), (.cm .eql (.var (.int .i64) 9) (.cst (.int .i64 1)))]))
(.cont 8 [(.cst (.bool true)), (.cst (.bool true))])) (.ret (.x (.var (.bool) 9))))
set_option maxRecDepth 100000 in
def fpB : Tr :=
(.join [.bool] (.br (.cm .gtr (.var (.int .i64) 13) (.cst (.int .i64 0))) (.br (.cm .leq (.var (.int .i64) 13) (.var (.int .i64) 9)) (.need (.cm .geq (.cv .u64 (.var (.int .i64)
13)) (.cst (.int .u64 0))) (.need (.cm .neq (.ar .shl .u64 (.cst (.int .u64 1)) (.cv .u64 (.var (.int .i64) 13))) (.cst (.int .u64 0))) (.br (.nt (.cm .eql (.ar .rem .u64 (.var
(.int .u64) 10) (.ar .shl .u64 (.cst (.int .u64 1)) (.cv .u64 (.var (.int .i64) 13)))) (.var (.int .u64) 14))) (.br (.cm .leq (.var (.int .i64) 9) (.var (.int .i64) 13)) (.need (.cm
.geq (.cv .u64 (.var (.int .i64) 9)) (.cst (.int .u64 0))) (.need (.cm .neq (.ar .shl .u64 (.cst (.int .u64 1)) (.cv .u64 (.var (.int .i64) 9))) (.cst (.int .u64 0))) (.cont 12
[(.cm .eql (.ar .rem .u64 (.var (.int .u64) 14) (.ar .shl .u64 (.cst (.int .u64 1)) (.cv .u64 (.var (.int .i64) 9)))) (.var (.int .u64) 10))]))) (.cont 12 [(.cst (.bool false))]))
(.cont 12 [(.cst (.bool true))])))) (.br (.cm .leq (.var (.int .i64) 9) (.var (.int .i64) 13)) (.need (.cm .geq (.cv .u64 (.var (.int .i64) 9)) (.cst (.int .u64 0))) (.need (.cm
.neq (.ar .shl .u64 (.cst (.int .u64 1)) (.cv .u64 (.var (.int .i64) 9))) (.cst (.int .u64 0))) (.cont 12 [(.cm .eql (.ar .rem .u64 (.var (.int .u64) 14) (.ar .shl .u64 (.cst (.int
.u64 1)) (.cv .u64 (.var (.int .i64) 9)))) (.var (.int .u64) 10))]))) (.cont 12 [(.cst (.bool false))]))) (.cont 12 [(.cst (.bool false))])) (.lift (.br (.var (.bool) 15) (.ret (.x
(.cst (.bool false)))) (.cont 10 [(.ar .add .i64 (.var (.int .i64) 12) (.cst (.int .i64 1)))]))))
set_option maxRecDepth 100000 in
def fpN : Tr :=
(.need (.cm .geq (.cv .u64 (.var (.int .i64) 9)) (.cst (.int .u64 0))) (.call F_impl_HuffNext [(.x (.var (.slice) 2)), (.x (.ar .add .u64 (.var (.int .u64) 10) (.ar .shl .u64 (.var
(.int .u64) 6) (.cv .u64 (.var (.int .i64) 9))))), (.x (.cst (.int .i64 60)))] false [(true, [.int .i64, .int .i64, .int .i64])] (.join [.bool] (.br (.nt (.it (.it (.cm .neq (.var
(.int .i64) 13) (.cst (.int .i64 1))) (.cst (.bool true)) (.cm .neq (.var (.int .i64) 14) (.var (.int .i64) 8))) (.cst (.bool true)) (.cm .neq (.var (.int .i64) 15) (.var (.int
.i64) 9)))) (.call F_impl_HuffNext [(.x (.var (.slice) 2)), (.x (.var (.int .u64) 10)), (.x (.ar .sub .i64 (.var (.int .i64) 9) (.cst (.int .i64 1))))] false [(true, [.int .i64,
.int .i64, .int .i64])] (.cont 12 [(.cm .neq (.var (.int .i64) 16) (.cst (.int .i64 2)))])) (.cont 12 [(.cst (.bool true))])) (.lift (.br (.var (.bool) 16) (.ret (.x (.cst (.bool
 false)))) (.cont 9 []))))))
set_option maxRecDepth 100000 in
def fpS : Tr :=
(.loop [.int .i64] [(.cst (.int .i64 0))] (.lift (.br (.cm .lss (.var (.int .i64) 8) (.ln (.var (.slice) 4))) (.need (.nt (.nn (.var (.slice) 4))) (.need (.cm .leq (.cst (.int .i64
0)) (.var (.int .i64) 8)) (.need (.cm .lss (.var (.int .i64) 8) (.ln (.var (.slice) 4))) (.load (.ix 2 (.var (.slice) 4) (.var (.int .i64) 8)) [.int .i64, .int .u64] (.need (.nt
(.nn (.var (.slice) 2))) (.need (.cm .leq (.cst (.int .i64 0)) (.var (.int .i64) 8)) (.need (.cm .lss (.var (.int .i64) 8) (.ln (.var (.slice) 2))) (.load (.ix 1 (.var (.slice) 2)
(.var (.int .i64) 8)) [.int .i64] (.lift (.br (.cm .neq (.var (.int .i64) 9) (.var (.int .i64) 11)) (.ret (.x (.cst (.bool false)))) (.join [] (.br (.cm .gtr (.var (.int .i64) 9)
(.cst (.int .i64 0))) (.loop [.int .i64] [(.cst (.int .i64 0))] (.lift (.br (.cm .lss (.var (.int .i64) 12) (.var (.int .i64) 8)) (.need (.nt (.nn (.var (.slice) 4))) (.need (.cm
.leq (.cst (.int .i64 0)) (.var (.int .i64) 12)) (.need (.cm .lss (.var (.int .i64) 12) (.ln (.var (.slice) 4))) (.load (.ix 2 (.var (.slice) 4) (.var (.int .i64) 12)) [.int .i64,
.int .u64] fpB)))) fpN))) (.cont 9 [])) (.cont 6 [(.ar .add .i64 (.var (.int .i64) 8) (.cst (.int .i64 1)))])))))))))))) fpE)))
set_option maxRecDepth 100000 in
theorem laws_FnPrefix_cut : t_laws_FnPrefix =
(.lift (.br (.it (.cm .gtr (.ln (.var (.slice) 0)) (.cst (.int .i64 1048576))) (.cst (.bool true)) (.cm .gtr (.ln (.var (.slice) 1)) (.cst (.int .i64 1048576)))) (.ret (.x (.cst
(.bool true)))) (.call F_spec_DrawHuffCodes [(.x (.var (.slice) 0))] false [(false, [.slice])] (.call F_spec_HuffKind [(.x (.var (.slice) 2))] false [(false, [.int .i64])] (.call
 F_impl_HuffCodes [(.x (.var (.slice) 2))] false [(false, [.slice])] (.call F_impl_HuffKind [(.x (.var (.slice) 2))] false [(false, [.int .i64])] (.lift (.br (.cm .neq (.var (.int
.i64) 5) (.var (.int .i64) 3)) (.ret (.x (.cst (.bool false)))) (.lift (.br (.it (.cm .eql (.var (.int .i64) 3) (.cst (.int .i64 0))) (.cst (.bool true)) (.cm .eql (.var (.int .i64)
3) (.cst (.int .i64 2)))) (.ret (.x (.cm .eql (.ln (.var (.slice) 4)) (.cst (.int .i64 0))))) (.lift (.br (.cm .neq (.ln (.var (.slice) 4)) (.ln (.var (.slice) 2))) (.ret (.x (.cst
(.bool false)))) (.loop [.int .u64, .int .i64] [(.cst (.int .u64 0)), (.cst (.int .i64 0))] (.lift (.br (.cm .lss (.var (.int .i64) 7) (.cst (.int .i64 6))) (.call F_laws_lwAt [(.x
(.var (.slice) 1)), (.x (.var (.int .i64) 7))] false [(false, [.int .i64])] (.cont 4 [(.ar .add .u64 (.ar .mul .u64 (.cst (.int .u64 256)) (.var (.int .u64) 6)) (.cv .u64 (.var
(.int .i64) 8))), (.ar .add .i64 (.var (.int .i64) 7) (.cst (.int .i64 1)))])) fpS))))))))))))))) := rfl
end Go.Proofs.Ytchlnichbaoeaaa
