import Derived.Test.YtchlnichbaoeaaaTrFW
set_option linter.unusedVariables false
namespace Go.Proofs.Ytchlnichbaoeaaa
open Go Go.Eng
set_option maxRecDepth 100000 in
def winT : Tr :=
(.join [.slice] (.br (.cm .gtr (.ln (.var (.slice) 14)) (.var (.int .i64) 2)) (.need (.cm .leq (.cst (.int .i64 0)) (.ar .sub .i64 (.ln (.var (.slice) 14)) (.var (.int .i64) 2)))
(.need (.cm .leq (.ar .sub .i64 (.ln (.var (.slice) 14)) (.var (.int .i64) 2)) (.ln (.var (.slice) 14))) (.cont 4 [(.sub 1 (.var (.slice) 14) (.ar .sub .i64 (.ln (.var (.slice) 14))
(.var (.int .i64) 2)) .nl .nl)]))) (.cont 4 [(.var (.slice) 14)])) (.join [.bool] (.br (.nt (.cm .neq (.var (.int .i64) 15) (.var (.int .i64) 2))) (.call F_laws_lwBytes [(.x (.var
(.slice) 16)), (.x (.var (.slice) 17))] false [(false, [.bool])] (.cont 4 [(.nt (.var (.bool) 18))])) (.cont 4 [(.cst (.bool true))])) (.lift (.br (.var (.bool) 18) (.ret (.x (.cst
(.bool false)))) (.cont 2 [(.var (.slice) 14), (.ar .add .i64 (.var (.int .i64) 9) (.cst (.int .i64 1))), (.var (.int .i64) 15), (.var (.slice) 16)])))))
set_option maxRecDepth 100000 in
theorem laws_FnWindow_cut : t_laws_FnWindow =
(.lift (.br (.it (.cm .gtr (.ln (.var (.slice) 0)) (.cst (.int .i64 1048576))) (.cst (.bool true)) (.cm .gtr (.ln (.var (.slice) 1)) (.cst (.int .i64 1048576)))) (.ret (.x (.cst
(.bool true)))) (.call F_spec_DrawWindowNew [(.x (.var (.slice) 0))] true [(false, [.int .i64]), (false, [.slice])] (.call F_impl_WindowNew [(.x (.var (.int .i64) 2)), (.x (.var
(.slice) 3))] false [(true, [.int .i64, .slice])] (.lift (.br (.it (.cm .lss (.var (.int .i64) 2) (.cst (.int .i64 1))) (.cst (.bool true)) (.cm .gtr (.var (.int .i64) 2) (.cst
(.int .i64 32768)))) (.join [.bool, .bool] (.br (.cm .eql (.var (.int .i64) 4) (.cst (.int .i64 0))) (.call F_impl_ValidWindow [(.agg [(.var (.int .i64) 4), (.var (.slice) 5)])]
 false [(false, [.bool])] (.cont 2 [(.nt (.var (.bool) 6)), (.nt (.var (.bool) 6))])) (.cont 2 [(.cst (.bool false)), (.cst (.bool false))])) (.ret (.x (.var (.bool) 6)))) (.hsl 5 0
[] (.app 5 1 1 [(.int .u8 0)] (.var (.slice) 6) (.var (.slice) 3) (.loop [.slice, .int .i64, .int .i64, .slice] [(.var (.slice) 7), (.cst (.int .i64 0)), (.var (.int .i64) 4), (.var
(.slice) 5)] (.lift (.br (.cm .lss (.var (.int .i64) 9) (.cst (.int .i64 8))) (.call F_laws_lwAt [(.x (.var (.slice) 1)), (.x (.ar .mul .i64 (.cst (.int .i64 2)) (.var (.int .i64)
9)))] false [(false, [.int .i64])] (.call F_laws_lwAt [(.x (.var (.slice) 1)), (.x (.ar .add .i64 (.ar .mul .i64 (.cst (.int .i64 2)) (.var (.int .i64) 9)) (.cst (.int .i64 1))))]
 false [(false, [.int .i64])] (.join [.slice, .int .i64, .slice] (.br (.cm .eql (.ar .rem .i64 (.var (.int .i64) 12) (.cst (.int .i64 2))) (.cst (.int .i64 0))) (.hsl 5 3 [(.cv .u8
(.var (.int .i64) 12)), (.cv .u8 (.ar .add .i64 (.cst (.int .i64 1)) (.ar .rem .i64 (.var (.int .i64) 13) (.cst (.int .i64 30))))), (.cv .u8 (.var (.int .i64) 9))] (.app 5 1 1
[(.int .u8 0)] (.var (.slice) 8) (.var (.slice) 14) (.call F_impl_WindowPut [(.agg [(.var (.int .i64) 10), (.var (.slice) 11)]), (.x (.var (.slice) 14))] false [(true, [.int .i64,
.slice])] (.cont 4 [(.var (.slice) 15), (.var (.int .i64) 16), (.var (.slice) 17)])))) (.call F_impl_WindowCopy [(.agg [(.var (.int .i64) 10), (.var (.slice) 11)]), (.x (.ar .add
.i64 (.cst (.int .i64 1)) (.ar .rem .i64 (.ar .quo .i64 (.var (.int .i64) 12) (.cst (.int .i64 2))) (.cst (.int .i64 16))))), (.x (.ar .add .i64 (.cst (.int .i64 1)) (.ar .rem .i64
(.var (.int .i64) 13) (.cst (.int .i64 30)))))] false [(true, [.bool, .slice, .int .i64, .slice])] (.lift (.br (.nt (.bq (.var (.bool) 14) (.cm .leq (.ar .add .i64 (.cst (.int .i64
1)) (.ar .rem .i64 (.ar .quo .i64 (.var (.int .i64) 12) (.cst (.int .i64 2))) (.cst (.int .i64 16)))) (.it (.cm .gtr (.ln (.var (.slice) 8)) (.var (.int .i64) 2)) (.var (.int .i64)
2) (.ln (.var (.slice) 8)))))) (.ret (.x (.cst (.bool false)))) (.join [.slice, .int .i64, .slice] (.br (.var (.bool) 14) (.loop [.slice, .int .i64] [(.var (.slice) 8), (.cst (.int
.i64 0))] (.lift (.br (.cm .lss (.var (.int .i64) 19) (.ar .add .i64 (.cst (.int .i64 1)) (.ar .rem .i64 (.var (.int .i64) 13) (.cst (.int .i64 30))))) (.need (.nt (.nn (.var
(.slice) 18))) (.need (.cm .leq (.cst (.int .i64 0)) (.ar .sub .i64 (.ln (.var (.slice) 18)) (.ar .add .i64 (.cst (.int .i64 1)) (.ar .rem .i64 (.ar .quo .i64 (.var (.int .i64) 12)
(.cst (.int .i64 2))) (.cst (.int .i64 16)))))) (.need (.cm .lss (.ar .sub .i64 (.ln (.var (.slice) 18)) (.ar .add .i64 (.cst (.int .i64 1)) (.ar .rem .i64 (.ar .quo .i64 (.var
(.int .i64) 12) (.cst (.int .i64 2))) (.cst (.int .i64 16))))) (.ln (.var (.slice) 18))) (.load (.ix 1 (.var (.slice) 18) (.ar .sub .i64 (.ln (.var (.slice) 18)) (.ar .add .i64
(.cst (.int .i64 1)) (.ar .rem .i64 (.ar .quo .i64 (.var (.int .i64) 12) (.cst (.int .i64 2))) (.cst (.int .i64 16)))))) [.int .u8] (.hsl 5 1 [(.var (.int .u8) 20)] (.app 5 1 1
[(.int .u8 0)] (.var (.slice) 18) (.var (.slice) 21) (.cont 7 [(.var (.slice) 22), (.ar .add .i64 (.var (.int .i64) 19) (.cst (.int .i64 1)))]))))))) (.need (.cm .leq (.cst (.int
.i64 0)) (.ar .sub .i64 (.ln (.var (.slice) 18)) (.ar .add .i64 (.cst (.int .i64 1)) (.ar .rem .i64 (.var (.int .i64) 13) (.cst (.int .i64 30)))))) (.need (.cm .leq (.ar .sub .i64
(.ln (.var (.slice) 18)) (.ar .add .i64 (.cst (.int .i64 1)) (.ar .rem .i64 (.var (.int .i64) 13) (.cst (.int .i64 30))))) (.ln (.var (.slice) 18))) (.call F_laws_lwBytes [(.x (.var
(.slice) 15)), (.x (.sub 1 (.var (.slice) 18) (.ar .sub .i64 (.ln (.var (.slice) 18)) (.ar .add .i64 (.cst (.int .i64 1)) (.ar .rem .i64 (.var (.int .i64) 13) (.cst (.int .i64
30))))) .nl .nl))] false [(false, [.bool])] (.lift (.br (.nt (.var (.bool) 20)) (.ret (.x (.cst (.bool false)))) (.cont 6 [(.var (.slice) 18), (.var (.int .i64) 16), (.var (.slice)
17)]))))))))) (.cont 6 [(.var (.slice) 8), (.var (.int .i64) 10), (.var (.slice) 11)])) (.cont 4 [(.var (.slice) 18), (.var (.int .i64) 19), (.var (.slice) 20)])))))) winT))) (.ret
(.x (.cst (.bool true))))))))))))))) := rfl
end Go.Proofs.Ytchlnichbaoeaaa
