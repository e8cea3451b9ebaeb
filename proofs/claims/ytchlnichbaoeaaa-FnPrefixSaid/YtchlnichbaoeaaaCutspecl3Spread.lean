import Derived.Test.YtchlnichbaoeaaaTrDL
set_option linter.unusedVariables false
namespace Go.Proofs.Ytchlnichbaoeaaa
open Go Go.Eng
set_option maxRecDepth 100000 in
def sprT : Tr :=
(.join [] (.br (.cm .gtr (.ln (.var (.slice) 2)) (.cst (.int .i64 1))) (.call F_spec_l3Leaves [(.x (.var (.ptr) 0)), (.x (.ln (.var (.slice) 2))), (.x (.var (.int .i64) 3))] false
[(false, [.slice])] (.loop [.int .i64] [(.cst (.int .i64 0))] (.lift (.br (.it (.cm .lss (.var (.int .i64) 8) (.ln (.var (.slice) 2))) (.cm .lss (.var (.int .i64) 8) (.ln (.var
(.slice) 7))) (.cst (.bool false))) (.need (.nt (.nn (.var (.slice) 2))) (.need (.cm .leq (.cst (.int .i64 0)) (.var (.int .i64) 8)) (.need (.cm .lss (.var (.int .i64) 8) (.ln (.var
(.slice) 2))) (.load (.ix 1 (.var (.slice) 2) (.var (.int .i64) 8)) [.int .i64] (.need (.nt (.nn (.var (.slice) 7))) (.need (.cm .leq (.cst (.int .i64 0)) (.var (.int .i64) 8))
(.need (.cm .lss (.var (.int .i64) 8) (.ln (.var (.slice) 7))) (.load (.ix 1 (.var (.slice) 7) (.var (.int .i64) 8)) [.int .i64] (.need (.nt (.nn (.var (.slice) 5))) (.need (.cm
.leq (.cst (.int .i64 0)) (.var (.int .i64) 9)) (.need (.cm .lss (.var (.int .i64) 9) (.ln (.var (.slice) 5))) (.hsto (.ix 1 (.var (.slice) 5) (.var (.int .i64) 9)) [(.var (.int
.i64) 10)] (.cont 3 [(.ar .add .i64 (.var (.int .i64) 8) (.cst (.int .i64 1)))]))))))))))))) (.cont 2 []))))) (.cont 2 [])) (.ret (.x (.var (.slice) 5))))
set_option maxRecDepth 100000 in
theorem spec_l3Spread_cut : t_spec_l3Spread =
(.hsl 2 0 [] (.loop [.slice, .int .i64] [(.var (.slice) 4), (.cst (.int .i64 0))] (.lift (.br (.cm .lss (.var (.int .i64) 6) (.var (.int .i64) 1)) (.hsl 2 1 [(.cst (.int .i64 0))]
(.app 2 1 8 [(.int .i64 0)] (.var (.slice) 5) (.var (.slice) 7) (.cont 0 [(.var (.slice) 8), (.ar .add .i64 (.var (.int .i64) 6) (.cst (.int .i64 1)))]))) (.join [] (.br (.cm .eql
(.ln (.var (.slice) 2)) (.cst (.int .i64 1))) (.need (.nt (.nn (.var (.slice) 2))) (.need (.cm .leq (.cst (.int .i64 0)) (.cst (.int .i64 0))) (.need (.cm .lss (.cst (.int .i64 0))
(.ln (.var (.slice) 2))) (.load (.ix 1 (.var (.slice) 2) (.cst (.int .i64 0))) [.int .i64] (.need (.nt (.nn (.var (.slice) 5))) (.need (.cm .leq (.cst (.int .i64 0)) (.var (.int
.i64) 7)) (.need (.cm .lss (.var (.int .i64) 7) (.ln (.var (.slice) 5))) (.hsto (.ix 1 (.var (.slice) 5) (.var (.int .i64) 7)) [(.cst (.int .i64 1))] (.cont 2 []))))))))) (.cont 2
[])) sprT))))) := rfl
end Go.Proofs.Ytchlnichbaoeaaa
