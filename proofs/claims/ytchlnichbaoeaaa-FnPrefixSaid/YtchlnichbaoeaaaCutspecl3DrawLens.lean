import Derived.Test.YtchlnichbaoeaaaTrDL
set_option linter.unusedVariables false
namespace Go.Proofs.Ytchlnichbaoeaaa
open Go Go.Eng
set_option maxRecDepth 100000 in
def dlD : Tr :=
(.call F_spec_l1Once [(.x (.var (.ptr) 0)), (.x (.cst (.int .i64 40)))] false [(false, [.bool])] (.join [.slice] (.br (.var (.bool) 9) (.loop [.slice] [(.var (.slice) 5)] (.call
 F_spec_l1Below [(.x (.var (.ptr) 0)), (.x (.cst (.int .i64 2)))] false [(false, [.int .i64])] (.lift (.br (.cm .lss (.ln (.var (.slice) 10)) (.ar .add .i64 (.cst (.int .i64 320))
(.var (.int .i64) 11))) (.hsl 2 1 [(.cst (.int .i64 0))] (.app 2 1 8 [(.int .i64 0)] (.var (.slice) 10) (.var (.slice) 12) (.cont 1 [(.var (.slice) 13)]))) (.cont 0 [(.var (.slice)
10)]))))) (.cont 0 [(.var (.slice) 5)])) (.ret (.x (.var (.slice) 10)))))
set_option maxRecDepth 100000 in
def dlC : Tr :=
(.join [] (.br (.cm .eql (.var (.int .i64) 6) (.cst (.int .i64 2))) (.need (.nt (.nn (.var (.slice) 5))) (.need (.cm .leq (.cst (.int .i64 0)) (.var (.int .i64) 7)) (.need (.cm .lss
(.var (.int .i64) 7) (.ln (.var (.slice) 5))) (.hsto (.ix 1 (.var (.slice) 5) (.var (.int .i64) 7)) [(.cst (.int .i64 0))] (.cont 0 []))))) (.cont 0 [])) dlD)
set_option maxRecDepth 100000 in
def dlB : Tr :=
(.join [] (.br (.var (.bool) 8) (.need (.nt (.nn (.var (.slice) 5))) (.need (.cm .leq (.cst (.int .i64 0)) (.var (.int .i64) 7)) (.need (.cm .lss (.var (.int .i64) 7) (.ln (.var
(.slice) 5))) (.load (.ix 1 (.var (.slice) 5) (.var (.int .i64) 7)) [.int .i64] (.need (.nt (.nn (.var (.slice) 5))) (.need (.cm .leq (.cst (.int .i64 0)) (.var (.int .i64) 7))
(.need (.cm .lss (.var (.int .i64) 7) (.ln (.var (.slice) 5))) (.hsto (.ix 1 (.var (.slice) 5) (.var (.int .i64) 7)) [(.ar .add .i64 (.var (.int .i64) 9) (.cst (.int .i64 1)))]
(.cont 0 []))))))))) (.cont 0 [])) dlC)
set_option maxRecDepth 100000 in
def dlA : Tr :=
(.join [.bool] (.br (.cm .eql (.var (.int .i64) 6) (.cst (.int .i64 1))) (.need (.nt (.nn (.var (.slice) 5))) (.need (.cm .leq (.cst (.int .i64 0)) (.var (.int .i64) 7)) (.need (.cm
.lss (.var (.int .i64) 7) (.ln (.var (.slice) 5))) (.load (.ix 1 (.var (.slice) 5) (.var (.int .i64) 7)) [.int .i64] (.cont 0 [(.cm .lss (.var (.int .i64) 8) (.cst (.int .i64
15)))]))))) (.cont 0 [(.cst (.bool false))])) dlB)
set_option maxRecDepth 100000 in
theorem spec_l3DrawLens_cut : t_spec_l3DrawLens =
(.call F_spec_l1Below [(.x (.var (.ptr) 0)), (.x (.cst (.int .i64 24)))] false [(false, [.int .i64])] (.call F_spec_l1Below [(.x (.var (.ptr) 0)), (.x (.ar .add .i64 (.ar .add .i64
(.cst (.int .i64 1)) (.var (.int .i64) 1)) (.cst (.int .i64 1))))] false [(false, [.int .i64])] (.call F_spec_l1Below [(.x (.var (.ptr) 0)), (.x (.cst (.int .i64 15)))] false
[(false, [.int .i64])] (.call F_spec_l3Pick [(.x (.var (.ptr) 0)), (.x (.ar .add .i64 (.cst (.int .i64 1)) (.var (.int .i64) 1))), (.x (.var (.int .i64) 2))] false [(false,
[.slice])] (.call F_spec_l3Spread [(.x (.var (.ptr) 0)), (.x (.ar .add .i64 (.cst (.int .i64 1)) (.var (.int .i64) 1))), (.x (.var (.slice) 4)), (.x (.ar .add .i64 (.cst (.int .i64
1)) (.var (.int .i64) 3)))] false [(false, [.slice])] (.call F_spec_l1Below [(.x (.var (.ptr) 0)), (.x (.cst (.int .i64 8)))] false [(false, [.int .i64])] (.call F_spec_l1Below [(.x
(.var (.ptr) 0)), (.x (.ar .add .i64 (.cst (.int .i64 1)) (.var (.int .i64) 1)))] false [(false, [.int .i64])] (.join [] (.br (.cm .eql (.var (.int .i64) 6) (.cst (.int .i64 0)))
(.call F_spec_l1Below [(.x (.var (.ptr) 0)), (.x (.cst (.int .i64 18)))] false [(false, [.int .i64])] (.need (.nt (.nn (.var (.slice) 5))) (.need (.cm .leq (.cst (.int .i64 0))
(.var (.int .i64) 7)) (.need (.cm .lss (.var (.int .i64) 7) (.ln (.var (.slice) 5))) (.hsto (.ix 1 (.var (.slice) 5) (.var (.int .i64) 7)) [(.ar .sub .i64 (.var (.int .i64) 8) (.cst
(.int .i64 1)))] (.cont 0 [])))))) (.cont 0 [])) dlA)))))))) := rfl
end Go.Proofs.Ytchlnichbaoeaaa
