import Derived.Test.YtmnialmphlbmaaaDoorTrIS
set_option linter.unusedVariables false
namespace Go.Proofs.YtmnialmphlbmaaaDoor
open Go Go.Eng
set_option maxRecDepth 100000 in
def bl4 : Tr :=
(.join [.slice, .int .i64, .int .i64, .slice, .int .i64, .int .i64, .int .i64] (.br (.cm .eql (.var (.int .i64) 40) (.cst (.int .i64 0))) (.call F_spec_l5Symbols [(.agg [(.var
(.slice) 38), (.var (.int .i64) 39), (.var (.int .i64) 40)]), (.agg [(.var (.slice) 30), (.var (.int .i64) 31), (.var (.int .i64) 32), (.var (.int .i64) 33)]), (.x (.var (.slice)
36)), (.x (.var (.slice) 37))] true [(true, [.slice, .int .i64, .int .i64]), (true, [.slice, .int .i64, .int .i64, .int .i64])] (.cont 3 [(.var (.slice) 41), (.var (.int .i64) 42),
(.var (.int .i64) 43), (.var (.slice) 44), (.var (.int .i64) 45), (.var (.int .i64) 46), (.var (.int .i64) 47)])) (.cont 3 [(.var (.slice) 38), (.var (.int .i64) 39), (.var (.int
.i64) 40), (.var (.slice) 30), (.var (.int .i64) 31), (.var (.int .i64) 32), (.var (.int .i64) 33)])) (.cont 2 [(.var (.slice) 41), (.var (.int .i64) 42), (.var (.int .i64) 43),
(.var (.slice) 44), (.var (.int .i64) 45), (.var (.int .i64) 46), (.var (.int .i64) 47)]))
set_option maxRecDepth 100000 in
def bl2 : Tr :=
(.join [.slice, .int .i64, .int .i64, .slice, .int .i64, .int .i64, .int .i64] (.br (.it (.cm .eql (.var (.int .i64) 29) (.cst (.int .i64 0))) (.cm .gtr (.var (.int .i64) 23) (.cst
(.int .i64 0))) (.cst (.bool false))) (.call F_spec_l5Fixed [] true [(false, [.slice]), (false, [.slice])] (.join [.slice, .slice, .slice, .int .i64, .int .i64] (.br (.cm .eql (.var
(.int .i64) 23) (.cst (.int .i64 2))) (.call F_spec_l5Lens [(.agg [(.var (.slice) 27), (.var (.int .i64) 28), (.var (.int .i64) 29)])] true [(true, [.slice, .int .i64, .int .i64]),
(false, [.slice]), (false, [.slice])] (.cont 3 [(.var (.slice) 39), (.var (.slice) 40), (.var (.slice) 36), (.var (.int .i64) 37), (.var (.int .i64) 38)])) (.cont 3 [(.var (.slice)
34), (.var (.slice) 35), (.var (.slice) 27), (.var (.int .i64) 28), (.var (.int .i64) 29)])) bl4)) (.cont 2 [(.var (.slice) 27), (.var (.int .i64) 28), (.var (.int .i64) 29), (.var
(.slice) 30), (.var (.int .i64) 31), (.var (.int .i64) 32), (.var (.int .i64) 33)])) (.cont 0 [(.var (.int .i64) 19), (.var (.int .i64) 23), (.var (.slice) 34), (.var (.int .i64)
35), (.var (.int .i64) 36), (.var (.slice) 37), (.var (.int .i64) 38), (.var (.int .i64) 39), (.var (.int .i64) 40)]))
set_option maxRecDepth 100000 in
theorem spec_l5Blocks_cut : t_spec_l5Blocks =
(.loop [.int .i64, .int .i64, .slice, .int .i64, .int .i64, .slice, .int .i64, .int .i64, .int .i64] [(.cst (.int .i64 0)), (.cst (.int .i64 0)), (.var (.slice) 0), (.var (.int
.i64) 1), (.var (.int .i64) 2), (.var (.slice) 3), (.var (.int .i64) 4), (.var (.int .i64) 5), (.var (.int .i64) 6)] (.lift (.br (.it (.cm .eql (.var (.int .i64) 11) (.cst (.int
.i64 0))) (.cm .eql (.var (.int .i64) 7) (.cst (.int .i64 0))) (.cst (.bool false))) (.call F_spec_l5Take [(.agg [(.var (.slice) 9), (.var (.int .i64) 10), (.var (.int .i64) 11)]),
(.x (.cst (.int .i64 1)))] true [(true, [.slice, .int .i64, .int .i64]), (false, [.int .i64])] (.call F_spec_l5Take [(.agg [(.var (.slice) 16), (.var (.int .i64) 17), (.var (.int
.i64) 18)]), (.x (.cst (.int .i64 2)))] true [(true, [.slice, .int .i64, .int .i64]), (false, [.int .i64])] (.call F_spec_l5Bad [(.agg [(.var (.slice) 20), (.var (.int .i64) 21),
(.var (.int .i64) 22)]), (.x (.cm .eql (.var (.int .i64) 23) (.cst (.int .i64 3))))] false [(true, [.slice, .int .i64, .int .i64])] (.join [.slice, .int .i64, .int .i64, .slice,
.int .i64, .int .i64, .int .i64] (.br (.it (.cm .eql (.var (.int .i64) 26) (.cst (.int .i64 0))) (.cm .eql (.var (.int .i64) 23) (.cst (.int .i64 0))) (.cst (.bool false))) (.call
 F_spec_l5Stored [(.agg [(.var (.slice) 24), (.var (.int .i64) 25), (.var (.int .i64) 26)]), (.agg [(.var (.slice) 12), (.var (.int .i64) 13), (.var (.int .i64) 14), (.var (.int
.i64) 15)])] true [(true, [.slice, .int .i64, .int .i64]), (true, [.slice, .int .i64, .int .i64, .int .i64])] (.cont 2 [(.var (.slice) 27), (.var (.int .i64) 28), (.var (.int .i64)
29), (.var (.slice) 30), (.var (.int .i64) 31), (.var (.int .i64) 32), (.var (.int .i64) 33)])) (.cont 2 [(.var (.slice) 24), (.var (.int .i64) 25), (.var (.int .i64) 26), (.var
(.slice) 12), (.var (.int .i64) 13), (.var (.int .i64) 14), (.var (.int .i64) 15)])) bl2)))) (.ret (.tup [(true, [(.var (.slice) 9), (.var (.int .i64) 10), (.var (.int .i64) 11)]),
(true, [(.var (.slice) 12), (.var (.int .i64) 13), (.var (.int .i64) 14), (.var (.int .i64) 15)])]))))) := rfl
end Go.Proofs.YtmnialmphlbmaaaDoor
