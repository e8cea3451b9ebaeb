import Derived.Test.YtmnialmphlbmaaaDoorTrRd
set_option linter.unusedVariables false
namespace Go.Proofs.YtmnialmphlbmaaaDoor
open Go Go.Eng
set_option maxRecDepth 100000 in
def lensE : Tr :=
(.lift (.br (.cm .neq (.var (.int .i64) 37) (.cst (.int .i64 0))) (.hsl 2 0 [] (.hsl 2 0 [] (.ret (.tup [(true, [(.var (.slice) 35), (.var (.int .i64) 36), (.var (.int .i64) 37)]),
(false, [(.var (.slice) 38)]), (false, [(.var (.slice) 39)])])))) (.need (.cm .leq (.cst (.int .i64 0)) (.ar .add .i64 (.var (.int .i64) 6) (.cst (.int .i64 257)))) (.need (.cm .leq
(.ar .add .i64 (.var (.int .i64) 6) (.cst (.int .i64 257))) (.cp (.var (.slice) 34))) (.need (.cm .leq (.cst (.int .i64 0)) (.ar .add .i64 (.var (.int .i64) 6) (.cst (.int .i64
257)))) (.need (.cm .leq (.ar .add .i64 (.var (.int .i64) 6) (.cst (.int .i64 257))) (.ln (.var (.slice) 34))) (.join [.int .i64, .bool, .bool, .bool, .bool, .bool, .slice, .int
.i64, .int .i64] (.need (.nt (.nn (.sub 1 (.var (.slice) 34) .nl (.ar .add .i64 (.var (.int .i64) 6) (.cst (.int .i64 257))) .nl))) (.need (.cm .leq (.cst (.int .i64 0)) (.cst (.int
.i64 256))) (.need (.cm .lss (.cst (.int .i64 256)) (.ln (.sub 1 (.var (.slice) 34) .nl (.ar .add .i64 (.var (.int .i64) 6) (.cst (.int .i64 257))) .nl))) (.load (.ix 1 (.sub 1
(.var (.slice) 34) .nl (.ar .add .i64 (.var (.int .i64) 6) (.cst (.int .i64 257))) .nl) (.cst (.int .i64 256))) [.int .i64] (.br (.nt (.cm .eql (.var (.int .i64) 38) (.cst (.int
.i64 0)))) (.call F_spec_l5IsKind [(.x (.sub 1 (.var (.slice) 34) .nl (.ar .add .i64 (.var (.int .i64) 6) (.cst (.int .i64 257))) .nl)), (.x (.cst (.int .i64 1))), (.x (.cst (.int
.i64 4))), (.x (.cst (.int .i64 4)))] false [(false, [.bool])] (.br (.nt (.nt (.var (.bool) 39))) (.call F_spec_l5IsKind [(.x (.sub 1 (.var (.slice) 34) (.ar .add .i64 (.var (.int
.i64) 6) (.cst (.int .i64 257))) .nl .nl)), (.x (.cst (.int .i64 1))), (.x (.cst (.int .i64 4))), (.x (.cst (.int .i64 5)))] false [(false, [.bool])] (.call F_spec_l5Bad [(.agg
[(.var (.slice) 35), (.var (.int .i64) 36), (.var (.int .i64) 37)]), (.x (.nt (.var (.bool) 40)))] false [(true, [.slice, .int .i64, .int .i64])] (.cont 5 [(.var (.int .i64) 38),
(.cm .eql (.var (.int .i64) 38) (.cst (.int .i64 0))), (.cm .eql (.var (.int .i64) 38) (.cst (.int .i64 0))), (.nt (.var (.bool) 39)), (.nt (.var (.bool) 39)), (.nt (.var (.bool)
40)), (.var (.slice) 41), (.var (.int .i64) 42), (.var (.int .i64) 43)]))) (.call F_spec_l5Bad [(.agg [(.var (.slice) 35), (.var (.int .i64) 36), (.var (.int .i64) 37)]), (.x (.cst
(.bool true)))] false [(true, [.slice, .int .i64, .int .i64])] (.cont 5 [(.var (.int .i64) 38), (.cm .eql (.var (.int .i64) 38) (.cst (.int .i64 0))), (.cm .eql (.var (.int .i64)
38) (.cst (.int .i64 0))), (.nt (.var (.bool) 39)), (.nt (.var (.bool) 39)), (.cst (.bool true)), (.var (.slice) 40), (.var (.int .i64) 41), (.var (.int .i64) 42)])))) (.call
 F_spec_l5Bad [(.agg [(.var (.slice) 35), (.var (.int .i64) 36), (.var (.int .i64) 37)]), (.x (.cst (.bool true)))] false [(true, [.slice, .int .i64, .int .i64])] (.cont 5 [(.var
(.int .i64) 38), (.cm .eql (.var (.int .i64) 38) (.cst (.int .i64 0))), (.cm .eql (.var (.int .i64) 38) (.cst (.int .i64 0))), (.cst (.bool true)), (.cst (.bool true)), (.cst (.bool
 true)), (.var (.slice) 39), (.var (.int .i64) 40), (.var (.int .i64) 41)]))))))) (.ret (.tup [(true, [(.var (.slice) 44), (.var (.int .i64) 45), (.var (.int .i64) 46)]), (false,
[(.sub 1 (.var (.slice) 34) .nl (.ar .add .i64 (.var (.int .i64) 6) (.cst (.int .i64 257))) .nl)]), (false, [(.sub 1 (.var (.slice) 34) (.ar .add .i64 (.var (.int .i64) 6) (.cst
(.int .i64 257))) .nl .nl)])])))))))))
set_option maxRecDepth 100000 in
def lensL : Tr :=
(.loop [.int .i64, .slice, .slice, .int .i64, .int .i64] [(.var (.int .i64) 22), (.var (.slice) 32), (.var (.slice) 28), (.var (.int .i64) 29), (.var (.int .i64) 30)] (.lift (.br
(.it (.cm .eql (.var (.int .i64) 37) (.cst (.int .i64 0))) (.cm .lss (.ln (.var (.slice) 34)) (.ar .add .i64 (.ar .add .i64 (.var (.int .i64) 6) (.cst (.int .i64 257))) (.ar .add
.i64 (.var (.int .i64) 13) (.cst (.int .i64 1))))) (.cst (.bool false))) (.call F_spec_l5Sym [(.agg [(.var (.slice) 35), (.var (.int .i64) 36), (.var (.int .i64) 37)]), (.x (.var
(.slice) 31))] true [(true, [.slice, .int .i64, .int .i64]), (false, [.int .i64])] (.join [.slice, .slice, .int .i64, .int .i64] (.br (.cm .eql (.var (.int .i64) 40) (.cst (.int
.i64 0))) (.call F_spec_l5Repeat [(.agg [(.var (.slice) 38), (.var (.int .i64) 39), (.var (.int .i64) 40)]), (.x (.var (.slice) 34)), (.x (.var (.int .i64) 41))] true [(true,
[.slice, .int .i64, .int .i64]), (false, [.slice])] (.call F_spec_l5Bad [(.agg [(.var (.slice) 42), (.var (.int .i64) 43), (.var (.int .i64) 44)]), (.x (.cm .gtr (.ln (.var (.slice)
45)) (.ar .add .i64 (.ar .add .i64 (.var (.int .i64) 6) (.cst (.int .i64 257))) (.ar .add .i64 (.var (.int .i64) 13) (.cst (.int .i64 1))))))] false [(true, [.slice, .int .i64, .int
.i64])] (.cont 4 [(.var (.slice) 45), (.var (.slice) 46), (.var (.int .i64) 47), (.var (.int .i64) 48)]))) (.cont 4 [(.var (.slice) 34), (.var (.slice) 38), (.var (.int .i64) 39),
(.var (.int .i64) 40)])) (.cont 2 [(.var (.int .i64) 41), (.var (.slice) 42), (.var (.slice) 43), (.var (.int .i64) 44), (.var (.int .i64) 45)]))) lensE)))
set_option maxRecDepth 100000 in
theorem spec_l5Lens_cut : t_spec_l5Lens =
(.call F_spec_l5Take [(.agg [(.var (.slice) 0), (.var (.int .i64) 1), (.var (.int .i64) 2)]), (.x (.cst (.int .i64 5)))] true [(true, [.slice, .int .i64, .int .i64]), (false, [.int
.i64])] (.call F_spec_l5Bad [(.agg [(.var (.slice) 3), (.var (.int .i64) 4), (.var (.int .i64) 5)]), (.x (.cm .gtr (.ar .add .i64 (.var (.int .i64) 6) (.cst (.int .i64 257))) (.cst
(.int .i64 286))))] false [(true, [.slice, .int .i64, .int .i64])] (.call F_spec_l5Take [(.agg [(.var (.slice) 7), (.var (.int .i64) 8), (.var (.int .i64) 9)]), (.x (.cst (.int .i64
5)))] true [(true, [.slice, .int .i64, .int .i64]), (false, [.int .i64])] (.call F_spec_l5Bad [(.agg [(.var (.slice) 10), (.var (.int .i64) 11), (.var (.int .i64) 12)]), (.x (.cm
.gtr (.ar .add .i64 (.var (.int .i64) 13) (.cst (.int .i64 1))) (.cst (.int .i64 30))))] false [(true, [.slice, .int .i64, .int .i64])] (.call F_spec_l5Take [(.agg [(.var (.slice)
14), (.var (.int .i64) 15), (.var (.int .i64) 16)]), (.x (.cst (.int .i64 4)))] true [(true, [.slice, .int .i64, .int .i64]), (false, [.int .i64])] (.hsl 2 19 [(.cst (.int .i64 0)),
(.cst (.int .i64 0)), (.cst (.int .i64 0)), (.cst (.int .i64 0)), (.cst (.int .i64 0)), (.cst (.int .i64 0)), (.cst (.int .i64 0)), (.cst (.int .i64 0)), (.cst (.int .i64 0)), (.cst
(.int .i64 0)), (.cst (.int .i64 0)), (.cst (.int .i64 0)), (.cst (.int .i64 0)), (.cst (.int .i64 0)), (.cst (.int .i64 0)), (.cst (.int .i64 0)), (.cst (.int .i64 0)), (.cst (.int
.i64 0)), (.cst (.int .i64 0))] (.loop [.int .i64, .int .i64, .slice, .int .i64, .int .i64] [(.cst (.int .i64 0)), (.cst (.int .i64 0)), (.var (.slice) 17), (.var (.int .i64) 18),
(.var (.int .i64) 19)] (.lift (.br (.cm .lss (.var (.int .i64) 23) (.ar .add .i64 (.var (.int .i64) 20) (.cst (.int .i64 4)))) (.call F_spec_l5Take [(.agg [(.var (.slice) 24), (.var
(.int .i64) 25), (.var (.int .i64) 26)]), (.x (.cst (.int .i64 3)))] true [(true, [.slice, .int .i64, .int .i64]), (false, [.int .i64])] (.call F_spec_l5Order [] false [(false,
[.slice])] (.need (.nt (.nn (.var (.slice) 31))) (.need (.cm .leq (.cst (.int .i64 0)) (.var (.int .i64) 23)) (.need (.cm .lss (.var (.int .i64) 23) (.ln (.var (.slice) 31))) (.load
(.ix 1 (.var (.slice) 31) (.var (.int .i64) 23)) [.int .i64] (.need (.nt (.nn (.var (.slice) 21))) (.need (.cm .leq (.cst (.int .i64 0)) (.var (.int .i64) 32)) (.need (.cm .lss
(.var (.int .i64) 32) (.ln (.var (.slice) 21))) (.hsto (.ix 1 (.var (.slice) 21) (.var (.int .i64) 32)) [(.var (.int .i64) 30)] (.cont 0 [(.var (.int .i64) 30), (.ar .add .i64 (.var
(.int .i64) 23) (.cst (.int .i64 1))), (.var (.slice) 27), (.var (.int .i64) 28), (.var (.int .i64) 29)]))))))))))) (.call F_spec_HuffKind [(.x (.var (.slice) 21))] false [(false,
[.int .i64])] (.call F_spec_l5Bad [(.agg [(.var (.slice) 24), (.var (.int .i64) 25), (.var (.int .i64) 26)]), (.x (.cm .neq (.var (.int .i64) 27) (.cst (.int .i64 1))))] false
[(true, [.slice, .int .i64, .int .i64])] (.call F_spec_HuffCodes [(.x (.var (.slice) 21))] false [(false, [.slice])] (.hsl 2 0 [] lensL))))))))))))) := rfl
end Go.Proofs.YtmnialmphlbmaaaDoor
