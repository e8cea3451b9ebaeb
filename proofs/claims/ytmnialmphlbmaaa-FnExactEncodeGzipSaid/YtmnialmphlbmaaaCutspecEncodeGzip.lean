import Derived.Test.YtmnialmphlbmaaaTrGz
set_option linter.unusedVariables false
namespace Go.Proofs.Ytmnialmphlbmaaa
open Go Go.Eng
set_option maxRecDepth 100000 in
def gs5 : Tr :=
(.call F_spec_EncodeFixed [(.x (.var (.slice) 8))] false [(false, [.slice])] (.app 5 1 1 [(.int .u8 0)] (.var (.slice) 18) (.var (.slice) 19) (.call F_spec_CrcUpdate [(.x (.cst
(.int .u32 0))), (.x (.var (.slice) 8))] false [(false, [.int .u32])] (.call F_spec_l6Put [(.x (.cv .u64 (.var (.int .u32) 21))), (.x (.cst (.int .i64 4))), (.x (.cst (.bool
 false)))] false [(false, [.slice])] (.app 5 1 1 [(.int .u8 0)] (.var (.slice) 20) (.var (.slice) 22) (.call F_spec_l6Put [(.x (.cv .u64 (.ln (.var (.slice) 8)))), (.x (.cst (.int
.i64 4))), (.x (.cst (.bool false)))] false [(false, [.slice])] (.app 5 1 1 [(.int .u8 0)] (.var (.slice) 23) (.var (.slice) 24) (.ret (.x (.var (.slice) 25))))))))))
set_option maxRecDepth 100000 in
def gs4 : Tr :=
(.join [.slice] (.br (.cm .eql (.ar .rem .i64 (.ar .quo .i64 (.var (.int .i64) 0) (.cst (.int .i64 2))) (.cst (.int .i64 2))) (.cst (.int .i64 1))) (.call F_spec_CrcUpdate [(.x
(.cst (.int .u32 0))), (.x (.var (.slice) 17))] false [(false, [.int .u32])] (.call F_spec_l6Put [(.x (.cv .u64 (.ar .rem .u32 (.var (.int .u32) 18) (.cst (.int .u32 65536))))), (.x
(.cst (.int .i64 2))), (.x (.cst (.bool false)))] false [(false, [.slice])] (.app 5 1 1 [(.int .u8 0)] (.var (.slice) 17) (.var (.slice) 19) (.cont 1 [(.var (.slice) 20)])))) (.cont
1 [(.var (.slice) 17)])) gs5)
set_option maxRecDepth 100000 in
def gs3 : Tr :=
(.join [.slice] (.br (.cm .eql (.ar .rem .i64 (.ar .quo .i64 (.var (.int .i64) 0) (.cst (.int .i64 16))) (.cst (.int .i64 2))) (.cst (.int .i64 1))) (.app 5 1 1 [(.int .u8 0)] (.var
(.slice) 16) (.var (.slice) 6) (.hsl 5 1 [(.cst (.int .u8 0))] (.app 5 1 1 [(.int .u8 0)] (.var (.slice) 17) (.var (.slice) 18) (.cont 1 [(.var (.slice) 19)])))) (.cont 1 [(.var
(.slice) 16)])) gs4)
set_option maxRecDepth 100000 in
def gs2 : Tr :=
(.join [.slice] (.br (.cm .eql (.ar .rem .i64 (.ar .quo .i64 (.var (.int .i64) 0) (.cst (.int .i64 8))) (.cst (.int .i64 2))) (.cst (.int .i64 1))) (.app 5 1 1 [(.int .u8 0)] (.var
(.slice) 15) (.var (.slice) 5) (.hsl 5 1 [(.cst (.int .u8 0))] (.app 5 1 1 [(.int .u8 0)] (.var (.slice) 16) (.var (.slice) 17) (.cont 1 [(.var (.slice) 18)])))) (.cont 1 [(.var
(.slice) 15)])) gs3)
set_option maxRecDepth 100000 in
def gs1 : Tr :=
(.join [.slice] (.br (.cm .eql (.ar .rem .i64 (.ar .quo .i64 (.var (.int .i64) 0) (.cst (.int .i64 4))) (.cst (.int .i64 2))) (.cst (.int .i64 1))) (.call F_spec_l6Put [(.x (.cv
.u64 (.ln (.var (.slice) 4)))), (.x (.cst (.int .i64 2))), (.x (.cst (.bool false)))] false [(false, [.slice])] (.app 5 1 1 [(.int .u8 0)] (.var (.slice) 14) (.var (.slice) 15)
(.app 5 1 1 [(.int .u8 0)] (.var (.slice) 16) (.var (.slice) 4) (.cont 1 [(.var (.slice) 17)])))) (.cont 1 [(.var (.slice) 14)])) gs2)
set_option maxRecDepth 100000 in
theorem spec_EncodeGzip_cut : t_spec_EncodeGzip =
(.call F_spec_ValidMember [(.agg [(.var (.int .i64) 0), (.var (.int .i64) 1), (.var (.int .i64) 2), (.var (.int .i64) 3), (.var (.slice) 4), (.var (.slice) 5), (.var (.slice) 6),
(.var (.int .i64) 7)])] false [(false, [.bool])] (.lift (.br (.it (.nt (.var (.bool) 9)) (.cst (.bool true)) (.cm .neq (.var (.int .i64) 7) (.ln (.var (.slice) 8)))) (.hsl 5 0 []
(.ret (.x (.var (.slice) 10)))) (.hsl 5 4 [(.cst (.int .u8 31)), (.cst (.int .u8 139)), (.cst (.int .u8 8)), (.cv .u8 (.var (.int .i64) 0))] (.call F_spec_l6Put [(.x (.cv .u64 (.var
(.int .i64) 1))), (.x (.cst (.int .i64 4))), (.x (.cst (.bool false)))] false [(false, [.slice])] (.app 5 1 1 [(.int .u8 0)] (.var (.slice) 10) (.var (.slice) 11) (.hsl 5 2 [(.cv
.u8 (.var (.int .i64) 2)), (.cv .u8 (.var (.int .i64) 3))] (.app 5 1 1 [(.int .u8 0)] (.var (.slice) 12) (.var (.slice) 13) gs1)))))))) := rfl
end Go.Proofs.Ytmnialmphlbmaaa
