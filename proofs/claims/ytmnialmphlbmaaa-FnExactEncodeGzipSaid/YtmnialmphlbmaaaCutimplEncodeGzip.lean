import Derived.Test.YtmnialmphlbmaaaTrGz
set_option linter.unusedVariables false
namespace Go.Proofs.Ytmnialmphlbmaaa
open Go Go.Eng
set_option maxRecDepth 100000 in
def gi5 : Tr :=
(.call F_impl_EncodeFixed [(.x (.var (.slice) 8))] false [(false, [.slice])] (.app 5 1 1 [(.int .u8 0)] (.var (.slice) 17) (.var (.slice) 18) (.call F_impl_CrcUpdate [(.x (.cst
(.int .u32 0))), (.x (.var (.slice) 8))] false [(false, [.int .u32])] (.call F_impl_appendLittle [(.x (.var (.slice) 19)), (.x (.cv .u64 (.var (.int .u32) 20))), (.x (.cst (.int
.i64 4)))] false [(false, [.slice])] (.call F_impl_appendLittle [(.x (.var (.slice) 21)), (.x (.cv .u64 (.ln (.var (.slice) 8)))), (.x (.cst (.int .i64 4)))] false [(false,
[.slice])] (.ret (.x (.var (.slice) 22))))))))
set_option maxRecDepth 100000 in
def gi4 : Tr :=
(.join [.slice] (.br (.cm .neq (.ar .and .i64 (.var (.int .i64) 0) (.cst (.int .i64 2))) (.cst (.int .i64 0))) (.call F_impl_CrcUpdate [(.x (.cst (.int .u32 0))), (.x (.var (.slice)
16))] false [(false, [.int .u32])] (.call F_impl_appendLittle [(.x (.var (.slice) 16)), (.x (.cv .u64 (.var (.int .u32) 17))), (.x (.cst (.int .i64 2)))] false [(false, [.slice])]
(.cont 1 [(.var (.slice) 18)]))) (.cont 1 [(.var (.slice) 16)])) gi5)
set_option maxRecDepth 100000 in
def gi3 : Tr :=
(.join [.slice] (.br (.cm .neq (.ar .and .i64 (.var (.int .i64) 0) (.cst (.int .i64 16))) (.cst (.int .i64 0))) (.app 5 1 1 [(.int .u8 0)] (.var (.slice) 15) (.var (.slice) 6) (.hsl
5 1 [(.cst (.int .u8 0))] (.app 5 1 1 [(.int .u8 0)] (.var (.slice) 16) (.var (.slice) 17) (.cont 1 [(.var (.slice) 18)])))) (.cont 1 [(.var (.slice) 15)])) gi4)
set_option maxRecDepth 100000 in
def gi2 : Tr :=
(.join [.slice] (.br (.cm .neq (.ar .and .i64 (.var (.int .i64) 0) (.cst (.int .i64 8))) (.cst (.int .i64 0))) (.app 5 1 1 [(.int .u8 0)] (.var (.slice) 14) (.var (.slice) 5) (.hsl
5 1 [(.cst (.int .u8 0))] (.app 5 1 1 [(.int .u8 0)] (.var (.slice) 15) (.var (.slice) 16) (.cont 1 [(.var (.slice) 17)])))) (.cont 1 [(.var (.slice) 14)])) gi3)
set_option maxRecDepth 100000 in
def gi1 : Tr :=
(.join [.slice] (.br (.cm .neq (.ar .and .i64 (.var (.int .i64) 0) (.cst (.int .i64 4))) (.cst (.int .i64 0))) (.call F_impl_appendLittle [(.x (.var (.slice) 13)), (.x (.cv .u64
(.ln (.var (.slice) 4)))), (.x (.cst (.int .i64 2)))] false [(false, [.slice])] (.app 5 1 1 [(.int .u8 0)] (.var (.slice) 14) (.var (.slice) 4) (.cont 1 [(.var (.slice) 15)])))
(.cont 1 [(.var (.slice) 13)])) gi2)
set_option maxRecDepth 100000 in
theorem impl_EncodeGzip_cut : t_impl_EncodeGzip =
(.call F_impl_ValidMember [(.agg [(.var (.int .i64) 0), (.var (.int .i64) 1), (.var (.int .i64) 2), (.var (.int .i64) 3), (.var (.slice) 4), (.var (.slice) 5), (.var (.slice) 6),
(.var (.int .i64) 7)])] false [(false, [.bool])] (.lift (.br (.it (.nt (.var (.bool) 9)) (.cst (.bool true)) (.cm .neq (.var (.int .i64) 7) (.ln (.var (.slice) 8)))) (.hsl 5 0 []
(.ret (.x (.var (.slice) 10)))) (.hsl 5 4 [(.cst (.int .u8 31)), (.cst (.int .u8 139)), (.cst (.int .u8 8)), (.cv .u8 (.var (.int .i64) 0))] (.call F_impl_appendLittle [(.x (.var
(.slice) 10)), (.x (.cv .u64 (.var (.int .i64) 1))), (.x (.cst (.int .i64 4)))] false [(false, [.slice])] (.hsl 5 2 [(.cv .u8 (.var (.int .i64) 2)), (.cv .u8 (.var (.int .i64) 3))]
(.app 5 1 1 [(.int .u8 0)] (.var (.slice) 11) (.var (.slice) 12) gi1))))))) := rfl
end Go.Proofs.Ytmnialmphlbmaaa
