import Derived.Test.YtmnialmphlbmaaaDoorTrMa
set_option linter.unusedVariables false
namespace Go.Proofs.YtmnialmphlbmaaaDoor
open Go Go.Eng
set_option maxRecDepth 100000 in
def mlE : Tr :=
(.need (.cm .leq (.cst (.int .i64 0)) (.ar .add .i64 (.var (.int .i64) 3) (.cst (.int .i64 257)))) (.need (.cm .leq (.ar .add .i64 (.var (.int .i64) 3) (.cst (.int .i64 257))) (.cp
(.var (.slice) 15))) (.need (.cm .leq (.cst (.int .i64 0)) (.ar .add .i64 (.var (.int .i64) 3) (.cst (.int .i64 257)))) (.need (.cm .leq (.ar .add .i64 (.var (.int .i64) 3) (.cst
(.int .i64 257))) (.ar .add .i64 (.var (.int .i64) 3) (.cst (.int .i64 257)))) (.need (.cm .leq (.cst (.int .i64 0)) (.ar .add .i64 (.var (.int .i64) 3) (.cst (.int .i64 257))))
(.need (.cm .leq (.ar .add .i64 (.var (.int .i64) 3) (.cst (.int .i64 257))) (.ln (.var (.slice) 15))) (.call F_impl_HuffKind [(.x (.sub 1 (.var (.slice) 15) .nl (.ar .add .i64
(.var (.int .i64) 3) (.cst (.int .i64 257))) (.ar .add .i64 (.var (.int .i64) 3) (.cst (.int .i64 257)))))] false [(false, [.int .i64])] (.call F_impl_HuffKind [(.x (.sub 1 (.var
(.slice) 15) (.ar .add .i64 (.var (.int .i64) 3) (.cst (.int .i64 257))) .nl .nl))] false [(false, [.int .i64])] (.need (.nt (.nn (.sub 1 (.var (.slice) 15) .nl (.ar .add .i64 (.var
(.int .i64) 3) (.cst (.int .i64 257))) (.ar .add .i64 (.var (.int .i64) 3) (.cst (.int .i64 257)))))) (.need (.cm .leq (.cst (.int .i64 0)) (.cst (.int .i64 256))) (.need (.cm .lss
(.cst (.int .i64 256)) (.ln (.sub 1 (.var (.slice) 15) .nl (.ar .add .i64 (.var (.int .i64) 3) (.cst (.int .i64 257))) (.ar .add .i64 (.var (.int .i64) 3) (.cst (.int .i64 257))))))
(.load (.ix 1 (.sub 1 (.var (.slice) 15) .nl (.ar .add .i64 (.var (.int .i64) 3) (.cst (.int .i64 257))) (.ar .add .i64 (.var (.int .i64) 3) (.cst (.int .i64 257)))) (.cst (.int
.i64 256))) [.int .i64] (.lift (.br (.it (.it (.cm .eql (.var (.int .i64) 18) (.cst (.int .i64 0))) (.cst (.bool true)) (.it (.cm .neq (.var (.int .i64) 16) (.cst (.int .i64 1)))
(.cm .neq (.var (.int .i64) 16) (.cst (.int .i64 4))) (.cst (.bool false)))) (.cst (.bool true)) (.it (.it (.cm .neq (.var (.int .i64) 17) (.cst (.int .i64 1))) (.cm .neq (.var
(.int .i64) 17) (.cst (.int .i64 4))) (.cst (.bool false))) (.cm .neq (.var (.int .i64) 17) (.cst (.int .i64 5))) (.cst (.bool false)))) (.load (.glob 0) [.int .i64] (.hsto (.var
(.addr) 2) [(.ifc 97 (.ag (.cs (.var (.int .i64) 19) .nl)))] (.load (.var (.addr) 2) [.iface] (.ret (.tup [(false, [(.cst .nilSl)]), (false, [(.cst .nilSl)]), (false, [(.var
(.iface) 20)])]))))) (.hsto (.var (.addr) 2) [(.cst .nilIf)] (.load (.var (.addr) 2) [.iface] (.ret (.tup [(false, [(.sub 1 (.var (.slice) 15) .nl (.ar .add .i64 (.var (.int .i64)
3) (.cst (.int .i64 257))) (.ar .add .i64 (.var (.int .i64) 3) (.cst (.int .i64 257))))]), (false, [(.sub 1 (.var (.slice) 15) (.ar .add .i64 (.var (.int .i64) 3) (.cst (.int .i64
257))) .nl .nl)]), (false, [(.var (.iface) 19)])]))))))))))))))))))
set_option maxRecDepth 100000 in
def mlR : Tr :=
(.load (.var (.addr) 2) [.iface] (.lift (.br (.nt (.nn (.var (.iface) 21))) (.load (.var (.addr) 2) [.iface] (.hsto (.var (.addr) 2) [(.var (.iface) 22)] (.load (.var (.addr) 2)
[.iface] (.ret (.tup [(false, [(.cst .nilSl)]), (false, [(.cst .nilSl)]), (false, [(.var (.iface) 23)])]))))) (.lift (.br (.cm .gtr (.var (.int .i64) 20) (.ar .sub .i64 (.ar .add
.i64 (.ar .add .i64 (.var (.int .i64) 3) (.cst (.int .i64 257))) (.ar .add .i64 (.var (.int .i64) 5) (.cst (.int .i64 1)))) (.ln (.var (.slice) 15)))) (.load (.glob 0) [.int .i64]
(.hsto (.var (.addr) 2) [(.ifc 97 (.ag (.cs (.var (.int .i64) 22) .nl)))] (.load (.var (.addr) 2) [.iface] (.ret (.tup [(false, [(.cst .nilSl)]), (false, [(.cst .nilSl)]), (false,
[(.var (.iface) 23)])]))))) (.loop [.slice, .int .i64] [(.var (.slice) 15), (.cst (.int .i64 0))] (.lift (.br (.cm .lss (.var (.int .i64) 23) (.var (.int .i64) 20)) (.hsl 2 1 [(.var
(.int .i64) 19)] (.app 2 1 8 [(.int .i64 0)] (.var (.slice) 22) (.var (.slice) 24) (.cont 9 [(.var (.slice) 25), (.ar .add .i64 (.var (.int .i64) 23) (.cst (.int .i64 1)))])))
(.cont 4 [(.var (.slice) 22)])))))))))
set_option maxRecDepth 100000 in
def mlB : Tr :=
(.load (.var (.addr) 1) [.ptr] (.call F_impl_machine__symbol [(.x (.var (.ptr) 16)), (.x (.var (.ptr) 13))] true [(false, [.int .i64]), (false, [.iface])] (.lift (.br (.nt (.nn
(.var (.iface) 18))) (.hsto (.var (.addr) 2) [(.var (.iface) 18)] (.load (.var (.addr) 2) [.iface] (.ret (.tup [(false, [(.cst .nilSl)]), (false, [(.cst .nilSl)]), (false, [(.var
(.iface) 19)])])))) (.join [.int .i64, .int .i64] (.br (.cm .eql (.var (.int .i64) 17) (.cst (.int .i64 16))) (.lift (.br (.cm .eql (.ln (.var (.slice) 15)) (.cst (.int .i64 0)))
(.load (.glob 0) [.int .i64] (.hsto (.var (.addr) 2) [(.ifc 97 (.ag (.cs (.var (.int .i64) 19) .nl)))] (.load (.var (.addr) 2) [.iface] (.ret (.tup [(false, [(.cst .nilSl)]),
(false, [(.cst .nilSl)]), (false, [(.var (.iface) 20)])]))))) (.need (.nt (.nn (.var (.slice) 15))) (.need (.cm .leq (.cst (.int .i64 0)) (.ar .sub .i64 (.ln (.var (.slice) 15))
(.cst (.int .i64 1)))) (.need (.cm .lss (.ar .sub .i64 (.ln (.var (.slice) 15)) (.cst (.int .i64 1))) (.ln (.var (.slice) 15))) (.load (.ix 1 (.var (.slice) 15) (.ar .sub .i64 (.ln
(.var (.slice) 15)) (.cst (.int .i64 1)))) [.int .i64] (.call F_impl_machine__lens_1 [(.x (.cst (.int .i64 2))), (.x (.var (.addr) 2)), (.x (.var (.addr) 1))] false [(false, [.int
.i64])] (.still [((.ix 1 (.var (.slice) 15) (.ar .sub .i64 (.ln (.var (.slice) 15)) (.cst (.int .i64 1)))), (.var (.int .i64) 19))] (.cont 7 [(.var (.int .i64) 19), (.ar .add .i64
(.var (.int .i64) 20) (.cst (.int .i64 3)))]))))))))) (.join [.int .i64, .int .i64] (.br (.cm .eql (.var (.int .i64) 17) (.cst (.int .i64 17))) (.call F_impl_machine__lens_1 [(.x
(.cst (.int .i64 3))), (.x (.var (.addr) 2)), (.x (.var (.addr) 1))] false [(false, [.int .i64])] (.cont 8 [(.cst (.int .i64 0)), (.ar .add .i64 (.var (.int .i64) 19) (.cst (.int
.i64 3)))])) (.join [.int .i64, .int .i64] (.br (.cm .eql (.var (.int .i64) 17) (.cst (.int .i64 18))) (.call F_impl_machine__lens_1 [(.x (.cst (.int .i64 7))), (.x (.var (.addr)
2)), (.x (.var (.addr) 1))] false [(false, [.int .i64])] (.cont 9 [(.cst (.int .i64 0)), (.ar .add .i64 (.var (.int .i64) 19) (.cst (.int .i64 11)))])) (.cont 9 [(.var (.int .i64)
17), (.cst (.int .i64 1))])) (.cont 8 [(.var (.int .i64) 19), (.var (.int .i64) 20)]))) (.cont 7 [(.var (.int .i64) 19), (.var (.int .i64) 20)]))) mlR)))))
set_option maxRecDepth 100000 in
def mlC : Tr :=
(.load (.var (.addr) 2) [.iface] (.lift (.br (.nt (.nn (.var (.iface) 11))) (.load (.var (.addr) 2) [.iface] (.hsto (.var (.addr) 2) [(.var (.iface) 12)] (.load (.var (.addr) 2)
[.iface] (.ret (.tup [(false, [(.cst .nilSl)]), (false, [(.cst .nilSl)]), (false, [(.var (.iface) 13)])]))))) (.call F_impl_HuffKind [(.x (.var (.slice) 9))] false [(false, [.int
.i64])] (.lift (.br (.cm .neq (.var (.int .i64) 12) (.cst (.int .i64 1))) (.load (.glob 0) [.int .i64] (.hsto (.var (.addr) 2) [(.ifc 97 (.ag (.cs (.var (.int .i64) 13) .nl)))]
(.load (.var (.addr) 2) [.iface] (.ret (.tup [(false, [(.cst .nilSl)]), (false, [(.cst .nilSl)]), (false, [(.var (.iface) 14)])]))))) (.call F_impl_tableOf [(.x (.var (.slice) 9))]
 false [(false, [.ptr])] (.hsl 2 0 [] (.loop [.slice] [(.var (.slice) 14)] (.lift (.br (.cm .lss (.ln (.var (.slice) 15)) (.ar .add .i64 (.ar .add .i64 (.var (.int .i64) 3) (.cst
(.int .i64 257))) (.ar .add .i64 (.var (.int .i64) 5) (.cst (.int .i64 1))))) mlB mlE)))))))))))
set_option maxRecDepth 100000 in
def ml3 : Tr :=
(.call F_impl_machine__lens_1 [(.x (.cst (.int .i64 4))), (.x (.var (.addr) 2)), (.x (.var (.addr) 1))] false [(false, [.int .i64])] (.hall 114 [(19, (.cst (.int .i64 0)))] (.hsto
(.var (.addr) 8) [(.cst (.int .i64 16)), (.cst (.int .i64 17)), (.cst (.int .i64 18)), (.cst (.int .i64 0)), (.cst (.int .i64 8)), (.cst (.int .i64 7)), (.cst (.int .i64 9)), (.cst
(.int .i64 6)), (.cst (.int .i64 10)), (.cst (.int .i64 5)), (.cst (.int .i64 11)), (.cst (.int .i64 4)), (.cst (.int .i64 12)), (.cst (.int .i64 3)), (.cst (.int .i64 13)), (.cst
(.int .i64 2)), (.cst (.int .i64 14)), (.cst (.int .i64 1)), (.cst (.int .i64 15))] (.mks 2 1 8 [(.int .i64 0)] (.cst (.int .i64 19)) (.cst (.int .i64 19)) (.loop [.int .i64] [(.cst
(.int .i64 0))] (.lift (.br (.cm .lss (.var (.int .i64) 10) (.ar .add .i64 (.var (.int .i64) 7) (.cst (.int .i64 4)))) (.need (.cm .leq (.cst (.int .i64 0)) (.var (.int .i64) 10))
(.need (.cm .lss (.var (.int .i64) 10) (.cst (.int .i64 19))) (.load (.ia 1 (.var (.addr) 8) (.var (.int .i64) 10)) [.int .i64] (.call F_impl_machine__lens_1 [(.x (.cst (.int .i64
3))), (.x (.var (.addr) 2)), (.x (.var (.addr) 1))] false [(false, [.int .i64])] (.still [((.ia 1 (.var (.addr) 8) (.var (.int .i64) 10)), (.var (.int .i64) 11))] (.need (.nt (.nn
(.var (.slice) 9))) (.need (.cm .leq (.cst (.int .i64 0)) (.var (.int .i64) 11)) (.need (.cm .lss (.var (.int .i64) 11) (.ln (.var (.slice) 9))) (.hsto (.ix 1 (.var (.slice) 9)
(.var (.int .i64) 11)) [(.var (.int .i64) 12)] (.cont 0 [(.ar .add .i64 (.var (.int .i64) 10) (.cst (.int .i64 1)))])))))))))) mlC)))))))
set_option maxRecDepth 100000 in
def ml2 : Tr :=
(.join [] (.br (.it (.nn (.var (.iface) 6)) (.cm .gtr (.ar .add .i64 (.var (.int .i64) 5) (.cst (.int .i64 1))) (.cst (.int .i64 30))) (.cst (.bool false))) (.load (.glob 0) [.int
.i64] (.hsto (.var (.addr) 2) [(.ifc 97 (.ag (.cs (.var (.int .i64) 7) .nl)))] (.cont 0 []))) (.cont 0 [])) ml3)
set_option maxRecDepth 100000 in
def ml1 : Tr :=
(.join [] (.br (.it (.nn (.var (.iface) 4)) (.cm .gtr (.ar .add .i64 (.var (.int .i64) 3) (.cst (.int .i64 257))) (.cst (.int .i64 286))) (.cst (.bool false))) (.load (.glob 0)
[.int .i64] (.hsto (.var (.addr) 2) [(.ifc 97 (.ag (.cs (.var (.int .i64) 5) .nl)))] (.cont 0 []))) (.cont 0 [])) (.call F_impl_machine__lens_1 [(.x (.cst (.int .i64 5))), (.x (.var
(.addr) 2)), (.x (.var (.addr) 1))] false [(false, [.int .i64])] (.load (.var (.addr) 2) [.iface] ml2)))
set_option maxRecDepth 100000 in
theorem impl_machine__lens_cut : t_impl_machine__lens =
(.hall 54 [(1, (.var (.ptr) 0))] (.hall 61 [(1, (.cst .nilIf))] (.call F_impl_machine__lens_1 [(.x (.cst (.int .i64 5))), (.x (.var (.addr) 2)), (.x (.var (.addr) 1))] false
[(false, [.int .i64])] (.load (.var (.addr) 2) [.iface] ml1)))) := rfl
end Go.Proofs.YtmnialmphlbmaaaDoor
