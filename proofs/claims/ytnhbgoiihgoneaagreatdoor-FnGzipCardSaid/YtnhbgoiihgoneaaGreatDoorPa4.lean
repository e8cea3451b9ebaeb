import Derived.Test.YtnhbgoiihgoneaaGreatDoorChecked
import Derived.Test.YtnhbgoiihgoneaaGreatDoorPa2
import Derived.Test.YtnhbgoiihgoneaaGreatDoorPa3
set_option maxRecDepth 100000
set_option maxHeartbeats 8000000
set_option linter.unusedVariables false
set_option linter.unusedSimpArgs false
set_option linter.unusedSectionVars false
section
namespace Go.Eng
abbrev oI(n:Nat):Ex:=.var (.int .i64) n
abbrev oS(n:Nat):Ex:=.var .slice n
abbrev oP(n:Nat):Ex:=.var .ptr n
abbrev oB(n:Nat):Ex:=.var .bool n
abbrev oA(n:Nat):Ex:=.var .addr n
abbrev oF(n:Nat):Ex:=.var .iface n
abbrev oU(n:Nat):Ex:=.var (.int .u32) n
abbrev oK(n:Int):Ex:=.cst (.int .i64 n)
abbrev oQ:Bool×List Sh:=(false,[.int .i64])
abbrev oR:Bool×List Sh:=(false,[.slice])
end Go.Eng
namespace Go.Eng
open Go
abbrev Rn(P:Program)(f:FuncId)(ps:List (Bool×List Sh))(t:Tr):Prop:=∀ {S:Shared} {h:Heap} {Q:Value→Heap→Prop} {vs:List Value},j1 (zq ps) vs→Inv S h→t.wp P S yg Q vs h []→zc P S f (jx ps vs) h Q
theorem rn{P:Program}{f:FuncId}{fn:Func}{cfg:Cfg}{t:Tr}{ps:List (Bool×List Sh)}(hT:zD P cfg.tab)(hm:P.follows .mixedOrders=true)(hf:P.funcs[f]? = some fn)(hres:fn.results.toList=cfg.results)(ht:sxF cfg fn ps=some t)
 (hn:(fn.name == "runtime.NumGoroutine")=false)(hb:fn.body.isNone=false)(hps:ps.all (fun r=>r.1||r.2.length==1)=true):Rn P f ps t:=fun hsh hi hw=>Wb hT hm hf hres ht (Qz hf hn hb) hps hsh hi hw
end Go.Eng
namespace Go.Proofs.YtnhbgoiihgoneaaGreatDoor
open Go Go.Eng
def zP:List (TypeId×TyD):=[(0,⟨.oth,1,0,[],none,some []⟩),
(2,⟨(.int .i64),1,8,[.int .i64],some [(1,(.int .i64 0))],none⟩),
(3,⟨(.int .i64),1,8,[.int .i64],some [(1,(.int .i64 0))],none⟩),
(4,⟨.bool,1,1,[.bool],some [(1,(.bool false))],none⟩),
(5,⟨(.int .u8),1,1,[.int .u8],some [(1,(.int .u8 0))],none⟩),
(9,⟨.str,1,16,[.str],none,none⟩),
(17,⟨(.ptr 199),1,8,[.ptr],some [(1,.nilPtr)],none⟩),
(20,⟨.ifc,1,16,[.iface],some [(1,.nilIf)],none⟩),
(22,⟨(.sl 5),1,24,[.slice],some [(1,.nilSl)],none⟩),
(24,⟨(.st [(0,2),(1,2),(2,2),(3,2),(4,22),(5,22),(6,22),(7,2)]),8,112,[.int .i64,.int .i64,.int .i64,.int .i64,.slice,.slice,.slice,.int .i64],some [(4,(.int .i64 0)),(3,.nilSl),(1,(.int .i64 0))],none⟩),
(25,⟨.oth,1,0,[],none,some [24,22]⟩),
(28,⟨(.sl 24),1,24,[.slice],some [(1,.nilSl)],none⟩),
(30,⟨(.st [(0,2),(1,22),(2,28),(3,2)]),4,64,[.int .i64,.slice,.slice,.int .i64],some [(1,(.int .i64 0)),(2,.nilSl),(1,(.int .i64 0))],none⟩),
(34,⟨(.ptr 60),1,8,[.ptr],some [(1,.nilPtr)],none⟩),
(42,⟨(.int .u64),1,8,[.int .u64],some [(1,(.int .u64 0))],none⟩),
(43,⟨(.int .u32),1,4,[.int .u32],some [(1,(.int .u32 0))],none⟩),
(47,⟨(.ptr 53),1,8,[.ptr],some [(1,.nilPtr)],none⟩),
(48,⟨(.ptr 114),1,8,[.ptr],some [(1,.nilPtr)],none⟩),
(49,⟨(.ptr 174),1,8,[.ptr],some [(1,.nilPtr)],none⟩),
(51,⟨(.st [(0,22),(1,2),(2,48),(3,22),(4,3),(5,4),(6,49),(7,49)]),8,96,[.slice,.int .i64,.ptr,.slice,.int .i64,.bool,.ptr,.ptr],some [(1,.nilSl),(1,(.int .i64 0)),(1,.nilPtr),(1,.nilSl),(1,(.int .i64 0)),(1,(.bool false)),(2,.nilPtr)],none⟩),
(53,⟨(.st [(0,51)]),8,96,[.slice,.int .i64,.ptr,.slice,.int .i64,.bool,.ptr,.ptr],some [(1,.nilSl),(1,(.int .i64 0)),(1,.nilPtr),(1,.nilSl),(1,(.int .i64 0)),(1,(.bool false)),(2,.nilPtr)],none⟩),
(55,⟨.ifc,1,16,[.iface],some [(1,.nilIf)],none⟩),
(56,⟨.oth,1,0,[],none,some [24,55]⟩),
(60,⟨(.st [(0,22),(1,3),(2,2)]),3,40,[.slice,.int .i64,.int .i64],some [(1,.nilSl),(2,(.int .i64 0))],none⟩),
(63,⟨.fnk,1,8,[.fnv],some [(1,.nilFn)],none⟩),
(64,⟨.fnk,1,8,[.fnv],some [(1,.nilFn)],none⟩),
(66,⟨(.int .u64),1,8,[.int .u64],some [(1,(.int .u64 0))],none⟩),
(67,⟨(.sl 43),1,24,[.slice],some [(1,.nilSl)],none⟩),
(68,⟨(.sl 2),1,24,[.slice],some [(1,.nilSl)],none⟩),
(69,⟨.oth,1,0,[],none,some [67,68]⟩),
(71,⟨.fnk,1,8,[.fnv],some [(1,.nilFn)],none⟩),
(73,⟨.oth,1,0,[],none,some [68,68]⟩),
(75,⟨(.sl 79),1,24,[.slice],some [(1,.nilSl)],none⟩),
(77,⟨.fnk,1,8,[.fnv],some [(1,.nilFn)],none⟩),
(79,⟨(.st [(0,2),(1,42)]),2,16,[.int .i64,.int .u64],some [(1,(.int .i64 0)),(1,(.int .u64 0))],none⟩),
(83,⟨(.ptr 24),1,8,[.ptr],some [(1,.nilPtr)],none⟩),
(86,⟨.oth,1,0,[],none,some [2,55]⟩),
(89,⟨(.st [(0,2)]),1,8,[.int .i64],some [(1,(.int .i64 0))],none⟩),
(91,⟨(.ptr 89),1,8,[.ptr],some [(1,.nilPtr)],none⟩),
(93,⟨(.arr 256 43),256,1024,[],some [(256,(.int .u32 0))],none⟩),
(104,⟨(.arr 17 42),17,136,[.int .u64,.int .u64,.int .u64,.int .u64,.int .u64,.int .u64,.int .u64,.int .u64,.int .u64,.int .u64,.int .u64,.int .u64,.int .u64,.int .u64,.int .u64,.int .u64,.int .u64],some [(17,(.int .u64 0))],none⟩),
(107,⟨.fnk,1,8,[.fnv],some [(1,.nilFn)],none⟩),
(108,⟨.fnk,1,8,[.fnv],some [(1,.nilFn)],none⟩),
(109,⟨.oth,1,0,[],none,some [22,55]⟩),
(112,⟨(.arr 32768 5),32768,32768,[],some [(32768,(.int .u8 0))],none⟩),
(114,⟨(.st [(0,3),(1,112),(32769,3),(32770,3)]),32771,32792,[],some [(1,(.int .i64 0)),(32768,(.int .u8 0)),(2,(.int .i64 0))],none⟩),
(117,⟨.fnk,1,8,[.fnv],some [(1,.nilFn)],none⟩),
(118,⟨(.ptr 51),1,8,[.ptr],some [(1,.nilPtr)],none⟩),
(119,⟨.fnk,1,8,[.fnv],some [(1,.nilFn)],none⟩),
(120,⟨.oth,1,8,[.ptr],some [(1,.nilPtr)],none⟩),
(121,⟨(.int .u64),1,8,[.int .u64],some [(1,(.int .u64 0))],none⟩),
(123,⟨(.st [(0,17),(1,120),(2,121)]),3,24,[.ptr,.ptr,.int .u64],some [(2,.nilPtr),(1,(.int .u64 0))],none⟩),
(126,⟨.ifc,1,16,[.iface],some [(1,.nilIf)],none⟩),
(128,⟨(.int .u8),1,1,[.int .u8],some [(1,(.int .u8 0))],none⟩),
(147,⟨.fnk,1,8,[.fnv],some [(1,.nilFn)],none⟩),
(148,⟨.oth,1,0,[],none,some [147,55]⟩),
(155,⟨.ifc,1,16,[.iface],some [(1,.nilIf)],none⟩),
(156,⟨.oth,1,0,[],none,some [155,4]⟩),
(158,⟨.ifc,1,16,[.iface],some [(1,.nilIf)],none⟩),
(159,⟨.ifc,1,16,[.iface],some [(1,.nilIf)],none⟩),
(160,⟨(.sl 55),1,24,[.slice],some [(1,.nilSl)],none⟩),
(170,⟨.oth,1,0,[],none,some [68,68,55]⟩),
(172,⟨(.sl 176),1,24,[.slice],some [(1,.nilSl)],none⟩),
(174,⟨(.st [(0,172)]),1,24,[.slice],some [(1,.nilSl)],none⟩),
(176,⟨(.st [(0,3),(1,3)]),2,16,[.int .i64,.int .i64],some [(2,(.int .i64 0))],none⟩),
(178,⟨.oth,1,0,[],none,some [2,2]⟩),
(181,⟨(.arr 19 3),19,152,[.int .i64,.int .i64,.int .i64,.int .i64,.int .i64,.int .i64,.int .i64,.int .i64,.int .i64,.int .i64,.int .i64,.int .i64,.int .i64,.int .i64,.int .i64,.int .i64,.int .i64,.int .i64,.int .i64],some [(19,(.int .i64 0))],none⟩),
(183,⟨(.st [(0,2),(1,2),(2,2)]),3,24,[.int .i64,.int .i64,.int .i64],some [(3,(.int .i64 0))],none⟩)]
theorem zw:zD Tryz.prog zP:=Ie (by kernel_rfl)
theorem zx:Tryz.prog.follows .mixedOrders=true:=by kernel_rfl
def Df:Tr:=
(.lift (.br (.cm .gtr (.ln (oS 0)) (oK 320)) (.ret (.x (oK 0))) (.loop [.int .i64,.int .i64,.int .i64,.int .i64] [(oK 0),(oK 0),(oK 0),(oK 0)] (.lift (.br (.cm .lss (oI 4) (.ln (oS 0))) (.need (.nt (.nn (oS 0))) (.need (.cm .leq (oK 0) (oI 4)) (.need (.cm .lss (oI 4) (.ln (oS 0))) (.load (.ix 1 (oS 0) (oI 4)) [.int .i64] (.lift (.br (.it (.cm .lss (oI 5) (oK 0)) (.cst (.bool true)) (.cm .gtr (oI 5) (oK 15))) (.ret (.x (oK 0))) (.join [.int .i64,.int .i64,.int .i64] (.br (.cm .gtr (oI 5) (oK 0)) (.need (.cm .geq (.ar .sub .i64 (oK 15) (oI 5)) (oK 0)) (.cont 4 [(.ar .add .i64 (oI 1) (.ar .shl .i64 (oK 1) (.ar .sub .i64 (oK 15) (oI 5)))),(.ar .add .i64 (oI 2) (oK 1)),(oI 5)])) (.cont 4 [(oI 1),(oI 2),(oI 3)])) (.cont 1 [(oI 6),(oI 7),(oI 8),(.ar .add .i64 (oI 4) (oK 1))])))))))) (.lift (.br (.cm .eql (oI 2) (oK 0)) (.ret (.x (oK 5))) (.lift (.br (.cm .gtr (oI 1) (oK 32768)) (.ret (.x (oK 2))) (.lift (.br (.cm .eql (oI 1) (oK 32768)) (.ret (.x (oK 1))) (.lift (.br (.it (.cm .eql (oI 2) (oK 1)) (.cm .eql (oI 3) (oK 1)) (.cst (.bool false))) (.ret (.x (oK 4))) (.ret (.x (oK 3))))))))))))))))
theorem Hq:Rn Tryz.prog xX [oR] Df:=rn (cfg:=⟨zP,[⟨5,[3,4,5,13],[],[7,14,15,16,17,18,19,20,21,22,23,24,25,26,27,28,29,30,31,32,33]⟩],[],[.tmp 2]⟩) zw zx Tryz.func56 rfl (by kernel_rfl) (by kernel_rfl) (by kernel_rfl) rfl
def Dg:Tr:=
(.lift (.br (.cm .gtr (.ln (oS 0)) (oK 320)) (.ret (.x (oK 0))) (.loop [.int .i64,.int .i64,.int .i64] [(oK 0),(oK 0),(oK 0)] (.lift (.br (.cm .lss (oI 3) (.ln (oS 0))) (.join [.int .i64,.bool,.bool,.bool] (.need (.nt (.nn (oS 0))) (.need (.cm .leq (oK 0) (oI 3)) (.need (.cm .lss (oI 3) (.ln (oS 0))) (.load (.ix 1 (oS 0) (oI 3)) [.int .i64] (.br (.nt (.cm .lss (oI 4) (oK 0))) (.need (.nt (.nn (oS 0))) (.need (.cm .leq (oK 0) (oI 3)) (.need (.cm .lss (oI 3) (.ln (oS 0))) (.load (.ix 1 (oS 0) (oI 3)) [.int .i64] (.cont 3 [(oI 4),(.cm .lss (oI 4) (oK 0)),(.cm .lss (oI 4) (oK 0)),(.cm .gtr (oI 5) (oK 15))]))))) (.cont 3 [(oI 4),(.cm .lss (oI 4) (oK 0)),(.cm .lss (oI 4) (oK 0)),(.cst (.bool true))])))))) (.lift (.br (oB 7) (.ret (.x (oK 0))) (.need (.nt (.nn (oS 0))) (.need (.cm .leq (oK 0) (oI 3)) (.need (.cm .lss (oI 3) (.ln (oS 0))) (.load (.ix 1 (oS 0) (oI 3)) [.int .i64] (.join [.int .i64,.int .i64] (.br (.cm .gtr (oI 8) (oK 0)) (.need (.nt (.nn (oS 0))) (.need (.cm .leq (oK 0) (oI 3)) (.need (.cm .lss (oI 3) (.ln (oS 0))) (.load (.ix 1 (oS 0) (oI 3)) [.int .i64] (.call kz [(.x (.ar .sub .i64 (oK 15) (oI 9)))] false [oQ] (.cont 4 [(.ar .add .i64 (oI 1) (oI 10)),(.ar .add .i64 (oI 2) (oK 1))])))))) (.cont 4 [(oI 1),(oI 2)])) (.cont 1 [(oI 9),(oI 10),(.ar .add .i64 (oI 3) (oK 1))]))))))))) (.lift (.br (.cm .eql (oI 2) (oK 0)) (.ret (.x (oK 5))) (.call kz [(.x (oK 15))] false [oQ] (.lift (.br (.cm .gtr (oI 1) (oI 4)) (.ret (.x (oK 2)))
(.call kz [(.x (oK 15))] false [oQ] (.lift (.br (.cm .eql (oI 1) (oI 5)) (.ret (.x (oK 1))) (.join [.bool] (.br (.cm .eql (oI 2) (oK 1)) (.call kz [(.x (oK 14))] false [oQ] (.cont 6 [(.cm .eql (oI 1) (oI 6))])) (.cont 6 [(.cst (.bool false))])) (.lift (.br (oB 6) (.ret (.x (oK 4))) (.ret (.x (oK 3)))))))))))))))))))
theorem Hr:Rn Tryz.prog Am [oR] Dg:=rn (cfg:=⟨zP,[⟨6,[3,4,5],[],[9,10,11,12,13,14,15,16,17,18,19,20,21,22,23,24,25,26,27,28,29,30,31,32,33,34,35,36,37,38,39,40,41]⟩],[],[.tmp 2]⟩) zw zx Tryz.func58 rfl (by kernel_rfl) (by kernel_rfl) (by kernel_rfl) rfl
def Ga:Tr:=
(.loop [.int .i64,.int .i64] [(oK 1),(oK 0)] (.lift (.br (.cm .lss (oI 2) (oI 0)) (.cont 0 [(.ar .mul .i64 (oK 2) (oI 1)),(.ar .add .i64 (oI 2) (oK 1))]) (.ret (.x (oI 1))))))
theorem JS:Rn Tryz.prog kz [oQ] Ga:=rn (cfg:=⟨zP,[⟨3,[3,4],[],[5,6,7,8,9,10,11]⟩],[],[.tmp 2]⟩) zw zx Tryz.func90 rfl (by kernel_rfl) (by kernel_rfl) (by kernel_rfl) rfl
def Cs:Tr:=
(.call xX [(.x (oS 0))] false [oQ] (.lift (.br (.it (.cm .eql (oI 1) (oK 0)) (.cst (.bool true)) (.cm .eql (oI 1) (oK 2))) (.hsl 79 0 [] (.ret (.x (oS 2)))) (.hall 104 [(17,(.cst (.int .u64 0)))] (.hsto (oA 2) [(.cst (.int .u64 0)),(.cst (.int .u64 0)),(.cst (.int .u64 0)),(.cst (.int .u64 0)),(.cst (.int .u64 0)),(.cst (.int .u64 0)),(.cst (.int .u64 0)),(.cst (.int .u64 0)),(.cst (.int .u64 0)),(.cst (.int .u64 0)),(.cst (.int .u64 0)),(.cst (.int .u64 0)),(.cst (.int .u64 0)),(.cst (.int .u64 0)),(.cst (.int .u64 0)),(.cst (.int .u64 0)),(.cst (.int .u64 0))] (.loop [.int .i64] [(oK 0)] (.lift (.br (.cm .lss (oI 3) (.ln (oS 0))) (.need (.nt (.nn (oS 0))) (.need (.cm .leq (oK 0) (oI 3)) (.need (.cm .lss (oI 3) (.ln (oS 0))) (.load (.ix 1 (oS 0) (oI 3)) [.int .i64] (.join [] (.br (.cm .gtr (oI 4) (oK 0)) (.need (.cm .leq (oK 0) (oI 4)) (.need (.cm .lss (oI 4) (oK 17)) (.load (.ia 1 (oA 2) (oI 4)) [.int .u64] (.need (.cm .leq (oK 0) (oI 4)) (.need (.cm .lss (oI 4) (oK 17)) (.hsto (.ia 1 (oA 2) (oI 4)) [(.ar .add .u64 (.var (.int .u64) 5) (.cst (.int .u64 1)))] (.cont 3 []))))))) (.cont 3 [])) (.cont 1 [(.ar .add .i64 (oI 3) (oK 1))])))))) (.hall 104 [(17,(.cst (.int .u64 0)))] (.hsto (oA 4) [(.cst (.int .u64 0)),(.cst (.int .u64 0)),(.cst (.int .u64 0)),(.cst (.int .u64 0)),(.cst (.int .u64 0)),(.cst (.int .u64 0)),(.cst (.int .u64 0)),(.cst (.int .u64 0)),(.cst (.int .u64 0)),(.cst (.int .u64 0)),(.cst (.int .u64 0)),(.cst (.int
.u64 0)),(.cst (.int .u64 0)),(.cst (.int .u64 0)),(.cst (.int .u64 0)),(.cst (.int .u64 0)),(.cst (.int .u64 0))] (.loop [.int .i64] [(oK 1)] (.lift (.br (.cm .leq (oI 5) (oK 15)) (.need (.cm .leq (oK 0) (.ar .sub .i64 (oI 5) (oK 1))) (.need (.cm .lss (.ar .sub .i64 (oI 5) (oK 1)) (oK 17)) (.load (.ia 1 (oA 4) (.ar .sub .i64 (oI 5) (oK 1))) [.int .u64] (.need (.cm .leq (oK 0) (.ar .sub .i64 (oI 5) (oK 1))) (.need (.cm .lss (.ar .sub .i64 (oI 5) (oK 1)) (oK 17)) (.load (.ia 1 (oA 2) (.ar .sub .i64 (oI 5) (oK 1))) [.int .u64] (.need (.cm .leq (oK 0) (oI 5)) (.need (.cm .lss (oI 5) (oK 17)) (.hsto (.ia 1 (oA 4) (oI 5)) [(.ar .shl .u64 (.ar .add .u64 (.var (.int .u64) 6) (.var (.int .u64) 7)) (.cst (.int .u64 1)))] (.cont 3 [(.ar .add .i64 (oI 5) (oK 1))])))))))))) (.mks 79 2 16 [(.int .i64 0),(.int .u64 0)] (.ln (oS 0)) (.ln (oS 0)) (.loop [.int .i64] [(oK 0)] (.lift (.br (.cm .lss (oI 7) (.ln (oS 0))) (.need (.nt (.nn (oS 0))) (.need (.cm .leq (oK 0) (oI 7)) (.need (.cm .lss (oI 7) (.ln (oS 0))) (.load (.ix 1 (oS 0) (oI 7)) [.int .i64] (.join [] (.br (.cm .gtr (oI 8) (oK 0)) (.need (.cm .leq (oK 0) (oI 8)) (.need (.cm .lss (oI 8) (oK 17)) (.load (.ia 1 (oA 4) (oI 8)) [.int .u64] (.call BB [(.x (.var (.int .u64) 9)),(.x (oI 8))] false [(false,[.int .u64])] (.need (.nt (.nn (oS 6))) (.need (.cm .leq (oK 0) (oI 7)) (.need (.cm .lss (oI 7) (.ln (oS 6))) (.hsto (.ix 2 (oS 6) (oI 7)) [(oI 8),(.var (.int .u64) 10)] (.need (.cm .leq (oK 0) (oI 8)) (.need (.cm .lss
(oI 8) (oK 17)) (.load (.ia 1 (oA 4) (oI 8)) [.int .u64] (.need (.cm .leq (oK 0) (oI 8)) (.need (.cm .lss (oI 8) (oK 17)) (.hsto (.ia 1 (oA 4) (oI 8)) [(.ar .add .u64 (.var (.int .u64) 11) (.cst (.int .u64 1)))] (.cont 7 []))))))))))))))) (.cont 7 [])) (.cont 5 [(.ar .add .i64 (oI 7) (oK 1))])))))) (.ret (.x (oS 6))))))))))))))))))))
theorem Gc:Rn Tryz.prog kS [oR] Cs:=rn (cfg:=⟨zP,[⟨6,[24],[],[6,25,26,27,28,29,30,31,32,33,34,35]⟩,⟨13,[8],[],[37,38,39,40,41,42,43,44,45,46,47,48,49,50,51,52]⟩,⟨18,[58],[],[10,11,59,60,61,62,63,64,65,66,67,68,69,70,71,72,73,74,75,76,77,78,79,80]⟩],[4,7],[.tmp 2]⟩) zw zx Tryz.func36 rfl (by kernel_rfl) (by kernel_rfl) (by kernel_rfl) rfl
def Ct:Tr:=
(.hsl 79 0 [] (.call Am [(.x (oS 0))] false [oQ] (.lift (.br (.it (.cm .eql (oI 2) (oK 0)) (.cst (.bool true)) (.cm .eql (oI 2) (oK 2))) (.ret (.x (oS 1))) (.loop [.slice,.int .i64] [(oS 1),(oK 0)] (.lift (.br (.cm .lss (oI 4) (.ln (oS 0))) (.hsl 79 1 [(oK 0),(.cst (.int .u64 0))] (.app 79 2 16 [(.int .i64 0),(.int .u64 0)] (oS 3) (oS 5) (.cont 1 [(oS 6),(.ar .add .i64 (oI 4) (oK 1))]))) (.loop [.int .i64,.int .i64] [(oK 0),(oK 1)] (.lift (.br (.cm .leq (oI 6) (oK 15)) (.loop [.int .i64,.int .i64] [(.ar .mul .i64 (oK 2) (oI 5)),(oK 0)] (.lift (.br (.cm .lss (oI 8) (.ln (oS 0))) (.need (.nt (.nn (oS 0))) (.need (.cm .leq (oK 0) (oI 8)) (.need (.cm .lss (oI 8) (.ln (oS 0))) (.load (.ix 1 (oS 0) (oI 8)) [.int .i64] (.join [.int .i64] (.br (.cm .eql (oI 9) (oI 6)) (.call BC [(.x (oI 7)),(.x (oI 6))] false [(false,[.int .u64])] (.need (.nt (.nn (oS 3))) (.need (.cm .leq (oK 0) (oI 8)) (.need (.cm .lss (oI 8) (.ln (oS 3))) (.hsto (.ix 2 (oS 3) (oI 8)) [(oI 6),(.var (.int .u64) 10)] (.cont 7 [(.ar .add .i64 (oI 7) (oK 1))])))))) (.cont 7 [(oI 7)])) (.cont 5 [(oI 10),(.ar .add .i64 (oI 8) (oK 1))])))))) (.cont 3 [(oI 7),(.ar .add .i64 (oI 6) (oK 1))])))) (.ret (.x (oS 3)))))))))))))
theorem Gd:Rn Tryz.prog wR [oR] Ct:=rn (cfg:=⟨zP,[⟨6,[3,5],[],[19,20,21,22,23,24,25,26,27,28]⟩,⟨15,[6,8],[],[35,36,37,38,39,40,41,42,43,44,45,46,47,48,49,50,51,52,53,54,55,56]⟩,⟨11,[6,7],[],[8,29,30,31,32,33,34,35,36,37,38,39,40,41,42,43,44,45,46,47,48,49,50,51,52,53,54,55,56]⟩],[],[.tmp 2]⟩) zw zx Tryz.func41 rfl (by kernel_rfl) (by kernel_rfl) (by kernel_rfl) rfl
def Fz:Tr:=
(.loop [.int .u64,.int .i64] [(.cst (.int .u64 0)),(oK 0)] (.lift (.br (.cm .lss (oI 3) (oI 1)) (.need (.cm .geq (oI 3) (oK 0)) (.need (.cm .geq (.ar .sub .i64 (.ar .sub .i64 (oI 1) (oK 1)) (oI 3)) (oK 0)) (.cont 0 [(.ar .or .u64 (.var (.int .u64) 2) (.ar .shl .u64 (.ar .and .u64 (.ar .shr .u64 (.var (.int .u64) 0) (oI 3)) (.cst (.int .u64 1))) (.ar .sub .i64 (.ar .sub .i64 (oI 1) (oK 1)) (oI 3)))),(.ar .add .i64 (oI 3) (oK 1))]))) (.ret (.x (.var (.int .u64) 2))))))
theorem Jf:Rn Tryz.prog BB [(false,[.int .u64]),oQ] Fz:=rn (cfg:=⟨zP,[⟨3,[5,8],[],[6,9,10,11,12,13,14,15,16,17,18,19,20,21,22]⟩],[],[.tmp 4]⟩) zw zx Tryz.func57 rfl (by kernel_rfl) (by kernel_rfl) (by kernel_rfl) rfl
def F0:Tr:=
(.loop [.int .i64,.int .u64,.int .i64] [(oI 0),(.cst (.int .u64 0)),(oK 0)] (.lift (.br (.cm .lss (oI 4) (oI 1)) (.cont 0 [(.ar .quo .i64 (oI 2) (oK 2)),(.ar .add .u64 (.ar .mul .u64 (.cst (.int .u64 2)) (.var (.int .u64) 3)) (.cv .u64 (.ar .rem .i64 (oI 2) (oK 2)))),(.ar .add .i64 (oI 4) (oK 1))]) (.ret (.x (.var (.int .u64) 3))))))
theorem Jg:Rn Tryz.prog BC [oQ,oQ] F0:=rn (cfg:=⟨zP,[⟨3,[0,5,6],[],[7,8,9,10,11,12,13,14,15,16,17,18,19]⟩],[],[.tmp 4]⟩) zw zx Tryz.func59 rfl (by kernel_rfl) (by kernel_rfl) (by kernel_rfl) rfl
def Ei:Tr:=
(.mks 176 2 16 [(.int .i64 0),(.int .i64 0)] (oK 1) (oK 1) (.hall 174 [(1,(oS 1))] (.call kS [(.x (oS 0))] false [oR] (.loop [.int .i64] [(oK 0)] (.lift (.br (.cm .lss (oI 4) (.ln (oS 3))) (.need (.nt (.nn (oS 3))) (.need (.cm .leq (oK 0) (oI 4)) (.need (.cm .lss (oI 4) (.ln (oS 3))) (.load (.ix 2 (oS 3) (oI 4)) [.int .i64,.int .u64] (.lift (.br (.cm .eql (oI 5) (oK 0)) (.cont 0 [(.ar .add .i64 (oI 4) (oK 1))]) (.loop [.int .i64,.int .i64] [(oK 0),(oK 0)] (.lift (.br (.cm .lss (oI 8) (oI 5)) (.load (.fld (oA 2) 0) [.slice] (.need (.nt (.nn (oS 9))) (.need (.cm .leq (oK 0) (oI 7)) (.need (.cm .lss (oI 7) (.ln (oS 9))) (.load (.fld (.ix 2 (oS 9) (oI 7)) 1) [.int .i64] (.join [] (.br (.cm .eql (oI 10) (oK 0)) (.load (.fld (oA 2) 0) [.slice] (.load (.fld (oA 2) 0) [.slice] (.need (.nt (.nn (oS 11))) (.need (.cm .leq (oK 0) (oI 7)) (.need (.cm .lss (oI 7) (.ln (oS 11))) (.hsto (.fld (.ix 2 (oS 11) (oI 7)) 1) [(.ln (oS 12))] (.load (.fld (oA 2) 0) [.slice] (.hsl 176 2 [(oK 0),(oK 0),(oK 0),(oK 0)] (.app 176 2 16 [(.int .i64 0),(.int .i64 0)] (oS 13) (oS 14) (.hsto (.fld (oA 2) 0) [(oS 15)] (.cont 5 []))))))))))) (.cont 5 [])) (.load (.fld (oA 2) 0) [.slice] (.need (.nt (.nn (oS 11))) (.need (.cm .leq (oK 0) (oI 7)) (.need (.cm .lss (oI 7) (.ln (oS 11))) (.load (.fld (.ix 2 (oS 11) (oI 7)) 1) [.int .i64] (.need (.cm .geq (oI 8) (oK 0)) (.cont 3 [(.ar .add .i64 (oI 12) (.cv .i64 (.ar .and .u64 (.ar .shr .u64 (.var (.int .u64) 6) (oI 8)) (.cst (.int .u64
1))))),(.ar .add .i64 (oI 8) (oK 1))]))))))))))))) (.load (.fld (oA 2) 0) [.slice] (.need (.nt (.nn (oS 9))) (.need (.cm .leq (oK 0) (oI 7)) (.need (.cm .lss (oI 7) (.ln (oS 9))) (.hsto (.fld (.ix 2 (oS 9) (oI 7)) 0) [(.ar .add .i64 (oI 4) (oK 1))] (.cont 0 [(.ar .add .i64 (oI 4) (oK 1))]))))))))))))))) (.ret (.x (oA 2)))))))))
theorem Ih:Rn Tryz.prog xK [oR] Ei:=rn (cfg:=⟨zP,[⟨8,[6,24],[],[7,25,26,27,28,29,30,31,32,33,34,35,36,37,38,39,40,41,42,43,44,45,46,47,48,49,50,51,52,53,54,55,56,57,58,59,60,61,62,63,64,65,66,67,68,69,70,71,72,73,74]⟩,⟨3,[14],[],[4,5,6,7,15,16,17,18,19,20,21,22,23,24,25,26,27,28,29,30,31,32,33,34,35,36,37,38,39,40,41,42,43,44,45,46,47,48,49,50,51,52,53,54,55,56,57,58,59,60,61,62,63,64,65,66,67,68,69,70,71,72,73,74,75,76,77,78,79,80,81,82,83,84]⟩],[10],[.tmp 2]⟩) zw zx Tryz.func104 rfl (by kernel_rfl) (by kernel_rfl) (by kernel_rfl) rfl
def wA:Tr:=
(.need (.nt (.nn (oP 0))) (.load (.fld (.nz (oP 0)) 0) [.slice] (.need (.nt (.nn (oS 2))) (.need (.cm .leq (oK 0) (oK 0)) (.need (.cm .lss (oK 0) (.ln (oS 2))) (.load (.ix 2 (oS 2) (oK 0)) [.int .i64,.int .i64] (.loop [.int .i64,.int .i64,.int .i64] [(oK 0),(oI 3),(oI 4)] (.lift (.br (.cm .gtr (oI 6) (oK 0)) (.ret (.agg [(oK 1),(.ar .sub .i64 (oI 6) (oK 1)),(oI 5)])) (.lift (.br (.cm .eql (oI 7) (oK 0)) (.ret (.agg [(oK 0),(oK 0),(oK 0)])) (.callv (.var (.fnv) 1) [] false [oQ] (.lift (.br (.cm .lss (oI 8) (oK 0)) (.ret (.agg [(oK 2),(oK 0),(oK 0)])) (.need (.nt (.nn (oP 0))) (.load (.fld (.nz (oP 0)) 0) [.slice] (.need (.nt (.nn (oS 9))) (.need (.cm .leq (oK 0) (.ar .add .i64 (oI 7) (oI 8))) (.need (.cm .lss (.ar .add .i64 (oI 7) (oI 8)) (.ln (oS 9))) (.load (.ix 2 (oS 9) (.ar .add .i64 (oI 7) (oI 8))) [.int .i64,.int .i64] (.cont 0 [(.ar .add .i64 (oI 5) (oK 1)),(oI 10),(oI 11)])))))))))))))))))))))
theorem Cu:Rn Tryz.prog jT [(false,[.ptr]),(false,[.fnv])] wA:=rn (cfg:=⟨zP,[⟨4,[6],[(1,0),(1,1)],[7,14,15,16,17,18,19,20,21,22,23,24,25,26,27,28,29,30,31,32,33,34,35,36,37,38,39,40,41,42]⟩],[],[.cell 4 183]⟩) zw zx Tryz.func112 rfl (by kernel_rfl) (by kernel_rfl) (by kernel_rfl) rfl
def Ej:Tr:=
(.hall 89 [(1,(oK 0))] (.hsto (oA 1) [(oK 1)] (.call D9 [(.x (oF 0)),(.x (.ifc 91 (oA 1)))] false [(false,[.bool])] (.load (.fld (oA 1) 0) [.int .i64] (.ret (.x (oI 3)))))))
theorem Ii:Rn Tryz.prog AR [(false,[.iface])] Ej:=rn (cfg:=⟨zP,[],[3],[.tmp 2]⟩) zw zx Tryz.func24 rfl (by kernel_rfl) (by kernel_rfl) (by kernel_rfl) rfl
def HF:Tr:=
(.lift (.br (.nn (oF 0)) (.ret (.x (.cst (.bool false)))) (.lift (.br (.nn (oF 1)) (.need (.cst (.bool false)) (.ret .junk)) (.call yT [(.x (oF 1))] false [(true,[.ptr,.ptr,.int .u64])] (.call xY [(.agg [(oP 2),(oP 3),(.var (.int .u64) 4)])] false [(false,[.iface])] (.join [.int .u8,.bool,.bool,.bool] (.calli (oF 5) "Kind" [] false [(false,[.int .u8])] (.br (.nt (.cm .neq (.var (.int .u8) 6) (.cst (.int .u8 22)))) (.call xQ [(.agg [(oP 2),(oP 3),(.var (.int .u64) 4)])] false [(false,[.bool])] (.cont 2 [(.var (.int .u8) 6),(.cm .neq (.var (.int .u8) 6) (.cst (.int .u8 22))),(.cm .neq (.var (.int .u8) 6) (.cst (.int .u8 22))),(oB 7)])) (.cont 2 [(.var (.int .u8) 6),(.cm .neq (.var (.int .u8) 6) (.cst (.int .u8 22))),(.cm .neq (.var (.int .u8) 6) (.cst (.int .u8 22))),(.cst (.bool true))]))) (.lift (.br (oB 9) (.need (.cst (.bool false)) (.ret .junk)) (.calli (oF 5) "Elem" [] false [(false,[.iface])] (.join [.int .u8,.bool,.bool,.bool] (.calli (oF 10) "Kind" [] false [(false,[.int .u8])] (.br (.cm .neq (.var (.int .u8) 11) (.cst (.int .u8 20))) (.load (.glob 3) [.iface] (.calli (oF 10) "Implements" [(.x (oF 12))] false [(false,[.bool])] (.cont 3 [(.var (.int .u8) 11),(.cm .neq (.var (.int .u8) 11) (.cst (.int .u8 20))),(.cm .neq (.var (.int .u8) 11) (.cst (.int .u8 20))),(.nt (oB 13))]))) (.cont 3 [(.var (.int .u8) 11),(.cm .neq (.var (.int .u8) 11) (.cst
(.int .u8 20))),(.cm .neq (.var (.int .u8) 11) (.cst (.int .u8 20))),(.cst (.bool false))]))) (.lift (.br (oB 14) (.need (.cst (.bool false)) (.ret .junk)) (.call DC [(.x (oF 0)),(.x (oF 1)),(.agg [(oP 2),(oP 3),(.var (.int .u64) 4)]),(.x (oF 10))] false [(false,[.bool])] (.ret (.x (oB 15)))))))))))))))))
theorem Li:Rn Tryz.prog D9 [(false,[.iface]),(false,[.iface])] HF:=rn (cfg:=⟨zP,[],[],[.tmp 4]⟩) zw zx Tryz.func49 rfl (by kernel_rfl) (by kernel_rfl) (by kernel_rfl) rfl
def HI:Tr:=
(.loop [] [] (.call jW [(.x (oF 0))] false [(false,[.iface])] (.calli (oF 6) "AssignableTo" [(.x (oF 5))] false [(false,[.bool])] (.lift (.br (oB 7) (.call ja [(.agg [(oP 2),(oP 3),(.var (.int .u64) 4)])] false [(true,[.ptr,.ptr,.int .u64])] (.call yT [(.x (oF 0))] false [(true,[.ptr,.ptr,.int .u64])] (.call ji [(.agg [(oP 8),(oP 9),(.var (.int .u64) 10)]),(.agg [(oP 11),(oP 12),(.var (.int .u64) 13)])] true [] (.ret (.x (.cst (.bool true))))))) (.need (.cst (.bool false)) (.ret .junk)))))))
theorem Lj:Rn Tryz.prog DC [(false,[.iface]),(false,[.iface]),(true,[.ptr,.ptr,.int .u64]),(false,[.iface])] HI:=rn (cfg:=⟨zP,[⟨1,[],[],[9,10,11,12,14,15,16,17,18,19,20,21,22,23,24,25,26,27,28,29,30,31,32,33,34,35,36,37,38,39,40,41,42,43,44,45,46,47,48,49,50,51,52,53,54,55,56,57,58,59,60,61]⟩],[],[.tmp 8]⟩) zw zx Tryz.func71 rfl (by kernel_rfl) (by kernel_rfl) (by kernel_rfl) rfl
def wV:Tr:=
(.need (.nt (.nn (oP 0))) (.load (.fld (.nz (oP 0)) 1) [.int .i64] (.need (.nt (.nn (oP 0))) (.hsto (.fld (.nz (oP 0)) 1) [(.ar .mul .i64 (.ar .quo .i64 (.ar .add .i64 (oI 1) (oK 7)) (oK 8)) (oK 8))] (.ret (.tup []))))))
theorem CX:Rn Tryz.prog xW [(false,[.ptr])] wV:=rn (cfg:=⟨zP,[],[],[]⟩) zw zx Tryz.func47 rfl (by kernel_rfl) (by kernel_rfl) (by kernel_rfl) rfl
def wB:Tr:=
(.need (.nt (.nn (oP 0))) (.load (.fld (.nz (oP 0)) 0) [.slice] (.need (.nt (.nn (oP 0))) (.load (.fld (.nz (oP 0)) 1) [.int .i64] (.lift (.br (.cm .gtr (oI 1) (.ar .sub .i64 (.ar .mul .i64 (oK 8) (.ln (oS 2))) (oI 3))) (.load (.glob 2) [.int .i64] (.ret (.tup [(false,[(oK 0)]),(false,[(.ifc 89 (.ag (.cs (oI 4) .nl)))])]))) (.loop [.int .i64,.int .i64] [(oK 0),(oK 0)] (.lift (.br (.cm .lss (oI 5) (oI 1)) (.call xI [(.x (oP 0))] false [oQ] (.need (.cm .geq (oI 5) (oK 0)) (.cont 1 [(.ar .or .i64 (oI 4) (.ar .shl .i64 (oI 6) (oI 5))),(.ar .add .i64 (oI 5) (oK 1))]))) (.ret (.tup [(false,[(oI 4)]),(false,[(.cst .nilIf)])])))))))))))
theorem Cv:Rn Tryz.prog zH [(false,[.ptr]),oQ] wB:=rn (cfg:=⟨zP,[⟨5,[6,24],[],[7,25,26,27,28,29,30,31,32,33]⟩],[],[.tmp 4,.tmp 5]⟩) zw zx Tryz.func48 rfl (by kernel_rfl) (by kernel_rfl) (by kernel_rfl) rfl
def AE:Tr:=
(.need (.nt (.nn (oP 0))) (.load (.fld (.nz (oP 0)) 1) [.int .i64] (.need (.nt (.nn (oP 0))) (.load (.fld (.nz (oP 0)) 0) [.slice] (.lift (.br (.cm .geq (oI 1) (.ar .mul .i64 (oK 8) (.ln (oS 2)))) (.ret (.x (.cst (.int .i64 (-1))))) (.need (.nt (.nn (oP 0))) (.load (.fld (.nz (oP 0)) 1) [.int .i64] (.need (.nt (.nn (oP 0))) (.load (.fld (.nz (oP 0)) 1) [.int .i64] (.need (.nt (.nn (oP 0))) (.hsto (.fld (.nz (oP 0)) 1) [(.ar .add .i64 (oI 4) (oK 1))] (.need (.nt (.nn (oP 0))) (.load (.fld (.nz (oP 0)) 0) [.slice] (.need (.nt (.nn (oS 5))) (.need (.cm .leq (oK 0) (.ar .quo .i64 (oI 3) (oK 8))) (.need (.cm .lss (.ar .quo .i64 (oI 3) (oK 8)) (.ln (oS 5))) (.load (.ix 1 (oS 5) (.ar .quo .i64 (oI 3) (oK 8))) [.int .u8] (.need (.cm .geq (.ar .rem .i64 (oI 3) (oK 8)) (oK 0)) (.ret (.x (.cv .i64 (.ar .and .u8 (.ar .shr .u8 (.var (.int .u8) 6) (.ar .rem .i64 (oI 3) (oK 8))) (.cst (.int .u8 1)))))))))))))))))))))))))
theorem Ek:Rn Tryz.prog xI [(false,[.ptr])] AE:=rn (cfg:=⟨zP,[],[],[.tmp 2]⟩) zw zx Tryz.func67 rfl (by kernel_rfl) (by kernel_rfl) (by kernel_rfl) rfl
def mlE:Tr:=
(.need (.cm .leq (oK 0) (.ar .add .i64 (oI 3) (oK 257))) (.need (.cm .leq (.ar .add .i64 (oI 3) (oK 257)) (.cp (oS 15))) (.need (.cm .leq (oK 0) (.ar .add .i64 (oI 3) (oK 257))) (.need (.cm .leq (.ar .add .i64 (oI 3) (oK 257)) (.ar .add .i64 (oI 3) (oK 257))) (.need (.cm .leq (oK 0) (.ar .add .i64 (oI 3) (oK 257))) (.need (.cm .leq (.ar .add .i64 (oI 3) (oK 257)) (.ln (oS 15))) (.call xX [(.x (.sub 1 (oS 15) .nl (.ar .add .i64 (oI 3) (oK 257)) (.ar .add .i64 (oI 3) (oK 257))))] false [oQ] (.call xX [(.x (.sub 1 (oS 15) (.ar .add .i64 (oI 3) (oK 257)) .nl .nl))] false [oQ] (.need (.nt (.nn (.sub 1 (oS 15) .nl (.ar .add .i64 (oI 3) (oK 257)) (.ar .add .i64 (oI 3) (oK 257))))) (.need (.cm .leq (oK 0) (oK 256)) (.need (.cm .lss (oK 256) (.ln (.sub 1 (oS 15) .nl (.ar .add .i64 (oI 3) (oK 257)) (.ar .add .i64 (oI 3) (oK 257))))) (.load (.ix 1 (.sub 1 (oS 15) .nl (.ar .add .i64 (oI 3) (oK 257)) (.ar .add .i64 (oI 3) (oK 257))) (oK 256)) [.int .i64] (.lift (.br (.it (.it (.cm .eql (oI 18) (oK 0)) (.cst (.bool true)) (.it (.cm .neq (oI 16) (oK 1)) (.cm .neq (oI 16) (oK 4)) (.cst (.bool false)))) (.cst (.bool true)) (.it (.it (.cm .neq (oI 17) (oK 1)) (.cm .neq (oI 17) (oK 4)) (.cst (.bool false))) (.cm .neq (oI 17) (oK 5)) (.cst (.bool false)))) (.load (.glob 1) [.int .i64] (.hsto (oA 2) [(.ifc 89 (.ag (.cs (oI 19) .nl)))] (.load (oA 2) [.iface] (.ret (.tup [(false,[(.cst .nilSl)]),(false,[(.cst .nilSl)]),(false,[(oF 20)])]))))) (.hsto (oA 2) [(.cst
.nilIf)] (.load (oA 2) [.iface] (.ret (.tup [(false,[(.sub 1 (oS 15) .nl (.ar .add .i64 (oI 3) (oK 257)) (.ar .add .i64 (oI 3) (oK 257)))]),(false,[(.sub 1 (oS 15) (.ar .add .i64 (oI 3) (oK 257)) .nl .nl)]),(false,[(oF 19)])]))))))))))))))))))
def mlR:Tr:=
(.load (oA 2) [.iface] (.lift (.br (.nt (.nn (oF 21))) (.load (oA 2) [.iface] (.hsto (oA 2) [(oF 22)] (.load (oA 2) [.iface] (.ret (.tup [(false,[(.cst .nilSl)]),(false,[(.cst .nilSl)]),(false,[(oF 23)])]))))) (.lift (.br (.cm .gtr (oI 20) (.ar .sub .i64 (.ar .add .i64 (.ar .add .i64 (oI 3) (oK 257)) (.ar .add .i64 (oI 5) (oK 1))) (.ln (oS 15)))) (.load (.glob 1) [.int .i64] (.hsto (oA 2) [(.ifc 89 (.ag (.cs (oI 22) .nl)))] (.load (oA 2) [.iface] (.ret (.tup [(false,[(.cst .nilSl)]),(false,[(.cst .nilSl)]),(false,[(oF 23)])]))))) (.loop [.slice,.int .i64] [(oS 15),(oK 0)] (.lift (.br (.cm .lss (oI 23) (oI 20)) (.hsl 2 1 [(oI 19)] (.app 2 1 8 [(.int .i64 0)] (oS 22) (oS 24) (.cont 9 [(oS 25),(.ar .add .i64 (oI 23) (oK 1))]))) (.cont 4 [(oS 22)])))))))))
def mlB:Tr:=
(.load (oA 1) [.ptr] (.call yM [(.x (oP 16)),(.x (oP 13))] true [oQ,(false,[.iface])] (.lift (.br (.nt (.nn (oF 18))) (.hsto (oA 2) [(oF 18)] (.load (oA 2) [.iface] (.ret (.tup [(false,[(.cst .nilSl)]),(false,[(.cst .nilSl)]),(false,[(oF 19)])])))) (.join [.int .i64,.int .i64] (.br (.cm .eql (oI 17) (oK 16)) (.lift (.br (.cm .eql (.ln (oS 15)) (oK 0)) (.load (.glob 1) [.int .i64] (.hsto (oA 2) [(.ifc 89 (.ag (.cs (oI 19) .nl)))] (.load (oA 2) [.iface] (.ret (.tup [(false,[(.cst .nilSl)]),(false,[(.cst .nilSl)]),(false,[(oF 20)])]))))) (.need (.nt (.nn (oS 15))) (.need (.cm .leq (oK 0) (.ar .sub .i64 (.ln (oS 15)) (oK 1))) (.need (.cm .lss (.ar .sub .i64 (.ln (oS 15)) (oK 1)) (.ln (oS 15))) (.load (.ix 1 (oS 15) (.ar .sub .i64 (.ln (oS 15)) (oK 1))) [.int .i64] (.call yj [(.x (oK 2)),(.x (oA 2)),(.x (oA 1))] false [oQ] (.still [((.ix 1 (oS 15) (.ar .sub .i64 (.ln (oS 15)) (oK 1))),(oI 19))] (.cont 7 [(oI 19),(.ar .add .i64 (oI 20) (oK 3))]))))))))) (.join [.int .i64,.int .i64] (.br (.cm .eql (oI 17) (oK 17)) (.call yj [(.x (oK 3)),(.x (oA 2)),(.x (oA 1))] false [oQ] (.cont 8 [(oK 0),(.ar .add .i64 (oI 19) (oK 3))])) (.join [.int .i64,.int .i64] (.br (.cm .eql (oI 17) (oK 18)) (.call yj [(.x (oK 7)),(.x (oA 2)),(.x (oA 1))] false [oQ] (.cont 9 [(oK 0),(.ar .add .i64 (oI 19) (oK 11))])) (.cont 9 [(oI 17),(oK 1)])) (.cont 8 [(oI 19),(oI 20)]))) (.cont 7 [(oI 19),(oI
20)]))) mlR)))))
def mlC:Tr:=
(.load (oA 2) [.iface] (.lift (.br (.nt (.nn (oF 11))) (.load (oA 2) [.iface] (.hsto (oA 2) [(oF 12)] (.load (oA 2) [.iface] (.ret (.tup [(false,[(.cst .nilSl)]),(false,[(.cst .nilSl)]),(false,[(oF 13)])]))))) (.call xX [(.x (oS 9))] false [oQ] (.lift (.br (.cm .neq (oI 12) (oK 1)) (.load (.glob 1) [.int .i64] (.hsto (oA 2) [(.ifc 89 (.ag (.cs (oI 13) .nl)))] (.load (oA 2) [.iface] (.ret (.tup [(false,[(.cst .nilSl)]),(false,[(.cst .nilSl)]),(false,[(oF 14)])]))))) (.call xK [(.x (oS 9))] false [(false,[.ptr])] (.hsl 2 0 [] (.loop [.slice] [(oS 14)] (.lift (.br (.cm .lss (.ln (oS 15)) (.ar .add .i64 (.ar .add .i64 (oI 3) (oK 257)) (.ar .add .i64 (oI 5) (oK 1)))) mlB mlE)))))))))))
def ml3:Tr:=
(.call yj [(.x (oK 4)),(.x (oA 2)),(.x (oA 1))] false [oQ] (.hall 181 [(19,(oK 0))] (.hsto (oA 8) [(oK 16),(oK 17),(oK 18),(oK 0),(oK 8),(oK 7),(oK 9),(oK 6),(oK 10),(oK 5),(oK 11),(oK 4),(oK 12),(oK 3),(oK 13),(oK 2),(oK 14),(oK 1),(oK 15)] (.mks 2 1 8 [(.int .i64 0)] (oK 19) (oK 19) (.loop [.int .i64] [(oK 0)] (.lift (.br (.cm .lss (oI 10) (.ar .add .i64 (oI 7) (oK 4))) (.need (.cm .leq (oK 0) (oI 10)) (.need (.cm .lss (oI 10) (oK 19)) (.load (.ia 1 (oA 8) (oI 10)) [.int .i64] (.call yj [(.x (oK 3)),(.x (oA 2)),(.x (oA 1))] false [oQ] (.still [((.ia 1 (oA 8) (oI 10)),(oI 11))] (.need (.nt (.nn (oS 9))) (.need (.cm .leq (oK 0) (oI 11)) (.need (.cm .lss (oI 11) (.ln (oS 9))) (.hsto (.ix 1 (oS 9) (oI 11)) [(oI 12)] (.cont 0 [(.ar .add .i64 (oI 10) (oK 1))])))))))))) mlC)))))))
def ml2:Tr:=
(.join [] (.br (.it (.nn (oF 6)) (.cm .gtr (.ar .add .i64 (oI 5) (oK 1)) (oK 30)) (.cst (.bool false))) (.load (.glob 1) [.int .i64] (.hsto (oA 2) [(.ifc 89 (.ag (.cs (oI 7) .nl)))] (.cont 0 []))) (.cont 0 [])) ml3)
def ml1:Tr:=
(.join [] (.br (.it (.nn (oF 4)) (.cm .gtr (.ar .add .i64 (oI 3) (oK 257)) (oK 286)) (.cst (.bool false))) (.load (.glob 1) [.int .i64] (.hsto (oA 2) [(.ifc 89 (.ag (.cs (oI 5) .nl)))] (.cont 0 []))) (.cont 0 [])) (.call yj [(.x (oK 5)),(.x (oA 2)),(.x (oA 1))] false [oQ] (.load (oA 2) [.iface] ml2)))
def Ao:Tr:=
(.hall 118 [(1,(oP 0))] (.hall 55 [(1,(.cst .nilIf))] (.call yj [(.x (oK 5)),(.x (oA 2)),(.x (oA 1))] false [oQ] (.load (oA 2) [.iface] ml1))))
theorem DD:Rn Tryz.prog kU [(false,[.ptr])] Ao:=rn (cfg:=⟨zP,[⟨12,[49],[],[11,50,51,52,53,54,55,56,57,58,59]⟩,⟨42,[13,128],[],[129,130,131,132,133,134]⟩,⟨22,[13],[],[14,15,16,17,71,72,73,74,75,76,77,78,79,80,81,82,83,84,85,86,87,88,89,90,91,92,93,94,95,96,97,98,99,100,101,102,103,104,105,106,107,108,109,110,111,112,113,114,115,116,117,118,119,120,121,122,123,124,125,126,127,128,129,130,131,132,133,134]⟩],[1,4,9],[.tmp 2,.tmp 3,.cell 4 55]⟩) zw zx Tryz.func106 rfl (by kernel_rfl) (by kernel_rfl) (by kernel_rfl) rfl
end Go.Proofs.YtnhbgoiihgoneaaGreatDoor
end
