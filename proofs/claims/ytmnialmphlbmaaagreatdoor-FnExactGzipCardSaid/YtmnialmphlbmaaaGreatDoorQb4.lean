import Derived.Test.YtmnialmphlbmaaaGreatDoorChecked
import Derived.Test.YtmnialmphlbmaaaGreatDoorQb2
import Derived.Test.YtmnialmphlbmaaaGreatDoorQb3
set_option maxRecDepth 100000
set_option maxHeartbeats 8000000
set_option linter.unusedVariables false
set_option linter.unusedSimpArgs false
set_option linter.unusedSectionVars false
section
namespace Go.Eng
abbrev oI(n:Nat):Ex:=.var (.int .i64) n
abbrev oS(n:Nat):Ex:=.var .slice n
abbrev oP(n:Nat):Ex:=.var .ptr n
abbrev oB(n:Nat):Ex:=.var .bool n
abbrev oA(n:Nat):Ex:=.var .addr n
abbrev oF(n:Nat):Ex:=.var .iface n
abbrev oU(n:Nat):Ex:=.var (.int .u32) n
abbrev oK(n:Int):Ex:=.cst (.int .i64 n)
abbrev oQ:Bool×List Sh:=(false,[.int .i64])
abbrev oR:Bool×List Sh:=(false,[.slice])
abbrev oJ:GV:=⟨[],.junk⟩
abbrev oX(e:Ex):GV:=⟨[],.x e⟩
abbrev oaa:Ex:=.cst (.int .u32 0)
abbrev oa8:Ex:=oS 0
abbrev oar:Ex:=.ln oa8
abbrev oa1:Ex:=oK 32768
abbrev oa6:Ex:=.ar .add .i64 oar oa1
abbrev oas:Ex:=oK 1
abbrev obu:Ex:=.ar .sub .i64 oa6 oas
abbrev oab:Ex:=.ar .quo .i64 obu oa1
abbrev oac:Ex:=.cst (.int .u64 0)
abbrev oad:Ex:=.cst (.bool false)
abbrev oae:Ex:=oK 0
abbrev occ:Ex:=oP 0
abbrev oaf:Ex:=.nt (.nn occ)
abbrev obt:Ex:=oI 3
abbrev oag:Ex:=.cm .lss obt oar
abbrev oah:Ex:=.ar .add .i64 obt (oK 257)
abbrev oai:Ex:=.cst .nilSl
abbrev oaj:Ex:=.cst (.bool true)
abbrev oak:Ex:=.nz occ
abbrev oal:Ex:=.nt (.nn oa8)
abbrev oau:Ex:=oI 2
abbrev oam:Ex:=.ar .add .i64 oau oas
abbrev obh:Ex:=oI 6
abbrev oan:Ex:=.ar .add .i64 obh (oK 257)
abbrev och:Ex:=oI 9
abbrev oao:Ex:=.mn (.ar .mul .i64 (.ar .add .i64 och oas) oa1) oar
abbrev oap:Ex:=oI 5
abbrev oaq:Ex:=oI 4
abbrev oat:Ex:=.cm .leq oae obt
abbrev oav:Ex:=.ix 8 oa8 obt
abbrev obc:Ex:=oS 3
abbrev oc7:Ex:=.ln obc
abbrev odb:Ex:=oI 27
abbrev odx:Ex:=.ar .add .i64 (oI 22) odb
abbrev oaw:Ex:=.ar .add .i64 (.ar .sub .i64 oc7 odx) (.ar .rem .i64 (oI 33) odx)
abbrev oax:Ex:=oI 1
abbrev oay:Ex:=oA 2
abbrev oaz:Ex:=.cst (.int .i64 (-1))
abbrev obr:Ex:=oS 1
abbrev oa0:Ex:=.ln obr
abbrev oa2:Ex:=.cm .neq (.var (.int .u8) 11) (.cst (.int .u8 20))
abbrev oa3:Ex:=.cm .neq (.var (.int .u8) 6) (.cst (.int .u8 22))
abbrev oa4:Ex:=.cst .nilIf
abbrev oa5:Ex:=oK 8
abbrev oa7:Ex:=.ar .add .i64 obt oas
abbrev oa9:Ex:=.ar .add .i64 oap oas
abbrev oba:Ex:=.ar .add .i64 oaq oas
abbrev obv:Ex:=.cm .eql oau oae
abbrev ob6:Ex:=oK 2
abbrev obb:Ex:=.it (.it obv (.cm .gtr (.ar .add .i64 oax obt) (.ar .mul .i64 oa5 oar)) oad) ob6 oau
abbrev oc3:Ex:=oI 0
abbrev obd:Ex:=.ar .sub .i64 (.ar .quo .i64 oc3 ob6) oas
abbrev obe:Ex:=oI 7
abbrev obf:Ex:=.fld oak 0
abbrev obg:Ex:=.cst .nilFn
abbrev obi:Ex:=.nt (.nn (oP 1))
abbrev obk:Ex:=.mx oae (.ar .sub .i64 oa0 oau)
abbrev obl:Ex:=oI 8
abbrev oc1:Ex:=oK 4
abbrev obm:Ex:=.ar .add .i64 (.ar .quo .i64 (.ar .sub .i64 oc3 (oK 265)) oc1) oas
abbrev obn:Ex:=oI 10
abbrev obo:Ex:=oI 11
abbrev obp:Ex:=.ar .rem .i64 (.ar .add .i64 (.ar .sub .i64 oau oax) obt) oaq
abbrev obq:Ex:=.ar .mul .i64 (.ar .quo .i64 (.ar .add .i64 oax (oK 7)) oa5) oa5
abbrev obs:Ex:=oS 15
abbrev obw:Ex:=.ar .sub .i64 oap oas
abbrev obx:Ex:=.ar .add .i64 obh oas
abbrev oby:Ex:=.ar .add .i64 (.ar .add .i64 oam oas) oas
abbrev obz:Ex:=.cm .eql (oI 38) oae
abbrev ob0:Ex:=.cm .eql (.ar .rem .u64 (.var (.int .u64) 8) (.cv .u64 och)) (.ar .rem .u64 (.var (.int .u64) 1) (.cv .u64 oaq))
abbrev ob1:Ex:=oI 13
abbrev ob2:Ex:=oA 1
abbrev ob3:Ex:=.cm .leq oae oaq
abbrev ob4:Ex:=.cst (.int .u64 1)
abbrev ob5:Ex:=.ar .quo .i64 oax oa5
abbrev ob7:Ex:=.nz (oP 1)
abbrev ob8:Ex:=oI 19
abbrev ob9:Ex:=.ar .xor .u8 (.cv .u8 (oU 3)) (.var (.int .u8) 5)
abbrev oca:Ex:=oS 4
abbrev ocb:Ex:=oI 12
abbrev ocd:Ex:=.cm .lss oaq oar
abbrev oce:Ex:=oA 3
abbrev ocf:Ex:=oS 5
abbrev ocg:Ex:=.it (.it obv (.cm .gtr (.ar .add .i64 (.ar .sub .i64 oc7 oaq) (.ln (oS 7))) obh) oad) (oK 6) oau
abbrev oci:Ex:=oI 17
abbrev ocj:Ex:=.ar .mul .i64 obl oa1
abbrev ock:Ex:=oS 9
abbrev ocl:Ex:=.cst (.int .u32 4294967295)
abbrev ocm:Ex:=.ar .sub .i64 (.ln obs) oas
abbrev ocn:Ex:=oS 2
abbrev oco:Ex:=oK 256
abbrev ocp:Ex:=.cm .lss oau oar
abbrev ocq:Ex:=.cm .leq oae obe
abbrev ocr:Ex:=.cm .leq oae oau
abbrev ocs:Ex:=oI 23
abbrev oct:Ex:=.ix 1 oa8 obt
abbrev ocu:Ex:=.fld oak 1
abbrev ocv:Ex:=.ar .quo .i64 (oI 53) oa5
abbrev ocw:Ex:=.ar .quo .i64 (oI 24) oa5
abbrev ocx:Ex:=oS 14
abbrev ocy:Ex:=oI 16
abbrev ocz:Ex:=oI 20
abbrev oc0:Ex:=oI 15
abbrev oc2:Ex:=oS 34
abbrev oc4:Ex:=.nt (.nn obr)
abbrev oc5:Ex:=.nt (.nn obc)
abbrev oc6:Ex:=.cm .lss oaq oae
abbrev oc8:Ex:=.cm .leq oae obl
abbrev oc9:Ex:=.cm .leq oae oap
abbrev oda:Ex:=.ar .add .i64 ob1 oas
abbrev odc:Ex:=oS 8
abbrev odd:Ex:=.fld oay 0
abbrev ode:Ex:=oS 12
abbrev odf:Ex:=oI 26
abbrev odg:Ex:=oI 21
abbrev odh:Ex:=oI 14
abbrev odi:Ex:=oS 6
abbrev odj:Ex:=oK 3
abbrev odk:Ex:=oA 6
abbrev odl:Ex:=oA 4
abbrev odm:Ex:=.nt (.nn (oF 4))
abbrev odn:Ex:=.fld ob7 0
abbrev odo:Ex:=.fld oak 4
abbrev odp:Ex:=.cm .eql oap oae
abbrev odq:Ex:=oS 11
abbrev odr:Ex:=oK 17
abbrev ods:Ex:=oK 16
abbrev odt:Ex:=oK 15
abbrev odu:Ex:=oI 40
abbrev odv:Ex:=oI 29
abbrev odw:Ex:=oI 18
end Go.Eng
namespace Go.Eng
open Go
abbrev Rn(P:Program)(f:FuncId)(ps:List (Bool×List Sh))(t:Tr):Prop:=∀ {S:Shared} {h:Heap} {Q:Value->Heap->Prop} {vs:List Value},jw (zr ps) vs->Inv S h->t.wp P S yu Q vs h []->zb P S f (js ps vs) h Q
theorem rn{P:Program}{f:FuncId}{fn:Func}{cfg:Cfg}{t:Tr}{ps:List (Bool×List Sh)}(hT:z9 P cfg.tab)(hm:P.follows .mixedOrders=true)(hf:P.funcs[f]? = some fn)(hres:fn.results.toList=cfg.results)(ht:sxF cfg fn ps=some t)
 (hn:(fn.name == "runtime.NumGoroutine")=false)(hb:fn.body.isNone=false)(hps:ps.all (fun r=>r.1||r.2.length==1)=true):Rn P f ps t:=fun hsh hi hw=>VU hT hm hf hres ht (QM hf hn hb) hps hsh hi hw
end Go.Eng
namespace Go.Proofs.YtmnialmphlbmaaaGreatDoor
open Go Go.Eng
def SS:List (TypeId×TyD):=[(0,⟨.oth,1,0,[],none,some []⟩),
(2,⟨(.int .i64),1,8,[.int .i64],some [(1,(.int .i64 0))],none⟩),
(3,⟨(.int .i64),1,8,[.int .i64],some [(1,(.int .i64 0))],none⟩),
(4,⟨.bool,1,1,[.bool],some [(1,(.bool false))],none⟩),
(5,⟨(.int .u8),1,1,[.int .u8],some [(1,(.int .u8 0))],none⟩),
(9,⟨.str,1,16,[.str],none,none⟩),
(17,⟨(.ptr 223),1,8,[.ptr],some [(1,.nilPtr)],none⟩),
(20,⟨.ifc,1,16,[.iface],some [(1,.nilIf)],none⟩),
(22,⟨(.sl 5),1,24,[.slice],some [(1,.nilSl)],none⟩),
(24,⟨(.st [(0,2),(1,22),(2,2)]),3,40,[.int .i64,.slice,.int .i64],some [(1,(.int .i64 0)),(1,.nilSl),(1,(.int .i64 0))],none⟩),
(31,⟨(.sl 65),1,24,[.slice],some [(1,.nilSl)],none⟩),
(33,⟨(.st [(0,2),(1,22),(2,31),(3,2)]),4,64,[.int .i64,.slice,.slice,.int .i64],some [(1,(.int .i64 0)),(2,.nilSl),(1,(.int .i64 0))],none⟩),
(39,⟨(.st [(0,22),(1,2),(2,2)]),3,40,[.slice,.int .i64,.int .i64],some [(1,.nilSl),(2,(.int .i64 0))],none⟩),
(40,⟨.oth,1,0,[],none,some [39,2]⟩),
(43,⟨.fnk,1,8,[.fnv],some [(1,.nilFn)],none⟩),
(44,⟨(.int .u32),1,4,[.int .u32],some [(1,(.int .u32 0))],none⟩),
(47,⟨(.st [(0,22),(1,3),(2,2),(3,3)]),4,48,[.slice,.int .i64,.int .i64,.int .i64],some [(1,.nilSl),(3,(.int .i64 0))],none⟩),
(49,⟨.oth,1,0,[],none,some [39,47]⟩),
(53,⟨(.ptr 59),1,8,[.ptr],some [(1,.nilPtr)],none⟩),
(54,⟨(.ptr 118),1,8,[.ptr],some [(1,.nilPtr)],none⟩),
(55,⟨(.ptr 200),1,8,[.ptr],some [(1,.nilPtr)],none⟩),
(57,⟨(.st [(0,22),(1,2),(2,54),(3,22),(4,3),(5,4),(6,55),(7,55)]),8,96,[.slice,.int .i64,.ptr,.slice,.int .i64,.bool,.ptr,.ptr],some [(1,.nilSl),(1,(.int .i64 0)),(1,.nilPtr),(1,.nilSl),(1,(.int .i64 0)),(1,(.bool false)),(2,.nilPtr)],none⟩),
(59,⟨(.st [(0,57)]),8,96,[.slice,.int .i64,.ptr,.slice,.int .i64,.bool,.ptr,.ptr],some [(1,.nilSl),(1,(.int .i64 0)),(1,.nilPtr),(1,.nilSl),(1,(.int .i64 0)),(1,(.bool false)),(2,.nilPtr)],none⟩),
(61,⟨.ifc,1,16,[.iface],some [(1,.nilIf)],none⟩),
(65,⟨(.st [(0,2),(1,2),(2,2),(3,2),(4,22),(5,22),(6,22),(7,2)]),8,112,[.int .i64,.int .i64,.int .i64,.int .i64,.slice,.slice,.slice,.int .i64],some [(4,(.int .i64 0)),(3,.nilSl),(1,(.int .i64 0))],none⟩),
(66,⟨.oth,1,0,[],none,some [39,65]⟩),
(69,⟨.oth,1,0,[],none,some [65,61]⟩),
(74,⟨(.sl 2),1,24,[.slice],some [(1,.nilSl)],none⟩),
(75,⟨.oth,1,0,[],none,some [74,74]⟩),
(77,⟨.oth,1,0,[],none,some [39,74,74]⟩),
(80,⟨.oth,1,0,[],none,some [44,61]⟩),
(82,⟨(.int .u64),1,8,[.int .u64],some [(1,(.int .u64 0))],none⟩),
(84,⟨(.st [(0,2)]),1,8,[.int .i64],some [(1,(.int .i64 0))],none⟩),
(88,⟨(.ptr 84),1,8,[.ptr],some [(1,.nilPtr)],none⟩),
(89,⟨.oth,1,0,[],none,some [39,22]⟩),
(92,⟨(.int .u64),1,8,[.int .u64],some [(1,(.int .u64 0))],none⟩),
(96,⟨(.ptr 65),1,8,[.ptr],some [(1,.nilPtr)],none⟩),
(97,⟨.oth,1,0,[],none,some [2,61]⟩),
(101,⟨(.sl 3),1,24,[.slice],some [(1,.nilSl)],none⟩),
(104,⟨(.sl 142),1,24,[.slice],some [(1,.nilSl)],none⟩),
(107,⟨.oth,1,0,[],none,some [39,74]⟩),
(111,⟨(.sl 44),1,24,[.slice],some [(1,.nilSl)],none⟩),
(112,⟨.oth,1,0,[],none,some [111,74]⟩),
(114,⟨.fnk,1,8,[.fnv],some [(1,.nilFn)],none⟩),
(116,⟨(.arr 32768 5),32768,32768,[],some [(32768,(.int .u8 0))],none⟩),
(118,⟨(.st [(0,3),(1,116),(32769,3),(32770,3)]),32771,32792,[],some [(1,(.int .i64 0)),(32768,(.int .u8 0)),(2,(.int .i64 0))],none⟩),
(121,⟨.fnk,1,8,[.fnv],some [(1,.nilFn)],none⟩),
(122,⟨(.ptr 57),1,8,[.ptr],some [(1,.nilPtr)],none⟩),
(123,⟨.oth,1,8,[.ptr],some [(1,.nilPtr)],none⟩),
(124,⟨(.int .u64),1,8,[.int .u64],some [(1,(.int .u64 0))],none⟩),
(126,⟨(.st [(0,17),(1,123),(2,124)]),3,24,[.ptr,.ptr,.int .u64],some [(2,.nilPtr),(1,(.int .u64 0))],none⟩),
(129,⟨.ifc,1,16,[.iface],some [(1,.nilIf)],none⟩),
(131,⟨(.int .u8),1,1,[.int .u8],some [(1,(.int .u8 0))],none⟩),
(136,⟨.fnk,1,8,[.fnv],some [(1,.nilFn)],none⟩),
(137,⟨.oth,1,0,[],none,some [22,61]⟩),
(140,⟨.fnk,1,8,[.fnv],some [(1,.nilFn)],none⟩),
(142,⟨(.st [(0,2),(1,92)]),2,16,[.int .i64,.int .u64],some [(1,(.int .i64 0)),(1,(.int .u64 0))],none⟩),
(145,⟨(.st [(0,2),(1,2),(2,2)]),3,24,[.int .i64,.int .i64,.int .i64],some [(3,(.int .i64 0))],none⟩),
(147,⟨.oth,1,0,[],none,some [2,2]⟩),
(158,⟨.fnk,1,8,[.fnv],some [(1,.nilFn)],none⟩),
(159,⟨.oth,1,0,[],none,some [158,61]⟩),
(166,⟨.ifc,1,16,[.iface],some [(1,.nilIf)],none⟩),
(167,⟨.oth,1,0,[],none,some [166,4]⟩),
(169,⟨.ifc,1,16,[.iface],some [(1,.nilIf)],none⟩),
(170,⟨.ifc,1,16,[.iface],some [(1,.nilIf)],none⟩),
(171,⟨(.sl 61),1,24,[.slice],some [(1,.nilSl)],none⟩),
(173,⟨(.arr 256 44),256,1024,[],some [(256,(.int .u32 0))],none⟩),
(190,⟨.oth,1,0,[],none,some [74,74,61]⟩),
(198,⟨(.sl 202),1,24,[.slice],some [(1,.nilSl)],none⟩),
(200,⟨(.st [(0,198)]),1,24,[.slice],some [(1,.nilSl)],none⟩),
(202,⟨(.st [(0,3),(1,3)]),2,16,[.int .i64,.int .i64],some [(2,(.int .i64 0))],none⟩),
(205,⟨(.arr 19 3),19,152,[.int .i64,.int .i64,.int .i64,.int .i64,.int .i64,.int .i64,.int .i64,.int .i64,.int .i64,.int .i64,.int .i64,.int .i64,.int .i64,.int .i64,.int .i64,.int .i64,.int .i64,.int .i64,.int .i64],some [(19,(.int .i64 0))],none⟩),
(206,⟨(.arr 17 92),17,136,[.int .u64,.int .u64,.int .u64,.int .u64,.int .u64,.int .u64,.int .u64,.int .u64,.int .u64,.int .u64,.int .u64,.int .u64,.int .u64,.int .u64,.int .u64,.int .u64,.int .u64],some [(17,(.int .u64 0))],none⟩)]
theorem VY:z9 Tryz.prog SS:=HD (by kernel_rfl)
theorem VZ:Tryz.prog.follows .mixedOrders=true:=by kernel_rfl
theorem rq(a:_)(b:_)(c:_){f:FuncId}{fn:Func}{t:Tr}{ps:List (Bool×List Sh)}(hf:Tryz.prog.funcs[f]? = some fn)(ht:(sxF ⟨SS,a,b,c⟩ fn ps,fn.name == "runtime.NumGoroutine",fn.body.isNone)=(some t,false,false))(hres:fn.results.toList=(⟨SS,a,b,c⟩:Cfg).results:=by rfl)(hps:ps.all (fun r=>r.1||r.2.length==1)=true:=by rfl):Rn Tryz.prog f ps t:=rn VY VZ hf hres (Prod.mk.inj ht).1 (Prod.mk.inj (Prod.mk.inj ht).2).1 (Prod.mk.inj (Prod.mk.inj ht).2).2 hps
def FA:Tr:=
(.ret (.agg [oa8,oax,(.it (.it obv (oB 3) oad) odj oau)]))
theorem JI:Rn Tryz.prog zW [(true,[.slice,.int .i64,.int .i64]),(false,[.bool])] FA:=rq [] [] [.cell 4 39] Tryz.func19 (by kernel_rfl)
def EP:Tr:=
(.lift (.br (.cm .neq obb oae) (.ret (.tup [(true,[oa8,oax,obb]),(false,[oae])])) (.loop [.int .i64,.int .i64] [oae,(.ar .sub .i64 obt oas)] (.lift (.br (.cm .geq oap oae) (.call wX [(.x oa8),(.x (.ar .add .i64 oax oap))] false [(false,[.int .u64])] (.cont 1 [(.ar .add .i64 (.ar .mul .i64 ob6 oaq) (.cv .i64 (.var (.int .u64) 6))),obw])) (.ret (.tup [(true,[oa8,(.ar .add .i64 oax obt),obb]),(false,[oaq])])))))))
theorem IN:Rn Tryz.prog zD [(true,[.slice,.int .i64,.int .i64]),oQ] EP:=rq [⟨7,[6,7],[],[29,30,31,32,33,34,35,36,37,38,39,40,41,42,43]⟩] [] [.cell 4 39,.tmp 5] Tryz.func31 (by kernel_rfl)
def Pv:Tr:=
(.lift (.br (.cm .neq (oI 37) oae) (.hsl 2 0 [] (.hsl 2 0 [] (.ret (.tup [(true,[(oS 35),(oI 36),(oI 37)]),(false,[(oS 38)]),(false,[(oS 39)])])))) (.need (.cm .leq oae oan) (.need (.cm .leq oan (.cp oc2)) (.need (.cm .leq oae oan) (.need (.cm .leq oan (.ln oc2)) (.join [.int .i64,.bool,.bool,.bool,.bool,.bool,.slice,.int .i64,.int .i64] (.need (.nt (.nn (.sub 1 oc2 .nl oan .nl))) (.need (.cm .leq oae oco) (.need (.cm .lss oco (.ln (.sub 1 oc2 .nl oan .nl))) (.load (.ix 1 (.sub 1 oc2 .nl oan .nl) oco) [.int .i64] (.br (.nt obz) (.call qd [(.x (.sub 1 oc2 .nl oan .nl)),(.x oas),(.x oc1),(.x oc1)] false [(false,[.bool])] (.br (.nt (.nt (oB 39))) (.call qd [(.x (.sub 1 oc2 oan .nl .nl)),(.x oas),(.x oc1),(.x (oK 5))] false [(false,[.bool])] (.call zW [(.agg [(oS 35),(oI 36),(oI 37)]),(.x (.nt (oB 40)))] false [(true,[.slice,.int .i64,.int .i64])] (.cont 5 [(oI 38),obz,obz,(.nt (oB 39)),(.nt (oB 39)),(.nt (oB 40)),(oS 41),(oI 42),(oI 43)]))) (.call zW [(.agg [(oS 35),(oI 36),(oI 37)]),(.x oaj)] false [(true,[.slice,.int .i64,.int .i64])] (.cont 5 [(oI 38),obz,obz,(.nt (oB 39)),(.nt (oB 39)),oaj,(oS 40),(oI 41),(oI 42)])))) (.call zW [(.agg [(oS 35),(oI 36),(oI 37)]),(.x oaj)] false [(true,[.slice,.int .i64,.int .i64])] (.cont 5 [(oI 38),obz,obz,oaj,oaj,oaj,(oS 39),odu,(oI 41)]))))))) (.ret (.tup [(true,[(oS 44),(oI 45),(oI 46)]),(false,[(.sub 1 oc2 .nl
 oan .nl)]),(false,[(.sub 1 oc2 oan .nl .nl)])])))))))))
def Pw:Tr:=
(.loop [.int .i64,.slice,.slice,.int .i64,.int .i64] [(oI 22),(oS 32),(oS 28),odv,(oI 30)] (.lift (.br (.it (.cm .eql (oI 37) oae) (.cm .lss (.ln oc2) (.ar .add .i64 oan oda)) oad) (.call qy [(.agg [(oS 35),(oI 36),(oI 37)]),(.x (oS 31))] true [(true,[.slice,.int .i64,.int .i64]),oQ] (.join [.slice,.slice,.int .i64,.int .i64] (.br (.cm .eql odu oae) (.call wZ [(.agg [(oS 38),(oI 39),odu]),(.x oc2),(.x (oI 41))] true [(true,[.slice,.int .i64,.int .i64]),oR] (.call zW [(.agg [(oS 42),(oI 43),(oI 44)]),(.x (.cm .gtr (.ln (oS 45)) (.ar .add .i64 oan oda)))] false [(true,[.slice,.int .i64,.int .i64])] (.cont 4 [(oS 45),(oS 46),(oI 47),(oI 48)]))) (.cont 4 [oc2,(oS 38),(oI 39),odu])) (.cont 2 [(oI 41),(oS 42),(oS 43),(oI 44),(oI 45)]))) Pv)))
def ER:Tr:=
(.call zD [(.agg [oa8,oax,oau]),(.x (oK 5))] true [(true,[.slice,.int .i64,.int .i64]),oQ] (.call zW [(.agg [obc,oaq,oap]),(.x (.cm .gtr oan (oK 286)))] false [(true,[.slice,.int .i64,.int .i64])] (.call zD [(.agg [(oS 7),obl,och]),(.x (oK 5))] true [(true,[.slice,.int .i64,.int .i64]),oQ] (.call zW [(.agg [(oS 10),obo,ocb]),(.x (.cm .gtr oda (oK 30)))] false [(true,[.slice,.int .i64,.int .i64])] (.call zD [(.agg [ocx,oc0,ocy]),(.x oc1)] true [(true,[.slice,.int .i64,.int .i64]),oQ] (.hsl 2 19 [oae,oae,oae,oae,oae,oae,oae,oae,oae,oae,oae,oae,oae,oae,oae,oae,oae,oae,oae] (.loop [.int .i64,.int .i64,.slice,.int .i64,.int .i64] [oae,oae,(oS 17),odw,ob8] (.lift (.br (.cm .lss ocs (.ar .add .i64 ocz oc1)) (.call zD [(.agg [(oS 24),(oI 25),odf]),(.x odj)] true [(true,[.slice,.int .i64,.int .i64]),oQ] (.call AB [] false [oR] (.need (.nt (.nn (oS 31))) (.need (.cm .leq oae ocs) (.need (.cm .lss ocs (.ln (oS 31))) (.load (.ix 1 (oS 31) ocs) [.int .i64] (.need (.nt (.nn (oS 21))) (.need (.cm .leq oae (oI 32)) (.need (.cm .lss (oI 32) (.ln (oS 21))) (.hsto (.ix 1 (oS 21) (oI 32)) [(oI 30)] (.cont 0 [(oI 30),(.ar .add .i64 ocs oas),(oS 27),(oI 28),odv]))))))))))) (.call jD [(.x (oS 21))] false [oQ] (.call zW [(.agg [(oS 24),(oI 25),odf]),(.x (.cm .neq odb oas))] false [(true,[.slice,.int .i64,.int .i64])] (.call
 jz [(.x (oS 21))] false [oR] (.hsl 2 0 [] Pw)))))))))))))
theorem IP:Rn Tryz.prog Bp [(true,[.slice,.int .i64,.int .i64])] ER:=rq [⟨14,[8,10],[(0,0),(0,1),(0,2)],[43,44,45,46,47,48,49,50,51,52,53,54,55,56,57,58,59,60]⟩,⟨21,[8,12],[(0,0),(0,1),(0,2)],[69,70,71,72,73,74,75,76,77,78,79,80,81,82,83,84,85,86,87,88,89,90,91,92,93,94,95,96,97,98,99,100,101,102,103]⟩] [] [.cell 2 39,.tmp 3,.tmp 4] Tryz.func40 (by kernel_rfl)
def FB:Tr:=
(.need oal (.need (.cm .leq oae ob5) (.need (.cm .lss ob5 oar) (.load (.ix 1 oa8 ob5) [.int .u8] (.need (.cm .geq (.cv .u64 (.ar .rem .i64 oax oa5)) oac) (.ret (.x (.ar .rem .u64 (.cv .u64 (.ar .shr .u8 (.var (.int .u8) 2) (.cv .u64 (.ar .rem .i64 oax oa5)))) (.cst (.int .u64 2))))))))))
theorem JJ:Rn Tryz.prog wX [oR,oQ] FB:=rq [] [] [.tmp 4] Tryz.func50 (by kernel_rfl)
def DF:Tr:=
(.hsl 3 19 [ods,odr,(oK 18),oae,oa5,(oK 7),(oK 9),(oK 6),(oK 10),(oK 5),(oK 11),oc1,(oK 12),odj,(oK 13),ob6,(oK 14),oas,odt] (.ret (.x oa8)))
theorem HE:Rn Tryz.prog AB [] DF:=rq [] [] [.tmp 0] Tryz.func57 (by kernel_rfl)
def FC:Tr:=
(.lift (.br (.cm .neq oau oae) (.ret (.tup [(true,[oa8,oax,oau]),(false,[oae])])) (.loop [.int .u64,.int .i64] [oac,oae] (.lift (.br (.it (.cm .lss oap odt) (.cm .lss (.ar .add .i64 oax oap) (.ar .mul .i64 oa5 oar)) oad) (.call wX [(.x oa8),(.x (.ar .add .i64 oax oap))] false [(false,[.int .u64])] (.need (.cm .geq (.cv .u64 oap) oac) (.cont 1 [(.ar .add .u64 (.var (.int .u64) 4) (.ar .shl .u64 (.var (.int .u64) 6) (.cv .u64 oap))),oa9]))) (.call Bu [(.x obc),(.x (.var (.int .u64) 4)),(.x oap)] false [(true,[.int .i64,.int .i64,.int .i64])] (.call zW [(.agg [oa8,oax,(.it (.cm .eql obh ob6) ob6 oau)]),(.x (.cm .eql obh oae))] false [(true,[.slice,.int .i64,.int .i64])] (.ret (.tup [(true,[ock,(.ar .add .i64 obn obl),obo]),(false,[obe])])))))))))
theorem JK:Rn Tryz.prog qy [(true,[.slice,.int .i64,.int .i64]),oR] FC:=rq [⟨5,[6,7],[],[13,14,15,16,17,18,19,20,21,22,23,24,25,26,27,28,29,30,31,32,33,34,35,36,37,38,39]⟩] [] [.cell 4 39,.tmp 5] Tryz.func60 (by kernel_rfl)
def CM:Tr:=
(.join [.int .i64,.int .i64,.slice,.int .i64,.int .i64] (.br (.cm .eql oaq ods) (.call zW [(.agg [oa8,oax,oau]),(.x (.cm .eql oc7 oae))] false [(true,[.slice,.int .i64,.int .i64])] (.call zD [(.agg [ocf,obh,obe]),(.x ob6)] true [(true,[.slice,.int .i64,.int .i64]),oQ] (.join [.int .i64] (.br (.cm .eql obn oae) (.need oc5 (.need (.cm .leq oae (.ar .sub .i64 oc7 oas)) (.need (.cm .lss (.ar .sub .i64 oc7 oas) oc7) (.load (.ix 1 obc (.ar .sub .i64 oc7 oas)) [.int .i64] (.cont 1 [ocb]))))) (.cont 1 [oaq])) (.cont 0 [(.ar .add .i64 obo odj),ocb,odc,och,obn])))) (.cont 0 [oas,oaq,oa8,oax,oau])) (.join [.int .i64,.int .i64,.slice,.int .i64,.int .i64] (.br (.cm .eql oaq odr) (.call zD [(.agg [(oS 7),obl,och]),(.x odj)] true [(true,[.slice,.int .i64,.int .i64]),oQ] (.cont 0 [(.ar .add .i64 ob1 odj),oae,(oS 10),obo,ocb])) (.cont 0 [oap,obh,(oS 7),obl,och])) (.join [.int .i64,.int .i64,.slice,.int .i64,.int .i64] (.br (.cm .eql oaq (oK 18)) (.call zD [(.agg [ode,ob1,odh]),(.x (oK 7))] true [(true,[.slice,.int .i64,.int .i64]),oQ] (.cont 0 [(.ar .add .i64 odw (oK 11)),oae,obs,ocy,oci])) (.cont 0 [obn,obo,ode,ob1,odh])) (.loop [.slice,.int .i64] [obc,oae] (.lift (.br (.it (.cm .lss odg oc0) (.cm .eql ob8 oae) oad) (.hsl 2 1 [ocy] (.app 2 1 8 [(.int .i64 0)] (oS 20) (oS 22) (.cont 0 [(oS 23),(.ar .add .i64 odg oas)]))) (.ret (.tup [(true,[(oS 17),odw,ob8]),(false,[(oS
20)])]))))))))
theorem GU:Rn Tryz.prog wZ [(true,[.slice,.int .i64,.int .i64]),oR,oQ] CM:=rq [⟨18,[1,10],[],[53,54,55,56,57,58,59,60,61,62,63,64,65,66]⟩] [] [.cell 6 39,.tmp 7] Tryz.func61 (by kernel_rfl)
def CN:Tr:=
(.call jD [(.x oa8)] false [oQ] (.ret (.x (.it (.it (.cm .eql oaq oax) oaj (.cm .eql oaq oau)) oaj (.cm .eql oaq obt)))))
theorem GW:Rn Tryz.prog qd [oR,oQ,oQ,oQ] CN:=rq [] [] [.tmp 8] Tryz.func62 (by kernel_rfl)
def FD:Tr:=
(.loop [.int .i64,.int .i64] [oas,oae] (.lift (.br (.cm .lss oau oc3) (.cont 0 [(.ar .mul .i64 ob6 oax),oam]) (.ret (.x oax)))))
theorem JL:Rn Tryz.prog xe [oQ] FD:=rq [⟨3,[3,4],[],[5,6,7,8,9,10,11]⟩] [] [.tmp 2] Tryz.func20 (by kernel_rfl)
def CO:Tr:=
(.lift (.br (.cm .gtr oar (oK 320)) (.ret (.x oae)) (.loop [.int .i64,.int .i64,.int .i64] [oae,oae,oae] (.lift (.br oag (.join [.int .i64,.bool,.bool,.bool] (.need oal (.need oat (.need oag (.load oct [.int .i64] (.br (.nt oc6) (.need oal (.need oat (.need oag (.load oct [.int .i64] (.cont 3 [oaq,oc6,oc6,(.cm .gtr oap odt)]))))) (.cont 3 [oaq,oc6,oc6,oaj])))))) (.lift (.br (oB 7) (.ret (.x oae)) (.need oal (.need oat (.need oag (.load oct [.int .i64] (.join [.int .i64,.int .i64] (.br (.cm .gtr obl oae) (.need oal (.need oat (.need oag (.load oct [.int .i64] (.call xe [(.x (.ar .sub .i64 odt och))] false [oQ] (.cont 4 [(.ar .add .i64 oax obn),oam])))))) (.cont 4 [oax,oau])) (.cont 1 [och,obn,oa7]))))))))) (.lift (.br obv (.ret (.x (oK 5))) (.call xe [(.x odt)] false [oQ] (.lift (.br (.cm .gtr oax oaq) (.ret (.x ob6)) (.call xe [(.x odt)] false [oQ] (.lift (.br (.cm .eql oax oap) (.ret (.x oas)) (.join [.bool] (.br (.cm .eql oau oas) (.call xe [(.x (oK 14))] false [oQ] (.cont 6 [(.cm .eql oax obh)])) (.cont 6 [oad])) (.lift (.br (oB 6) (.ret (.x oc1)) (.ret (.x odj))))))))))))))))))
theorem GX:Rn Tryz.prog jD [oR] CO:=rq [⟨6,[3,4,5],[],[9,10,11,12,13,14,15,16,17,18,19,20,21,22,23,24,25,26,27,28,29,30,31,32,33,34,35,36,37,38,39,40,41]⟩] [] [.tmp 2] Tryz.func58 (by kernel_rfl)
def CP:Tr:=
(.lift (.br (.cm .gtr oar (oK 320)) (.ret (.x oae)) (.loop [.int .i64,.int .i64,.int .i64,.int .i64] [oae,oae,oae,oae] (.lift (.br ocd (.need oal (.need ob3 (.need ocd (.load (.ix 1 oa8 oaq) [.int .i64] (.lift (.br (.it (.cm .lss oap oae) oaj (.cm .gtr oap odt)) (.ret (.x oae)) (.join [.int .i64,.int .i64,.int .i64] (.br (.cm .gtr oap oae) (.need (.cm .geq (.ar .sub .i64 odt oap) oae) (.cont 4 [(.ar .add .i64 oax (.ar .shl .i64 oas (.ar .sub .i64 odt oap))),oam,oap])) (.cont 4 [oax,oau,obt])) (.cont 1 [obh,obe,obl,oba])))))))) (.lift (.br obv (.ret (.x (oK 5))) (.lift (.br (.cm .gtr oax oa1) (.ret (.x ob6)) (.lift (.br (.cm .eql oax oa1) (.ret (.x oas)) (.lift (.br (.it (.cm .eql oau oas) (.cm .eql obt oas) oad) (.ret (.x oc1)) (.ret (.x odj)))))))))))))))
theorem GY:Rn Tryz.prog xY [oR] CP:=rq [⟨5,[3,4,5,13],[],[7,14,15,16,17,18,19,20,21,22,23,24,25,26,27,28,29,30,31,32,33]⟩] [] [.tmp 2] Tryz.func133 (by kernel_rfl)
def Cf:Tr:=
(.hsl 142 0 [] (.call jD [(.x oa8)] false [oQ] (.lift (.br (.it obv oaj (.cm .eql oau ob6)) (.ret (.x obr)) (.loop [.slice,.int .i64] [obr,oae] (.lift (.br ocd (.hsl 142 1 [oae,oac] (.app 142 2 16 [(.int .i64 0),(.int .u64 0)] obc ocf (.cont 1 [odi,oba]))) (.loop [.int .i64,.int .i64] [oae,oas] (.lift (.br (.cm .leq obh odt) (.loop [.int .i64,.int .i64] [(.ar .mul .i64 ob6 oap),oae] (.lift (.br (.cm .lss obl oar) (.need oal (.need oc8 (.need (.cm .lss obl oar) (.load (.ix 1 oa8 obl) [.int .i64] (.join [.int .i64] (.br (.cm .eql och obh) (.call Bt [(.x obe),(.x obh)] false [(false,[.int .u64])] (.need oc5 (.need oc8 (.need (.cm .lss obl oc7) (.hsto (.ix 2 obc obl) [obh,(.var (.int .u64) 10)] (.cont 7 [(.ar .add .i64 obe oas)])))))) (.cont 7 [obe])) (.cont 5 [obn,(.ar .add .i64 obl oas)])))))) (.cont 3 [obe,obx])))) (.ret (.x obc))))))))))))
theorem FE:Rn Tryz.prog jz [oR] Cf:=rq [⟨6,[3,5],[],[19,20,21,22,23,24,25,26,27,28]⟩,⟨15,[6,8],[],[35,36,37,38,39,40,41,42,43,44,45,46,47,48,49,50,51,52,53,54,55,56]⟩,⟨11,[6,7],[],[8,29,30,31,32,33,34,35,36,37,38,39,40,41,42,43,44,45,46,47,48,49,50,51,52,53,54,55,56]⟩] [] [.tmp 2] Tryz.func59 (by kernel_rfl)
def ES:Tr:=
(.loop [.int .i64,.int .u64,.int .i64] [oc3,oac,oae] (.lift (.br (.cm .lss oaq oax) (.cont 0 [(.ar .quo .i64 oau ob6),(.ar .add .u64 (.ar .mul .u64 (.cst (.int .u64 2)) (.var (.int .u64) 3)) (.cv .u64 (.ar .rem .i64 oau ob6))),oba]) (.ret (.x (.var (.int .u64) 3))))))
theorem IQ:Rn Tryz.prog Bt [oQ,oQ] ES:=rq [⟨3,[0,5,6],[],[7,8,9,10,11,12,13,14,15,16,17,18,19]⟩] [] [.tmp 4] Tryz.func83 (by kernel_rfl)
def Cg:Tr:=
(.call xY [(.x oa8)] false [oQ] (.lift (.br (.it (.cm .eql oax oae) oaj (.cm .eql oax ob6)) (.hsl 142 0 [] (.ret (.x ocn))) (.hall 206 [(17,oac)] (.hsto oay [oac,oac,oac,oac,oac,oac,oac,oac,oac,oac,oac,oac,oac,oac,oac,oac,oac] (.loop [.int .i64] [oae] (.lift (.br oag (.need oal (.need oat (.need oag (.load oct [.int .i64] (.join [] (.br (.cm .gtr oaq oae) (.need ob3 (.need (.cm .lss oaq odr) (.load (.ia 1 oay oaq) [.int .u64] (.need ob3 (.need (.cm .lss oaq odr) (.hsto (.ia 1 oay oaq) [(.ar .add .u64 (.var (.int .u64) 5) ob4)] (.cont 3 []))))))) (.cont 3 [])) (.cont 1 [oa7])))))) (.hall 206 [(17,oac)] (.hsto odl [oac,oac,oac,oac,oac,oac,oac,oac,oac,oac,oac,oac,oac,oac,oac,oac,oac] (.loop [.int .i64] [oas] (.lift (.br (.cm .leq oap odt) (.need (.cm .leq oae obw) (.need (.cm .lss obw odr) (.load (.ia 1 odl obw) [.int .u64] (.need (.cm .leq oae obw) (.need (.cm .lss obw odr) (.load (.ia 1 oay obw) [.int .u64] (.need oc9 (.need (.cm .lss oap odr) (.hsto (.ia 1 odl oap) [(.ar .shl .u64 (.ar .add .u64 (.var (.int .u64) 6) (.var (.int .u64) 7)) ob4)] (.cont 3 [oa9])))))))))) (.mks 142 2 16 [(.int .i64 0),(.int .u64 0)] oar oar (.loop [.int .i64] [oae] (.lift (.br (.cm .lss obe oar) (.need oal (.need ocq (.need (.cm .lss obe oar) (.load (.ix 1 oa8 obe) [.int .i64] (.join [] (.br (.cm .gtr obl oae) (.need oc8 (.need (.cm .lss obl odr) (.load (.ia 1 odl obl) [.int .u64] (.call Bx [(.x (.var (.int .u64) 9)),(.x obl)] false
[(false,[.int .u64])] (.need (.nt (.nn odi)) (.need ocq (.need (.cm .lss obe (.ln odi)) (.hsto (.ix 2 odi obe) [obl,(.var (.int .u64) 10)] (.need oc8 (.need (.cm .lss obl odr) (.load (.ia 1 odl obl) [.int .u64] (.need oc8 (.need (.cm .lss obl odr) (.hsto (.ia 1 odl obl) [(.ar .add .u64 (.var (.int .u64) 11) ob4)] (.cont 7 []))))))))))))))) (.cont 7 [])) (.cont 5 [(.ar .add .i64 obe oas)])))))) (.ret (.x odi)))))))))))))))))))
theorem FF:Rn Tryz.prog wy [oR] Cg:=rq [⟨6,[24],[],[6,25,26,27,28,29,30,31,32,33,34,35]⟩,⟨13,[8],[],[37,38,39,40,41,42,43,44,45,46,47,48,49,50,51,52]⟩,⟨18,[58],[],[10,11,59,60,61,62,63,64,65,66,67,68,69,70,71,72,73,74,75,76,77,78,79,80]⟩] [4,7] [.tmp 2] Tryz.func127 (by kernel_rfl)
def ET:Tr:=
(.loop [.int .u64,.int .i64] [oac,oae] (.lift (.br (.cm .lss obt oax) (.need (.cm .geq obt oae) (.need (.cm .geq (.ar .sub .i64 (.ar .sub .i64 oax oas) obt) oae) (.cont 0 [(.ar .or .u64 (.var (.int .u64) 2) (.ar .shl .u64 (.ar .and .u64 (.ar .shr .u64 (.var (.int .u64) 0) obt) ob4) (.ar .sub .i64 (.ar .sub .i64 oax oas) obt))),oa7]))) (.ret (.x (.var (.int .u64) 2))))))
theorem IS:Rn Tryz.prog Bx [(false,[.int .u64]),oQ] ET:=rq [⟨3,[5,8],[],[6,9,10,11,12,13,14,15,16,17,18,19,20,21,22]⟩] [] [.tmp 4] Tryz.func134 (by kernel_rfl)
def EU:Tr:=
(.loop [.int .i64] [oae] (.lift (.br (.cm .leq obt oau) (.call xe [(.x obt)] false [oQ] (.need (.cm .neq (.cv .u64 oaq) oac) (.loop [.bool,.int .i64] [oad,oae] (.lift (.br (.cm .lss obh oar) (.need oal (.need (.cm .leq oae obh) (.need (.cm .lss obh oar) (.load (.ix 2 oa8 obh) [.int .i64,.int .u64] (.lift (.br (.it (.it (.cm .eql obe obt) (.cm .gtr obe oae) oad) (.cm .eql (.var (.int .u64) 8) (.ar .rem .u64 (.var (.int .u64) 1) (.cv .u64 oaq))) oad) (.ret (.agg [oas,obh,obt])) (.join [.bool,.bool] (.br (.nt (oB 5)) (.br (.cm .gtr obe obt) (.call xe [(.x obt)] false [oQ] (.need (.cm .neq (.cv .u64 och) oac) (.cont 5 [ob0,ob0]))) (.cont 5 [oad,oad])) (.cont 5 [oaj,oaj])) (.cont 2 [(oB 9),obx])))))))) (.lift (.br (.nt (oB 5)) (.ret (.agg [oae,oae,oae])) (.cont 0 [oa7])))))))) (.ret (.agg [ob6,oae,oae])))))
theorem IT:Rn Tryz.prog Bu [oR,(false,[.int .u64]),oQ] EU:=rq [⟨7,[9,10],[],[11,22,23,24,25,26,27,28,29,30,31,32,33,34,35,36,37,38,39,40,41,42,43,44,45,46,47,48,49,50,51,52,53,54,55,56,57,58,59,60,61,62,63,64,65,66]⟩,⟨2,[7],[],[8,9,10,11,12,13,14,15,16,17,18,19,20,21,22,23,24,25,26,27,28,29,30,31,32,33,34,35,36,37,38,39,40,41,42,43,44,45,46,47,48,49,50,51,52,53,54,55,56,57,58,59,60,61,62,63,64,65,66,67,68,69]⟩] [] [.cell 6 145] Tryz.func84 (by kernel_rfl)
def DG:Tr:=
(.mks 202 2 16 [(.int .i64 0),(.int .i64 0)] oas oas (.hall 200 [(1,obr)] (.call wy [(.x oa8)] false [oR] (.loop [.int .i64] [oae] (.lift (.br (.cm .lss oaq oc7) (.need oc5 (.need ob3 (.need (.cm .lss oaq oc7) (.load (.ix 2 obc oaq) [.int .i64,.int .u64] (.lift (.br odp (.cont 0 [oba]) (.loop [.int .i64,.int .i64] [oae,oae] (.lift (.br (.cm .lss obl oap) (.load odd [.slice] (.need (.nt (.nn ock)) (.need ocq (.need (.cm .lss obe (.ln ock)) (.load (.fld (.ix 2 ock obe) 1) [.int .i64] (.join [] (.br (.cm .eql obn oae) (.load odd [.slice] (.load odd [.slice] (.need (.nt (.nn odq)) (.need ocq (.need (.cm .lss obe (.ln odq)) (.hsto (.fld (.ix 2 odq obe) 1) [(.ln ode)] (.load odd [.slice] (.hsl 202 2 [oae,oae,oae,oae] (.app 202 2 16 [(.int .i64 0),(.int .i64 0)] (oS 13) ocx (.hsto odd [obs] (.cont 5 []))))))))))) (.cont 5 [])) (.load odd [.slice] (.need (.nt (.nn odq)) (.need ocq (.need (.cm .lss obe (.ln odq)) (.load (.fld (.ix 2 odq obe) 1) [.int .i64] (.need (.cm .geq obl oae) (.cont 3 [(.ar .add .i64 ocb (.cv .i64 (.ar .and .u64 (.ar .shr .u64 (.var (.int .u64) 6) obl) ob4))),(.ar .add .i64 obl oas)]))))))))))))) (.load odd [.slice] (.need (.nt (.nn ock)) (.need ocq (.need (.cm .lss obe (.ln ock)) (.hsto (.fld (.ix 2 ock obe) 0) [oba] (.cont 0 [oba]))))))))))))))) (.ret (.x oay))))))))
theorem HF:Rn Tryz.prog xG [oR] DG:=rq [⟨8,[6,24],[],[7,25,26,27,28,29,30,31,32,33,34,35,36,37,38,39,40,41,42,43,44,45,46,47,48,49,50,51,52,53,54,55,56,57,58,59,60,61,62,63,64,65,66,67,68,69,70,71,72,73,74]⟩,⟨3,[14],[],[4,5,6,7,15,16,17,18,19,20,21,22,23,24,25,26,27,28,29,30,31,32,33,34,35,36,37,38,39,40,41,42,43,44,45,46,47,48,49,50,51,52,53,54,55,56,57,58,59,60,61,62,63,64,65,66,67,68,69,70,71,72,73,74,75,76,77,78,79,80,81,82,83,84]⟩] [10] [.tmp 2] Tryz.func119 (by kernel_rfl)
def qO:Tr:=
(.need oaf (.load obf [.slice] (.need (.nt (.nn ocn)) (.need (.cm .leq oae oae) (.need (.cm .lss oae (.ln ocn)) (.load (.ix 2 ocn oae) [.int .i64,.int .i64] (.loop [.int .i64,.int .i64,.int .i64] [oae,obt,oaq] (.lift (.br (.cm .gtr obh oae) (.ret (.agg [oas,(.ar .sub .i64 obh oas),oap])) (.lift (.br (.cm .eql obe oae) (.ret (.agg [oae,oae,oae])) (.callv (.var (.fnv) 1) [] false [oQ] (.lift (.br (.cm .lss obl oae) (.ret (.agg [ob6,oae,oae])) (.need oaf (.load obf [.slice] (.need (.nt (.nn ock)) (.need (.cm .leq oae (.ar .add .i64 obe obl)) (.need (.cm .lss (.ar .add .i64 obe obl) (.ln ock)) (.load (.ix 2 ock (.ar .add .i64 obe obl)) [.int .i64,.int .i64] (.cont 0 [oa9,obn,obo])))))))))))))))))))))
theorem Ch:Rn Tryz.prog jR [(false,[.ptr]),(false,[.fnv])] qO:=rq [⟨4,[6],[(1,0),(1,1)],[7,14,15,16,17,18,19,20,21,22,23,24,25,26,27,28,29,30,31,32,33,34,35,36,37,38,39,40,41,42]⟩] [] [.cell 4 145] Tryz.func135 (by kernel_rfl)
end Go.Proofs.YtmnialmphlbmaaaGreatDoor
end
