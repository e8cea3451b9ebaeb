import Derived.Test.YtopmdepgpabipaaGreatDoorChecked
import Derived.Test.YtopmdepgpabipaaGreatDoorDb2
import Derived.Test.YtopmdepgpabipaaGreatDoorDb3
set_option maxRecDepth 100000
set_option maxHeartbeats 8000000
set_option linter.unusedVariables false
set_option linter.unusedSimpArgs false
set_option linter.unusedSectionVars false
section
namespace Go.Eng
abbrev oI(n:Nat):Ex:=.var (.int .i64) n
abbrev oS(n:Nat):Ex:=.var .slice n
abbrev oP(n:Nat):Ex:=.var .ptr n
abbrev oB(n:Nat):Ex:=.var .bool n
abbrev oA(n:Nat):Ex:=.var .addr n
abbrev oF(n:Nat):Ex:=.var .iface n
abbrev oU(n:Nat):Ex:=.var (.int .u32) n
abbrev oK(n:Int):Ex:=.cst (.int .i64 n)
abbrev oL:Sh:=.int .i64
abbrev oM:Sh:=.int .u64
abbrev oN:Sh:=.int .u32
abbrev oO:Sh:=.int .u8
abbrev oQ:Bool×List Sh:=(false,[.int .i64])
abbrev oR:Bool×List Sh:=(false,[.slice])
abbrev oJ:GV:=⟨[],.junk⟩
abbrev oX(e:Ex):GV:=⟨[],.x e⟩
abbrev oa8:Ex:=oS 0
abbrev oap:Ex:=.ln oa8
abbrev oa4:Ex:=oK 32768
abbrev oa6:Ex:=.ar .add .i64 oap oa4
abbrev oaq:Ex:=oK 1
abbrev ob7:Ex:=.ar .sub .i64 oa6 oaq
abbrev oaa:Ex:=.ar .quo .i64 ob7 oa4
abbrev oab:Ex:=.cst (.bool false)
abbrev oac:Ex:=oK 0
abbrev oad:Ex:=.cst (.int .u64 0)
abbrev oau:Ex:=oP 0
abbrev oae:Ex:=.nt (.nn oau)
abbrev oaf:Ex:=.cst (.bool true)
abbrev oas:Ex:=oI 3
abbrev oag:Ex:=.ar .add .i64 oas (oK 257)
abbrev oah:Ex:=.nz oau
abbrev oce:Ex:=oK 256
abbrev oe4:Ex:=oK 16
abbrev ofb:Ex:=oK 7
abbrev oax:Ex:=oI 2
abbrev oc2:Ex:=oK 8
abbrev oar:Ex:=oI 4
abbrev oai:Ex:=.ar .add .i64 (.ar .mul .i64 oce (.ar .add .i64 (.ar .mul .i64 oe4 (.ar .sub .i64 ofb (.ar .mul .i64 oax oas))) oc2)) (.ar .mul .i64 (oK 64) oar)
abbrev oaj:Ex:=.cst (.int .u32 0)
abbrev oak:Ex:=.cst .nilSl
abbrev oal:Ex:=oI 5
abbrev oa0:Ex:=oI 6
abbrev oam:Ex:=.ar .add .i64 oa0 (oK 257)
abbrev oco:Ex:=oI 9
abbrev oel:Ex:=.ar .add .i64 oco oaq
abbrev oan:Ex:=.mn (.ar .mul .i64 oel oa4) oap
abbrev obk:Ex:=oS 1
abbrev oao:Ex:=.ln obk
abbrev oat:Ex:=oI 1
abbrev oav:Ex:=.cst (.int .u32 65521)
abbrev oaw:Ex:=oS 3
abbrev oay:Ex:=oI 13
abbrev oaz:Ex:=oI 7
abbrev oa1:Ex:=oS 5
abbrev oa2:Ex:=oS 4
abbrev oa3:Ex:=.nt (.nn oa8)
abbrev oc7:Ex:=oI 22
abbrev oa5:Ex:=.ar .add .i64 oc7 (oI 27)
abbrev oa7:Ex:=.ar .add .i64 oal oaq
abbrev ocn:Ex:=oI 19
abbrev ocd:Ex:=oI 20
abbrev ofk:Ex:=.cm .eql ocn ocd
abbrev oc0:Ex:=oK 3
abbrev oa9:Ex:=.it ofk (.cm .geq oal oc0) oab
abbrev oba:Ex:=.cst (.int .u32 65536)
abbrev obb:Ex:=.ar .rem .u32 (.ar .add .u32 (oU 2) (.cv .u32 (.var (.int .u8) 5))) oav
abbrev ob0:Ex:=.cm .eql oax oac
abbrev occ:Ex:=oK 2
abbrev obc:Ex:=.it (.it ob0 (.cm .gtr (.ar .add .i64 oat oas) (.ar .mul .i64 oc2 oap)) oab) occ oax
abbrev obd:Ex:=.ar .add .i64 oar oaq
abbrev obe:Ex:=.ar .add .i64 oa0 oaq
abbrev obf:Ex:=.cm .neq (.var (.int .u8) 11) (.cst (.int .u8 20))
abbrev obg:Ex:=.cm .leq oac oar
abbrev odz:Ex:=.cm .eql oaz oac
abbrev obh:Ex:=.it odz (.cm .geq oal (oK 11)) oab
abbrev obi:Ex:=.cm .neq (.var (.int .u8) 6) (.cst (.int .u8 22))
abbrev od0:Ex:=.cm .eql oay oac
abbrev obl:Ex:=.it od0 (.cm .geq oal oc0) oab
abbrev obm:Ex:=oI 8
abbrev obn:Ex:=oA 2
abbrev oe1:Ex:=oI 0
abbrev obo:Ex:=.ar .sub .i64 (.ar .quo .i64 oe1 occ) oaq
abbrev obp:Ex:=.ar .quo .i64 oas oc2
abbrev obq:Ex:=.ar .add .i64 oas oaq
abbrev obr:Ex:=oS 11
abbrev oct:Ex:=oI 10
abbrev obs:Ex:=.it (.nt (oB 15)) oaf (.cm .neq oaz oct)
abbrev obt:Ex:=.cst .nilIf
abbrev obu:Ex:=.cst .nilFn
abbrev obv:Ex:=oS 6
abbrev obw:Ex:=oS 2
abbrev obx:Ex:=.ar .quo .u32 (.ar .shr .u32 (oU 2) (.cst (.int .u64 8))) (.cst (.int .u32 16))
abbrev oby:Ex:=.fld oah 0
abbrev obz:Ex:=.mx oac (.ar .sub .i64 oao oax)
abbrev ob1:Ex:=.cm .lss oay (.ln oa1)
abbrev ob2:Ex:=oS 15
abbrev ob3:Ex:=.nt (.nn oa1)
abbrev ocr:Ex:=oI 14
abbrev ob4:Ex:=.ar .rem .i64 (.ar .add .i64 ocr oaq) (oK 19)
abbrev ob5:Ex:=.ar .add .i64 oct oaq
abbrev oc6:Ex:=oK 4
abbrev ob6:Ex:=.ar .add .i64 (.ar .quo .i64 (.ar .sub .i64 oe1 (oK 265)) oc6) oaq
abbrev ocv:Ex:=.ln oaw
abbrev ob8:Ex:=.ar .add .i64 (.ar .sub .i64 ocv oa5) (.ar .rem .i64 (oI 33) oa5)
abbrev ob9:Ex:=.ar .mul .i64 (.ar .quo .i64 (.ar .add .i64 oat ofb) oc2) oc2
abbrev oca:Ex:=.cm .lss oar oao
abbrev ocb:Ex:=.cm .leq oac oaz
abbrev ocf:Ex:=.ar .sub .i64 (.ln obr) oaq
abbrev ocg:Ex:=oS 9
abbrev och:Ex:=.ar .rem .u32 (.ar .rem .u32 (oU 0) oba) oav
abbrev oci:Ex:=.ar .and .i64 (.ar .xor .i64 (.ar .shr .i64 oax (.cst (.int .u64 33))) (.ar .shr .i64 oas (.cst (.int .u64 45)))) (oK 255)
abbrev ocj:Ex:=oI 11
abbrev ock:Ex:=.cm .lss oas oap
abbrev ocl:Ex:=.ar .sub .i64 oal oaq
abbrev ocm:Ex:=.ar .rem .i64 (.ar .add .i64 (.ar .sub .i64 oax oat) oas) oar
abbrev ocp:Ex:=.cm .eql (oI 38) oac
abbrev ocq:Ex:=oS 20
abbrev ocs:Ex:=oI 12
abbrev ocu:Ex:=.nt (.nn obk)
abbrev ocw:Ex:=.fld oah 1
abbrev oev:Ex:=.ln oa2
abbrev ocx:Ex:=.cm .lss oa0 oev
abbrev ocy:Ex:=.cm .leq oac oay
abbrev ocz:Ex:=.cm .leq oac oa0
abbrev oc1:Ex:=.cst (.int .u32 1)
abbrev oc3:Ex:=.nt (.nn obv)
abbrev oc4:Ex:=.ix 1 obr oac
abbrev oc5:Ex:=.ar .rem .u64 (.var (.int .u64) 1) (.cv .u64 oar)
abbrev oc8:Ex:=oI 17
abbrev oc9:Ex:=.ln obw
abbrev od1:Ex:=oS 7
abbrev oda:Ex:=.it (.it ob0 (.cm .gtr (.ar .add .i64 (.ar .sub .i64 ocv oar) (.ln od1)) oa0) oab) (oK 6) oax
abbrev odb:Ex:=.ln obv
abbrev odc:Ex:=.fld obn 0
abbrev odd:Ex:=.cm .lss oar oap
abbrev ode:Ex:=.cm .leq oac obm
abbrev odf:Ex:=.cm .leq oac oas
abbrev odg:Ex:=oI 15
abbrev odh:Ex:=.ar .rem .u32 (.ar .quo .u32 (oU 0) oba) oav
abbrev odi:Ex:=.ar .quo .i64 (.ar .add .i64 oct ofb) oc2
abbrev odj:Ex:=.cst (.int .u64 1)
abbrev odk:Ex:=oS 14
abbrev odl:Ex:=.nt (.nn ocg)
abbrev odm:Ex:=.nt (.nn oaw)
abbrev odn:Ex:=.nt (.nn oa2)
abbrev odo:Ex:=.ix 2 oa1 oay
abbrev odp:Ex:=.it (oB 13) (oK 30) (.ar .add .i64 oaq ocs)
abbrev odq:Ex:=.ar .rem .i64 oas oc2
abbrev odr:Ex:=.ar .mul .i64 obm oa4
abbrev ods:Ex:=.ar .add .i64 obm oaq
abbrev odt:Ex:=.ar .sub .i64 (.ln ob2) oaq
abbrev odu:Ex:=oS 13
abbrev odv:Ex:=oI 21
abbrev odw:Ex:=.cm .leq oac oal
abbrev odx:Ex:=.cm .leq oac oac
abbrev ody:Ex:=.cm .gtr ocr oac
abbrev od2:Ex:=oS 16
abbrev od3:Ex:=oI 23
abbrev od4:Ex:=oI 18
abbrev od5:Ex:=.ix 1 obk oar
abbrev od6:Ex:=oS 17
abbrev od7:Ex:=.sq (.var (.str) 2) (.var (.str) 3)
abbrev od8:Ex:=.cv .u8 (.ar .rem .u64 (.var (.int .u64) 4) (.cst (.int .u64 256)))
abbrev od9:Ex:=.cm .gtr oap (oK 65536)
abbrev oea:Ex:=oA 4
abbrev oeb:Ex:=.cm .lss oc7 (.ln ocg)
abbrev oec:Ex:=.cm .eql (.ar .rem .u64 (.var (.int .u64) 8) (.cv .u64 oco)) oc5
abbrev oed:Ex:=oS 8
abbrev oee:Ex:=oS 34
abbrev oef:Ex:=oI 26
abbrev oeg:Ex:=oI 24
abbrev oeh:Ex:=.ix 1 oa8 oas
abbrev oei:Ex:=.ix 1 oa2 oa0
abbrev oej:Ex:=.cm .lss oar oac
abbrev oek:Ex:=.ar .sub .i64 odg oaq
abbrev oem:Ex:=.ar .add .i64 oaz oaq
abbrev oen:Ex:=.ar .add .i64 oax oaq
abbrev oeo:Ex:=.ar .add .i64 oar oal
abbrev oep:Ex:=.ar .sub .u64 (.cst (.int .u64 65535)) (.cv .u64 (.ln odu))
abbrev oeq:Ex:=oS 21
abbrev oer:Ex:=oS 12
abbrev oes:Ex:=oK 15
abbrev oet:Ex:=oI 29
abbrev oeu:Ex:=oK 5
abbrev oew:Ex:=.fld oah 2
abbrev oex:Ex:=.it (.cm .gtr oao oac) (.ar .add .i64 oai (oK 32)) oai
abbrev oey:Ex:=oS 27
abbrev oez:Ex:=.ar .rem .i64 oc7 (.ln ocq)
abbrev oe0:Ex:=.ar .quo .i64 oal (oK 4096)
abbrev oe2:Ex:=.cst (.int .u64 2)
abbrev oe3:Ex:=oK 17
abbrev oe5:Ex:=oI 25
abbrev oe6:Ex:=oI 16
abbrev oe7:Ex:=oA 1
abbrev oe8:Ex:=.nt (.nn obr)
abbrev oe9:Ex:=.ar .add .u32 (.ar .mul .u32 (oU 3) oba) (oU 2)
abbrev ofa:Ex:=oP 1
abbrev ofc:Ex:=oA 6
abbrev ofd:Ex:=.nt (.nn (oF 3))
abbrev ofe:Ex:=.fld oah 4
abbrev ofg:Ex:=.cm .lss ocd odb
abbrev ofh:Ex:=.cm .lss oaz odb
abbrev ofi:Ex:=.cm .leq oac oce
abbrev ofj:Ex:=.cm .leq oac ocd
abbrev ofl:Ex:=oS 24
abbrev ofm:Ex:=.it (.cm .lss oat oaq) oaf (.cm .gtr oat oa4)
end Go.Eng
namespace Go.Eng
open Go
abbrev Rn(P:Program)(f:FuncId)(ps:List (Bool×List Sh))(t:Tr):Prop:=∀ {S:Shared} {h:Heap} {Q:Value->Heap->Prop} {vs:List Value},jv (zn ps) vs->Inv S h->t.wp P S yb Q vs h []->zb P S f (jH ps vs) h Q
theorem rn{P:Program}{f:FuncId}{fn:Func}{cfg:Cfg}{t:Tr}{ps:List (Bool×List Sh)}(hT:zJ P cfg.tab)(hm:P.follows .mixedOrders=true)(hf:P.funcs[f]? = some fn)(hres:fn.results.toList=cfg.results)(ht:sxF cfg fn ps=some t)
 (hn:(fn.name == "runtime.NumGoroutine")=false)(hb:fn.body.isNone=false)(hps:ps.all (fun r=>r.1||r.2.length==1)=true):Rn P f ps t:=fun hsh hi hw=>YW hT hm hf hres ht (Ts hf hn hb) hps hsh hi hw
end Go.Eng
namespace Go.Proofs.YtopmdepgpabipaaGreatDoor
open Go Go.Eng
def VE:List (TypeId×TyD):=[(0,⟨.oth,1,0,[],none,some []⟩),
(2,⟨(.int .i64),1,8,[oL],some [(1,(.int .i64 0))],none⟩),
(3,⟨(.int .i64),1,8,[oL],some [(1,(.int .i64 0))],none⟩),
(4,⟨.bool,1,1,[.bool],some [(1,(.bool false))],none⟩),
(5,⟨(.int .u8),1,1,[oO],some [(1,(.int .u8 0))],none⟩),
(9,⟨.str,1,16,[.str],none,none⟩),
(17,⟨(.ptr 221),1,8,[.ptr],some [(1,.nilPtr)],none⟩),
(20,⟨.ifc,1,16,[.iface],some [(1,.nilIf)],none⟩),
(22,⟨(.sl 5),1,24,[.slice],some [(1,.nilSl)],none⟩),
(23,⟨.oth,1,0,[],none,some [22,2,22]⟩),
(26,⟨(.st [(0,2),(1,22),(2,2)]),3,40,[oL,.slice,oL],some [(1,(.int .i64 0)),(1,.nilSl),(1,(.int .i64 0))],none⟩),
(30,⟨.oth,1,0,[],none,some [22,22]⟩),
(33,⟨(.st [(0,2),(1,22),(2,2)]),3,40,[oL,.slice,oL],some [(1,(.int .i64 0)),(1,.nilSl),(1,(.int .i64 0))],none⟩),
(35,⟨(.ptr 74),1,8,[.ptr],some [(1,.nilPtr)],none⟩),
(41,⟨(.ptr 46),1,8,[.ptr],some [(1,.nilPtr)],none⟩),
(42,⟨(.ptr 78),1,8,[.ptr],some [(1,.nilPtr)],none⟩),
(44,⟨(.ptr 152),1,8,[.ptr],some [(1,.nilPtr)],none⟩),
(46,⟨(.st [(0,22),(1,2),(2,42),(3,22),(4,3),(5,4),(6,44),(7,44)]),8,96,[.slice,oL,.ptr,.slice,oL,.bool,.ptr,.ptr],some [(1,.nilSl),(1,(.int .i64 0)),(1,.nilPtr),(1,.nilSl),(1,(.int .i64 0)),(1,(.bool false)),(2,.nilPtr)],none⟩),
(48,⟨.ifc,1,16,[.iface],some [(1,.nilIf)],none⟩),
(50,⟨.fnk,1,8,[.fnv],some [(1,.nilFn)],none⟩),
(53,⟨(.st [(0,22),(1,2),(2,2)]),3,40,[.slice,oL,oL],some [(1,.nilSl),(2,(.int .i64 0))],none⟩),
(55,⟨(.st [(0,22),(1,3),(2,2),(3,3)]),4,48,[.slice,oL,oL,oL],some [(1,.nilSl),(3,(.int .i64 0))],none⟩),
(56,⟨.oth,1,0,[],none,some [53,55]⟩),
(62,⟨(.ptr 64),1,8,[.ptr],some [(1,.nilPtr)],none⟩),
(64,⟨(.st [(0,46)]),8,96,[.slice,oL,.ptr,.slice,oL,.bool,.ptr,.ptr],some [(1,.nilSl),(1,(.int .i64 0)),(1,.nilPtr),(1,.nilSl),(1,(.int .i64 0)),(1,(.bool false)),(2,.nilPtr)],none⟩),
(66,⟨.oth,1,0,[],none,some [53,2]⟩),
(69,⟨.fnk,1,8,[.fnv],some [(1,.nilFn)],none⟩),
(70,⟨(.int .u32),1,4,[oN],some [(1,(.int .u32 0))],none⟩),
(74,⟨(.st [(0,22),(1,3),(2,2)]),3,40,[.slice,oL,oL],some [(1,.nilSl),(2,(.int .i64 0))],none⟩),
(76,⟨(.arr 32768 5),32768,32768,[],some [(32768,(.int .u8 0))],none⟩),
(78,⟨(.st [(0,3),(1,76),(32769,3),(32770,3)]),32771,32792,[],some [(1,(.int .i64 0)),(32768,(.int .u8 0)),(2,(.int .i64 0))],none⟩),
(80,⟨.fnk,1,8,[.fnv],some [(1,.nilFn)],none⟩),
(81,⟨.oth,1,0,[],none,some [80,48]⟩),
(82,⟨.oth,1,0,[],none,some [2,48]⟩),
(85,⟨(.st [(0,2)]),1,8,[oL],some [(1,(.int .i64 0))],none⟩),
(87,⟨(.ptr 85),1,8,[.ptr],some [(1,.nilPtr)],none⟩),
(89,⟨(.sl 2),1,24,[.slice],some [(1,.nilSl)],none⟩),
(90,⟨.oth,1,0,[],none,some [89,89]⟩),
(92,⟨.oth,1,0,[],none,some [53,89,89]⟩),
(97,⟨(.int .u64),1,8,[oM],some [(1,(.int .u64 0))],none⟩),
(98,⟨.oth,1,0,[],none,some [70,48]⟩),
(100,⟨(.int .u64),1,8,[oM],some [(1,(.int .u64 0))],none⟩),
(105,⟨.oth,1,0,[],none,some [22,2]⟩),
(107,⟨.fnk,1,8,[.fnv],some [(1,.nilFn)],none⟩),
(110,⟨.oth,1,0,[],none,some [89,89,48]⟩),
(112,⟨.oth,1,8,[.ptr],some [(1,.nilPtr)],none⟩),
(113,⟨(.int .u64),1,8,[oM],some [(1,(.int .u64 0))],none⟩),
(115,⟨(.st [(0,17),(1,112),(2,113)]),3,24,[.ptr,.ptr,oM],some [(2,.nilPtr),(1,(.int .u64 0))],none⟩),
(118,⟨.ifc,1,16,[.iface],some [(1,.nilIf)],none⟩),
(120,⟨(.int .u8),1,1,[oO],some [(1,(.int .u8 0))],none⟩),
(127,⟨(.sl 3),1,24,[.slice],some [(1,.nilSl)],none⟩),
(130,⟨(.sl 147),1,24,[.slice],some [(1,.nilSl)],none⟩),
(133,⟨.oth,1,0,[],none,some [53,89]⟩),
(137,⟨(.sl 70),1,24,[.slice],some [(1,.nilSl)],none⟩),
(138,⟨.oth,1,0,[],none,some [137,89]⟩),
(140,⟨.fnk,1,8,[.fnv],some [(1,.nilFn)],none⟩),
(144,⟨(.sl 89),1,24,[.slice],some [(1,.nilSl)],none⟩),
(147,⟨(.st [(0,2),(1,97)]),2,16,[oL,oM],some [(1,(.int .i64 0)),(1,(.int .u64 0))],none⟩),
(148,⟨.oth,1,0,[],none,some [2,2]⟩),
(150,⟨(.sl 154),1,24,[.slice],some [(1,.nilSl)],none⟩),
(152,⟨(.st [(0,150)]),1,24,[.slice],some [(1,.nilSl)],none⟩),
(154,⟨(.st [(0,3),(1,3)]),2,16,[oL,oL],some [(2,(.int .i64 0))],none⟩),
(157,⟨(.arr 19 3),19,152,[oL,oL,oL,oL,oL,oL,oL,oL,oL,oL,oL,oL,oL,oL,oL,oL,oL,oL,oL],some [(19,(.int .i64 0))],none⟩),
(164,⟨.ifc,1,16,[.iface],some [(1,.nilIf)],none⟩),
(165,⟨.oth,1,0,[],none,some [164,4]⟩),
(167,⟨.ifc,1,16,[.iface],some [(1,.nilIf)],none⟩),
(168,⟨.ifc,1,16,[.iface],some [(1,.nilIf)],none⟩),
(169,⟨(.sl 48),1,24,[.slice],some [(1,.nilSl)],none⟩),
(173,⟨(.st [(0,2),(1,2),(2,2)]),3,24,[oL,oL,oL],some [(3,(.int .i64 0))],none⟩),
(184,⟨(.arr 17 97),17,136,[oM,oM,oM,oM,oM,oM,oM,oM,oM,oM,oM,oM,oM,oM,oM,oM,oM],some [(17,(.int .u64 0))],none⟩)]
theorem YZ:zJ Tryz.prog VE:=IY (by kernel_rfl)
theorem Za:Tryz.prog.follows .mixedOrders=true:=by kernel_rfl
noncomputable abbrev oPP:Program:=Tryz.prog
theorem rq(a:_)(b:_)(c:_){f:FuncId}{fn:Func}{t:Tr}{ps:List (Bool×List Sh)}(hf:oPP.funcs[f]? = some fn)(ht:(sxF ⟨VE,a,b,c⟩ fn ps,fn.name == "runtime.NumGoroutine",fn.body.isNone)=(some t,false,false))(hres:fn.results.toList=(⟨VE,a,b,c⟩:Cfg).results:=by rfl)(hps:ps.all (fun r=>r.1||r.2.length==1)=true:=by rfl):Rn oPP f ps t:=rn YZ Za hf hres (Prod.mk.inj ht).1 (Prod.mk.inj (Prod.mk.inj ht).2).1 (Prod.mk.inj (Prod.mk.inj ht).2).2 hps
def GP:Tr:=
(.ret (.agg [oa8,oat,(.it (.it ob0 (oB 3) oab) oc0 oax)]))
theorem LL:Rn oPP y6 [(true,[.slice,oL,oL]),(false,[.bool])] GP:=rq [] [] [.cell 4 53] Tryz.func31 (by kernel_rfl)
def Ga:Tr:=
(.lift (.br (.cm .neq obc oac) (.ret (.tup [(true,[oa8,oat,obc]),(false,[oac])])) (.loop [oL,oL] [oac,(.ar .sub .i64 oas oaq)] (.lift (.br (.cm .geq oal oac) (.call AP [(.x oa8),(.x (.ar .add .i64 oat oal))] false [(false,[oM])] (.cont 1 [(.ar .add .i64 (.ar .mul .i64 occ oar) (.cv .i64 (.var (.int .u64) 6))),ocl])) (.ret (.tup [(true,[oa8,(.ar .add .i64 oat oas),obc]),(false,[oar])])))))))
theorem Kc:Rn oPP yo [(true,[.slice,oL,oL]),oQ] Ga:=rq [⟨7,[6,7],[],[29,30,31,32,33,34,35,36,37,38,39,40,41,42,43]⟩] [] [.cell 4 53,.tmp 5] Tryz.func46 (by kernel_rfl)
def Sg:Tr:=
(.lift (.br (.cm .neq (oI 37) oac) (.hsl 2 0 [] (.hsl 2 0 [] (.ret (.tup [(true,[(oS 35),(oI 36),(oI 37)]),(false,[(oS 38)]),(false,[(oS 39)])])))) (.need (.cm .leq oac oam) (.need (.cm .leq oam (.cp oee)) (.need (.cm .leq oac oam) (.need (.cm .leq oam (.ln oee)) (.join [oL,.bool,.bool,.bool,.bool,.bool,.slice,oL,oL] (.need (.nt (.nn (.sub 1 oee .nl oam .nl))) (.need ofi (.need (.cm .lss oce (.ln (.sub 1 oee .nl oam .nl))) (.load (.ix 1 (.sub 1 oee .nl oam .nl) oce) [oL] (.br (.nt ocp) (.call qJ [(.x (.sub 1 oee .nl oam .nl)),(.x oaq),(.x oc6),(.x oc6)] false [(false,[.bool])] (.br (.nt (.nt (oB 39))) (.call qJ [(.x (.sub 1 oee oam .nl .nl)),(.x oaq),(.x oc6),(.x oeu)] false [(false,[.bool])] (.call y6 [(.agg [(oS 35),(oI 36),(oI 37)]),(.x (.nt (oB 40)))] false [(true,[.slice,oL,oL])] (.cont 5 [(oI 38),ocp,ocp,(.nt (oB 39)),(.nt (oB 39)),(.nt (oB 40)),(oS 41),(oI 42),(oI 43)]))) (.call y6 [(.agg [(oS 35),(oI 36),(oI 37)]),(.x oaf)] false [(true,[.slice,oL,oL])] (.cont 5 [(oI 38),ocp,ocp,(.nt (oB 39)),(.nt (oB 39)),oaf,(oS 40),(oI 41),(oI 42)])))) (.call y6 [(.agg [(oS 35),(oI 36),(oI 37)]),(.x oaf)] false [(true,[.slice,oL,oL])] (.cont 5 [(oI 38),ocp,ocp,oaf,oaf,oaf,(oS 39),(oI 40),(oI 41)]))))))) (.ret (.tup [(true,[(oS 44),(oI 45),(oI 46)]),(false,[(.sub 1 oee .nl oam .nl)]),(false,[(.sub 1 oee oam .nl .nl)])])))))))))
def Si:Tr:=
(.loop [oL,.slice,.slice,oL,oL] [oc7,(oS 32),(oS 28),oet,(oI 30)] (.lift (.br (.it (.cm .eql (oI 37) oac) (.cm .lss (.ln oee) (.ar .add .i64 oam (.ar .add .i64 oay oaq))) oab) (.call qZ [(.agg [(oS 35),(oI 36),(oI 37)]),(.x (oS 31))] true [(true,[.slice,oL,oL]),oQ] (.join [.slice,.slice,oL,oL] (.br (.cm .eql (oI 40) oac) (.call AQ [(.agg [(oS 38),(oI 39),(oI 40)]),(.x oee),(.x (oI 41))] true [(true,[.slice,oL,oL]),oR] (.call y6 [(.agg [(oS 42),(oI 43),(oI 44)]),(.x (.cm .gtr (.ln (oS 45)) (.ar .add .i64 oam (.ar .add .i64 oay oaq))))] false [(true,[.slice,oL,oL])] (.cont 4 [(oS 45),(oS 46),(oI 47),(oI 48)]))) (.cont 4 [oee,(oS 38),(oI 39),(oI 40)])) (.cont 2 [(oI 41),(oS 42),(oS 43),(oI 44),(oI 45)]))) Sg)))
def Gc:Tr:=
(.call yo [(.agg [oa8,oat,oax]),(.x oeu)] true [(true,[.slice,oL,oL]),oQ] (.call y6 [(.agg [oaw,oar,oal]),(.x (.cm .gtr oam (oK 286)))] false [(true,[.slice,oL,oL])] (.call yo [(.agg [od1,obm,oco]),(.x oeu)] true [(true,[.slice,oL,oL]),oQ] (.call y6 [(.agg [(oS 10),ocj,ocs]),(.x (.cm .gtr (.ar .add .i64 oay oaq) (oK 30)))] false [(true,[.slice,oL,oL])] (.call yo [(.agg [odk,odg,oe6]),(.x oc6)] true [(true,[.slice,oL,oL]),oQ] (.hsl 2 19 [oac,oac,oac,oac,oac,oac,oac,oac,oac,oac,oac,oac,oac,oac,oac,oac,oac,oac,oac] (.loop [oL,oL,.slice,oL,oL] [oac,oac,od6,od4,ocn] (.lift (.br (.cm .lss od3 (.ar .add .i64 ocd oc6)) (.call yo [(.agg [ofl,oe5,oef]),(.x oc0)] true [(true,[.slice,oL,oL]),oQ] (.call kR [] false [oR] (.need (.nt (.nn (oS 31))) (.need (.cm .leq oac od3) (.need (.cm .lss od3 (.ln (oS 31))) (.load (.ix 1 (oS 31) od3) [oL] (.need (.nt (.nn oeq)) (.need (.cm .leq oac (oI 32)) (.need (.cm .lss (oI 32) (.ln oeq)) (.hsto (.ix 1 oeq (oI 32)) [(oI 30)] (.cont 0 [(oI 30),(.ar .add .i64 od3 oaq),oey,(oI 28),oet]))))))))))) (.call ki [(.x oeq)] false [oQ] (.call y6 [(.agg [ofl,oe5,oef]),(.x (.cm .neq (oI 27) oaq))] false [(true,[.slice,oL,oL])] (.call xo [(.x oeq)] false [oR] (.hsl 2 0 [] Si)))))))))))))
theorem Kd:Rn oPP Ck [(true,[.slice,oL,oL])] Gc:=rq [⟨14,[8,10],[(0,0),(0,1),(0,2)],[43,44,45,46,47,48,49,50,51,52,53,54,55,56,57,58,59,60]⟩,⟨21,[8,12],[(0,0),(0,1),(0,2)],[69,70,71,72,73,74,75,76,77,78,79,80,81,82,83,84,85,86,87,88,89,90,91,92,93,94,95,96,97,98,99,100,101,102,103]⟩] [] [.cell 2 53,.tmp 3,.tmp 4] Tryz.func49 (by kernel_rfl)
def GQ:Tr:=
(.need oa3 (.need (.cm .leq oac (.ar .quo .i64 oat oc2)) (.need (.cm .lss (.ar .quo .i64 oat oc2) oap) (.load (.ix 1 oa8 (.ar .quo .i64 oat oc2)) [oO] (.need (.cm .geq (.cv .u64 (.ar .rem .i64 oat oc2)) oad) (.ret (.x (.ar .rem .u64 (.cv .u64 (.ar .shr .u8 (.var (.int .u8) 2) (.cv .u64 (.ar .rem .i64 oat oc2)))) oe2))))))))
theorem LM:Rn oPP AP [oR,oQ] GQ:=rq [] [] [.tmp 4] Tryz.func72 (by kernel_rfl)
def EM:Tr:=
(.hsl 3 19 [oe4,oe3,(oK 18),oac,oc2,ofb,(oK 9),(oK 6),(oK 10),oeu,(oK 11),oc6,(oK 12),oc0,(oK 13),occ,(oK 14),oaq,oes] (.ret (.x oa8)))
theorem Ja:Rn oPP kR [] EM:=rq [] [] [.tmp 0] Tryz.func74 (by kernel_rfl)
def GR:Tr:=
(.lift (.br (.cm .neq oax oac) (.ret (.tup [(true,[oa8,oat,oax]),(false,[oac])])) (.loop [oM,oL] [oad,oac] (.lift (.br (.it (.cm .lss oal oes) (.cm .lss (.ar .add .i64 oat oal) (.ar .mul .i64 oc2 oap)) oab) (.call AP [(.x oa8),(.x (.ar .add .i64 oat oal))] false [(false,[oM])] (.need (.cm .geq (.cv .u64 oal) oad) (.cont 1 [(.ar .add .u64 (.var (.int .u64) 4) (.ar .shl .u64 (.var (.int .u64) 6) (.cv .u64 oal))),oa7]))) (.call Cr [(.x oaw),(.x (.var (.int .u64) 4)),(.x oal)] false [(true,[oL,oL,oL])] (.call y6 [(.agg [oa8,oat,(.it (.cm .eql oa0 occ) occ oax)]),(.x (.cm .eql oa0 oac))] false [(true,[.slice,oL,oL])] (.ret (.tup [(true,[ocg,(.ar .add .i64 oct obm),ocj]),(false,[oaz])])))))))))
theorem LN:Rn oPP qZ [(true,[.slice,oL,oL]),oR] GR:=rq [⟨5,[6,7],[],[13,14,15,16,17,18,19,20,21,22,23,24,25,26,27,28,29,30,31,32,33,34,35,36,37,38,39]⟩] [] [.cell 4 53,.tmp 5] Tryz.func77 (by kernel_rfl)
def DN:Tr:=
(.join [oL,oL,.slice,oL,oL] (.br (.cm .eql oar oe4) (.call y6 [(.agg [oa8,oat,oax]),(.x (.cm .eql ocv oac))] false [(true,[.slice,oL,oL])] (.call yo [(.agg [oa1,oa0,oaz]),(.x occ)] true [(true,[.slice,oL,oL]),oQ] (.join [oL] (.br (.cm .eql oct oac) (.need odm (.need (.cm .leq oac (.ar .sub .i64 ocv oaq)) (.need (.cm .lss (.ar .sub .i64 ocv oaq) ocv) (.load (.ix 1 oaw (.ar .sub .i64 ocv oaq)) [oL] (.cont 1 [ocs]))))) (.cont 1 [oar])) (.cont 0 [(.ar .add .i64 ocj oc0),ocs,oed,oco,oct])))) (.cont 0 [oaq,oar,oa8,oat,oax])) (.join [oL,oL,.slice,oL,oL] (.br (.cm .eql oar oe3) (.call yo [(.agg [od1,obm,oco]),(.x oc0)] true [(true,[.slice,oL,oL]),oQ] (.cont 0 [(.ar .add .i64 oay oc0),oac,(oS 10),ocj,ocs])) (.cont 0 [oal,oa0,od1,obm,oco])) (.join [oL,oL,.slice,oL,oL] (.br (.cm .eql oar (oK 18)) (.call yo [(.agg [oer,oay,ocr]),(.x ofb)] true [(true,[.slice,oL,oL]),oQ] (.cont 0 [(.ar .add .i64 od4 (oK 11)),oac,ob2,oe6,oc8])) (.cont 0 [oct,ocj,oer,oay,ocr])) (.loop [.slice,oL] [oaw,oac] (.lift (.br (.it (.cm .lss odv odg) (.cm .eql ocn oac) oab) (.hsl 2 1 [oe6] (.app 2 1 8 [(.int .i64 0)] ocq (oS 22) (.cont 0 [(oS 23),(.ar .add .i64 odv oaq)]))) (.ret (.tup [(true,[od6,od4,ocn]),(false,[ocq])]))))))))
theorem It:Rn oPP AQ [(true,[.slice,oL,oL]),oR,oQ] DN:=rq [⟨18,[1,10],[],[53,54,55,56,57,58,59,60,61,62,63,64,65,66]⟩] [] [.cell 6 53,.tmp 7] Tryz.func78 (by kernel_rfl)
def DO:Tr:=
(.call ki [(.x oa8)] false [oQ] (.ret (.x (.it (.it (.cm .eql oar oat) oaf (.cm .eql oar oax)) oaf (.cm .eql oar oas)))))
theorem Iu:Rn oPP qJ [oR,oQ,oQ,oQ] DO:=rq [] [] [.tmp 8] Tryz.func79 (by kernel_rfl)
def GS:Tr:=
(.loop [oL,oL] [oaq,oac] (.lift (.br (.cm .lss oax oe1) (.cont 0 [(.ar .mul .i64 occ oat),oen]) (.ret (.x oat)))))
theorem LO:Rn oPP yD [oQ] GS:=rq [⟨3,[3,4],[],[5,6,7,8,9,10,11]⟩] [] [.tmp 2] Tryz.func32 (by kernel_rfl)
def DQ:Tr:=
(.lift (.br (.cm .gtr oap (oK 320)) (.ret (.x oac)) (.loop [oL,oL,oL] [oac,oac,oac] (.lift (.br ock (.join [oL,.bool,.bool,.bool] (.need oa3 (.need odf (.need ock (.load oeh [oL] (.br (.nt oej) (.need oa3 (.need odf (.need ock (.load oeh [oL] (.cont 3 [oar,oej,oej,(.cm .gtr oal oes)]))))) (.cont 3 [oar,oej,oej,oaf])))))) (.lift (.br (oB 7) (.ret (.x oac)) (.need oa3 (.need odf (.need ock (.load oeh [oL] (.join [oL,oL] (.br (.cm .gtr obm oac) (.need oa3 (.need odf (.need ock (.load oeh [oL] (.call yD [(.x (.ar .sub .i64 oes oco))] false [oQ] (.cont 4 [(.ar .add .i64 oat oct),oen])))))) (.cont 4 [oat,oax])) (.cont 1 [oco,oct,obq]))))))))) (.lift (.br ob0 (.ret (.x oeu)) (.call yD [(.x oes)] false [oQ] (.lift (.br (.cm .gtr oat oar) (.ret (.x occ)) (.call yD [(.x oes)] false [oQ] (.lift (.br (.cm .eql oat oal) (.ret (.x oaq)) (.join [.bool] (.br (.cm .eql oax oaq) (.call yD [(.x (oK 14))] false [oQ] (.cont 6 [(.cm .eql oat oa0)])) (.cont 6 [oab])) (.lift (.br (oB 6) (.ret (.x oc6)) (.ret (.x oc0))))))))))))))))))
theorem Iv:Rn oPP ki [oR] DQ:=rq [⟨6,[3,4,5],[],[9,10,11,12,13,14,15,16,17,18,19,20,21,22,23,24,25,26,27,28,29,30,31,32,33,34,35,36,37,38,39,40,41]⟩] [] [.tmp 2] Tryz.func75 (by kernel_rfl)
def DR:Tr:=
(.lift (.br (.cm .gtr oap (oK 320)) (.ret (.x oac)) (.loop [oL,oL,oL,oL] [oac,oac,oac,oac] (.lift (.br odd (.need oa3 (.need obg (.need odd (.load (.ix 1 oa8 oar) [oL] (.lift (.br (.it (.cm .lss oal oac) oaf (.cm .gtr oal oes)) (.ret (.x oac)) (.join [oL,oL,oL] (.br (.cm .gtr oal oac) (.need (.cm .geq (.ar .sub .i64 oes oal) oac) (.cont 4 [(.ar .add .i64 oat (.ar .shl .i64 oaq (.ar .sub .i64 oes oal))),oen,oal])) (.cont 4 [oat,oax,oas])) (.cont 1 [oa0,oaz,obm,obd])))))))) (.lift (.br ob0 (.ret (.x oeu)) (.lift (.br (.cm .gtr oat oa4) (.ret (.x occ)) (.lift (.br (.cm .eql oat oa4) (.ret (.x oaq)) (.lift (.br (.it (.cm .eql oax oaq) (.cm .eql oas oaq) oab) (.ret (.x oc6)) (.ret (.x oc0)))))))))))))))
theorem Iw:Rn oPP jm [oR] DR:=rq [⟨5,[3,4,5,13],[],[7,14,15,16,17,18,19,20,21,22,23,24,25,26,27,28,29,30,31,32,33]⟩] [] [.tmp 2] Tryz.func96 (by kernel_rfl)
def Dg:Tr:=
(.hsl 147 0 [] (.call ki [(.x oa8)] false [oQ] (.lift (.br (.it ob0 oaf (.cm .eql oax occ)) (.ret (.x obk)) (.loop [.slice,oL] [obk,oac] (.lift (.br odd (.hsl 147 1 [oac,oad] (.app 147 2 16 [(.int .i64 0),(.int .u64 0)] oaw oa1 (.cont 1 [obv,obd]))) (.loop [oL,oL] [oac,oaq] (.lift (.br (.cm .leq oa0 oes) (.loop [oL,oL] [(.ar .mul .i64 occ oal),oac] (.lift (.br (.cm .lss obm oap) (.need oa3 (.need ode (.need (.cm .lss obm oap) (.load (.ix 1 oa8 obm) [oL] (.join [oL] (.br (.cm .eql oco oa0) (.call Cq [(.x oaz),(.x oa0)] false [(false,[oM])] (.need odm (.need ode (.need (.cm .lss obm ocv) (.hsto (.ix 2 oaw obm) [oa0,(.var (.int .u64) 10)] (.cont 7 [oem])))))) (.cont 7 [oaz])) (.cont 5 [oct,ods])))))) (.cont 3 [oaz,obe])))) (.ret (.x oaw))))))))))))
theorem GU:Rn oPP xo [oR] Dg:=rq [⟨6,[3,5],[],[19,20,21,22,23,24,25,26,27,28]⟩,⟨15,[6,8],[],[35,36,37,38,39,40,41,42,43,44,45,46,47,48,49,50,51,52,53,54,55,56]⟩,⟨11,[6,7],[],[8,29,30,31,32,33,34,35,36,37,38,39,40,41,42,43,44,45,46,47,48,49,50,51,52,53,54,55,56]⟩] [] [.tmp 2] Tryz.func76 (by kernel_rfl)
def Dh:Tr:=
(.call jm [(.x oa8)] false [oQ] (.lift (.br (.it (.cm .eql oat oac) oaf (.cm .eql oat occ)) (.hsl 147 0 [] (.ret (.x obw))) (.hall 184 [(17,oad)] (.hsto obn [oad,oad,oad,oad,oad,oad,oad,oad,oad,oad,oad,oad,oad,oad,oad,oad,oad] (.loop [oL] [oac] (.lift (.br ock (.need oa3 (.need odf (.need ock (.load oeh [oL] (.join [] (.br (.cm .gtr oar oac) (.need obg (.need (.cm .lss oar oe3) (.load (.ia 1 obn oar) [oM] (.need obg (.need (.cm .lss oar oe3) (.hsto (.ia 1 obn oar) [(.ar .add .u64 (.var (.int .u64) 5) odj)] (.cont 3 []))))))) (.cont 3 [])) (.cont 1 [obq])))))) (.hall 184 [(17,oad)] (.hsto oea [oad,oad,oad,oad,oad,oad,oad,oad,oad,oad,oad,oad,oad,oad,oad,oad,oad] (.loop [oL] [oaq] (.lift (.br (.cm .leq oal oes) (.need (.cm .leq oac ocl) (.need (.cm .lss ocl oe3) (.load (.ia 1 oea ocl) [oM] (.need (.cm .leq oac ocl) (.need (.cm .lss ocl oe3) (.load (.ia 1 obn ocl) [oM] (.need odw (.need (.cm .lss oal oe3) (.hsto (.ia 1 oea oal) [(.ar .shl .u64 (.ar .add .u64 (.var (.int .u64) 6) (.var (.int .u64) 7)) odj)] (.cont 3 [oa7])))))))))) (.mks 147 2 16 [(.int .i64 0),(.int .u64 0)] oap oap (.loop [oL] [oac] (.lift (.br (.cm .lss oaz oap) (.need oa3 (.need ocb (.need (.cm .lss oaz oap) (.load (.ix 1 oa8 oaz) [oL] (.join [] (.br (.cm .gtr obm oac) (.need ode (.need (.cm .lss obm oe3) (.load (.ia 1 oea obm) [oM] (.call Cs [(.x (.var (.int .u64) 9)),(.x obm)] false [(false,[oM])] (.need oc3 (.need ocb (.need ofh (.hsto (.ix 2 obv
 oaz) [obm,(.var (.int .u64) 10)] (.need ode (.need (.cm .lss obm oe3) (.load (.ia 1 oea obm) [oM] (.need ode (.need (.cm .lss obm oe3) (.hsto (.ia 1 oea obm) [(.ar .add .u64 (.var (.int .u64) 11) odj)] (.cont 7 []))))))))))))))) (.cont 7 [])) (.cont 5 [oem])))))) (.ret (.x obv)))))))))))))))))))
theorem GW:Rn oPP As [oR] Dh:=rq [⟨6,[24],[],[6,25,26,27,28,29,30,31,32,33,34,35]⟩,⟨13,[8],[],[37,38,39,40,41,42,43,44,45,46,47,48,49,50,51,52]⟩,⟨18,[58],[],[10,11,59,60,61,62,63,64,65,66,67,68,69,70,71,72,73,74,75,76,77,78,79,80]⟩] [4,7] [.tmp 2] Tryz.func90 (by kernel_rfl)
def Gd:Tr:=
(.loop [oL,oM,oL] [oe1,oad,oac] (.lift (.br (.cm .lss oar oat) (.cont 0 [(.ar .quo .i64 oax occ),(.ar .add .u64 (.ar .mul .u64 oe2 (.var (.int .u64) 3)) (.cv .u64 (.ar .rem .i64 oax occ))),obd]) (.ret (.x (.var (.int .u64) 3))))))
theorem Ke:Rn oPP Cq [oQ,oQ] Gd:=rq [⟨3,[0,5,6],[],[7,8,9,10,11,12,13,14,15,16,17,18,19]⟩] [] [.tmp 4] Tryz.func100 (by kernel_rfl)
def Ge:Tr:=
(.loop [oM,oL] [oad,oac] (.lift (.br (.cm .lss oas oat) (.need (.cm .geq oas oac) (.need (.cm .geq (.ar .sub .i64 (.ar .sub .i64 oat oaq) oas) oac) (.cont 0 [(.ar .or .u64 (.var (.int .u64) 2) (.ar .shl .u64 (.ar .and .u64 (.ar .shr .u64 (.var (.int .u64) 0) oas) odj) (.ar .sub .i64 (.ar .sub .i64 oat oaq) oas))),obq]))) (.ret (.x (.var (.int .u64) 2))))))
theorem Kf:Rn oPP Cs [(false,[oM]),oQ] Ge:=rq [⟨3,[5,8],[],[6,9,10,11,12,13,14,15,16,17,18,19,20,21,22]⟩] [] [.tmp 4] Tryz.func107 (by kernel_rfl)
def EN:Tr:=
(.mks 154 2 16 [(.int .i64 0),(.int .i64 0)] oaq oaq (.hall 152 [(1,obk)] (.call As [(.x oa8)] false [oR] (.loop [oL] [oac] (.lift (.br (.cm .lss oar ocv) (.need odm (.need obg (.need (.cm .lss oar ocv) (.load (.ix 2 oaw oar) [oL,oM] (.lift (.br (.cm .eql oal oac) (.cont 0 [obd]) (.loop [oL,oL] [oac,oac] (.lift (.br (.cm .lss obm oal) (.load odc [.slice] (.need odl (.need ocb (.need (.cm .lss oaz (.ln ocg)) (.load (.fld (.ix 2 ocg oaz) 1) [oL] (.join [] (.br (.cm .eql oct oac) (.load odc [.slice] (.load odc [.slice] (.need oe8 (.need ocb (.need (.cm .lss oaz (.ln obr)) (.hsto (.fld (.ix 2 obr oaz) 1) [(.ln oer)] (.load odc [.slice] (.hsl 154 2 [oac,oac,oac,oac] (.app 154 2 16 [(.int .i64 0),(.int .i64 0)] odu odk (.hsto odc [ob2] (.cont 5 []))))))))))) (.cont 5 [])) (.load odc [.slice] (.need oe8 (.need ocb (.need (.cm .lss oaz (.ln obr)) (.load (.fld (.ix 2 obr oaz) 1) [oL] (.need (.cm .geq obm oac) (.cont 3 [(.ar .add .i64 ocs (.cv .i64 (.ar .and .u64 (.ar .shr .u64 (.var (.int .u64) 6) obm) odj))),ods]))))))))))))) (.load odc [.slice] (.need odl (.need ocb (.need (.cm .lss oaz (.ln ocg)) (.hsto (.fld (.ix 2 ocg oaz) 0) [obd] (.cont 0 [obd]))))))))))))))) (.ret (.x obn))))))))
theorem Jb:Rn oPP xX [oR] EN:=rq [⟨8,[6,24],[],[7,25,26,27,28,29,30,31,32,33,34,35,36,37,38,39,40,41,42,43,44,45,46,47,48,49,50,51,52,53,54,55,56,57,58,59,60,61,62,63,64,65,66,67,68,69,70,71,72,73,74]⟩,⟨3,[14],[],[4,5,6,7,15,16,17,18,19,20,21,22,23,24,25,26,27,28,29,30,31,32,33,34,35,36,37,38,39,40,41,42,43,44,45,46,47,48,49,50,51,52,53,54,55,56,57,58,59,60,61,62,63,64,65,66,67,68,69,70,71,72,73,74,75,76,77,78,79,80,81,82,83,84]⟩] [10] [.tmp 2] Tryz.func65 (by kernel_rfl)
def Gf:Tr:=
(.loop [oL] [oac] (.lift (.br (.cm .leq oas oax) (.call yD [(.x oas)] false [oQ] (.need (.cm .neq (.cv .u64 oar) oad) (.loop [.bool,oL] [oab,oac] (.lift (.br (.cm .lss oa0 oap) (.need oa3 (.need ocz (.need (.cm .lss oa0 oap) (.load (.ix 2 oa8 oa0) [oL,oM] (.lift (.br (.it (.it (.cm .eql oaz oas) (.cm .gtr oaz oac) oab) (.cm .eql (.var (.int .u64) 8) oc5) oab) (.ret (.agg [oaq,oa0,oas])) (.join [.bool,.bool] (.br (.nt (oB 5)) (.br (.cm .gtr oaz oas) (.call yD [(.x oas)] false [oQ] (.need (.cm .neq (.cv .u64 oco) oad) (.cont 5 [oec,oec]))) (.cont 5 [oab,oab])) (.cont 5 [oaf,oaf])) (.cont 2 [(oB 9),obe])))))))) (.lift (.br (.nt (oB 5)) (.ret (.agg [oac,oac,oac])) (.cont 0 [obq])))))))) (.ret (.agg [occ,oac,oac])))))
theorem Kg:Rn oPP Cr [oR,(false,[oM]),oQ] Gf:=rq [⟨7,[9,10],[],[11,22,23,24,25,26,27,28,29,30,31,32,33,34,35,36,37,38,39,40,41,42,43,44,45,46,47,48,49,50,51,52,53,54,55,56,57,58,59,60,61,62,63,64,65,66]⟩,⟨2,[7],[],[8,9,10,11,12,13,14,15,16,17,18,19,20,21,22,23,24,25,26,27,28,29,30,31,32,33,34,35,36,37,38,39,40,41,42,43,44,45,46,47,48,49,50,51,52,53,54,55,56,57,58,59,60,61,62,63,64,65,66,67,68,69]⟩] [] [.cell 6 173] Tryz.func101 (by kernel_rfl)
def wX:Tr:=
(.need oae (.load oby [.slice] (.need (.nt (.nn obw)) (.need odx (.need (.cm .lss oac oc9) (.load (.ix 2 obw oac) [oL,oL] (.loop [oL,oL,oL] [oac,oas,oar] (.lift (.br (.cm .gtr oa0 oac) (.ret (.agg [oaq,(.ar .sub .i64 oa0 oaq),oal])) (.lift (.br odz (.ret (.agg [oac,oac,oac])) (.callv (.var (.fnv) 1) [] false [oQ] (.lift (.br (.cm .lss obm oac) (.ret (.agg [occ,oac,oac])) (.need oae (.load oby [.slice] (.need odl (.need (.cm .leq oac (.ar .add .i64 oaz obm)) (.need (.cm .lss (.ar .add .i64 oaz obm) (.ln ocg)) (.load (.ix 2 ocg (.ar .add .i64 oaz obm)) [oL,oL] (.cont 0 [oa7,oct,ocj])))))))))))))))))))))
theorem Di:Rn oPP kB [(false,[.ptr]),(false,[.fnv])] wX:=rq [⟨4,[6],[(1,0),(1,1)],[7,14,15,16,17,18,19,20,21,22,23,24,25,26,27,28,29,30,31,32,33,34,35,36,37,38,39,40,41,42]⟩] [] [.cell 4 173] Tryz.func108 (by kernel_rfl)
def EO:Tr:=
(.hall 85 [(1,oac)] (.hsto oe7 [oaq] (.call Ew [(.x (oF 0)),(.x (.ifc 87 oe7))] false [(false,[.bool])] (.load (.fld oe7 0) [oL] (.ret (.x oas))))))
theorem Jc:Rn oPP wJ [(false,[.iface])] EO:=rq [] [3] [.tmp 2] Tryz.func22 (by kernel_rfl)
def IF:Tr:=
(.lift (.br (.nn (oF 0)) (.ret (.x oab)) (.lift (.br (.nn (oF 1)) (.need oab (.ret .junk)) (.call xh [(.x (oF 1))] false [(true,[.ptr,.ptr,oM])] (.call jk [(.agg [(oP 2),(oP 3),(.var (.int .u64) 4)])] false [(false,[.iface])] (.join [oO,.bool,.bool,.bool] (.calli (oF 5) "Kind" [] false [(false,[oO])] (.br (.nt obi) (.call jf [(.agg [(oP 2),(oP 3),(.var (.int .u64) 4)])] false [(false,[.bool])] (.cont 2 [(.var (.int .u8) 6),obi,obi,(oB 7)])) (.cont 2 [(.var (.int .u8) 6),obi,obi,oaf]))) (.lift (.br (oB 9) (.need oab (.ret .junk)) (.calli (oF 5) "Elem" [] false [(false,[.iface])] (.join [oO,.bool,.bool,.bool] (.calli (oF 10) "Kind" [] false [(false,[oO])] (.br obf (.load (.glob 4) [.iface] (.calli (oF 10) "Implements" [(.x (oF 12))] false [(false,[.bool])] (.cont 3 [(.var (.int .u8) 11),obf,obf,(.nt (oB 13))]))) (.cont 3 [(.var (.int .u8) 11),obf,obf,oab]))) (.lift (.br (oB 14) (.need oab (.ret .junk)) (.call Ey [(.x (oF 0)),(.x (oF 1)),(.agg [(oP 2),(oP 3),(.var (.int .u64) 4)]),(.x (oF 10))] false [(false,[.bool])] (.ret (.x (oB 15)))))))))))))))))
theorem Ny:Rn oPP Ew [(false,[.iface]),(false,[.iface])] IF:=rq [] [] [.tmp 4] Tryz.func45 (by kernel_rfl)
def IG:Tr:=
(.loop [] [] (.call kD [(.x (oF 0))] false [(false,[.iface])] (.calli (oF 6) "AssignableTo" [(.x (oF 5))] false [(false,[.bool])] (.lift (.br (oB 7) (.call jo [(.agg [(oP 2),(oP 3),(.var (.int .u64) 4)])] false [(true,[.ptr,.ptr,oM])] (.call xh [(.x (oF 0))] false [(true,[.ptr,.ptr,oM])] (.call j3 [(.agg [(oP 8),(oP 9),(.var (.int .u64) 10)]),(.agg [(oP 11),(oP 12),(.var (.int .u64) 13)])] true [] (.ret (.x oaf))))) (.need oab (.ret .junk)))))))
theorem Nz:Rn oPP Ey [(false,[.iface]),(false,[.iface]),(true,[.ptr,.ptr,oM]),(false,[.iface])] IG:=rq [⟨1,[],[],[9,10,11,12,14,15,16,17,18,19,20,21,22,23,24,25,26,27,28,29,30,31,32,33,34,35,36,37,38,39,40,41,42,43,44,45,46,47,48,49,50,51,52,53,54,55,56,57,58,59,60,61]⟩] [] [.tmp 8] Tryz.func71 (by kernel_rfl)
def wY:Tr:=
(.need oae (.load oby [.slice] (.need oae (.load ocw [oL] (.lift (.br (.cm .gtr oat (.ar .sub .i64 (.ar .mul .i64 oc2 oc9) oas)) (.load (.glob 3) [oL] (.ret (.tup [(false,[oac]),(false,[(.ifc 85 (.ag (.cs oar .nl)))])]))) (.loop [oL,oL] [oac,oac] (.lift (.br (.cm .lss oal oat) (.call xV [(.x oau)] false [oQ] (.need (.cm .geq oal oac) (.cont 1 [(.ar .or .i64 oar (.ar .shl .i64 oa0 oal)),oa7]))) (.ret (.tup [(false,[oar]),(false,[obt])])))))))))))
theorem Dj:Rn oPP yf [(false,[.ptr]),oQ] wY:=rq [⟨5,[6,24],[],[7,25,26,27,28,29,30,31,32,33]⟩] [] [.tmp 4,.tmp 5] Tryz.func41 (by kernel_rfl)
def Az:Tr:=
(.need oae (.load ocw [oL] (.need oae (.hsto ocw [ob9] (.ret (.tup []))))))
theorem DH:Rn oPP jj [(false,[.ptr])] Az:=rq [] [] [] Tryz.func56 (by kernel_rfl)
def Bl:Tr:=
(.need oae (.load ocw [oL] (.need oae (.load oby [.slice] (.lift (.br (.cm .geq oat (.ar .mul .i64 oc2 oc9)) (.ret (.x (.cst (.int .i64 (-1))))) (.need oae (.load ocw [oL] (.need oae (.load ocw [oL] (.need oae (.hsto ocw [obd] (.need oae (.load oby [.slice] (.need ob3 (.need (.cm .leq oac obp) (.need (.cm .lss obp (.ln oa1)) (.load (.ix 1 oa1 obp) [oO] (.need (.cm .geq odq oac) (.ret (.x (.cv .i64 (.ar .and .u8 (.ar .shr .u8 (.var (.int .u8) 6) odq) (.cst (.int .u8 1)))))))))))))))))))))))))
theorem EP:Rn oPP xV [(false,[.ptr])] Bl:=rq [] [] [.tmp 2] Tryz.func61 (by kernel_rfl)
def mlE:Tr:=
(.need (.cm .leq oac oag) (.need (.cm .leq oag (.cp ob2)) (.need (.cm .leq oac oag) (.need (.cm .leq oag oag) (.need (.cm .leq oac oag) (.need (.cm .leq oag (.ln ob2)) (.call jm [(.x (.sub 1 ob2 .nl oag oag))] false [oQ] (.call jm [(.x (.sub 1 ob2 oag .nl .nl))] false [oQ] (.need (.nt (.nn (.sub 1 ob2 .nl oag oag))) (.need ofi (.need (.cm .lss oce (.ln (.sub 1 ob2 .nl oag oag))) (.load (.ix 1 (.sub 1 ob2 .nl oag oag) oce) [oL] (.lift (.br (.it (.it (.cm .eql od4 oac) oaf (.it (.cm .neq oe6 oaq) (.cm .neq oe6 oc6) oab)) oaf (.it (.it (.cm .neq oc8 oaq) (.cm .neq oc8 oc6) oab) (.cm .neq oc8 oeu) oab)) (.load (.glob 0) [oL] (.hsto obn [(.ifc 85 (.ag (.cs ocn .nl)))] (.load obn [.iface] (.ret (.tup [(false,[oak]),(false,[oak]),(false,[(oF 20)])]))))) (.hsto obn [obt] (.load obn [.iface] (.ret (.tup [(false,[(.sub 1 ob2 .nl oag oag)]),(false,[(.sub 1 ob2 oag .nl .nl)]),(false,[(oF 19)])]))))))))))))))))))
def mlR:Tr:=
(.load obn [.iface] (.lift (.br (.nt (.nn (oF 21))) (.load obn [.iface] (.hsto obn [(oF 22)] (.load obn [.iface] (.ret (.tup [(false,[oak]),(false,[oak]),(false,[(oF 23)])]))))) (.lift (.br (.cm .gtr ocd (.ar .sub .i64 (.ar .add .i64 oag oa7) (.ln ob2))) (.load (.glob 0) [oL] (.hsto obn [(.ifc 85 (.ag (.cs oc7 .nl)))] (.load obn [.iface] (.ret (.tup [(false,[oak]),(false,[oak]),(false,[(oF 23)])]))))) (.loop [.slice,oL] [ob2,oac] (.lift (.br (.cm .lss od3 ocd) (.hsl 2 1 [ocn] (.app 2 1 8 [(.int .i64 0)] (oS 22) ofl (.cont 9 [(oS 25),(.ar .add .i64 od3 oaq)]))) (.cont 4 [(oS 22)])))))))))
def mlB:Tr:=
(.load oe7 [.ptr] (.call yY [(.x (oP 16)),(.x (oP 13))] true [oQ,(false,[.iface])] (.lift (.br (.nt (.nn (oF 18))) (.hsto obn [(oF 18)] (.load obn [.iface] (.ret (.tup [(false,[oak]),(false,[oak]),(false,[(oF 19)])])))) (.join [oL,oL] (.br (.cm .eql oc8 oe4) (.lift (.br (.cm .eql (.ln ob2) oac) (.load (.glob 0) [oL] (.hsto obn [(.ifc 85 (.ag (.cs ocn .nl)))] (.load obn [.iface] (.ret (.tup [(false,[oak]),(false,[oak]),(false,[(oF 20)])]))))) (.need (.nt (.nn ob2)) (.need (.cm .leq oac odt) (.need (.cm .lss odt (.ln ob2)) (.load (.ix 1 ob2 odt) [oL] (.call yx [(.x occ),(.x obn),(.x oe7)] false [oQ] (.still [((.ix 1 ob2 odt),ocn)] (.cont 7 [ocn,(.ar .add .i64 ocd oc0)]))))))))) (.join [oL,oL] (.br (.cm .eql oc8 oe3) (.call yx [(.x oc0),(.x obn),(.x oe7)] false [oQ] (.cont 8 [oac,(.ar .add .i64 ocn oc0)])) (.join [oL,oL] (.br (.cm .eql oc8 (oK 18)) (.call yx [(.x ofb),(.x obn),(.x oe7)] false [oQ] (.cont 9 [oac,(.ar .add .i64 ocn (oK 11))])) (.cont 9 [oc8,oaq])) (.cont 8 [ocn,ocd]))) (.cont 7 [ocn,ocd]))) mlR)))))
def mlC:Tr:=
(.load obn [.iface] (.lift (.br (.nt (.nn (oF 11))) (.load obn [.iface] (.hsto obn [(oF 12)] (.load obn [.iface] (.ret (.tup [(false,[oak]),(false,[oak]),(false,[(oF 13)])]))))) (.call jm [(.x ocg)] false [oQ] (.lift (.br (.cm .neq ocs oaq) (.load (.glob 0) [oL] (.hsto obn [(.ifc 85 (.ag (.cs oay .nl)))] (.load obn [.iface] (.ret (.tup [(false,[oak]),(false,[oak]),(false,[(oF 14)])]))))) (.call xX [(.x ocg)] false [(false,[.ptr])] (.hsl 2 0 [] (.loop [.slice] [odk] (.lift (.br (.cm .lss (.ln ob2) (.ar .add .i64 oag oa7)) mlB mlE)))))))))))
def ml3:Tr:=
(.call yx [(.x oc6),(.x obn),(.x oe7)] false [oQ] (.hall 157 [(19,oac)] (.hsto (oA 8) [oe4,oe3,(oK 18),oac,oc2,ofb,(oK 9),(oK 6),(oK 10),oeu,(oK 11),oc6,(oK 12),oc0,(oK 13),occ,(oK 14),oaq,oes] (.mks 2 1 8 [(.int .i64 0)] (oK 19) (oK 19) (.loop [oL] [oac] (.lift (.br (.cm .lss oct (.ar .add .i64 oaz oc6)) (.need (.cm .leq oac oct) (.need (.cm .lss oct (oK 19)) (.load (.ia 1 (oA 8) oct) [oL] (.call yx [(.x oc0),(.x obn),(.x oe7)] false [oQ] (.still [((.ia 1 (oA 8) oct),ocj)] (.need odl (.need (.cm .leq oac ocj) (.need (.cm .lss ocj (.ln ocg)) (.hsto (.ix 1 ocg ocj) [ocs] (.cont 0 [ob5])))))))))) mlC)))))))
def ml2:Tr:=
(.join [] (.br (.it (.nn (oF 6)) (.cm .gtr oa7 (oK 30)) oab) (.load (.glob 0) [oL] (.hsto obn [(.ifc 85 (.ag (.cs oaz .nl)))] (.cont 0 []))) (.cont 0 [])) ml3)
def ml1:Tr:=
(.join [] (.br (.it (.nn (oF 4)) (.cm .gtr oag (oK 286)) oab) (.load (.glob 0) [oL] (.hsto obn [(.ifc 85 (.ag (.cs oal .nl)))] (.cont 0 []))) (.cont 0 [])) (.call yx [(.x oeu),(.x obn),(.x oe7)] false [oQ] (.load obn [.iface] ml2)))
def AU:Tr:=
(.hall 41 [(1,oau)] (.hall 48 [(1,obt)] (.call yx [(.x oeu),(.x obn),(.x oe7)] false [oQ] (.load obn [.iface] ml1))))
theorem Ez:Rn oPP qg [(false,[.ptr])] AU:=rq [⟨12,[49],[],[11,50,51,52,53,54,55,56,57,58,59]⟩,⟨42,[13,128],[],[129,130,131,132,133,134]⟩,⟨22,[13],[],[14,15,16,17,71,72,73,74,75,76,77,78,79,80,81,82,83,84,85,86,87,88,89,90,91,92,93,94,95,96,97,98,99,100,101,102,103,104,105,106,107,108,109,110,111,112,113,114,115,116,117,118,119,120,121,122,123,124,125,126,127,128,129,130,131,132,133,134]⟩] [1,4,9] [.tmp 2,.tmp 3,.cell 4 48] Tryz.func67 (by kernel_rfl)
def wZ:Tr:=
(.call kB [(.x ofa),(.x (.fn 61 (.cs oau .nl) .nl))] false [(true,[oL,oL,oL])] (.lift (.br ob0 (.load (.glob 0) [oL] (.ret (.tup [(false,[oac]),(false,[(.ifc 85 (.ag (.cs oal .nl)))])]))) (.lift (.br (.cm .eql oax occ) (.load (.glob 3) [oL] (.ret (.tup [(false,[oac]),(false,[(.ifc 85 (.ag (.cs oal .nl)))])]))) (.ret (.tup [(false,[oas]),(false,[obt])])))))))
theorem Dk:Rn oPP yY [(false,[.ptr]),(false,[.ptr])] wZ:=rq [] [] [.tmp 4,.tmp 5] Tryz.func91 (by kernel_rfl)
def Aa:Tr:=
(.load oe7 [.iface] (.join [oL] (.br (.nn (oF 3)) (.load obn [.ptr] (.call yf [(.x (oP 4)),(.x oe1)] true [oQ,(false,[.iface])] (.hsto oe7 [(oF 6)] (.cont 0 [oal])))) (.cont 0 [oac])) (.ret (.x oar))))
theorem Dl:Rn oPP yx [oQ,(false,[.addr]),(false,[.addr])] Aa:=rq [] [] [.tmp 4] Tryz.func95 (by kernel_rfl)
def ER:Tr:=
(.lift (.br od9 (.ret (.agg [ofb,oak,oac])) (.lift (.br ofm (.ret (.agg [oc0,oak,oac])) (.call wK [(.x oat),(.x obw),(.x (oK 100000))] false [(true,[.slice,oL,oL,oL])] (.call qI [(.agg [oa8,oac,oac]),(.agg [oaw,oar,oal,oa0])] true [(true,[.slice,oL,oL]),(true,[.slice,oL,oL,oL])] (.lift (.br (.cm .neq oco oac) (.call qX [(.agg [(oS 10),ocj,ocs,oay])] false [oR] (.ret (.agg [oco,odk,oac]))) (.call qX [(.agg [(oS 10),ocj,ocs,oay])] false [oR] (.ret (.agg [oaq,odk,obm])))))))))))
theorem Jd:Rn oPP wI [oR,oQ,oR] ER:=rq [] [] [.cell 6 26] Tryz.func6 (by kernel_rfl)
def bl4:Tr:=
(.join [.slice,oL,oL,.slice,oL,oL,oL] (.br (.cm .eql (oI 40) oac) (.call Ap [(.agg [(oS 38),(oI 39),(oI 40)]),(.agg [(oS 30),(oI 31),(oI 32),(oI 33)]),(.x (oS 36)),(.x (oS 37))] true [(true,[.slice,oL,oL]),(true,[.slice,oL,oL,oL])] (.cont 3 [(oS 41),(oI 42),(oI 43),(oS 44),(oI 45),(oI 46),(oI 47)])) (.cont 3 [(oS 38),(oI 39),(oI 40),(oS 30),(oI 31),(oI 32),(oI 33)])) (.cont 2 [(oS 41),(oI 42),(oI 43),(oS 44),(oI 45),(oI 46),(oI 47)]))
def bl2:Tr:=
(.join [.slice,oL,oL,.slice,oL,oL,oL] (.br (.it (.cm .eql oet oac) (.cm .gtr od3 oac) oab) (.call wM [] true [oR,oR] (.join [.slice,.slice,.slice,oL,oL] (.br (.cm .eql od3 occ) (.call Ck [(.agg [oey,(oI 28),oet])] true [(true,[.slice,oL,oL]),oR,oR] (.cont 3 [(oS 39),(oS 40),(oS 36),(oI 37),(oI 38)])) (.cont 3 [oee,(oS 35),oey,(oI 28),oet])) bl4)) (.cont 2 [oey,(oI 28),oet,(oS 30),(oI 31),(oI 32),(oI 33)])) (.cont 0 [ocn,od3,oee,(oI 35),(oI 36),(oS 37),(oI 38),(oI 39),(oI 40)]))
def DS:Tr:=
(.loop [oL,oL,.slice,oL,oL,.slice,oL,oL,oL] [oac,oac,oa8,oat,oax,oaw,oar,oal,oa0] (.lift (.br (.it (.cm .eql ocj oac) odz oab) (.call yo [(.agg [ocg,oct,ocj]),(.x oaq)] true [(true,[.slice,oL,oL]),oQ] (.call yo [(.agg [od2,oc8,od4]),(.x occ)] true [(true,[.slice,oL,oL]),oQ] (.call y6 [(.agg [ocq,odv,oc7]),(.x (.cm .eql od3 oc0))] false [(true,[.slice,oL,oL])] (.join [.slice,oL,oL,.slice,oL,oL,oL] (.br (.it (.cm .eql oef oac) (.cm .eql od3 oac) oab) (.call AN [(.agg [ofl,oe5,oef]),(.agg [oer,oay,ocr,odg])] true [(true,[.slice,oL,oL]),(true,[.slice,oL,oL,oL])] (.cont 2 [oey,(oI 28),oet,(oS 30),(oI 31),(oI 32),(oI 33)])) (.cont 2 [ofl,oe5,oef,oer,oay,ocr,odg])) bl2)))) (.ret (.tup [(true,[ocg,oct,ocj]),(true,[oer,oay,ocr,odg])])))))
theorem Ix:Rn oPP qI [(true,[.slice,oL,oL]),(true,[.slice,oL,oL,oL])] DS:=rq [⟨3,[6,7],[(0,0),(0,1),(0,2),(1,0),(1,1),(1,2),(1,3)],[8,9,10,11,12,13,14,15,16,17,18,19,20,21,22,23,24,25,26,27,28,29,30,31,32,33,34,35,36,37,38,39,40,41,42,43,44,45,46,47,48,49,50,51,52,53,54,55,56,57,58,59,60,61,62,63,64,65,66,67,68,69,70,71,72,73]⟩] [] [.cell 4 53,.cell 5 55] Tryz.func23 (by kernel_rfl)
end Go.Proofs.YtopmdepgpabipaaGreatDoor
end
