import Derived.Test.YtpodkihpnjhamaaGreatDoorChecked
import Derived.Test.YtpodkihpnjhamaaGreatDoorCb2
import Derived.Test.YtpodkihpnjhamaaGreatDoorCb3
set_option maxRecDepth 100000
set_option maxHeartbeats 8000000
set_option linter.unusedVariables false
set_option linter.unusedSimpArgs false
set_option linter.unusedSectionVars false
section
namespace Go.Eng
abbrev oI(n:Nat):Ex:=.var (.int .i64) n
abbrev oS(n:Nat):Ex:=.var .slice n
abbrev oP(n:Nat):Ex:=.var .ptr n
abbrev oB(n:Nat):Ex:=.var .bool n
abbrev oA(n:Nat):Ex:=.var .addr n
abbrev oF(n:Nat):Ex:=.var .iface n
abbrev oU(n:Nat):Ex:=.var (.int .u32) n
abbrev oK(n:Int):Ex:=.cst (.int .i64 n)
abbrev oL:Sh:=.int .i64
abbrev oM:Sh:=.int .u64
abbrev oN:Sh:=.int .u32
abbrev oO:Sh:=.int .u8
abbrev oQ:Bool×List Sh:=(false,[.int .i64])
abbrev oR:Bool×List Sh:=(false,[.slice])
abbrev oJ:GV:=⟨[],.junk⟩
abbrev oX(e:Ex):GV:=⟨[],.x e⟩
abbrev oaa:Ex:=.cst (.int .u32 0)
abbrev oa6:Ex:=oS 0
abbrev oan:Ex:=.ln oa6
abbrev oa1:Ex:=oK 32768
abbrev oa5:Ex:=.ar .add .i64 oan oa1
abbrev oao:Ex:=oK 1
abbrev ob8:Ex:=.ar .sub .i64 oa5 oao
abbrev oab:Ex:=.ar .quo .i64 ob8 oa1
abbrev oac:Ex:=.cst (.bool false)
abbrev oad:Ex:=oK 0
abbrev oae:Ex:=.cst (.int .u64 0)
abbrev oaf:Ex:=.cst (.bool true)
abbrev ob9:Ex:=oP 0
abbrev oag:Ex:=.nt (.nn ob9)
abbrev odu:Ex:=oK 16
abbrev oaq:Ex:=oI 1
abbrev oaw:Ex:=oK 8
abbrev oda:Ex:=.cst (.int .u64 8)
abbrev oah:Ex:=.ar .shl .u32 (.cv .u32 (.ar .add .i64 (.ar .mul .i64 odu oaq) oaw)) oda
abbrev oai:Ex:=.cst .nilSl
abbrev oaj:Ex:=.nz ob9
abbrev oas:Ex:=oI 3
abbrev oak:Ex:=.ar .add .i64 oas (oK 257)
abbrev od2:Ex:=oS 17
abbrev oal:Ex:=.cm .leq (.ln od2) (oK 65535)
abbrev obo:Ex:=oS 4
abbrev od9:Ex:=.ln obo
abbrev obm:Ex:=oS 5
abbrev ocf:Ex:=oS 6
abbrev oe0:Ex:=.ln ocf
abbrev oam:Ex:=.cm .leq (.ar .add .i64 (.ar .add .i64 od9 (.ln obm)) oe0) (oK 65536)
abbrev oap:Ex:=oI 4
abbrev obp:Ex:=oI 6
abbrev oar:Ex:=.ar .add .i64 obp (oK 257)
abbrev oat:Ex:=oI 5
abbrev oau:Ex:=oS 3
abbrev oav:Ex:=.cst (.int .u32 65521)
abbrev oax:Ex:=.nt (.nn oa6)
abbrev ob7:Ex:=oS 2
abbrev odw:Ex:=.ln ob7
abbrev oay:Ex:=.ar .add .u32 (.it (.cm .gtr odw oad) (.ar .or .u32 oah (.cst (.int .u32 32))) oah) (.ar .rem .u32 (.ar .sub .u32 (.cst (.int .u32 31)) (.ar .rem .u32 (.it (.cm .gtr odw oad) (.ar .or .u32 oah (.cst (.int .u32 32))) oah) (.cst (.int .u32 31)))) (.cst (.int .u32 31)))
abbrev oaz:Ex:=oI 2
abbrev oa0:Ex:=oA 2
abbrev oa2:Ex:=.cst (.int .u32 65536)
abbrev oa3:Ex:=.ar .add .i64 oat oao
abbrev oa4:Ex:=.ar .add .i64 oap oao
abbrev oca:Ex:=oI 9
abbrev oa7:Ex:=.mn (.ar .mul .i64 (.ar .add .i64 oca oao) oa1) oan
abbrev ocb:Ex:=.ln oau
abbrev od5:Ex:=oI 27
abbrev oe1:Ex:=.ar .add .i64 (oI 22) od5
abbrev oa8:Ex:=.ar .add .i64 (.ar .sub .i64 ocb oe1) (.ar .rem .i64 (oI 33) oe1)
abbrev oa9:Ex:=oI 7
abbrev ob0:Ex:=oS 1
abbrev oba:Ex:=.ln ob0
abbrev obb:Ex:=.ar .add .i64 obp oao
abbrev obc:Ex:=.fld oaj 0
abbrev obd:Ex:=.cst (.int .u32 1)
abbrev obe:Ex:=.cst .nilIf
abbrev obf:Ex:=.ar .rem .u32 (.ar .add .u32 (oU 2) (.cv .u32 (.var (.int .u8) 5))) oav
abbrev obu:Ex:=oK 256
abbrev obg:Ex:=.ar .mul .i64 obu (.ar .add .i64 (.ar .mul .i64 odu oaq) oaw)
abbrev ob2:Ex:=.cm .eql oaz oad
abbrev obw:Ex:=oK 2
abbrev obh:Ex:=.it (.it ob2 (.cm .gtr (.ar .add .i64 oaq oas) (.ar .mul .i64 oaw oan)) oac) obw oaz
abbrev obi:Ex:=.ar .add .i64 oas oao
abbrev obk:Ex:=.cm .neq (.var (.int .u8) 11) (.cst (.int .u8 20))
abbrev obl:Ex:=.cm .neq (.var (.int .u8) 6) (.cst (.int .u8 22))
abbrev oco:Ex:=oI 0
abbrev obn:Ex:=.ar .sub .i64 (.ar .quo .i64 oco obw) oao
abbrev obq:Ex:=.cst .nilFn
abbrev obr:Ex:=oI 8
abbrev obs:Ex:=.nt (.nn (oP 1))
abbrev odv:Ex:=oI 15
abbrev obt:Ex:=.ar .rem .i64 odv oe0
abbrev obv:Ex:=.ar .quo .i64 oas oaw
abbrev obx:Ex:=.nt (.nn oau)
abbrev oby:Ex:=.ar .quo .u32 (.ar .shr .u32 (oU 2) oda) (.cst (.int .u32 16))
abbrev obz:Ex:=.cst (.int .u64 1)
abbrev ob1:Ex:=.mx oad (.ar .sub .i64 oba oaz)
abbrev ocs:Ex:=oI 13
abbrev ob3:Ex:=.ar .rem .i64 ocs (.ln obm)
abbrev ob4:Ex:=oS 15
abbrev ob5:Ex:=.cst (.int .u8 0)
abbrev ocq:Ex:=oK 4
abbrev ob6:Ex:=.ar .add .i64 (.ar .quo .i64 (.ar .sub .i64 oco (oK 265)) ocq) oao
abbrev occ:Ex:=.it (.it (oB 9) oam oac) (.cm .geq oa9 oad) oac
abbrev ocd:Ex:=.cm .leq oad oap
abbrev oce:Ex:=.ar .rem .u32 (.ar .rem .u32 (oU 0) oa2) oav
abbrev ocg:Ex:=.ar .mul .i64 (.ar .quo .i64 (.ar .add .i64 oaq (oK 7)) oaw) oaw
abbrev och:Ex:=oI 11
abbrev oci:Ex:=oI 10
abbrev ocj:Ex:=.ar .and .i64 (.ar .xor .i64 (.ar .shr .i64 oaz (.cst (.int .u64 33))) (.ar .shr .i64 oas (.cst (.int .u64 45)))) (oK 255)
abbrev ock:Ex:=.cm .lss oas oan
abbrev ocl:Ex:=.cm .leq oad oas
abbrev ocm:Ex:=.ar .sub .i64 oat oao
abbrev ocn:Ex:=.ar .rem .i64 (.ar .add .i64 (.ar .sub .i64 oaz oaq) oas) oap
abbrev ocp:Ex:=.cm .eql (oI 38) oad
abbrev ocr:Ex:=.cm .eql (.ar .rem .u64 (.var (.int .u64) 8) (.cv .u64 oca)) (.ar .rem .u64 (.var (.int .u64) 1) (.cv .u64 oap))
abbrev oct:Ex:=.fld oaj 1
abbrev ocu:Ex:=oA 1
abbrev ocv:Ex:=.cm .leq oad oa9
abbrev ocw:Ex:=oI 12
abbrev ocx:Ex:=oI 19
abbrev ocy:Ex:=oB 10
abbrev ocz:Ex:=.ar .quo .i64 oaq oaw
abbrev oc0:Ex:=.ar .quo .i64 oa9 oaw
abbrev oc1:Ex:=oA 3
abbrev oc2:Ex:=.nz (oP 1)
abbrev oc3:Ex:=.fld oa0 0
abbrev oc4:Ex:=.ar .xor .u8 (.cv .u8 (oU 3)) (.var (.int .u8) 5)
abbrev odo:Ex:=oS 7
abbrev oc5:Ex:=.it (.it ob2 (.cm .gtr (.ar .add .i64 (.ar .sub .i64 ocb oap) (.ln odo)) obp) oac) (oK 6) oaz
abbrev oc6:Ex:=.cm .leq (.ar .add .i64 (.ar .add .i64 (.ln (oS 30)) (.ln (oS 31))) (.ln (oS 32))) (oK 65536)
abbrev oc7:Ex:=.cm .lss oap oan
abbrev oc8:Ex:=oB 12
abbrev oc9:Ex:=.ar .rem .u32 (.ar .quo .u32 (oU 0) oa2) oav
abbrev odb:Ex:=oS 14
abbrev odc:Ex:=oI 17
abbrev odd:Ex:=oB 14
abbrev od0:Ex:=oK 100000
abbrev ode:Ex:=.it (.it (.cm .lss oaq oad) oaf (.cm .gtr oaq (oK 7))) oaf (.cm .gtr oan od0)
abbrev odf:Ex:=.ar .rem .i64 oas oaw
abbrev odg:Ex:=.ar .mul .i64 obr oa1
abbrev odh:Ex:=.cst (.int .u32 4294967295)
abbrev odi:Ex:=.ar .sub .i64 (.ln ob4) oao
abbrev odj:Ex:=oS 9
abbrev odk:Ex:=oS 8
abbrev odl:Ex:=.cm .lss oaq oan
abbrev odm:Ex:=.cm .lss oap oba
abbrev odn:Ex:=.cm .leq oad obu
abbrev odp:Ex:=oI 23
abbrev odq:Ex:=oI 20
abbrev odr:Ex:=oB 16
abbrev ods:Ex:=.ar .quo .i64 (oI 53) oaw
abbrev odt:Ex:=.ar .quo .i64 (oI 24) oaw
abbrev odx:Ex:=.cv .u8 (.ar .rem .u64 (.var (.int .u64) 4) (.cst (.int .u64 256)))
abbrev ody:Ex:=.cm .gtr oan (oK 65536)
abbrev odz:Ex:=oS 18
abbrev od1:Ex:=oS 34
abbrev od3:Ex:=oS 11
abbrev od4:Ex:=oS 10
abbrev od6:Ex:=oI 16
abbrev od7:Ex:=oA 6
abbrev od8:Ex:=.nt (.nn ocf)
abbrev oea:Ex:=.ix 1 oa6 oas
abbrev oeb:Ex:=.cm .lss oap oad
abbrev oec:Ex:=.cm .leq oad obr
abbrev oed:Ex:=.cm .leq oad oat
abbrev oee:Ex:=.ar .quo .i64 oat oaw
abbrev oef:Ex:=.ar .add .i64 oaz oao
abbrev oeg:Ex:=.ar .add .i64 oa9 oao
abbrev oeh:Ex:=oA 8
abbrev oei:Ex:=oS 16
abbrev oej:Ex:=oI 26
abbrev oek:Ex:=oI 21
abbrev oel:Ex:=oB 19
abbrev oem:Ex:=.cv .u8 (.ar .add .i64 oao (.ar .rem .i64 ocw (oK 255)))
abbrev oen:Ex:=.fld oaj 2
abbrev oeo:Ex:=.it (.cm .lss oaz oad) oaf (.cm .gtr oaz (oK 1000000))
abbrev ofg:Ex:=oK 32
abbrev oep:Ex:=.it (.cm .gtr odw oad) (.ar .add .i64 obg ofg) obg
abbrev oeq:Ex:=oS 22
abbrev oer:Ex:=oS 12
abbrev oes:Ex:=oI 14
abbrev oet:Ex:=.ar .quo .i64 oat (oK 4096)
abbrev oeu:Ex:=.cst (.int .u64 2)
abbrev oev:Ex:=oK 3
abbrev oew:Ex:=oI 29
abbrev oex:Ex:=oI 18
abbrev oey:Ex:=oB 21
abbrev oez:Ex:=.nt (.nn ob0)
abbrev oe2:Ex:=.ar .add .u32 (.ar .mul .u32 (oU 3) oa2) (oU 2)
abbrev oe3:Ex:=oA 4
abbrev oe4:Ex:=.nt (.nn (oF 4))
abbrev oe5:Ex:=.nt (.nn (oF 3))
abbrev oe6:Ex:=.fld oc2 0
abbrev oe7:Ex:=.fld oaj 4
abbrev oe8:Ex:=.cm .lss obu ocb
abbrev oe9:Ex:=.cm .lss obp oan
abbrev ofa:Ex:=.cm .lss oap oaq
abbrev ofb:Ex:=.cm .lss oa9 oan
abbrev ofc:Ex:=.cm .leq oad obp
abbrev ofd:Ex:=.cm .leq oad oaq
abbrev ofe:Ex:=.cm .eql oat oad
abbrev ofh:Ex:=oK 17
abbrev ofi:Ex:=oK 15
abbrev ofj:Ex:=oI 40
abbrev ofk:Ex:=oI 37
abbrev ofl:Ex:=.it (.nt (oB 9)) oaf (.cm .neq oa9 (.ln odk))
end Go.Eng
namespace Go.Eng
open Go
abbrev Rn(P:Program)(f:FuncId)(ps:List (Bool×List Sh))(t:Tr):Prop:=∀ {S:Shared} {h:Heap} {Q:Value->Heap->Prop} {vs:List Value},kj (zq ps) vs->Inv S h->t.wp P S yk Q vs h []->zb P S f (jY ps vs) h Q
theorem rn{P:Program}{f:FuncId}{fn:Func}{cfg:Cfg}{t:Tr}{ps:List (Bool×List Sh)}(hT:zM P cfg.tab)(hm:P.follows .mixedOrders=true)(hf:P.funcs[f]? = some fn)(hres:fn.results.toList=cfg.results)(ht:sxF cfg fn ps=some t)
 (hn:(fn.name == "runtime.NumGoroutine")=false)(hb:fn.body.isNone=false)(hps:ps.all (fun r=>r.1||r.2.length==1)=true):Rn P f ps t:=fun hsh hi hw=>zba hT hm hf hres ht (VB hf hn hb) hps hsh hi hw
end Go.Eng
namespace Go.Proofs.YtpodkihpnjhamaaGreatDoor
open Go Go.Eng
def XO:List (TypeId×TyD):=[(0,⟨.oth,1,0,[],none,some []⟩),
(2,⟨(.int .i64),1,8,[oL],some [(1,(.int .i64 0))],none⟩),
(3,⟨(.int .i64),1,8,[oL],some [(1,(.int .i64 0))],none⟩),
(4,⟨.bool,1,1,[.bool],some [(1,(.bool false))],none⟩),
(5,⟨(.int .u8),1,1,[oO],some [(1,(.int .u8 0))],none⟩),
(9,⟨.str,1,16,[.str],none,none⟩),
(17,⟨(.ptr 237),1,8,[.ptr],some [(1,.nilPtr)],none⟩),
(20,⟨.ifc,1,16,[.iface],some [(1,.nilIf)],none⟩),
(22,⟨(.sl 5),1,24,[.slice],some [(1,.nilSl)],none⟩),
(23,⟨.oth,1,0,[],none,some [22,2,22]⟩),
(28,⟨(.st [(0,2),(1,2),(2,2),(3,2),(4,22),(5,22),(6,22),(7,2)]),8,112,[oL,oL,oL,oL,.slice,.slice,.slice,oL],some [(4,(.int .i64 0)),(3,.nilSl),(1,(.int .i64 0))],none⟩),
(32,⟨(.st [(0,2),(1,22),(2,2)]),3,40,[oL,.slice,oL],some [(1,(.int .i64 0)),(1,.nilSl),(1,(.int .i64 0))],none⟩),
(34,⟨(.sl 28),1,24,[.slice],some [(1,.nilSl)],none⟩),
(36,⟨(.st [(0,2),(1,22),(2,34),(3,2)]),4,64,[oL,.slice,.slice,oL],some [(1,(.int .i64 0)),(2,.nilSl),(1,(.int .i64 0))],none⟩),
(38,⟨(.int .u32),1,4,[oN],some [(1,(.int .u32 0))],none⟩),
(40,⟨(.ptr 84),1,8,[.ptr],some [(1,.nilPtr)],none⟩),
(46,⟨(.int .u64),1,8,[oM],some [(1,(.int .u64 0))],none⟩),
(51,⟨(.int .u64),1,8,[oM],some [(1,(.int .u64 0))],none⟩),
(53,⟨(.ptr 59),1,8,[.ptr],some [(1,.nilPtr)],none⟩),
(54,⟨(.ptr 139),1,8,[.ptr],some [(1,.nilPtr)],none⟩),
(55,⟨(.ptr 216),1,8,[.ptr],some [(1,.nilPtr)],none⟩),
(57,⟨(.st [(0,22),(1,2),(2,54),(3,22),(4,3),(5,4),(6,55),(7,55)]),8,96,[.slice,oL,.ptr,.slice,oL,.bool,.ptr,.ptr],some [(1,.nilSl),(1,(.int .i64 0)),(1,.nilPtr),(1,.nilSl),(1,(.int .i64 0)),(1,(.bool false)),(2,.nilPtr)],none⟩),
(59,⟨(.st [(0,57)]),8,96,[.slice,oL,.ptr,.slice,oL,.bool,.ptr,.ptr],some [(1,.nilSl),(1,(.int .i64 0)),(1,.nilPtr),(1,.nilSl),(1,(.int .i64 0)),(1,(.bool false)),(2,.nilPtr)],none⟩),
(61,⟨.ifc,1,16,[.iface],some [(1,.nilIf)],none⟩),
(64,⟨.oth,1,0,[],none,some [28,61]⟩),
(67,⟨(.st [(0,22),(1,2),(2,2)]),3,40,[.slice,oL,oL],some [(1,.nilSl),(2,(.int .i64 0))],none⟩),
(68,⟨.oth,1,0,[],none,some [67,2]⟩),
(71,⟨.fnk,1,8,[.fnv],some [(1,.nilFn)],none⟩),
(73,⟨(.st [(0,22),(1,3),(2,2),(3,3)]),4,48,[.slice,oL,oL,oL],some [(1,.nilSl),(3,(.int .i64 0))],none⟩),
(75,⟨.oth,1,0,[],none,some [67,73]⟩),
(79,⟨.oth,1,0,[],none,some [67,28]⟩),
(84,⟨(.st [(0,22),(1,3),(2,2)]),3,40,[.slice,oL,oL],some [(1,.nilSl),(2,(.int .i64 0))],none⟩),
(86,⟨(.sl 38),1,24,[.slice],some [(1,.nilSl)],none⟩),
(87,⟨(.sl 2),1,24,[.slice],some [(1,.nilSl)],none⟩),
(88,⟨.oth,1,0,[],none,some [86,87]⟩),
(90,⟨.fnk,1,8,[.fnv],some [(1,.nilFn)],none⟩),
(92,⟨.oth,1,0,[],none,some [87,87]⟩),
(94,⟨(.sl 98),1,24,[.slice],some [(1,.nilSl)],none⟩),
(96,⟨.fnk,1,8,[.fnv],some [(1,.nilFn)],none⟩),
(98,⟨(.st [(0,2),(1,51)]),2,16,[oL,oM],some [(1,(.int .i64 0)),(1,(.int .u64 0))],none⟩),
(99,⟨.fnk,1,8,[.fnv],some [(1,.nilFn)],none⟩),
(100,⟨.fnk,1,8,[.fnv],some [(1,.nilFn)],none⟩),
(103,⟨.oth,1,0,[],none,some [38,61]⟩),
(106,⟨(.st [(0,2)]),1,8,[oL],some [(1,(.int .i64 0))],none⟩),
(110,⟨(.ptr 106),1,8,[.ptr],some [(1,.nilPtr)],none⟩),
(112,⟨(.ptr 28),1,8,[.ptr],some [(1,.nilPtr)],none⟩),
(113,⟨.oth,1,0,[],none,some [2,61]⟩),
(116,⟨.oth,1,0,[],none,some [67,87,87]⟩),
(119,⟨.oth,1,0,[],none,some [67,22]⟩),
(133,⟨(.arr 17 51),17,136,[oM,oM,oM,oM,oM,oM,oM,oM,oM,oM,oM,oM,oM,oM,oM,oM,oM],some [(17,(.int .u64 0))],none⟩),
(135,⟨(.arr 256 38),256,1024,[],some [(256,(.int .u32 0))],none⟩),
(137,⟨(.arr 32768 5),32768,32768,[],some [(32768,(.int .u8 0))],none⟩),
(139,⟨(.st [(0,3),(1,137),(32769,3),(32770,3)]),32771,32792,[],some [(1,(.int .i64 0)),(32768,(.int .u8 0)),(2,(.int .i64 0))],none⟩),
(142,⟨.fnk,1,8,[.fnv],some [(1,.nilFn)],none⟩),
(143,⟨(.ptr 57),1,8,[.ptr],some [(1,.nilPtr)],none⟩),
(144,⟨.oth,1,8,[.ptr],some [(1,.nilPtr)],none⟩),
(145,⟨(.int .u64),1,8,[oM],some [(1,(.int .u64 0))],none⟩),
(147,⟨(.st [(0,17),(1,144),(2,145)]),3,24,[.ptr,.ptr,oM],some [(2,.nilPtr),(1,(.int .u64 0))],none⟩),
(150,⟨.ifc,1,16,[.iface],some [(1,.nilIf)],none⟩),
(152,⟨(.int .u8),1,1,[oO],some [(1,(.int .u8 0))],none⟩),
(157,⟨.fnk,1,8,[.fnv],some [(1,.nilFn)],none⟩),
(158,⟨.oth,1,0,[],none,some [22,61]⟩),
(161,⟨.fnk,1,8,[.fnv],some [(1,.nilFn)],none⟩),
(163,⟨(.sl 3),1,24,[.slice],some [(1,.nilSl)],none⟩),
(166,⟨.oth,1,0,[],none,some [67,87]⟩),
(184,⟨.fnk,1,8,[.fnv],some [(1,.nilFn)],none⟩),
(185,⟨.oth,1,0,[],none,some [184,61]⟩),
(192,⟨.ifc,1,16,[.iface],some [(1,.nilIf)],none⟩),
(193,⟨.oth,1,0,[],none,some [192,4]⟩),
(195,⟨.ifc,1,16,[.iface],some [(1,.nilIf)],none⟩),
(196,⟨.ifc,1,16,[.iface],some [(1,.nilIf)],none⟩),
(197,⟨(.sl 61),1,24,[.slice],some [(1,.nilSl)],none⟩),
(200,⟨(.st [(0,2),(1,2),(2,2)]),3,24,[oL,oL,oL],some [(3,(.int .i64 0))],none⟩),
(202,⟨.oth,1,0,[],none,some [2,2]⟩),
(212,⟨.oth,1,0,[],none,some [87,87,61]⟩),
(214,⟨(.sl 218),1,24,[.slice],some [(1,.nilSl)],none⟩),
(216,⟨(.st [(0,214)]),1,24,[.slice],some [(1,.nilSl)],none⟩),
(218,⟨(.st [(0,3),(1,3)]),2,16,[oL,oL],some [(2,(.int .i64 0))],none⟩),
(221,⟨(.arr 19 3),19,152,[oL,oL,oL,oL,oL,oL,oL,oL,oL,oL,oL,oL,oL,oL,oL,oL,oL,oL,oL],some [(19,(.int .i64 0))],none⟩)]
theorem zbe:zM Tryz.prog XO:=KS (by kernel_rfl)
theorem zbf:Tryz.prog.follows .mixedOrders=true:=by kernel_rfl
noncomputable abbrev oPP:Program:=Tryz.prog
theorem rq(a:_)(b:_)(c:_){f:FuncId}{fn:Func}{t:Tr}{ps:List (Bool×List Sh)}(hf:oPP.funcs[f]? = some fn)(ht:(sxF ⟨XO,a,b,c⟩ fn ps,fn.name == "runtime.NumGoroutine",fn.body.isNone)=(some t,false,false))(hres:fn.results.toList=(⟨XO,a,b,c⟩:Cfg).results:=by rfl)(hps:ps.all (fun r=>r.1||r.2.length==1)=true:=by rfl):Rn oPP f ps t:=rn zbe zbf hf hres (gC ht).1 (gC (gC ht).2).1 (gC (gC ht).2).2 hps
def I2:Tr:=
(.ret (.agg [oa6,oaq,(.it (.it ob2 (oB 3) oac) oev oaz)]))
theorem NJ:Rn oPP yu [(true,[.slice,oL,oL]),(false,[.bool])] I2:=rq [] [] [.cell 4 67] Tryz.func35 (by kernel_rfl)
def Hv:Tr:=
(.lift (.br (.cm .neq obh oad) (.ret (.tup [(true,[oa6,oaq,obh]),(false,[oad])])) (.loop [oL,oL] [oad,(.ar .sub .i64 oas oao)] (.lift (.br (.cm .geq oat oad) (.call Bw [(.x oa6),(.x (.ar .add .i64 oaq oat))] false [(false,[oM])] (.cont 1 [(.ar .add .i64 (.ar .mul .i64 obw oap) (.cv .i64 (.var (.int .u64) 6))),ocm])) (.ret (.tup [(true,[oa6,(.ar .add .i64 oaq oas),obh]),(false,[oap])])))))))
theorem Mq:Rn oPP zQ [(true,[.slice,oL,oL]),oQ] Hv:=rq [⟨7,[6,7],[],[29,30,31,32,33,34,35,36,37,38,39,40,41,42,43]⟩] [] [.cell 4 67,.tmp 5] Tryz.func43 (by kernel_rfl)
def Uv:Tr:=
(.lift (.br (.cm .neq ofk oad) (.hsl 2 0 [] (.hsl 2 0 [] (.ret (.tup [(true,[(oS 35),(oI 36),ofk]),(false,[(oS 38)]),(false,[(oS 39)])])))) (.need (.cm .leq oad oar) (.need (.cm .leq oar (.cp od1)) (.need (.cm .leq oad oar) (.need (.cm .leq oar (.ln od1)) (.join [oL,.bool,.bool,.bool,.bool,.bool,.slice,oL,oL] (.need (.nt (.nn (.sub 1 od1 .nl oar .nl))) (.need odn (.need (.cm .lss obu (.ln (.sub 1 od1 .nl oar .nl))) (.load (.ix 1 (.sub 1 od1 .nl oar .nl) obu) [oL] (.br (.nt ocp) (.call wN [(.x (.sub 1 od1 .nl oar .nl)),(.x oao),(.x ocq),(.x ocq)] false [(false,[.bool])] (.br (.nt (.nt (oB 39))) (.call wN [(.x (.sub 1 od1 oar .nl .nl)),(.x oao),(.x ocq),(.x (oK 5))] false [(false,[.bool])] (.call yu [(.agg [(oS 35),(oI 36),ofk]),(.x (.nt (oB 40)))] false [(true,[.slice,oL,oL])] (.cont 5 [(oI 38),ocp,ocp,(.nt (oB 39)),(.nt (oB 39)),(.nt (oB 40)),(oS 41),(oI 42),(oI 43)]))) (.call yu [(.agg [(oS 35),(oI 36),ofk]),(.x oaf)] false [(true,[.slice,oL,oL])] (.cont 5 [(oI 38),ocp,ocp,(.nt (oB 39)),(.nt (oB 39)),oaf,(oS 40),(oI 41),(oI 42)])))) (.call yu [(.agg [(oS 35),(oI 36),ofk]),(.x oaf)] false [(true,[.slice,oL,oL])] (.cont 5 [(oI 38),ocp,ocp,oaf,oaf,oaf,(oS 39),ofj,(oI 41)]))))))) (.ret (.tup [(true,[(oS 44),(oI 45),(oI 46)]),(false,[(.sub 1 od1 .nl oar .nl)]),(false,[(.sub 1 od1 oar .nl .nl)])])))))))))
def Uw:Tr:=
(.loop [oL,.slice,.slice,oL,oL] [(oI 22),(oS 32),(oS 28),oew,(oI 30)] (.lift (.br (.it (.cm .eql ofk oad) (.cm .lss (.ln od1) (.ar .add .i64 oar (.ar .add .i64 ocs oao))) oac) (.call Af [(.agg [(oS 35),(oI 36),ofk]),(.x (oS 31))] true [(true,[.slice,oL,oL]),oQ] (.join [.slice,.slice,oL,oL] (.br (.cm .eql ofj oad) (.call Bx [(.agg [(oS 38),(oI 39),ofj]),(.x od1),(.x (oI 41))] true [(true,[.slice,oL,oL]),oR] (.call yu [(.agg [(oS 42),(oI 43),(oI 44)]),(.x (.cm .gtr (.ln (oS 45)) (.ar .add .i64 oar (.ar .add .i64 ocs oao))))] false [(true,[.slice,oL,oL])] (.cont 4 [(oS 45),(oS 46),(oI 47),(oI 48)]))) (.cont 4 [od1,(oS 38),(oI 39),ofj])) (.cont 2 [(oI 41),(oS 42),(oS 43),(oI 44),(oI 45)]))) Uv)))
def Hw:Tr:=
(.call zQ [(.agg [oa6,oaq,oaz]),(.x (oK 5))] true [(true,[.slice,oL,oL]),oQ] (.call yu [(.agg [oau,oap,oat]),(.x (.cm .gtr oar (oK 286)))] false [(true,[.slice,oL,oL])] (.call zQ [(.agg [odo,obr,oca]),(.x (oK 5))] true [(true,[.slice,oL,oL]),oQ] (.call yu [(.agg [od4,och,ocw]),(.x (.cm .gtr (.ar .add .i64 ocs oao) (oK 30)))] false [(true,[.slice,oL,oL])] (.call zQ [(.agg [odb,odv,od6]),(.x ocq)] true [(true,[.slice,oL,oL]),oQ] (.hsl 2 19 [oad,oad,oad,oad,oad,oad,oad,oad,oad,oad,oad,oad,oad,oad,oad,oad,oad,oad,oad] (.loop [oL,oL,.slice,oL,oL] [oad,oad,od2,oex,ocx] (.lift (.br (.cm .lss odp (.ar .add .i64 odq ocq)) (.call zQ [(.agg [(oS 24),(oI 25),oej]),(.x oev)] true [(true,[.slice,oL,oL]),oQ] (.call Ci [] false [oR] (.need (.nt (.nn (oS 31))) (.need (.cm .leq oad odp) (.need (.cm .lss odp (.ln (oS 31))) (.load (.ix 1 (oS 31) odp) [oL] (.need (.nt (.nn (oS 21))) (.need (.cm .leq oad (oI 32)) (.need (.cm .lss (oI 32) (.ln (oS 21))) (.hsto (.ix 1 (oS 21) (oI 32)) [(oI 30)] (.cont 0 [(oI 30),(.ar .add .i64 odp oao),(oS 27),(oI 28),oew]))))))))))) (.call kO [(.x (oS 21))] false [oQ] (.call yu [(.agg [(oS 24),(oI 25),oej]),(.x (.cm .neq od5 oao))] false [(true,[.slice,oL,oL])] (.call jo [(.x (oS 21))] false [oR] (.hsl 2 0 [] Uw)))))))))))))
theorem Mr:Rn oPP Di [(true,[.slice,oL,oL])] Hw:=rq [⟨14,[8,10],[(0,0),(0,1),(0,2)],[43,44,45,46,47,48,49,50,51,52,53,54,55,56,57,58,59,60]⟩,⟨21,[8,12],[(0,0),(0,1),(0,2)],[69,70,71,72,73,74,75,76,77,78,79,80,81,82,83,84,85,86,87,88,89,90,91,92,93,94,95,96,97,98,99,100,101,102,103]⟩] [] [.cell 2 67,.tmp 3,.tmp 4] Tryz.func74 (by kernel_rfl)
def I6:Tr:=
(.need oax (.need (.cm .leq oad ocz) (.need (.cm .lss ocz oan) (.load (.ix 1 oa6 ocz) [oO] (.need (.cm .geq (.cv .u64 (.ar .rem .i64 oaq oaw)) oae) (.ret (.x (.ar .rem .u64 (.cv .u64 (.ar .shr .u8 (.var (.int .u8) 2) (.cv .u64 (.ar .rem .i64 oaq oaw)))) oeu))))))))
theorem NK:Rn oPP Bw [oR,oQ] I6:=rq [] [] [.tmp 4] Tryz.func78 (by kernel_rfl)
def FV:Tr:=
(.hsl 3 19 [odu,ofh,(oK 18),oad,oaw,(oK 7),(oK 9),(oK 6),(oK 10),(oK 5),(oK 11),ocq,(oK 12),oev,(oK 13),obw,(oK 14),oao,ofi] (.ret (.x oa6)))
theorem KU:Rn oPP Ci [] FV:=rq [] [] [.tmp 0] Tryz.func101 (by kernel_rfl)
def I7:Tr:=
(.lift (.br (.cm .neq oaz oad) (.ret (.tup [(true,[oa6,oaq,oaz]),(false,[oad])])) (.loop [oM,oL] [oae,oad] (.lift (.br (.it (.cm .lss oat ofi) (.cm .lss (.ar .add .i64 oaq oat) (.ar .mul .i64 oaw oan)) oac) (.call Bw [(.x oa6),(.x (.ar .add .i64 oaq oat))] false [(false,[oM])] (.need (.cm .geq (.cv .u64 oat) oae) (.cont 1 [(.ar .add .u64 (.var (.int .u64) 4) (.ar .shl .u64 (.var (.int .u64) 6) (.cv .u64 oat))),oa3]))) (.call Dm [(.x oau),(.x (.var (.int .u64) 4)),(.x oat)] false [(true,[oL,oL,oL])] (.call yu [(.agg [oa6,oaq,(.it (.cm .eql obp obw) obw oaz)]),(.x (.cm .eql obp oad))] false [(true,[.slice,oL,oL])] (.ret (.tup [(true,[odj,(.ar .add .i64 oci obr),och]),(false,[oa9])])))))))))
theorem NN:Rn oPP Af [(true,[.slice,oL,oL]),oR] I7:=rq [⟨5,[6,7],[],[13,14,15,16,17,18,19,20,21,22,23,24,25,26,27,28,29,30,31,32,33,34,35,36,37,38,39]⟩] [] [.cell 4 67,.tmp 5] Tryz.func102 (by kernel_rfl)
def EV:Tr:=
(.join [oL,oL,.slice,oL,oL] (.br (.cm .eql oap odu) (.call yu [(.agg [oa6,oaq,oaz]),(.x (.cm .eql ocb oad))] false [(true,[.slice,oL,oL])] (.call zQ [(.agg [obm,obp,oa9]),(.x obw)] true [(true,[.slice,oL,oL]),oQ] (.join [oL] (.br (.cm .eql oci oad) (.need obx (.need (.cm .leq oad (.ar .sub .i64 ocb oao)) (.need (.cm .lss (.ar .sub .i64 ocb oao) ocb) (.load (.ix 1 oau (.ar .sub .i64 ocb oao)) [oL] (.cont 1 [ocw]))))) (.cont 1 [oap])) (.cont 0 [(.ar .add .i64 och oev),ocw,odk,oca,oci])))) (.cont 0 [oao,oap,oa6,oaq,oaz])) (.join [oL,oL,.slice,oL,oL] (.br (.cm .eql oap ofh) (.call zQ [(.agg [odo,obr,oca]),(.x oev)] true [(true,[.slice,oL,oL]),oQ] (.cont 0 [(.ar .add .i64 ocs oev),oad,od4,och,ocw])) (.cont 0 [oat,obp,odo,obr,oca])) (.join [oL,oL,.slice,oL,oL] (.br (.cm .eql oap (oK 18)) (.call zQ [(.agg [oer,ocs,oes]),(.x (oK 7))] true [(true,[.slice,oL,oL]),oQ] (.cont 0 [(.ar .add .i64 oex (oK 11)),oad,ob4,od6,odc])) (.cont 0 [oci,och,oer,ocs,oes])) (.loop [.slice,oL] [oau,oad] (.lift (.br (.it (.cm .lss oek odv) (.cm .eql ocx oad) oac) (.hsl 2 1 [od6] (.app 2 1 8 [(.int .i64 0)] (oS 20) oeq (.cont 0 [(oS 23),(.ar .add .i64 oek oao)]))) (.ret (.tup [(true,[od2,oex,ocx]),(false,[(oS 20)])]))))))))
theorem JV:Rn oPP Bx [(true,[.slice,oL,oL]),oR,oQ] EV:=rq [⟨18,[1,10],[],[53,54,55,56,57,58,59,60,61,62,63,64,65,66]⟩] [] [.cell 6 67,.tmp 7] Tryz.func103 (by kernel_rfl)
def EW:Tr:=
(.call kO [(.x oa6)] false [oQ] (.ret (.x (.it (.it (.cm .eql oap oaq) oaf (.cm .eql oap oaz)) oaf (.cm .eql oap oas)))))
theorem JW:Rn oPP wN [oR,oQ,oQ,oQ] EW:=rq [] [] [.tmp 8] Tryz.func104 (by kernel_rfl)
def I8:Tr:=
(.loop [oL,oL] [oao,oad] (.lift (.br (.cm .lss oaz oco) (.cont 0 [(.ar .mul .i64 obw oaq),oef]) (.ret (.x oaq)))))
theorem NO:Rn oPP xz [oQ] I8:=rq [⟨3,[3,4],[],[5,6,7,8,9,10,11]⟩] [] [.tmp 2] Tryz.func36 (by kernel_rfl)
def EX:Tr:=
(.lift (.br (.cm .gtr oan (oK 320)) (.ret (.x oad)) (.loop [oL,oL,oL,oL] [oad,oad,oad,oad] (.lift (.br oc7 (.need oax (.need ocd (.need oc7 (.load (.ix 1 oa6 oap) [oL] (.lift (.br (.it (.cm .lss oat oad) oaf (.cm .gtr oat ofi)) (.ret (.x oad)) (.join [oL,oL,oL] (.br (.cm .gtr oat oad) (.need (.cm .geq (.ar .sub .i64 ofi oat) oad) (.cont 4 [(.ar .add .i64 oaq (.ar .shl .i64 oao (.ar .sub .i64 ofi oat))),oef,oat])) (.cont 4 [oaq,oaz,oas])) (.cont 1 [obp,oa9,obr,oa4])))))))) (.lift (.br ob2 (.ret (.x (oK 5))) (.lift (.br (.cm .gtr oaq oa1) (.ret (.x obw)) (.lift (.br (.cm .eql oaq oa1) (.ret (.x oao)) (.lift (.br (.it (.cm .eql oaz oao) (.cm .eql oas oao) oac) (.ret (.x ocq)) (.ret (.x oev)))))))))))))))
theorem JX:Rn oPP j8 [oR] EX:=rq [⟨5,[3,4,5,13],[],[7,14,15,16,17,18,19,20,21,22,23,24,25,26,27,28,29,30,31,32,33]⟩] [] [.tmp 2] Tryz.func83 (by kernel_rfl)
def EY:Tr:=
(.lift (.br (.cm .gtr oan (oK 320)) (.ret (.x oad)) (.loop [oL,oL,oL] [oad,oad,oad] (.lift (.br ock (.join [oL,.bool,.bool,.bool] (.need oax (.need ocl (.need ock (.load oea [oL] (.br (.nt oeb) (.need oax (.need ocl (.need ock (.load oea [oL] (.cont 3 [oap,oeb,oeb,(.cm .gtr oat ofi)]))))) (.cont 3 [oap,oeb,oeb,oaf])))))) (.lift (.br (oB 7) (.ret (.x oad)) (.need oax (.need ocl (.need ock (.load oea [oL] (.join [oL,oL] (.br (.cm .gtr obr oad) (.need oax (.need ocl (.need ock (.load oea [oL] (.call xz [(.x (.ar .sub .i64 ofi oca))] false [oQ] (.cont 4 [(.ar .add .i64 oaq oci),oef])))))) (.cont 4 [oaq,oaz])) (.cont 1 [oca,oci,obi]))))))))) (.lift (.br ob2 (.ret (.x (oK 5))) (.call xz [(.x ofi)] false [oQ] (.lift (.br (.cm .gtr oaq oap) (.ret (.x obw)) (.call xz [(.x ofi)] false [oQ] (.lift (.br (.cm .eql oaq oat) (.ret (.x oao)) (.join [.bool] (.br (.cm .eql oaz oao) (.call xz [(.x (oK 14))] false [oQ] (.cont 6 [(.cm .eql oaq obp)])) (.cont 6 [oac])) (.lift (.br (oB 6) (.ret (.x ocq)) (.ret (.x oev))))))))))))))))))
theorem JY:Rn oPP kO [oR] EY:=rq [⟨6,[3,4,5],[],[9,10,11,12,13,14,15,16,17,18,19,20,21,22,23,24,25,26,27,28,29,30,31,32,33,34,35,36,37,38,39,40,41]⟩] [] [.tmp 2] Tryz.func86 (by kernel_rfl)
def Eh:Tr:=
(.call j8 [(.x oa6)] false [oQ] (.lift (.br (.it (.cm .eql oaq oad) oaf (.cm .eql oaq obw)) (.hsl 98 0 [] (.ret (.x ob7))) (.hall 133 [(17,oae)] (.hsto oa0 [oae,oae,oae,oae,oae,oae,oae,oae,oae,oae,oae,oae,oae,oae,oae,oae,oae] (.loop [oL] [oad] (.lift (.br ock (.need oax (.need ocl (.need ock (.load oea [oL] (.join [] (.br (.cm .gtr oap oad) (.need ocd (.need (.cm .lss oap ofh) (.load (.ia 1 oa0 oap) [oM] (.need ocd (.need (.cm .lss oap ofh) (.hsto (.ia 1 oa0 oap) [(.ar .add .u64 (.var (.int .u64) 5) obz)] (.cont 3 []))))))) (.cont 3 [])) (.cont 1 [obi])))))) (.hall 133 [(17,oae)] (.hsto oe3 [oae,oae,oae,oae,oae,oae,oae,oae,oae,oae,oae,oae,oae,oae,oae,oae,oae] (.loop [oL] [oao] (.lift (.br (.cm .leq oat ofi) (.need (.cm .leq oad ocm) (.need (.cm .lss ocm ofh) (.load (.ia 1 oe3 ocm) [oM] (.need (.cm .leq oad ocm) (.need (.cm .lss ocm ofh) (.load (.ia 1 oa0 ocm) [oM] (.need oed (.need (.cm .lss oat ofh) (.hsto (.ia 1 oe3 oat) [(.ar .shl .u64 (.ar .add .u64 (.var (.int .u64) 6) (.var (.int .u64) 7)) obz)] (.cont 3 [oa3])))))))))) (.mks 98 2 16 [(.int .i64 0),(.int .u64 0)] oan oan (.loop [oL] [oad] (.lift (.br ofb (.need oax (.need ocv (.need ofb (.load (.ix 1 oa6 oa9) [oL] (.join [] (.br (.cm .gtr obr oad) (.need oec (.need (.cm .lss obr ofh) (.load (.ia 1 oe3 obr) [oM] (.call Dj [(.x (.var (.int .u64) 9)),(.x obr)] false [(false,[oM])] (.need od8 (.need ocv (.need (.cm .lss oa9 oe0) (.hsto (.ix 2 ocf oa9) [obr,(.var
(.int .u64) 10)] (.need oec (.need (.cm .lss obr ofh) (.load (.ia 1 oe3 obr) [oM] (.need oec (.need (.cm .lss obr ofh) (.hsto (.ia 1 oe3 obr) [(.ar .add .u64 (.var (.int .u64) 11) obz)] (.cont 7 []))))))))))))))) (.cont 7 [])) (.cont 5 [oeg])))))) (.ret (.x ocf)))))))))))))))))))
theorem I9:Rn oPP qO [oR] Eh:=rq [⟨6,[24],[],[6,25,26,27,28,29,30,31,32,33,34,35]⟩,⟨13,[8],[],[37,38,39,40,41,42,43,44,45,46,47,48,49,50,51,52]⟩,⟨18,[58],[],[10,11,59,60,61,62,63,64,65,66,67,68,69,70,71,72,73,74,75,76,77,78,79,80]⟩] [4,7] [.tmp 2] Tryz.func52 (by kernel_rfl)
def Ei:Tr:=
(.hsl 98 0 [] (.call kO [(.x oa6)] false [oQ] (.lift (.br (.it ob2 oaf (.cm .eql oaz obw)) (.ret (.x ob0)) (.loop [.slice,oL] [ob0,oad] (.lift (.br oc7 (.hsl 98 1 [oad,oae] (.app 98 2 16 [(.int .i64 0),(.int .u64 0)] oau obm (.cont 1 [ocf,oa4]))) (.loop [oL,oL] [oad,oao] (.lift (.br (.cm .leq obp ofi) (.loop [oL,oL] [(.ar .mul .i64 obw oat),oad] (.lift (.br (.cm .lss obr oan) (.need oax (.need oec (.need (.cm .lss obr oan) (.load (.ix 1 oa6 obr) [oL] (.join [oL] (.br (.cm .eql oca obp) (.call Dk [(.x oa9),(.x obp)] false [(false,[oM])] (.need obx (.need oec (.need (.cm .lss obr ocb) (.hsto (.ix 2 oau obr) [obp,(.var (.int .u64) 10)] (.cont 7 [oeg])))))) (.cont 7 [oa9])) (.cont 5 [oci,(.ar .add .i64 obr oao)])))))) (.cont 3 [oa9,obb])))) (.ret (.x oau))))))))))))
theorem IA:Rn oPP jo [oR] Ei:=rq [⟨6,[3,5],[],[19,20,21,22,23,24,25,26,27,28]⟩,⟨15,[6,8],[],[35,36,37,38,39,40,41,42,43,44,45,46,47,48,49,50,51,52,53,54,55,56]⟩,⟨11,[6,7],[],[8,29,30,31,32,33,34,35,36,37,38,39,40,41,42,43,44,45,46,47,48,49,50,51,52,53,54,55,56]⟩] [] [.tmp 2] Tryz.func61 (by kernel_rfl)
def Hx:Tr:=
(.loop [oM,oL] [oae,oad] (.lift (.br (.cm .lss oas oaq) (.need (.cm .geq oas oad) (.need (.cm .geq (.ar .sub .i64 (.ar .sub .i64 oaq oao) oas) oad) (.cont 0 [(.ar .or .u64 (.var (.int .u64) 2) (.ar .shl .u64 (.ar .and .u64 (.ar .shr .u64 (.var (.int .u64) 0) oas) obz) (.ar .sub .i64 (.ar .sub .i64 oaq oao) oas))),obi]))) (.ret (.x (.var (.int .u64) 2))))))
theorem Ms:Rn oPP Dj [(false,[oM]),oQ] Hx:=rq [⟨3,[5,8],[],[6,9,10,11,12,13,14,15,16,17,18,19,20,21,22]⟩] [] [.tmp 4] Tryz.func84 (by kernel_rfl)
def Hy:Tr:=
(.loop [oL,oM,oL] [oco,oae,oad] (.lift (.br ofa (.cont 0 [(.ar .quo .i64 oaz obw),(.ar .add .u64 (.ar .mul .u64 oeu (.var (.int .u64) 3)) (.cv .u64 (.ar .rem .i64 oaz obw))),oa4]) (.ret (.x (.var (.int .u64) 3))))))
theorem Mt:Rn oPP Dk [oQ,oQ] Hy:=rq [⟨3,[0,5,6],[],[7,8,9,10,11,12,13,14,15,16,17,18,19]⟩] [] [.tmp 4] Tryz.func87 (by kernel_rfl)
def Hz:Tr:=
(.loop [oL] [oad] (.lift (.br (.cm .leq oas oaz) (.call xz [(.x oas)] false [oQ] (.need (.cm .neq (.cv .u64 oap) oae) (.loop [.bool,oL] [oac,oad] (.lift (.br oe9 (.need oax (.need ofc (.need oe9 (.load (.ix 2 oa6 obp) [oL,oM] (.lift (.br (.it (.it (.cm .eql oa9 oas) (.cm .gtr oa9 oad) oac) (.cm .eql (.var (.int .u64) 8) (.ar .rem .u64 (.var (.int .u64) 1) (.cv .u64 oap))) oac) (.ret (.agg [oao,obp,oas])) (.join [.bool,.bool] (.br (.nt (oB 5)) (.br (.cm .gtr oa9 oas) (.call xz [(.x oas)] false [oQ] (.need (.cm .neq (.cv .u64 oca) oae) (.cont 5 [ocr,ocr]))) (.cont 5 [oac,oac])) (.cont 5 [oaf,oaf])) (.cont 2 [(oB 9),obb])))))))) (.lift (.br (.nt (oB 5)) (.ret (.agg [oad,oad,oad])) (.cont 0 [obi])))))))) (.ret (.agg [obw,oad,oad])))))
theorem Mu:Rn oPP Dm [oR,(false,[oM]),oQ] Hz:=rq [⟨7,[9,10],[],[11,22,23,24,25,26,27,28,29,30,31,32,33,34,35,36,37,38,39,40,41,42,43,44,45,46,47,48,49,50,51,52,53,54,55,56,57,58,59,60,61,62,63,64,65,66]⟩,⟨2,[7],[],[8,9,10,11,12,13,14,15,16,17,18,19,20,21,22,23,24,25,26,27,28,29,30,31,32,33,34,35,36,37,38,39,40,41,42,43,44,45,46,47,48,49,50,51,52,53,54,55,56,57,58,59,60,61,62,63,64,65,66,67,68,69]⟩] [] [.cell 6 200] Tryz.func130 (by kernel_rfl)
def FW:Tr:=
(.mks 218 2 16 [(.int .i64 0),(.int .i64 0)] oao oao (.hall 216 [(1,ob0)] (.call qO [(.x oa6)] false [oR] (.loop [oL] [oad] (.lift (.br (.cm .lss oap ocb) (.need obx (.need ocd (.need (.cm .lss oap ocb) (.load (.ix 2 oau oap) [oL,oM] (.lift (.br ofe (.cont 0 [oa4]) (.loop [oL,oL] [oad,oad] (.lift (.br (.cm .lss obr oat) (.load oc3 [.slice] (.need (.nt (.nn odj)) (.need ocv (.need (.cm .lss oa9 (.ln odj)) (.load (.fld (.ix 2 odj oa9) 1) [oL] (.join [] (.br (.cm .eql oci oad) (.load oc3 [.slice] (.load oc3 [.slice] (.need (.nt (.nn od3)) (.need ocv (.need (.cm .lss oa9 (.ln od3)) (.hsto (.fld (.ix 2 od3 oa9) 1) [(.ln oer)] (.load oc3 [.slice] (.hsl 218 2 [oad,oad,oad,oad] (.app 218 2 16 [(.int .i64 0),(.int .i64 0)] (oS 13) odb (.hsto oc3 [ob4] (.cont 5 []))))))))))) (.cont 5 [])) (.load oc3 [.slice] (.need (.nt (.nn od3)) (.need ocv (.need (.cm .lss oa9 (.ln od3)) (.load (.fld (.ix 2 od3 oa9) 1) [oL] (.need (.cm .geq obr oad) (.cont 3 [(.ar .add .i64 ocw (.cv .i64 (.ar .and .u64 (.ar .shr .u64 (.var (.int .u64) 6) obr) obz))),(.ar .add .i64 obr oao)]))))))))))))) (.load oc3 [.slice] (.need (.nt (.nn odj)) (.need ocv (.need (.cm .lss oa9 (.ln odj)) (.hsto (.fld (.ix 2 odj oa9) 0) [oa4] (.cont 0 [oa4]))))))))))))))) (.ret (.x oa0))))))))
theorem KV:Rn oPP jq [oR] FW:=rq [⟨8,[6,24],[],[7,25,26,27,28,29,30,31,32,33,34,35,36,37,38,39,40,41,42,43,44,45,46,47,48,49,50,51,52,53,54,55,56,57,58,59,60,61,62,63,64,65,66,67,68,69,70,71,72,73,74]⟩,⟨3,[14],[],[4,5,6,7,15,16,17,18,19,20,21,22,23,24,25,26,27,28,29,30,31,32,33,34,35,36,37,38,39,40,41,42,43,44,45,46,47,48,49,50,51,52,53,54,55,56,57,58,59,60,61,62,63,64,65,66,67,68,69,70,71,72,73,74,75,76,77,78,79,80,81,82,83,84]⟩] [10] [.tmp 2] Tryz.func140 (by kernel_rfl)
def AA:Tr:=
(.need oag (.load obc [.slice] (.need (.nt (.nn ob7)) (.need (.cm .leq oad oad) (.need (.cm .lss oad odw) (.load (.ix 2 ob7 oad) [oL,oL] (.loop [oL,oL,oL] [oad,oas,oap] (.lift (.br (.cm .gtr obp oad) (.ret (.agg [oao,(.ar .sub .i64 obp oao),oat])) (.lift (.br (.cm .eql oa9 oad) (.ret (.agg [oad,oad,oad])) (.callv (.var (.fnv) 1) [] false [oQ] (.lift (.br (.cm .lss obr oad) (.ret (.agg [obw,oad,oad])) (.need oag (.load obc [.slice] (.need (.nt (.nn odj)) (.need (.cm .leq oad (.ar .add .i64 oa9 obr)) (.need (.cm .lss (.ar .add .i64 oa9 obr) (.ln odj)) (.load (.ix 2 odj (.ar .add .i64 oa9 obr)) [oL,oL] (.cont 0 [oa3,oci,och])))))))))))))))))))))
theorem Ej:Rn oPP qd [(false,[.ptr]),(false,[.fnv])] AA:=rq [⟨4,[6],[(1,0),(1,1)],[7,14,15,16,17,18,19,20,21,22,23,24,25,26,27,28,29,30,31,32,33,34,35,36,37,38,39,40,41,42]⟩] [] [.cell 4 200] Tryz.func148 (by kernel_rfl)
def FX:Tr:=
(.hall 106 [(1,oad)] (.hsto ocu [oao] (.call F4 [(.x (oF 0)),(.x (.ifc 110 ocu))] false [(false,[.bool])] (.load (.fld ocu 0) [oL] (.ret (.x oas))))))
theorem KW:Rn oPP An [(false,[.iface])] FX:=rq [] [3] [.tmp 2] Tryz.func32 (by kernel_rfl)
def Kq:Tr:=
(.lift (.br (.nn (oF 0)) (.ret (.x oac)) (.lift (.br (.nn (oF 1)) (.need oac (.ret .junk)) (.call xm [(.x (oF 1))] false [(true,[.ptr,.ptr,oM])] (.call j9 [(.agg [(oP 2),(oP 3),(.var (.int .u64) 4)])] false [(false,[.iface])] (.join [oO,.bool,.bool,.bool] (.calli (oF 5) "Kind" [] false [(false,[oO])] (.br (.nt obl) (.call j3 [(.agg [(oP 2),(oP 3),(.var (.int .u64) 4)])] false [(false,[.bool])] (.cont 2 [(.var (.int .u8) 6),obl,obl,(oB 7)])) (.cont 2 [(.var (.int .u8) 6),obl,obl,oaf]))) (.lift (.br (oB 9) (.need oac (.ret .junk)) (.calli (oF 5) "Elem" [] false [(false,[.iface])] (.join [oO,.bool,.bool,.bool] (.calli (oF 10) "Kind" [] false [(false,[oO])] (.br obk (.load (.glob 3) [.iface] (.calli (oF 10) "Implements" [(.x (oF 12))] false [(false,[.bool])] (.cont 3 [(.var (.int .u8) 11),obk,obk,(.nt (oB 13))]))) (.cont 3 [(.var (.int .u8) 11),obk,obk,oac]))) (.lift (.br odd (.need oac (.ret .junk)) (.call F5 [(.x (oF 0)),(.x (oF 1)),(.agg [(oP 2),(oP 3),(.var (.int .u64) 4)]),(.x (oF 10))] false [(false,[.bool])] (.ret (.x (oB 15)))))))))))))))))
theorem PS:Rn oPP F4 [(false,[.iface]),(false,[.iface])] Kq:=rq [] [] [.tmp 4] Tryz.func69 (by kernel_rfl)
def Kr:Tr:=
(.loop [] [] (.call qh [(.x (oF 0))] false [(false,[.iface])] (.calli (oF 6) "AssignableTo" [(.x (oF 5))] false [(false,[.bool])] (.lift (.br (oB 7) (.call jB [(.agg [(oP 2),(oP 3),(.var (.int .u64) 4)])] false [(true,[.ptr,.ptr,oM])] (.call xm [(.x (oF 0))] false [(true,[.ptr,.ptr,oM])] (.call jM [(.agg [(oP 8),(oP 9),(.var (.int .u64) 10)]),(.agg [(oP 11),(oP 12),(.var (.int .u64) 13)])] true [] (.ret (.x oaf))))) (.need oac (.ret .junk)))))))
theorem PT:Rn oPP F5 [(false,[.iface]),(false,[.iface]),(true,[.ptr,.ptr,oM]),(false,[.iface])] Kr:=rq [⟨1,[],[],[9,10,11,12,14,15,16,17,18,19,20,21,22,23,24,25,26,27,28,29,30,31,32,33,34,35,36,37,38,39,40,41,42,43,44,45,46,47,48,49,50,51,52,53,54,55,56,57,58,59,60,61]⟩] [] [.tmp 8] Tryz.func94 (by kernel_rfl)
def AZ:Tr:=
(.need oag (.load oct [oL] (.need oag (.hsto oct [ocg] (.ret (.tup []))))))
theorem EM:Rn oPP xS [(false,[.ptr])] AZ:=rq [] [] [] Tryz.func68 (by kernel_rfl)
def AB:Tr:=
(.need oag (.load obc [.slice] (.need oag (.load oct [oL] (.lift (.br (.cm .gtr oaq (.ar .sub .i64 (.ar .mul .i64 oaw odw) oas)) (.load (.glob 4) [oL] (.ret (.tup [(false,[oad]),(false,[(.ifc 106 (.ag (.cs oap .nl)))])]))) (.loop [oL,oL] [oad,oad] (.lift (.br (.cm .lss oat oaq) (.call ji [(.x ob9)] false [oQ] (.need (.cm .geq oat oad) (.cont 1 [(.ar .or .i64 oap (.ar .shl .i64 obp oat)),oa3]))) (.ret (.tup [(false,[oap]),(false,[obe])])))))))))))
theorem Ek:Rn oPP zP [(false,[.ptr]),oQ] AB:=rq [⟨5,[6,24],[],[7,25,26,27,28,29,30,31,32,33]⟩] [] [.tmp 4,.tmp 5] Tryz.func71 (by kernel_rfl)
def BR:Tr:=
(.need oag (.load oct [oL] (.need oag (.load obc [.slice] (.lift (.br (.cm .geq oaq (.ar .mul .i64 oaw odw)) (.ret (.x (.cst (.int .i64 (-1))))) (.need oag (.load oct [oL] (.need oag (.load oct [oL] (.need oag (.hsto oct [oa4] (.need oag (.load obc [.slice] (.need (.nt (.nn obm)) (.need (.cm .leq oad obv) (.need (.cm .lss obv (.ln obm)) (.load (.ix 1 obm obv) [oO] (.need (.cm .geq odf oad) (.ret (.x (.cv .i64 (.ar .and .u8 (.ar .shr .u8 (.var (.int .u8) 6) odf) (.cst (.int .u8 1)))))))))))))))))))))))))
theorem FY:Rn oPP ji [(false,[.ptr])] BR:=rq [] [] [.tmp 2] Tryz.func99 (by kernel_rfl)
def mlE:Tr:=
(.need (.cm .leq oad oak) (.need (.cm .leq oak (.cp ob4)) (.need (.cm .leq oad oak) (.need (.cm .leq oak oak) (.need (.cm .leq oad oak) (.need (.cm .leq oak (.ln ob4)) (.call j8 [(.x (.sub 1 ob4 .nl oak oak))] false [oQ] (.call j8 [(.x (.sub 1 ob4 oak .nl .nl))] false [oQ] (.need (.nt (.nn (.sub 1 ob4 .nl oak oak))) (.need odn (.need (.cm .lss obu (.ln (.sub 1 ob4 .nl oak oak))) (.load (.ix 1 (.sub 1 ob4 .nl oak oak) obu) [oL] (.lift (.br (.it (.it (.cm .eql oex oad) oaf (.it (.cm .neq od6 oao) (.cm .neq od6 ocq) oac)) oaf (.it (.it (.cm .neq odc oao) (.cm .neq odc ocq) oac) (.cm .neq odc (oK 5)) oac)) (.load (.glob 0) [oL] (.hsto oa0 [(.ifc 106 (.ag (.cs ocx .nl)))] (.load oa0 [.iface] (.ret (.tup [(false,[oai]),(false,[oai]),(false,[(oF 20)])]))))) (.hsto oa0 [obe] (.load oa0 [.iface] (.ret (.tup [(false,[(.sub 1 ob4 .nl oak oak)]),(false,[(.sub 1 ob4 oak .nl .nl)]),(false,[(oF 19)])]))))))))))))))))))
def mlR:Tr:=
(.load oa0 [.iface] (.lift (.br (.nt (.nn (oF 21))) (.load oa0 [.iface] (.hsto oa0 [(oF 22)] (.load oa0 [.iface] (.ret (.tup [(false,[oai]),(false,[oai]),(false,[(oF 23)])]))))) (.lift (.br (.cm .gtr odq (.ar .sub .i64 (.ar .add .i64 oak oa3) (.ln ob4))) (.load (.glob 0) [oL] (.hsto oa0 [(.ifc 106 (.ag (.cs (oI 22) .nl)))] (.load oa0 [.iface] (.ret (.tup [(false,[oai]),(false,[oai]),(false,[(oF 23)])]))))) (.loop [.slice,oL] [ob4,oad] (.lift (.br (.cm .lss odp odq) (.hsl 2 1 [ocx] (.app 2 1 8 [(.int .i64 0)] oeq (oS 24) (.cont 9 [(oS 25),(.ar .add .i64 odp oao)]))) (.cont 4 [oeq])))))))))
def mlB:Tr:=
(.load ocu [.ptr] (.call xg [(.x (oP 16)),(.x (oP 13))] true [oQ,(false,[.iface])] (.lift (.br (.nt (.nn (oF 18))) (.hsto oa0 [(oF 18)] (.load oa0 [.iface] (.ret (.tup [(false,[oai]),(false,[oai]),(false,[(oF 19)])])))) (.join [oL,oL] (.br (.cm .eql odc odu) (.lift (.br (.cm .eql (.ln ob4) oad) (.load (.glob 0) [oL] (.hsto oa0 [(.ifc 106 (.ag (.cs ocx .nl)))] (.load oa0 [.iface] (.ret (.tup [(false,[oai]),(false,[oai]),(false,[(oF 20)])]))))) (.need (.nt (.nn ob4)) (.need (.cm .leq oad odi) (.need (.cm .lss odi (.ln ob4)) (.load (.ix 1 ob4 odi) [oL] (.call yI [(.x obw),(.x oa0),(.x ocu)] false [oQ] (.still [((.ix 1 ob4 odi),ocx)] (.cont 7 [ocx,(.ar .add .i64 odq oev)]))))))))) (.join [oL,oL] (.br (.cm .eql odc ofh) (.call yI [(.x oev),(.x oa0),(.x ocu)] false [oQ] (.cont 8 [oad,(.ar .add .i64 ocx oev)])) (.join [oL,oL] (.br (.cm .eql odc (oK 18)) (.call yI [(.x (oK 7)),(.x oa0),(.x ocu)] false [oQ] (.cont 9 [oad,(.ar .add .i64 ocx (oK 11))])) (.cont 9 [odc,oao])) (.cont 8 [ocx,odq]))) (.cont 7 [ocx,odq]))) mlR)))))
def mlC:Tr:=
(.load oa0 [.iface] (.lift (.br (.nt (.nn (oF 11))) (.load oa0 [.iface] (.hsto oa0 [(oF 12)] (.load oa0 [.iface] (.ret (.tup [(false,[oai]),(false,[oai]),(false,[(oF 13)])]))))) (.call j8 [(.x odj)] false [oQ] (.lift (.br (.cm .neq ocw oao) (.load (.glob 0) [oL] (.hsto oa0 [(.ifc 106 (.ag (.cs ocs .nl)))] (.load oa0 [.iface] (.ret (.tup [(false,[oai]),(false,[oai]),(false,[(oF 14)])]))))) (.call jq [(.x odj)] false [(false,[.ptr])] (.hsl 2 0 [] (.loop [.slice] [odb] (.lift (.br (.cm .lss (.ln ob4) (.ar .add .i64 oak oa3)) mlB mlE)))))))))))
def ml3:Tr:=
(.call yI [(.x ocq),(.x oa0),(.x ocu)] false [oQ] (.hall 221 [(19,oad)] (.hsto oeh [odu,ofh,(oK 18),oad,oaw,(oK 7),(oK 9),(oK 6),(oK 10),(oK 5),(oK 11),ocq,(oK 12),oev,(oK 13),obw,(oK 14),oao,ofi] (.mks 2 1 8 [(.int .i64 0)] (oK 19) (oK 19) (.loop [oL] [oad] (.lift (.br (.cm .lss oci (.ar .add .i64 oa9 ocq)) (.need (.cm .leq oad oci) (.need (.cm .lss oci (oK 19)) (.load (.ia 1 oeh oci) [oL] (.call yI [(.x oev),(.x oa0),(.x ocu)] false [oQ] (.still [((.ia 1 oeh oci),och)] (.need (.nt (.nn odj)) (.need (.cm .leq oad och) (.need (.cm .lss och (.ln odj)) (.hsto (.ix 1 odj och) [ocw] (.cont 0 [(.ar .add .i64 oci oao)])))))))))) mlC)))))))
def ml2:Tr:=
(.join [] (.br (.it (.nn (oF 6)) (.cm .gtr oa3 (oK 30)) oac) (.load (.glob 0) [oL] (.hsto oa0 [(.ifc 106 (.ag (.cs oa9 .nl)))] (.cont 0 []))) (.cont 0 [])) ml3)
def ml1:Tr:=
(.join [] (.br (.it (.nn (oF 4)) (.cm .gtr oak (oK 286)) oac) (.load (.glob 0) [oL] (.hsto oa0 [(.ifc 106 (.ag (.cs oat .nl)))] (.cont 0 []))) (.cont 0 [])) (.call yI [(.x (oK 5)),(.x oa0),(.x ocu)] false [oQ] (.load oa0 [.iface] ml2)))
def B0:Tr:=
(.hall 143 [(1,ob9)] (.hall 61 [(1,obe)] (.call yI [(.x (oK 5)),(.x oa0),(.x ocu)] false [oQ] (.load oa0 [.iface] ml1))))
theorem F6:Rn oPP qQ [(false,[.ptr])] B0:=rq [⟨12,[49],[],[11,50,51,52,53,54,55,56,57,58,59]⟩,⟨42,[13,128],[],[129,130,131,132,133,134]⟩,⟨22,[13],[],[14,15,16,17,71,72,73,74,75,76,77,78,79,80,81,82,83,84,85,86,87,88,89,90,91,92,93,94,95,96,97,98,99,100,101,102,103,104,105,106,107,108,109,110,111,112,113,114,115,116,117,118,119,120,121,122,123,124,125,126,127,128,129,130,131,132,133,134]⟩] [1,4,9] [.tmp 2,.tmp 3,.cell 4 61] Tryz.func142 (by kernel_rfl)
def AD:Tr:=
(.call qd [(.x (oP 1)),(.x (.fn 99 (.cs ob9 .nl) .nl))] false [(true,[oL,oL,oL])] (.lift (.br ob2 (.load (.glob 0) [oL] (.ret (.tup [(false,[oad]),(false,[(.ifc 106 (.ag (.cs oat .nl)))])]))) (.lift (.br (.cm .eql oaz obw) (.load (.glob 4) [oL] (.ret (.tup [(false,[oad]),(false,[(.ifc 106 (.ag (.cs oat .nl)))])]))) (.ret (.tup [(false,[oas]),(false,[obe])])))))))
theorem El:Rn oPP xg [(false,[.ptr]),(false,[.ptr])] AD:=rq [] [] [.tmp 4,.tmp 5] Tryz.func143 (by kernel_rfl)
def AE:Tr:=
(.load ocu [.iface] (.join [oL] (.br (.nn (oF 3)) (.load oa0 [.ptr] (.call zP [(.x (oP 4)),(.x oco)] true [oQ,(false,[.iface])] (.hsto ocu [(oF 6)] (.cont 0 [oat])))) (.cont 0 [oad])) (.ret (.x oap))))
theorem En:Rn oPP yI [oQ,(false,[.addr]),(false,[.addr])] AE:=rq [] [] [.tmp 4] Tryz.func147 (by kernel_rfl)
def FZ:Tr:=
(.call Dh [(.x ob0),(.x oco)] false [oR] (.ret (.agg [oau,ocb,oco,oaz])))
theorem KX:Rn oPP Ao [oQ,oR,oQ] FZ:=rq [] [] [.cell 6 73] Tryz.func37 (by kernel_rfl)
def bl4:Tr:=
(.join [.slice,oL,oL,.slice,oL,oL,oL] (.br (.cm .eql ofj oad) (.call AT [(.agg [(oS 38),(oI 39),ofj]),(.agg [(oS 30),(oI 31),(oI 32),(oI 33)]),(.x (oS 36)),(.x (oS 37))] true [(true,[.slice,oL,oL]),(true,[.slice,oL,oL,oL])] (.cont 3 [(oS 41),(oI 42),(oI 43),(oS 44),(oI 45),(oI 46),(oI 47)])) (.cont 3 [(oS 38),(oI 39),ofj,(oS 30),(oI 31),(oI 32),(oI 33)])) (.cont 2 [(oS 41),(oI 42),(oI 43),(oS 44),(oI 45),(oI 46),(oI 47)]))
def bl2:Tr:=
(.join [.slice,oL,oL,.slice,oL,oL,oL] (.br (.it (.cm .eql oew oad) (.cm .gtr odp oad) oac) (.call Ap [] true [oR,oR] (.join [.slice,.slice,.slice,oL,oL] (.br (.cm .eql odp obw) (.call Di [(.agg [(oS 27),(oI 28),oew])] true [(true,[.slice,oL,oL]),oR,oR] (.cont 3 [(oS 39),(oS 40),(oS 36),ofk,(oI 38)])) (.cont 3 [od1,(oS 35),(oS 27),(oI 28),oew])) bl4)) (.cont 2 [(oS 27),(oI 28),oew,(oS 30),(oI 31),(oI 32),(oI 33)])) (.cont 0 [ocx,odp,od1,(oI 35),(oI 36),(oS 37),(oI 38),(oI 39),ofj]))
def EZ:Tr:=
(.loop [oL,oL,.slice,oL,oL,.slice,oL,oL,oL] [oad,oad,oa6,oaq,oaz,oau,oap,oat,obp] (.lift (.br (.it (.cm .eql och oad) (.cm .eql oa9 oad) oac) (.call zQ [(.agg [odj,oci,och]),(.x oao)] true [(true,[.slice,oL,oL]),oQ] (.call zQ [(.agg [oei,odc,oex]),(.x obw)] true [(true,[.slice,oL,oL]),oQ] (.call yu [(.agg [(oS 20),oek,(oI 22)]),(.x (.cm .eql odp oev))] false [(true,[.slice,oL,oL])] (.join [.slice,oL,oL,.slice,oL,oL,oL] (.br (.it (.cm .eql oej oad) (.cm .eql odp oad) oac) (.call Bv [(.agg [(oS 24),(oI 25),oej]),(.agg [oer,ocs,oes,odv])] true [(true,[.slice,oL,oL]),(true,[.slice,oL,oL,oL])] (.cont 2 [(oS 27),(oI 28),oew,(oS 30),(oI 31),(oI 32),(oI 33)])) (.cont 2 [(oS 24),(oI 25),oej,oer,ocs,oes,odv])) bl2)))) (.ret (.tup [(true,[odj,oci,och]),(true,[oer,ocs,oes,odv])])))))
theorem JZ:Rn oPP wL [(true,[.slice,oL,oL]),(true,[.slice,oL,oL,oL])] EZ:=rq [⟨3,[6,7],[(0,0),(0,1),(0,2),(1,0),(1,1),(1,2),(1,3)],[8,9,10,11,12,13,14,15,16,17,18,19,20,21,22,23,24,25,26,27,28,29,30,31,32,33,34,35,36,37,38,39,40,41,42,43,44,45,46,47,48,49,50,51,52,53,54,55,56,57,58,59,60,61,62,63,64,65,66,67,68,69,70,71,72,73]⟩] [] [.cell 4 67,.cell 5 73] Tryz.func38 (by kernel_rfl)
def IB:Tr:=
(.hsl 5 0 [] (.need ofd (.need (.cm .leq oaq oan) (.app 5 1 1 [(.int .u8 0)] obo (.sub 1 oa6 oaq .nl .nl) (.ret (.x obm))))))
theorem NP:Rn oPP Br [(true,[.slice,oL,oL,oL])] IB:=rq [] [] [.tmp 2] Tryz.func39 (by kernel_rfl)
def Fa:Tr:=
(.call zQ [(.agg [oa6,(.it ob2 ocg oaq),oaz]),(.x odu)] true [(true,[.slice,oL,oL]),oQ] (.call zQ [(.agg [odo,obr,oca]),(.x odu)] true [(true,[.slice,oL,oL]),oQ] (.call yu [(.agg [od3,ocw,ocs]),(.x (.cm .neq oes (.ar .sub .i64 (oK 65535) oci)))] false [(true,[.slice,oL,oL])] (.loop [oL,oL,.slice,oL,oL,.slice,oL,oL,oL] [oad,oad,ob4,od6,odc,oau,oap,oat,obp] (.lift (.br (.it (.cm .lss ocx oci) (.cm .eql (oI 22) oad) oac) (.call zQ [(.agg [(oS 20),oek,(oI 22)]),(.x oaw)] true [(true,[.slice,oL,oL]),oQ] (.hsl 5 1 [(.cv .u8 (oI 30))] (.call wA [(.agg [(oS 27),(oI 28),oew]),(.agg [(oS 23),(oI 24),(oI 25),oej]),(.x (oS 31))] true [(true,[.slice,oL,oL]),(true,[.slice,oL,oL,oL])] (.cont 0 [(oI 30),(.ar .add .i64 ocx oao),(oS 32),(oI 33),(oI 34),(oS 35),(oI 36),ofk,(oI 38)])))) (.ret (.tup [(true,[(oS 20),oek,(oI 22)]),(true,[(oS 23),(oI 24),(oI 25),oej])]))))))))
theorem Ka:Rn oPP Bv [(true,[.slice,oL,oL]),(true,[.slice,oL,oL,oL])] Fa:=rq [⟨10,[8,9],[(0,0),(0,1),(0,2),(1,0),(1,1),(1,2),(1,3)],[35,36,37,38,39,40,41,42,43,44,45,46,47,48,49,50,51,52,53,54,55,56,57,58]⟩] [] [.cell 4 67,.cell 5 73] Tryz.func73 (by kernel_rfl)
def Eo:Tr:=
(.call jo [(.x odo)] false [oR] (.call jo [(.x odk)] false [oR] (.loop [.slice,oL,oL,.slice,oL,oL,oL] [oa6,oaq,oaz,oau,oap,oat,obp] (.lift (.br (.cm .eql ocs oad) (.call Af [(.agg [od3,ocw,ocs]),(.x odj)] true [(true,[.slice,oL,oL]),oQ] (.lift (.br (.it (.cm .neq odq oad) oaf (.cm .eql oek obu)) (.ret (.tup [(true,[odz,ocx,odq]),(true,[odb,odv,od6,odc])])) (.join [.slice,oL,oL,.slice,oL,oL,oL] (.br (.cm .lss oek obu) (.hsl 5 1 [(.cv .u8 oek)] (.call wA [(.agg [odz,ocx,odq]),(.agg [odb,odv,od6,odc]),(.x oeq)] true [(true,[.slice,oL,oL]),(true,[.slice,oL,oL,oL])] (.cont 3 [(oS 23),(oI 24),(oI 25),(oS 26),od5,(oI 28),oew]))) (.join [.slice,oL,oL,.slice,oL,oL,oL] (.br (.cm .gtr oek (oK 285)) (.call yu [(.agg [odz,ocx,odq]),(.x oaf)] false [(true,[.slice,oL,oL])] (.cont 4 [oeq,odp,(oI 24),odb,odv,od6,odc])) (.call Dl [(.agg [odz,ocx,odq]),(.agg [odb,odv,od6,odc]),(.x oek),(.x od4)] true [(true,[.slice,oL,oL]),(true,[.slice,oL,oL,oL])] (.cont 4 [oeq,odp,(oI 24),(oS 25),oej,od5,(oI 28)]))) (.cont 3 [oeq,odp,(oI 24),(oS 25),oej,od5,(oI 28)]))) (.cont 0 [oeq,odp,(oI 24),(oS 25),oej,od5,(oI 28)]))))) (.ret (.tup [(true,[od3,ocw,ocs]),(true,[odb,odv,od6,odc])])))))))
theorem IC:Rn oPP AT [(true,[.slice,oL,oL]),(true,[.slice,oL,oL,oL]),oR,oR] Eo:=rq [⟨3,[],[(0,0),(0,1),(0,2),(1,0),(1,1),(1,2),(1,3)],[12,17,18,19,20,21,22,23,24,25,26,27,28,29,30,31,32,33,34,35,36,37,38,39,40,41,42,43,44,45,46,47,48,49,50,51,52,53,54,55,56,57]⟩] [] [.cell 8 67,.cell 9 73] Tryz.func75 (by kernel_rfl)
def HA:Tr:=
(.join [.slice] (.br (.cm .eql oc5 oad) (.app 5 1 1 [(.int .u8 0)] oau odo (.cont 0 [odk])) (.cont 0 [oau])) (.ret (.tup [(true,[oa6,oaq,oc5]),(true,[odk,oap,oat,obp])])))
theorem Mv:Rn oPP wA [(true,[.slice,oL,oL]),(true,[.slice,oL,oL,oL]),oR] HA:=rq [] [] [.cell 6 67,.cell 7 73] Tryz.func100 (by kernel_rfl)
end Go.Proofs.YtpodkihpnjhamaaGreatDoor
end
