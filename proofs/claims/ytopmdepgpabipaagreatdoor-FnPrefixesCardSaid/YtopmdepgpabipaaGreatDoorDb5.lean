import Derived.Test.YtopmdepgpabipaaGreatDoorChecked
import Derived.Test.YtopmdepgpabipaaGreatDoorDb4
set_option maxRecDepth 100000
set_option maxHeartbeats 8000000
set_option linter.unusedVariables false
set_option linter.unusedSimpArgs false
set_option linter.unusedSectionVars false
namespace Go.Proofs.YtopmdepgpabipaaGreatDoor
open Go Go.Eng Go.IntWalk
section
def ES:Tr:=
(.call Cl [(.x obk),(.x oe1)] false [oR] (.ret (.agg [oaw,ocv,oe1,oax])))
theorem Je:Rn oPP wK [oQ,oR,oQ] ES:=rq [] [] [.cell 6 55] Tryz.func24 (by kernel_rfl)
def GX:Tr:=
(.hsl 5 0 [] (.need (.cm .leq oac oat) (.need (.cm .leq oat oap) (.app 5 1 1 [(.int .u8 0)] oa2 (.sub 1 oa8 oat .nl .nl) (.ret (.x oa1))))))
theorem LP:Rn oPP qX [(true,[.slice,oL,oL,oL])] GX:=rq [] [] [.tmp 2] Tryz.func25 (by kernel_rfl)
def DT:Tr:=
(.call yo [(.agg [oa8,(.it ob0 ob9 oat),oax]),(.x oe4)] true [(true,[.slice,oL,oL]),oQ] (.call yo [(.agg [od1,obm,oco]),(.x oe4)] true [(true,[.slice,oL,oL]),oQ] (.call y6 [(.agg [obr,ocs,oay]),(.x (.cm .neq ocr (.ar .sub .i64 (oK 65535) oct)))] false [(true,[.slice,oL,oL])] (.loop [oL,oL,.slice,oL,oL,.slice,oL,oL,oL] [oac,oac,ob2,oe6,oc8,oaw,oar,oal,oa0] (.lift (.br (.it (.cm .lss ocn oct) (.cm .eql oc7 oac) oab) (.call yo [(.agg [ocq,odv,oc7]),(.x oc2)] true [(true,[.slice,oL,oL]),oQ] (.hsl 5 1 [(.cv .u8 (oI 30))] (.call qB [(.agg [oey,(oI 28),oet]),(.agg [(oS 23),oeg,oe5,oef]),(.x (oS 31))] true [(true,[.slice,oL,oL]),(true,[.slice,oL,oL,oL])] (.cont 0 [(oI 30),(.ar .add .i64 ocn oaq),(oS 32),(oI 33),(oI 34),(oS 35),(oI 36),(oI 37),(oI 38)])))) (.ret (.tup [(true,[ocq,odv,oc7]),(true,[(oS 23),oeg,oe5,oef])]))))))))
theorem Iy:Rn oPP AN [(true,[.slice,oL,oL]),(true,[.slice,oL,oL,oL])] DT:=rq [⟨10,[8,9],[(0,0),(0,1),(0,2),(1,0),(1,1),(1,2),(1,3)],[35,36,37,38,39,40,41,42,43,44,45,46,47,48,49,50,51,52,53,54,55,56,57,58]⟩] [] [.cell 4 53,.cell 5 55] Tryz.func47 (by kernel_rfl)
def Dm:Tr:=
(.call xo [(.x od1)] false [oR] (.call xo [(.x oed)] false [oR] (.loop [.slice,oL,oL,.slice,oL,oL,oL] [oa8,oat,oax,oaw,oar,oal,oa0] (.lift (.br od0 (.call qZ [(.agg [obr,ocs,oay]),(.x ocg)] true [(true,[.slice,oL,oL]),oQ] (.lift (.br (.it (.cm .neq ocd oac) oaf (.cm .eql odv oce)) (.ret (.tup [(true,[(oS 18),ocn,ocd]),(true,[odk,odg,oe6,oc8])])) (.join [.slice,oL,oL,.slice,oL,oL,oL] (.br (.cm .lss odv oce) (.hsl 5 1 [(.cv .u8 odv)] (.call qB [(.agg [(oS 18),ocn,ocd]),(.agg [odk,odg,oe6,oc8]),(.x (oS 22))] true [(true,[.slice,oL,oL]),(true,[.slice,oL,oL,oL])] (.cont 3 [(oS 23),oeg,oe5,(oS 26),(oI 27),(oI 28),oet]))) (.join [.slice,oL,oL,.slice,oL,oL,oL] (.br (.cm .gtr odv (oK 285)) (.call y6 [(.agg [(oS 18),ocn,ocd]),(.x oaf)] false [(true,[.slice,oL,oL])] (.cont 4 [(oS 22),od3,oeg,odk,odg,oe6,oc8])) (.call Cm [(.agg [(oS 18),ocn,ocd]),(.agg [odk,odg,oe6,oc8]),(.x odv),(.x (oS 10))] true [(true,[.slice,oL,oL]),(true,[.slice,oL,oL,oL])] (.cont 4 [(oS 22),od3,oeg,(oS 25),oef,(oI 27),(oI 28)]))) (.cont 3 [(oS 22),od3,oeg,(oS 25),oef,(oI 27),(oI 28)]))) (.cont 0 [(oS 22),od3,oeg,(oS 25),oef,(oI 27),(oI 28)]))))) (.ret (.tup [(true,[obr,ocs,oay]),(true,[odk,odg,oe6,oc8])])))))))
theorem GY:Rn oPP Ap [(true,[.slice,oL,oL]),(true,[.slice,oL,oL,oL]),oR,oR] Dm:=rq [⟨3,[],[(0,0),(0,1),(0,2),(1,0),(1,1),(1,2),(1,3)],[12,17,18,19,20,21,22,23,24,25,26,27,28,29,30,31,32,33,34,35,36,37,38,39,40,41,42,43,44,45,46,47,48,49,50,51,52,53,54,55,56,57]⟩] [] [.cell 8 53,.cell 9 55] Tryz.func50 (by kernel_rfl)
def Gg:Tr:=
(.join [.slice] (.br (.cm .eql oda oac) (.app 5 1 1 [(.int .u8 0)] oaw od1 (.cont 0 [oed])) (.cont 0 [oaw])) (.ret (.tup [(true,[oa8,oat,oda]),(true,[oed,oar,oal,oa0])])))
theorem Kh:Rn oPP qB [(true,[.slice,oL,oL]),(true,[.slice,oL,oL,oL]),oR] Gg:=rq [] [] [.cell 6 53,.cell 7 55] Tryz.func73 (by kernel_rfl)
def Gh:Tr:=
(.call qK [(.x oaz)] true [oQ,oQ] (.call yo [(.agg [oa8,oat,oax]),(.x oct)] true [(true,[.slice,oL,oL]),oQ] (.call qZ [(.agg [obr,ocs,oay]),(.x oed)] true [(true,[.slice,oL,oL]),oQ] (.call y6 [(.agg [ob2,oe6,oc8]),(.x (.cm .gtr od4 (oK 29)))] false [(true,[.slice,oL,oL])] (.lift (.br (.cm .neq odv oac) (.ret (.tup [(true,[(oS 19),ocd,odv]),(true,[oaw,oar,oal,oa0])])) (.call Af [(.x od4)] true [oQ,oQ] (.call yo [(.agg [(oS 19),ocd,odv]),(.x od3)] true [(true,[.slice,oL,oL]),oQ] (.call y6 [(.agg [ofl,oe5,oef]),(.x (.it (.cm .gtr oa5 ocv) oaf (.cm .gtr oa5 oal)))] false [(true,[.slice,oL,oL])] (.lift (.br (.cm .neq (oI 30) oac) (.ret (.tup [(true,[(oS 28),oet,(oI 30)]),(true,[oaw,oar,oal,oa0])])) (.hsl 5 0 [] (.loop [.slice,oL] [(oS 31),oac] (.lift (.br (.cm .lss (oI 33) (.ar .add .i64 oco ocr)) (.need (.cm .neq oa5 oac) (.need odm (.need (.cm .leq oac ob8) (.need (.cm .lss ob8 ocv) (.load (.ix 1 oaw ob8) [oO] (.hsl 5 1 [(.var (.int .u8) 34)] (.app 5 1 1 [(.int .u8 0)] (oS 32) (oS 35) (.cont 2 [(oS 36),(.ar .add .i64 (oI 33) oaq)])))))))) (.call qB [(.agg [(oS 28),oet,(oI 30)]),(.agg [oaw,oar,oal,oa0]),(.x (oS 32))] true [(true,[.slice,oL,oL]),(true,[.slice,oL,oL,oL])] (.ret (.tup [(true,[oee,(oI 35),(oI 36)]),(true,[(oS 37),(oI 38),(oI 39),(oI 40)])]))))))))))))))))))
theorem Ki:Rn oPP Cm [(true,[.slice,oL,oL]),(true,[.slice,oL,oL,oL]),oQ,oR] Gh:=rq [⟨18,[16,17],[],[18,81,82,83,84,85,86,87,88,89,90,91,92,93,94,95,96,97,98,99,100,101,102]⟩] [] [.cell 8 53,.cell 9 55] Tryz.func80 (by kernel_rfl)
def DU:Tr:=
(.lift (.br (.cm .eql oe1 (oK 285)) (.ret (.tup [(false,[(oK 258)]),(false,[oac])])) (.loop [oL,oL,oL] [oc0,oac,(oK 257)] (.lift (.br (.cm .leq oas oe1) (.join [oL] (.br (.cm .gtr oas (oK 257)) (.call yD [(.x oax)] false [oQ] (.cont 3 [(.ar .add .i64 oat oar)])) (.cont 3 [oat])) (.cont 1 [oar,(.it (.cm .geq oas (oK 265)) (.ar .quo .i64 (.ar .sub .i64 oas (oK 261)) oc6) oac),obq])) (.ret (.tup [(false,[oat]),(false,[oax])])))))))
theorem Iz:Rn oPP qK [oQ] DU:=rq [⟨6,[4,5,6],[],[9,10,11,12,13,14,15,16,17,18,19,20,21,22,23,24]⟩] [] [.tmp 2,.tmp 3] Tryz.func88 (by kernel_rfl)
def Gi:Tr:=
(.lift (.br (.cm .lss oe1 oc6) (.ret (.tup [(false,[(.ar .add .i64 oe1 oaq)]),(false,[oac])])) (.call yD [(.x obo)] false [oQ] (.ret (.tup [(false,[(.ar .add .i64 (.ar .mul .i64 (.ar .add .i64 occ (.ar .rem .i64 oe1 occ)) oat) oaq)]),(false,[obo])])))))
theorem Kj:Rn oPP Af [oQ] Gi:=rq [] [] [.tmp 2,.tmp 3] Tryz.func89 (by kernel_rfl)
def ET:Tr:=
(.hsl 5 0 [] (.loop [.slice,oL] [obk,oac] (.lift (.br ock (.join [.slice] (.br (.cm .eql odq oac) (.hsl 5 1 [(.cst (.int .u8 0))] (.app 5 1 1 [(.int .u8 0)] obw oa2 (.cont 2 [oa1]))) (.cont 2 [obw])) (.need odn (.need (.cm .leq oac obp) (.need (.cm .lss obp oev) (.load (.ix 1 oa2 obp) [oO] (.need oa3 (.need odf (.need ock (.load oeh [oO] (.need (.cm .geq (.cv .u64 odq) oad) (.need odn (.need (.cm .leq oac obp) (.need (.cm .lss obp oev) (.hsto (.ix 1 oa2 obp) [(.ar .add .u8 (.var (.int .u8) 5) (.ar .shl .u8 (.var (.int .u8) 6) (.cv .u64 odq)))] (.cont 0 [oa2,obq]))))))))))))))) (.ret (.x obw))))))
theorem Jf:Rn oPP wL [oR] ET:=rq [⟨3,[3,4],[],[6,7,8,9,10,11,12,13,14,15,16,17,18,19,20,21,22,23,24,25,26,27,28,29,30,31,32,33,34,35]⟩] [] [.tmp 2] Tryz.func38 (by kernel_rfl)
def EU:Tr:=
(.hsl 2 0 [] (.hsl 2 0 [] (.loop [.slice,oL] [oa8,oac] (.lift (.br (.cm .lss oas (oK 288)) (.hsl 2 1 [(.it (.it (.cm .geq oas oce) (.cm .lss oas (oK 280)) oab) ofb (.it (.it (.cm .geq oas (oK 144)) (.cm .lss oas oce) oab) (oK 9) oc2))] (.app 2 1 8 [(.int .i64 0)] obw oa2 (.cont 0 [oa1,obq]))) (.loop [.slice,oL] [obk,oac] (.lift (.br (.cm .lss oal (oK 32)) (.hsl 2 1 [oeu] (.app 2 1 8 [(.int .i64 0)] oa2 obv (.cont 2 [od1,oa7]))) (.ret (.tup [(false,[obw]),(false,[oa2])]))))))))))
theorem Jg:Rn oPP wM [] EU:=rq [⟨4,[2,4],[],[5,9,10,11,12,13,14,15,16,17,18,19,20,21,22,23,24,25,26,27,28]⟩,⟨13,[3,6],[],[29,30,31,32,33,34,35]⟩] [] [.tmp 0,.tmp 1] Tryz.func48 (by kernel_rfl)
def GZ:Tr:=
(.loop [.slice,oM,oL] [oa8,(.var (.int .u64) 1),oac] (.lift (.br (.cm .lss oal oax) (.hsl 5 1 [(.cv .u8 (.ar .rem .u64 (.var (.int .u64) 4) oe2))] (.app 5 1 1 [(.int .u8 0)] oaw obv (.cont 0 [od1,(.ar .quo .u64 (.var (.int .u64) 4) oe2),oa7]))) (.ret (.x oaw)))))
theorem LQ:Rn oPP yi [oR,(false,[oM]),oQ] GZ:=rq [⟨2,[0,1,7],[],[8,9,10,11,12,13,14,15,16,17,18,19,20]⟩] [] [.tmp 6] Tryz.func57 (by kernel_rfl)
def qh:Tr:=
(.join [.slice,.slice,.slice,.slice] (.both (.mks 2 1 8 [(.int .i64 0)] (oK 288) (oK 288) (.mks 2 1 8 [(.int .i64 0)] (oK 32) (oK 32) (.cont 0 [oa8,obk,oa8,obk]))) (.mks 2 1 8 [(.int .i64 0)] (oK 32) (oK 32) (.mks 2 1 8 [(.int .i64 0)] (oK 288) (oK 288) (.cont 0 [obk,oa8,obk,oa8])))) (.loop [oL] [oac] (.lift (.br odd (.join [] (.br (.it (.cm .lss oar (oK 144)) oaf (.cm .geq oar (oK 280))) (.need oa3 (.need obg (.need odd (.hsto (.ix 1 oa8 oar) [oc2] (.cont 2 []))))) (.join [] (.br (.cm .lss oar oce) (.need oa3 (.need obg (.need odd (.hsto (.ix 1 oa8 oar) [(oK 9)] (.cont 3 []))))) (.need oa3 (.need obg (.need odd (.hsto (.ix 1 oa8 oar) [ofb] (.cont 3 [])))))) (.cont 2 []))) (.cont 0 [obd])) (.loop [oL] [oac] (.lift (.br (.cm .lss oal oao) (.need ocu (.need odw (.need (.cm .lss oal oao) (.hsto (.ix 1 obk oal) [oeu] (.cont 2 [oa7]))))) (.ret (.tup [(false,[oa8]),(false,[obk])])))))))))
theorem Ha:Rn oPP Aq [] qh:=rq [⟨3,[10],[],[4,11,12,13,14,15,16,17,18,19,20,21,22,23,24,25,26,27,28,29,30,31,32]⟩,⟨12,[35],[],[5,36,37,38,39,40,41]⟩] [] [.tmp 0,.tmp 1] Tryz.func64 (by kernel_rfl)
def Gj:Tr:=
(.hall 78 [(1,oe1),(32768,(.cst (.int .u8 0))),(2,oac)] (.call jO [(.x obn),(.x obk)] true [] (.ret (.x obn))))
theorem Kk:Rn oPP Ae [oQ,oR] Gj:=rq [] [8] [.tmp 4] Tryz.func19 (by kernel_rfl)
def Dn:Tr:=
(.need oae (.load oby [oL] (.need (.cm .leq oac obz) (.need (.cm .leq obz oao) (.loop [oL] [oac] (.lift (.br (.cm .lss oas (.ln (.sub 1 obk obz .nl .nl))) (.need (.nt (.nn (.sub 1 obk obz .nl .nl))) (.need odf (.need (.cm .lss oas (.ln (.sub 1 obk obz .nl .nl))) (.load (.ix 1 (.sub 1 obk obz .nl .nl) oas) [oO] (.need oae (.load (.fld oah 32769) [oL] (.need oae (.need odw (.need (.cm .lss oal oa4) (.hsto (.ia 1 ocw oal) [(.var (.int .u8) 4)] (.need oae (.load (.fld oah 32769) [oL] (.need oae (.load oby [oL] (.need (.cm .neq oaz oac) (.need oae (.hsto (.fld oah 32769) [(.ar .rem .i64 obe oaz)] (.need oae (.load (.fld oah 32770) [oL] (.need oae (.load oby [oL] (.need oae (.hsto (.fld oah 32770) [(.mn ods oco)] (.cont 0 [obq])))))))))))))))))))))))) (.ret (.tup [])))))))))
theorem Hb:Rn oPP jO [(false,[.ptr]),oR] Dn:=rq [⟨1,[17],[],[5,18,19,20,21,22,23,24,25,26,27,28,29,30,31,32,33,34,35,36,37,38,39,40,41,42,43,44,45,46,47,48,49,50,51,52,53,54,55,56]⟩] [] [] Tryz.func40 (by kernel_rfl)
def Gk:Tr:=
(.join [.slice] (.br (.cm .gtr oap oat) (.need (.cm .leq oac (.ar .sub .i64 oap oat)) (.need (.cm .leq (.ar .sub .i64 oap oat) oap) (.cont 0 [(.sub 1 oa8 (.ar .sub .i64 oap oat) .nl .nl)]))) (.cont 0 [oa8])) (.hsl 5 0 [] (.app 5 1 1 [(.int .u8 0)] oaw obw (.ret (.x oa2)))))
theorem Kl:Rn oPP Cl [oR,oQ] Gk:=rq [] [] [.tmp 4] Tryz.func51 (by kernel_rfl)
def Bm:Tr:=
(.hsl 5 0 [] (.loop [.slice,oL] [oaw,oac] (.lift (.br (.cm .lss oal oax) (.call wT [(.x oau),(.x oat)] false [(false,[oO])] (.hsl 5 1 [(.var (.int .u8) 6)] (.app 5 1 1 [(.int .u8 0)] oa2 od1 (.hsl 5 1 [(.var (.int .u8) 6)] (.call jO [(.x oau),(.x ocg)] true [] (.cont 0 [oed,oa7])))))) (.ret (.x oa2))))))
theorem EV:Rn oPP qE [(false,[.ptr]),oQ,oQ] Bm:=rq [⟨3,[7,11],[],[8,12,13,14,15,16,17,18,19,20,21,22,23,24]⟩] [] [.tmp 6] Tryz.func94 (by kernel_rfl)
def C0:Tr:=
(.need oae (.load (.fld oah 32769) [oL] (.need oae (.load oby [oL] (.need oae (.load oby [oL] (.need (.cm .neq oar oac) (.need oae (.need (.cm .leq oac ocm) (.need (.cm .lss ocm oa4) (.load (.ia 1 ocw ocm) [oO] (.ret (.x (.var (.int .u8) 5))))))))))))))
theorem Gx:Rn oPP wT [(false,[.ptr]),oQ] C0:=rq [] [] [.tmp 4] Tryz.func109 (by kernel_rfl)
def Bz:Tr:=
(.lift (.br od9 (.ret (.agg [ofb,oak,oac])) (.lift (.br ofm (.ret (.agg [oc0,oak,oac])) (.call Ae [(.x oat),(.x obw)] false [(false,[.ptr])] (.hall 46 [(1,oa8),(1,oac),(1,(oP 3)),(1,oak),(1,(oK 100000)),(1,oab),(2,(.cst .nilPtr))] (.call jR [(.x oea),(.x (.fn 21 (.cs oea .nl) .nl))] false [(false,[.iface])] (.lift (.br (.nt (.nn (oF 5))) (.load (.fld oea 3) [.slice] (.call wJ [(.x (oF 5))] false [oQ] (.still [((.fld oea 3),obv)] (.ret (.agg [oaz,obv,oac]))))) (.load (.fld oea 3) [.slice] (.load (.fld oea 1) [oL] (.ret (.agg [oaq,obv,oaz])))))))))))))
theorem Dp:Rn oPP jJ [oR,oQ,oR] Bz:=rq [] [25] [.cell 6 26] Tryz.func5 (by kernel_rfl)
def Bn:Tr:=
(.loop [.fnv] [(.var (.fnv) 1)] (.lift (.br (.nt (.nn (.var (.fnv) 2))) (.callv (.var (.fnv) 2) [] true [(false,[.fnv]),(false,[.iface])] (.lift (.br (.nt (.nn (oF 4))) (.ret (.x (oF 4))) (.cont 0 [(.var (.fnv) 3)])))) (.ret (.x obt)))))
theorem EW:Rn oPP jR [(false,[.ptr]),(false,[.fnv])] Bn:=rq [⟨1,[1],[],[5,6,7,8,9,10,11,12,13,14,15,16,17]⟩] [] [.tmp 4] Tryz.func20 (by kernel_rfl)
def A0:Tr:=
(.call yf [(.x oau),(.x oaq)] true [oQ,(false,[.iface])] (.lift (.br (.nt (.nn (oF 2))) (.ret (.tup [(false,[obu]),(false,[(oF 2)])])) (.need oae (.hsto (.fld oah 5) [(.cm .eql oat oaq)] (.call yf [(.x oau),(.x occ)] true [oQ,(false,[.iface])] (.lift (.br (.nt (.nn (oF 4))) (.ret (.tup [(false,[obu]),(false,[(oF 4)])])) (.lift (.br (.cm .eql oas oac) (.ret (.tup [(false,[(.fn 42 (.cs oau .nl) .nl)]),(false,[obt])])) (.lift (.br (.cm .eql oas oaq) (.ret (.tup [(false,[(.fn 43 (.cs oau .nl) .nl)]),(false,[obt])])) (.lift (.br (.cm .eql oas occ) (.ret (.tup [(false,[(.fn 44 (.cs oau .nl) .nl)]),(false,[obt])])) (.load (.glob 0) [oL] (.ret (.tup [(false,[obu]),(false,[(.ifc 85 (.ag (.cs oal .nl)))])])))))))))))))))))
theorem DI:Rn oPP yq [(false,[.ptr])] A0:=rq [] [] [.tmp 2,.tmp 3] Tryz.func21 (by kernel_rfl)
def Ab:Tr:=
(.call jj [(.x oau)] true [] (.call yf [(.x oau),(.x oe4)] true [oQ,(false,[.iface])] (.lift (.br (.nt (.nn (oF 2))) (.ret (.tup [(false,[obu]),(false,[(oF 2)])])) (.call yf [(.x oau),(.x oe4)] true [oQ,(false,[.iface])] (.lift (.br (.nt (.nn (oF 4))) (.ret (.tup [(false,[obu]),(false,[(oF 4)])])) (.lift (.br (.cm .neq oas (.ar .sub .i64 (oK 65535) oat)) (.load (.glob 0) [oL] (.ret (.tup [(false,[obu]),(false,[(.ifc 85 (.ag (.cs oal .nl)))])]))) (.loop [oL] [oac] (.lift (.br (.cm .lss oal oat) (.call yf [(.x oau),(.x oc2)] true [oQ,(false,[.iface])] (.lift (.br (.nt (.nn (oF 7))) (.ret (.tup [(false,[obu]),(false,[(oF 7)])])) (.hsl 5 1 [(.cv .u8 oa0)] (.call jB [(.x oau),(.x oed)] false [(false,[.iface])] (.lift (.br (.nt (.nn (oF 9))) (.ret (.tup [(false,[obu]),(false,[(oF 9)])])) (.cont 3 [oa7])))))))) (.ret (.tup [(false,[(.fn 63 (.cs oau .nl) .nl)]),(false,[obt])]))))))))))))))
theorem Dq:Rn oPP jd [(false,[.ptr])] Ab:=rq [⟨11,[35],[],[7,8,9,36,37,38,39,40,41,42,43,44,45,46,47,48,49,50,51,52,53]⟩] [] [.tmp 2,.tmp 3] Tryz.func42 (by kernel_rfl)
def A6:Tr:=
(.call Aq [] true [oR,oR] (.call xX [(.x obk)] false [(false,[.ptr])] (.call xX [(.x obw)] false [(false,[.ptr])] (.need oae (.hsto (.fld oah 6) [(oP 3)] (.need oae (.hsto (.fld oah 7) [(oP 4)] (.ret (.tup [(false,[(.fn 66 (.cs oau .nl) .nl)]),(false,[obt])])))))))))
theorem DJ:Rn oPP ji [(false,[.ptr])] A6:=rq [] [] [.tmp 2,.tmp 3] Tryz.func43 (by kernel_rfl)
def wO:Tr:=
(.call qg [(.x oau)] true [oR,oR,(false,[.iface])] (.lift (.br ofd (.ret (.tup [(false,[obu]),(false,[(oF 3)])])) (.call xX [(.x obk)] false [(false,[.ptr])] (.call xX [(.x obw)] false [(false,[.ptr])] (.need oae (.hsto (.fld oah 6) [(oP 4)] (.need oae (.hsto (.fld oah 7) [(oP 5)] (.ret (.tup [(false,[(.fn 66 (.cs oau .nl) .nl)]),(false,[obt])])))))))))))
theorem CI:Rn oPP xT [(false,[.ptr])] wO:=rq [] [] [.tmp 2,.tmp 3] Tryz.func44 (by kernel_rfl)
def AV:Tr:=
(.need oae (.load ofe [oL] (.lift (.br (.cm .gtr oao oax) (.load (.glob 5) [oL] (.ret (.x (.ifc 85 (.ag (.cs oas .nl)))))) (.need oae (.load ofe [oL] (.need oae (.hsto ofe [(.ar .sub .i64 oas oao)] (.need oae (.load (.fld oah 3) [.slice] (.app 5 1 1 [(.int .u8 0)] oa2 obk (.need oae (.hsto (.fld oah 3) [oa1] (.need oae (.load oew [.ptr] (.call jO [(.x (oP 6)),(.x obk)] true [] (.ret (.x obt))))))))))))))))))
theorem E0:Rn oPP jB [(false,[.ptr]),oR] AV:=rq [] [] [.tmp 4] Tryz.func62 (by kernel_rfl)
def Ac:Tr:=
(.need oae (.load (.fld oah 5) [.bool] (.lift (.br (oB 1) (.ret (.tup [(false,[obu]),(false,[obt])])) (.ret (.tup [(false,[(.fn 21 (.cs oau .nl) .nl)]),(false,[obt])]))))))
theorem Dr:Rn oPP x8 [(false,[.ptr])] Ac:=rq [] [] [.tmp 2,.tmp 3] Tryz.func63 (by kernel_rfl)
def wQ:Tr:=
(.need oae (.load (.fld oah 6) [.ptr] (.call yY [(.x oau),(.x ofa)] true [oQ,(false,[.iface])] (.lift (.br ofd (.ret (.tup [(false,[obu]),(false,[(oF 3)])])) (.lift (.br (.cm .lss oax oce) (.hsl 5 1 [(.cv .u8 oax)] (.call jB [(.x oau),(.x oa2)] false [(false,[.iface])] (.ret (.tup [(false,[(.fn 66 (.cs oau .nl) .nl)]),(false,[(oF 5)])])))) (.lift (.br (.cm .eql oax oce) (.ret (.tup [(false,[(.fn 63 (.cs oau .nl) .nl)]),(false,[obt])])) (.lift (.br (.cm .gtr oax (oK 285)) (.load (.glob 0) [oL] (.ret (.tup [(false,[obu]),(false,[(.ifc 85 (.ag (.cs oar .nl)))])]))) (.call AS [(.x oax)] true [oQ,oQ] (.call yf [(.x oau),(.x oal)] true [oQ,(false,[.iface])] (.lift (.br (.nt (.nn (oF 7))) (.ret (.tup [(false,[obu]),(false,[(oF 7)])])) (.need oae (.load (.fld oah 7) [.ptr] (.call yY [(.x oau),(.x (oP 8))] true [oQ,(false,[.iface])] (.lift (.br (.nt (.nn (oF 10))) (.ret (.tup [(false,[obu]),(false,[(oF 10)])])) (.lift (.br (.cm .gtr oco (oK 29)) (.load (.glob 0) [oL] (.ret (.tup [(false,[obu]),(false,[(.ifc 85 (.ag (.cs ocj .nl)))])]))) (.call Cp [(.x oco)] true [oQ,oQ] (.call yf [(.x oau),(.x ocs)] true [oQ,(false,[.iface])] (.lift (.br (.nt (.nn (oF 14))) (.ret (.tup [(false,[obu]),(false,[(oF 14)])])) (.need oae (.load oew [.ptr] (.need (.nt (.nn (oP 15))) (.load (.fld (.nz (oP 15)) 32770) [oL] (.lift (.br (.cm .gtr (.ar
.add .i64 ocj oay) oe6) (.load (.glob 0) [oL] (.ret (.tup [(false,[obu]),(false,[(.ifc 85 (.ag (.cs oc8 .nl)))])]))) (.need oae (.load ofe [oL] (.lift (.br (.cm .gtr (.ar .add .i64 oar oa0) oc8) (.load (.glob 5) [oL] (.ret (.tup [(false,[obu]),(false,[(.ifc 85 (.ag (.cs od4 .nl)))])]))) (.need oae (.load ofe [oL] (.need oae (.hsto ofe [(.ar .sub .i64 od4 (.ar .add .i64 oar oa0))] (.need oae (.load (.fld oah 3) [.slice] (.need oae (.load oew [.ptr] (.call qE [(.x (oP 20)),(.x (.ar .add .i64 ocj oay)),(.x (.ar .add .i64 oar oa0))] false [oR] (.still [((.fld oah 3),(oS 19))] (.app 5 1 1 [(.int .u8 0)] (oS 19) oeq (.need oae (.hsto (.fld oah 3) [(oS 22)] (.ret (.tup [(false,[(.fn 66 (.cs oau .nl) .nl)]),(false,[obt])])))))))))))))))))))))))))))))))))))))))))))))))))))
theorem CJ:Rn oPP yG [(false,[.ptr])] wQ:=rq [] [] [.tmp 2,.tmp 3] Tryz.func66 (by kernel_rfl)
def DV:Tr:=
(.lift (.br (.cm .eql oe1 (oK 285)) (.ret (.tup [(false,[(oK 258)]),(false,[oac])])) (.lift (.br (.cm .lss oe1 (oK 265)) (.ret (.tup [(false,[(.ar .sub .i64 oe1 (oK 254))]),(false,[oac])])) (.need (.cm .geq ob6 oac) (.ret (.tup [(false,[(.ar .add .i64 (.ar .shl .i64 (.ar .add .i64 oc6 (.ar .rem .i64 (.ar .sub .i64 oe1 (oK 265)) oc6)) ob6) oc0)]),(false,[ob6])])))))))
theorem I0:Rn oPP AS [oQ] DV:=rq [] [] [.tmp 2,.tmp 3] Tryz.func92 (by kernel_rfl)
def Gl:Tr:=
(.lift (.br (.cm .lss oe1 oc6) (.ret (.tup [(false,[(.ar .add .i64 oe1 oaq)]),(false,[oac])])) (.need (.cm .geq obo oac) (.ret (.tup [(false,[(.ar .add .i64 (.ar .shl .i64 (.ar .add .i64 occ (.ar .rem .i64 oe1 occ)) obo) oaq)]),(false,[obo])])))))
theorem Km:Rn oPP Cp [oQ] Gl:=rq [] [] [.tmp 2,.tmp 3] Tryz.func93 (by kernel_rfl)
def BX:Tr:=
(.loop [oN,oN,oL] [och,odh,oac] (.lift (.br oca (.need ocu (.need obg (.need oca (.load od5 [oO] (.cont 0 [obb,(.ar .rem .u32 (.ar .add .u32 (oU 3) obb) oav),obd]))))) (.ret (.x oe9)))))
theorem FB:Rn oPP xG [(false,[oN]),oR] BX:=rq [⟨4,[5,6,7],[],[14,15,16,17,18,19,20,21,22,23,24,25,26,27,28,29,30,31]⟩] [] [.tmp 4] Tryz.func33 (by kernel_rfl)
def BY:Tr:=
(.lift (.br (.cm .leq oao oa4) (.call wc [(.x (oU 0)),(.x obk)] false [(false,[oN])] (.ret (.x (oU 2)))) (.call wc [(.x (oU 0)),(.x oak)] false [(false,[oN])] (.call yX [(.x obk),(.x (.fn 83 .nl .nl))] true [oR,oR] (.loop [oN,oL] [(oU 2),oac] (.lift (.br (.cm .lss oa0 ocv) (.need odm (.need ocz (.need (.cm .lss oa0 ocv) (.load (.ix 1 oaw oa0) [oN] (.need odn (.need ocz (.need ocx (.load oei [oL] (.call Ar [(.x (oU 5)),(.x (oU 7)),(.x obm)] false [(false,[oN])] (.cont 1 [(oU 9),obe])))))))))) (.ret (.x (oU 5))))))))))
theorem FC:Rn oPP kg [(false,[oN]),oR] BY:=rq [⟨6,[0,24],[],[7,8,25,26,27,28,29,30,31,32,33,34,35,36]⟩] [] [.tmp 4] Tryz.func54 (by kernel_rfl)
def Hc:Tr:=
(.loop [oN,oN,oL] [och,odh,oac] (.lift (.br oca (.need ocu (.need obg (.need oca (.load od5 [oO] (.cont 0 [obb,(.ar .rem .u32 (.ar .add .u32 (oU 3) obb) oav),obd]))))) (.ret (.x oe9)))))
theorem LR:Rn oPP wc [(false,[oN]),oR] Hc:=rq [⟨3,[5,6,17],[],[8,18,19,20,21,22,23,24,25,26,27,28,29,30]⟩] [] [.tmp 4] Tryz.func81 (by kernel_rfl)
def AW:Tr:=
(.call wc [(.x oc1),(.x oa8)] false [(false,[oN])] (.ret (.x (oU 1))))
theorem E1:Rn oPP AR [oR] AW:=rq [] [] [.tmp 2] Tryz.func83 (by kernel_rfl)
def Ds:Tr:=
(.lift (.br (.it (.cm .lss oax oac) oaf (.cm .gtr oax (oK 1000000))) (.ret (.x oaj)) (.ret (.x (.cv .u32 (.ar .add .i64 (.ar .mul .i64 (.ar .rem .i64 (.ar .add .i64 (.ar .rem .i64 (.ar .add .i64 (.ar .add .i64 (.cv .i64 odh) (.cv .i64 (.ar .rem .u32 (.ar .quo .u32 (oU 1) oba) oav))) (.ar .mul .i64 oax (.ar .sub .i64 (.cv .i64 och) oaq))) (oK 65521)) (oK 65521)) (oK 65521)) (oK 65536)) (.ar .rem .i64 (.ar .add .i64 (.ar .sub .i64 (.ar .add .i64 (.cv .i64 och) (.cv .i64 (.ar .rem .u32 (.ar .rem .u32 (oU 1) oba) oav))) oaq) (oK 65521)) (oK 65521))))))))
theorem Hd:Rn oPP Ar [(false,[oN]),(false,[oN]),oQ] Ds:=rq [] [] [.tmp 6] Tryz.func84 (by kernel_rfl)
def IH:Tr:=
(.lift (.br od9 (.ret (.agg [ofb,oak,oac])) (.hall 64 [(1,oa8),(1,oac),(1,(.cst .nilPtr)),(1,oak),(1,(oK 100000)),(1,oab),(2,(.cst .nilPtr))] (.call qY [(.x obn),(.x obk)] false [(false,[.iface])] (.lift (.br ofd (.load (.fld odc 3) [.slice] (.call wJ [(.x (oF 3))] false [oQ] (.still [((.fld odc 3),oa2)] (.ret (.agg [oal,oa2,oac]))))) (.load (.fld odc 3) [.slice] (.load (.fld odc 1) [oL] (.ret (.agg [oaq,oa2,(.ar .quo .i64 oal oc2)]))))))))))
theorem N9:Rn oPP BL [oR,oR] IH:=rq [] [14] [.cell 4 33] Tryz.func11 (by kernel_rfl)
def zsE:Tr:=
(.call wK [(.x oco),(.x oer),(.x (oK 100000))] false [(true,[.slice,oL,oL,oL])] (.call qI [(.agg [odu,ocr,odg]),(.agg [od2,oc8,od4,ocn])] true [(true,[.slice,oL,oL]),(true,[.slice,oL,oL,oL])] (.call qX [(.agg [(oS 23),oeg,oe5,oef])] false [oR] (.call Ao [(.agg [ocq,odv,oc7])] false [(true,[.slice,oL,oL])] (.call qA [(.agg [(oS 28),oet,(oI 30)]),(.x oc6)] true [(true,[.slice,oL,oL]),oQ] (.call xG [(.x oc1),(.x oey)] false [(false,[oN])] (.call Df [(.agg [(oS 31),(oI 32),(oI 33)]),(.x (.cm .neq (oI 34) (.cv .i64 (oU 35))))] false [(true,[.slice,oL,oL])] (.lift (.br (.cm .neq (oI 38) oac) (.ret (.agg [(oI 38),oey,oac])) (.ret (.agg [oaq,oey,(.ar .quo .i64 (oI 37) oc2)])))))))))))
def zsD:Tr:=
(.hsl 5 0 [] (.join [oL,.slice,.slice,oL,oL] (.br (.cm .eql (.ar .rem .i64 (.ar .quo .i64 oal (oK 32)) occ) oaq) (.call qA [(.agg [obv,oaz,obm]),(.x oc6)] true [(true,[.slice,oL,oL]),oQ] (.join [.bool] (.br od0 (.br (.nt (.cm .eql oao oac)) (.call xG [(.x oc1),(.x obk)] false [(false,[oN])] (.cont 2 [(.cm .neq (.cv .i64 (oU 15)) ocr)])) (.cont 2 [oaf])) (.cont 2 [oab])) (.cont 1 [ocr,obk,obr,ocs,(.it (oB 15) oeu oay)]))) (.cont 1 [oac,(oS 10),obv,oaz,obm])) zsE))
def II:Tr:=
(.lift (.br od9 (.ret (.agg [ofb,oak,oac])) (.call qA [(.agg [oa8,oac,oac]),(.x occ)] true [(true,[.slice,oL,oL]),oQ] (.call y6 [(.agg [obw,oas,oar]),(.x (.it (.it (.cm .neq (.ar .rem .i64 oal (oK 31)) oac) oaf (.cm .neq (.ar .rem .i64 (.ar .quo .i64 oal oce) oe4) oc2)) oaf (.cm .gtr oe0 ofb)))] false [(true,[.slice,oL,oL])] (.join [oL] (.br (.cm .leq oe0 ofb) (.call yD [(.x (.ar .add .i64 oe0 oc2))] false [oQ] (.cont 1 [oco])) (.cont 1 [oa4])) zsD)))))
theorem ND:Rn oPP BM [oR,oR] II:=rq [] [] [.cell 4 33] Tryz.func12 (by kernel_rfl)
def ziE:Tr:=
(.need (.cm .geq (.ar .add .u32 obx (.cst (.int .u32 8))) oaj) (.call Ae [(.x (.ar .shl .i64 oaq (.ar .add .u32 obx (.cst (.int .u32 8))))),(.x oa2)] false [(false,[.ptr])] (.need oae (.hsto (.fld oby 2) [(oP 5)] (.call qe [(.x oau)] false [(false,[.iface])] (.lift (.br (.nt (.nn (oF 6))) (.ret (.x (oF 6))) (.need oae (.call jj [(.x oby)] true [] (.call j1 [(.x oau),(.x oc6)] true [(false,[oN]),(false,[.iface])] (.lift (.br (.nt (.nn (oF 8))) (.ret (.x (oF 8))) (.need oae (.load (.fld oby 3) [.slice] (.call kg [(.x oc1),(.x ocg)] false [(false,[oN])] (.lift (.br (.cm .neq (oU 7) (oU 10)) (.load (.glob 2) [oL] (.ret (.x (.ifc 85 (.ag (.cs ocj .nl)))))) (.ret (.x obt)))))))))))))))))))
def BZ:Tr:=
(.call j1 [(.x oau),(.x occ)] true [(false,[oN]),(false,[.iface])] (.lift (.br ofd (.ret (.x (oF 3))) (.lift (.br (.it (.it (.cm .neq (.ar .rem .u32 (oU 2) (.cst (.int .u32 31))) oaj) oaf (.cm .neq (.ar .rem .u32 (.ar .shr .u32 (oU 2) (.cst (.int .u64 8))) (.cst (.int .u32 16))) (.cst (.int .u32 8)))) oaf (.cm .gtr obx (.cst (.int .u32 7)))) (.load (.glob 0) [oL] (.ret (.x (.ifc 85 (.ag (.cs oar .nl)))))) (.join [.slice] (.br (.cm .eql (.ar .and .u32 (oU 2) (.cst (.int .u32 32))) oaj) (.cont 2 [oak]) (.call j1 [(.x oau),(.x oc6)] true [(false,[oN]),(false,[.iface])] (.lift (.br (.nt (.nn (oF 5))) (.ret (.x (oF 5))) (.join [.bool] (.br (.nt (.cm .eql oao oac)) (.call kg [(.x oc1),(.x obk)] false [(false,[oN])] (.cont 4 [(.cm .neq (oU 6) (oU 4))])) (.cont 4 [oaf])) (.lift (.br (oB 6) (.load (.glob 1) [oL] (.ret (.x (.ifc 85 (.ag (.cs oaz .nl)))))) (.cont 2 [obk])))))))) ziE))))))
theorem FD:Rn oPP qY [(false,[.ptr]),oR] BZ:=rq [] [] [.tmp 4] Tryz.func29 (by kernel_rfl)
def Gm:Tr:=
(.loop [oL,oL,.slice,oL,oL] [oac,oac,oa8,oat,oax] (.lift (.br (.cm .lss oal oas) (.call yo [(.agg [obv,oaz,obm]),(.x oc2)] true [(true,[.slice,oL,oL]),oQ] (.cont 0 [(.ar .add .i64 (.ar .mul .i64 oce oar) ocs),oa7,ocg,oct,ocj])) (.ret (.tup [(true,[obv,oaz,obm]),(false,[oar])])))))
theorem Kn:Rn oPP qA [(true,[.slice,oL,oL]),oQ] Gm:=rq [⟨3,[6,7],[(0,0),(0,1),(0,2)],[8,9,10,11,12,13,14,15,16,17,18,19,20,21,22]⟩] [] [.cell 4 53,.tmp 5] Tryz.func30 (by kernel_rfl)
def Dt:Tr:=
(.ret (.agg [oa8,(.it ob0 ob9 oat),oax]))
theorem He:Rn oPP Ao [(true,[.slice,oL,oL])] Dt:=rq [] [] [.cell 2 53] Tryz.func34 (by kernel_rfl)
def Hf:Tr:=
(.ret (.agg [oa8,oat,(.it (.it ob0 (oB 3) oab) oc6 oax)]))
theorem LU:Rn oPP Df [(true,[.slice,oL,oL]),(false,[.bool])] Hf:=rq [] [] [.cell 4 53] Tryz.func35 (by kernel_rfl)
def CC:Tr:=
(.loop [oN,oL] [oaj,oac] (.lift (.br (.cm .lss oas oat) (.need oae (.call yf [(.x oby),(.x oc2)] true [oQ,(false,[.iface])] (.lift (.br (.nt (.nn (oF 5))) (.ret (.tup [(false,[oaj]),(false,[(oF 5)])])) (.cont 0 [(.ar .or .u32 (.ar .shl .u32 (oU 2) (.cst (.int .u64 8))) (.cv .u32 oar)),obq]))))) (.ret (.tup [(false,[(oU 2)]),(false,[obt])])))))
theorem Gy:Rn oPP j1 [(false,[.ptr]),oQ] CC:=rq [⟨3,[6,10],[],[7,8,11,12,13,14,15,16,17,18,19,20,21,22,23,24,25,26,27]⟩] [] [.tmp 4,.tmp 5] Tryz.func53 (by kernel_rfl)
def AX:Tr:=
(.need oae (.need oae (.call jR [(.x oby),(.x (.fn 21 (.cs oby .nl) .nl))] false [(false,[.iface])] (.ret (.x (oF 1))))))
theorem E6:Rn oPP qe [(false,[.ptr])] AX:=rq [] [] [.tmp 2] Tryz.func55 (by kernel_rfl)
def IJ:Tr:=
(.lift (.br (.cm .lss oat oap) (.need oa3 (.need (.cm .leq oac oat) (.need (.cm .lss oat oap) (.load (.ix 1 oa8 oat) [oO] (.ret (.x (.cv .i64 (.var (.int .u8) 2)))))))) (.ret (.x (.ar .rem .i64 (.ar .add .i64 (.ar .mul .i64 oat (oK 47)) (oK 13)) oce)))))
theorem NH:Rn oPP BK [oR,oQ] IJ:=rq [] [] [.tmp 4] Tryz.func7 (by kernel_rfl)
def Hh:Tr:=
(.loop [oL,oL] [(.ar .add .i64 (oK 54321) oap),oac] (.lift (.br (.cm .lss oax oap) (.need oa3 (.need (.cm .leq oac oax) (.need (.cm .lss oax oap) (.load (.ix 1 oa8 oax) [oO] (.cont 0 [(.ar .and .i64 (.ar .add .i64 (.ar .add .i64 (.ar .mul .i64 oat (oK 131)) (.cv .i64 (.var (.int .u8) 3))) ofb) (oK 1073741823)),oen]))))) (.hall 74 [(1,oa8),(1,oac),(1,oat)] (.ret (.x (oA 3)))))))
theorem LV:Rn oPP AM [oR] Hh:=rq [⟨3,[3,4],[],[8,9,10,11,12,13,14,15,16,17,18,19,20,21,22,23]⟩] [27] [.tmp 2] Tryz.func13 (by kernel_rfl)
def EX:Tr:=
(.lift (.br (.cm .leq oat oce) (.call jy [(.x oau)] false [oQ] (.need (.cm .neq oat oac) (.ret (.x (.ar .rem .i64 oax oat))))) (.call jy [(.x oau)] false [oQ] (.call jy [(.x oau)] false [oQ] (.call jy [(.x oau)] false [oQ] (.need (.cm .neq oat oac) (.ret (.x (.ar .rem .i64 (.ar .add .i64 (.ar .add .i64 (.ar .mul .i64 oax (oK 65536)) (.ar .mul .i64 oas oce)) oar) oat)))))))))
theorem Jh:Rn oPP zw [(false,[.ptr]),oQ] EX:=rq [] [] [.tmp 4] Tryz.func16 (by kernel_rfl)
def Gn:Tr:=
(.hsl 5 0 [] (.loop [.slice,oL] [obw,oac] (.lift (.br (.cm .lss oar oat) (.call jy [(.x oau)] false [oQ] (.hsl 5 1 [(.cv .u8 oal)] (.app 5 1 1 [(.int .u8 0)] oaw obv (.cont 0 [od1,obd])))) (.ret (.x oaw))))))
theorem Ko:Rn oPP jx [(false,[.ptr]),oQ] Gn:=rq [⟨3,[5,6],[],[7,9,10,11,12,13,14,15,16,17,18,19,20]⟩] [] [.tmp 4] Tryz.func36 (by kernel_rfl)
def Gp:Tr:=
(.need oae (.load oew [oL] (.need oae (.hsto oew [(.ar .add .i64 (.ar .mul .i64 oat (oK 6364136223846793005)) (oK 1442695040888963407))] (.need oae (.load oew [oL] (.need oae (.load oew [oL] (.need oae (.load ocw [oL] (.need oae (.load oby [.slice] (.join [oL] (.br (.cm .lss oar (.ln oa1)) (.need oae (.load oby [.slice] (.need oae (.load ocw [oL] (.need oc3 (.need ocb (.need ofh (.load (.ix 1 obv oaz) [oO] (.need oae (.load ocw [oL] (.need oae (.hsto ocw [oel] (.cont 0 [(.ar .and .i64 (.ar .add .i64 oci (.cv .i64 (.var (.int .u8) 8))) (oK 255))]))))))))))))) (.cont 0 [oci])) (.ret (.x oa0)))))))))))))))
theorem Kp:Rn oPP jy [(false,[.ptr])] Gp:=rq [] [] [.tmp 2] Tryz.func37 (by kernel_rfl)
def Gq:Tr:=
(.call zw [(.x oau),(.x oat)] false [oQ] (.call yw [(.x oau),(.x (oK 6))] false [(false,[.bool])] (.lift (.br (oB 3) (.call jx [(.x oau),(.x oax)] false [oR] (.ret (.x oa2))) (.hsl 5 0 [] (.loop [.slice,oL] [oa2,oac] (.lift (.br (.cm .lss oa0 oax) (.call zw [(.x oau),(.x oc0)] false [oQ] (.hsl 5 1 [(.cv .u8 (.ar .add .i64 (oK 97) oaz))] (.app 5 1 1 [(.int .u8 0)] oa1 oed (.cont 1 [ocg,obe])))) (.ret (.x oa1))))))))))
theorem Kq:Rn oPP qz [(false,[.ptr]),oQ] Gq:=rq [⟨6,[6,7],[],[8,18,19,20,21,22,23,24,25,26,27,28,29,30]⟩] [] [.tmp 4] Tryz.func14 (by kernel_rfl)
def Gr:Tr:=
(.call zw [(.x oau),(.x oat)] false [oQ] (.ret (.x ob0)))
theorem Kr:Rn oPP yw [(false,[.ptr]),oQ] Gr:=rq [] [] [.tmp 4] Tryz.func15 (by kernel_rfl)
def Gs:Tr:=
(.hsl 2 0 [] (.loop [.slice,oL] [oaw,oac] (.lift (.br (.it (.cm .lss oal oat) (.cm .lss oev oax) oab) (.call zw [(.x oau),(.x (.ar .sub .i64 oat oal))] false [oQ] (.join [.slice] (.br (.cm .lss oa0 (.ar .sub .i64 oax oev)) (.hsl 2 1 [oal] (.app 2 1 8 [(.int .i64 0)] oa2 od1 (.cont 2 [oed]))) (.cont 2 [oa2])) (.cont 0 [od1,oa7]))) (.ret (.x oa2))))))
theorem Ku:Rn oPP Cn [(false,[.ptr]),oQ,oQ] Gs:=rq [⟨3,[7,8],[],[10,11,12,13,14,15,16,17,18,19,20,21,22,23,24,25,26,27,28,29,30,31,32,33,34]⟩] [] [.tmp 6] Tryz.func85 (by kernel_rfl)
def VF:Tr:=
(.join [] (.br (.cm .gtr oc9 oaq) (.call AT [(.x oau),(.x oc9),(.x oas)] false [oR] (.loop [oL] [oac] (.lift (.br (.it (.cm .lss obm oc9) (.cm .lss obm (.ln od1)) oab) (.need (.nt (.nn obw)) (.need ode (.need (.cm .lss obm oc9) (.load (.ix 1 obw obm) [oL] (.need (.nt (.nn od1)) (.need ode (.need (.cm .lss obm (.ln od1)) (.load (.ix 1 od1 obm) [oL] (.need ob3 (.need (.cm .leq oac oco) (.need (.cm .lss oco (.ln oa1)) (.hsto (.ix 1 oa1 oco) [oct] (.cont 3 [ods]))))))))))))) (.cont 2 []))))) (.cont 2 [])) (.ret (.x oa1)))
def DW:Tr:=
(.hsl 2 0 [] (.loop [.slice,oL] [oa2,oac] (.lift (.br (.cm .lss oa0 oat) (.hsl 2 1 [oac] (.app 2 1 8 [(.int .i64 0)] oa1 od1 (.cont 0 [oed,obe]))) (.join [] (.br (.cm .eql oc9 oaq) (.need (.nt (.nn obw)) (.need odx (.need (.cm .lss oac oc9) (.load (.ix 1 obw oac) [oL] (.need ob3 (.need ocb (.need (.cm .lss oaz (.ln oa1)) (.hsto (.ix 1 oa1 oaz) [oaq] (.cont 2 []))))))))) (.cont 2 [])) VF)))))
theorem I1:Rn oPP kj [(false,[.ptr]),oQ,oR,oQ] DW:=rq [⟨3,[9,10],[],[14,15,16,17,18,19,20,21]⟩,⟨11,[12],[],[38,39,40,41,42,43,44,45,46,47,48,49,50,51,52,53,54,55,56,57,58,59]⟩] [] [.tmp 8] Tryz.func86 (by kernel_rfl)
end
end Go.Proofs.YtopmdepgpabipaaGreatDoor
