import Derived.Test.YtpodkihpnjhamaaGreatDoorChecked
import Derived.Test.YtpodkihpnjhamaaGreatDoorCb4
set_option maxRecDepth 100000
set_option maxHeartbeats 8000000
set_option linter.unusedVariables false
set_option linter.unusedSimpArgs false
set_option linter.unusedSectionVars false
namespace Go.Proofs.YtpodkihpnjhamaaGreatDoor
open Go Go.Eng Go.IntWalk
section
def gm4:Tr:=
(.need oag (.call zP [(.x obc),(.x ofg)] true [oQ,(false,[.iface])] (.lift (.br (.nt (.nn (oF 11))) (.load ocu [oL,oL,oL,oL,.slice,.slice,.slice,oL] (.ret (.tup [(true,[ocw,ocs,oes,odv,oei,od2,odz,ocx]),(false,[(oF 11)])]))) (.lift (.br (.cm .neq oci (.ln (.sub 1 ocf od9 .nl .nl))) (.load ocu [oL,oL,oL,oL,.slice,.slice,.slice,oL] (.load (.glob 2) [oL] (.ret (.tup [(true,[ocw,ocs,oes,odv,oei,od2,odz,ocx]),(false,[(.ifc 106 (.ag (.cs odq .nl)))])])))) (.hsto (.fld ocu 7) [oci] (.load ocu [oL,oL,oL,oL,.slice,.slice,.slice,oL] (.ret (.tup [(true,[ocw,ocs,oes,odv,oei,od2,odz,ocx]),(false,[obe])]))))))))))
def gm3:Tr:=
(.need oag (.load (.fld obc 3) [.slice] (.need (.cm .leq oad od9) (.need (.cm .leq od9 oe0) (.need oag (.call zP [(.x obc),(.x ofg)] true [oQ,(false,[.iface])] (.lift (.br (.nt (.nn (oF 8))) (.load ocu [oL,oL,oL,oL,.slice,.slice,.slice,oL] (.ret (.tup [(true,[oca,oci,och,ocw,(oS 13),odb,ob4,od6]),(false,[(oF 8)])]))) (.call jm [(.x oaa),(.x (.sub 1 ocf od9 .nl .nl))] false [(false,[oN])] (.lift (.br (.cm .neq (.cv .u32 oa9) (oU 9)) (.load ocu [oL,oL,oL,oL,.slice,.slice,.slice,oL] (.load (.glob 2) [oL] (.ret (.tup [(true,[oci,och,ocw,ocs,odb,ob4,oei,odc]),(false,[(.ifc 106 (.ag (.cs oex .nl)))])])))) gm4)))))))))))
def gm2:Tr:=
(.need oag (.load (.fld obc 3) [.slice] (.call jS [(.x ob9)] false [(false,[.iface])] (.lift (.br (.nt (.nn (oF 5))) (.load ocu [oL,oL,oL,oL,.slice,.slice,.slice,oL] (.ret (.tup [(true,[obp,oa9,obr,oca,od4,od3,oer,ocs]),(false,[(oF 5)])]))) (.need oag (.call xS [(.x obc)] true [] gm3)))))))
def gm1:Tr:=
(.call AL [(.x oa1),(.x oai)] false [(false,[.ptr])] (.need oag (.hsto (.fld obc 2) [(oP 3)] gm2)))
def BA:Tr:=
(.hall 28 [(4,oad),(3,oai),(1,oad)] (.hsto ocu [oad,oad,oad,oad,oai,oai,oai,oad] (.call Ae [(.x ob9),(.x ocu)] false [(false,[.iface])] (.lift (.br (.nt (.nn (oF 2))) (.load ocu [oL,oL,oL,oL,.slice,.slice,.slice,oL] (.ret (.tup [(true,[oas,oap,oat,obp,odo,odk,odj,oci]),(false,[(oF 2)])]))) gm1)))))
theorem FB:Rn oPP qL [(false,[.ptr])] BA:=rq [] [4] [.cell 2 28,.tmp 3] Tryz.func33 (by kernel_rfl)
def hq4:Tr:=
(.join [oL,.slice,oL,oL] (.br (.it (.cm .eql (.ar .rem .i64 (.ar .quo .i64 od5 obw) obw) oao) (.cm .eql (oI 54) oad) oac) (.need (.cm .leq oad ods) (.need (.cm .leq ods (.cp (oS 52))) (.need (.cm .leq oad ocz) (.need (.cm .leq ocz ods) (.call xw [(.x oaa),(.x (.sub 1 (oS 52) ocz ods .nl))] false [(false,[oN])] (.call zQ [(.agg [(oS 52),(oI 53),(oI 54)]),(.x odu)] true [(true,[.slice,oL,oL]),oQ] (.call qy [(.agg [(oS 57),(oI 58),(oI 59)]),(.x (.cm .neq (oI 60) (.cv .i64 (.ar .rem .u32 (oU 56) oa2))))] false [(true,[.slice,oL,oL])] (.cont 0 [(oI 60),(oS 61),(oI 62),(oI 63)])))))))) (.cont 0 [(oI 43),(oS 52),(oI 53),(oI 54)])) (.ret (.tup [(true,[(oS 57),(oI 58),(oI 59)]),(true,[od5,(oI 34),(oI 38),(oI 42),(oS 47),(oS 51),(oS 55),oad])])))
def hq3:Tr:=
(.join [.slice,oL,oL,.slice] (.br (.cm .eql (.ar .rem .i64 (.ar .quo .i64 od5 odu) obw) oao) (.hsl 5 0 [] (.call AM [(.agg [(oS 48),(oI 49),(oI 50)])] true [(true,[.slice,oL,oL]),oR] (.cont 0 [(oS 53),(oI 54),(oI 55),(oS 56)]))) (.cont 0 [(oS 48),(oI 49),(oI 50),oai])) hq4)
def hq2:Tr:=
(.join [.slice,oL,oL,.slice] (.br (.cm .eql (.ar .rem .i64 (.ar .quo .i64 od5 oaw) obw) oao) (.hsl 5 0 [] (.call AM [(.agg [(oS 44),(oI 45),(oI 46)])] true [(true,[.slice,oL,oL]),oR] (.cont 0 [(oS 49),(oI 50),(oI 51),(oS 52)]))) (.cont 0 [(oS 44),(oI 45),(oI 46),oai])) hq3)
def Fe:Tr:=
(.call zQ [(.agg [oa6,oaq,oaz]),(.x oaw)] true [(true,[.slice,oL,oL]),oQ] (.call yu [(.agg [oau,oap,oat]),(.x (.cm .neq obp (oK 31)))] false [(true,[.slice,oL,oL])] (.call zQ [(.agg [odo,obr,oca]),(.x oaw)] true [(true,[.slice,oL,oL]),oQ] (.call yu [(.agg [od4,och,ocw]),(.x (.cm .neq ocs (oK 139)))] false [(true,[.slice,oL,oL])] (.call zQ [(.agg [odb,odv,od6]),(.x oaw)] true [(true,[.slice,oL,oL]),oQ] (.call yu [(.agg [od2,oex,ocx]),(.x (.cm .neq odq oaw))] false [(true,[.slice,oL,oL])] (.call zQ [(.agg [(oS 21),(oI 22),odp]),(.x oaw)] true [(true,[.slice,oL,oL]),oQ] (.call yu [(.agg [(oS 24),(oI 25),oej]),(.x (.cm .gtr od5 (oK 31)))] false [(true,[.slice,oL,oL])] (.call zQ [(.agg [(oS 28),oew,(oI 30)]),(.x ofg)] true [(true,[.slice,oL,oL]),oQ] (.call zQ [(.agg [(oS 31),(oI 32),(oI 33)]),(.x oaw)] true [(true,[.slice,oL,oL]),oQ] (.call zQ [(.agg [(oS 35),(oI 36),ofk]),(.x oaw)] true [(true,[.slice,oL,oL]),oQ] (.join [oL,.slice,oL,oL,.slice] (.br (.cm .eql (.ar .rem .i64 (.ar .quo .i64 od5 ocq) obw) oao) (.call zQ [(.agg [(oS 39),ofj,(oI 41)]),(.x odu)] true [(true,[.slice,oL,oL]),oQ] (.hsl 5 0 [] (.call Ch [(.agg [(oS 43),(oI 44),(oI 45)]),(.x (oI 46))] true [(true,[.slice,oL,oL]),oR] (.cont 0 [(oI 46),(oS 48),(oI 49),(oI 50),(oS 51)]))))
(.cont 0 [(oI 42),(oS 39),ofj,(oI 41),oai])) hq2))))))))))))
theorem Kd:Rn oPP Bs [(true,[.slice,oL,oL])] Fe:=rq [] [] [.cell 2 67,.cell 3 28] Tryz.func42 (by kernel_rfl)
def gd6:Tr:=
(.load oc1 [.iface] (.hsto oc1 [(oF 26)] (.load oc1 [.iface] (.ret (.x (oF 27))))))
def gd5:Tr:=
(.join [] (.br (.cm .neq (.ar .and .i64 (oI 25) obw) oad) (.call yv [(.x obw),(.x oc1),(.x oa0)] false [oQ] (.join [.iface,.bool,.bool,.bool] (.load oc1 [.iface] (.br (.nn (oF 27)) (.load oa0 [.ptr] (.need (.nt (.nn (oP 28))) (.load (.fld (.fld (.nz (oP 28)) 0) 0) [.slice] (.need (.cm .leq oad odt) (.need (.cm .leq odt (.cp (oS 29))) (.need (.cm .leq oad oee) (.need (.cm .leq oee odt) (.call jm [(.x oaa),(.x (.sub 1 (oS 29) oee odt .nl))] false [(false,[oN])] (.cont 1 [(oF 27),(.nn (oF 27)),(.nn (oF 27)),(.cm .neq oej (.cv .i64 (.ar .and .u32 (oU 30) (.cst (.int .u32 65535)))))]))))))))) (.cont 1 [(oF 27),(.nn (oF 27)),(.nn (oF 27)),oac]))) (.join [] (.br (oB 30) (.load (.glob 2) [oL] (.hsto oc1 [(.ifc 106 (.ag (.cs (oI 31) .nl)))] (.cont 1 []))) (.cont 1 [])) (.cont 0 [])))) (.cont 0 [])) gd6)
def gd4:Tr:=
(.load oa0 [.ptr] (.need (.nt (.nn (oP 23))) (.load (.fld (.fld (.nz (oP 23)) 0) 1) [oL] (.need obs (.load oe6 [oL] gd5)))))
def gd3:Tr:=
(.join [.iface,.bool,.bool,.bool] (.load oc1 [.iface] (.br (.nn (oF 19)) (.need obs (.load oe6 [oL] (.cont 0 [(oF 19),(.nn (oF 19)),(.nn (oF 19)),(.cm .neq (.ar .and .i64 odq odu) oad)]))) (.cont 0 [(oF 19),(.nn (oF 19)),(.nn (oF 19)),oac]))) (.join [] (.br (oB 22) (.load oa0 [.ptr] (.call kP [(.x (oP 23))] true [oR,(false,[.iface])] (.need obs (.hsto (.fld oc2 6) [(oS 24)] (.hsto oc1 [(oF 25)] (.cont 0 [])))))) (.cont 0 [])) gd4))
def gd2:Tr:=
(.join [.iface,.bool,.bool,.bool] (.load oc1 [.iface] (.br (.nn (oF 15)) (.need obs (.load oe6 [oL] (.cont 0 [(oF 15),(.nn (oF 15)),(.nn (oF 15)),(.cm .neq (.ar .and .i64 od6 oaw) oad)]))) (.cont 0 [(oF 15),(.nn (oF 15)),(.nn (oF 15)),oac]))) (.join [] (.br (oB 18) (.load oa0 [.ptr] (.call kP [(.x (oP 19))] true [oR,(false,[.iface])] (.need obs (.hsto (.fld oc2 5) [(oS 20)] (.hsto oc1 [(oF 21)] (.cont 0 [])))))) (.cont 0 [])) gd3))
def gd1:Tr:=
(.join [] (.br (.cm .neq (.ar .and .i64 oes ocq) oad) (.call yv [(.x obw),(.x oc1),(.x oa0)] false [oQ] (.load oc1 [.iface] (.join [] (.br (.nn (oF 16)) (.load oa0 [.ptr] (.call wH [(.x (oP 17)),(.x odv)] true [oR,(false,[.iface])] (.need obs (.hsto (.fld oc2 4) [odz] (.hsto oc1 [(oF 19)] (.cont 1 [])))))) (.cont 1 [])) (.cont 0 [])))) (.cont 0 [])) gd2)
def CK:Tr:=
(.hall 53 [(1,ob9)] (.hall 61 [(1,obe)] (.load oa0 [.ptr] (.need (.nt (.nn (oP 4))) (.load (.fld (.fld (.nz (oP 4)) 0) 1) [oL] (.call yv [(.x oao),(.x oc1),(.x oa0)] false [oQ] (.call xb [(.x (.cm .eql obp (oK 31))),(.x oc1)] true [] (.call yv [(.x oao),(.x oc1),(.x oa0)] false [oQ] (.call xb [(.x (.cm .eql oa9 (oK 139))),(.x oc1)] true [] (.call yv [(.x oao),(.x oc1),(.x oa0)] false [oQ] (.call xb [(.x (.cm .eql obr oaw)),(.x oc1)] true [] (.call yv [(.x oao),(.x oc1),(.x oa0)] false [oQ] (.need obs (.hsto oe6 [oca] (.need obs (.load oe6 [oL] (.call xb [(.x (.cm .lss oci ofg)),(.x oc1)] true [] (.call yv [(.x ocq),(.x oc1),(.x oa0)] false [oQ] (.need obs (.hsto (.fld oc2 1) [och] (.call yv [(.x oao),(.x oc1),(.x oa0)] false [oQ] (.need obs (.hsto (.fld oc2 2) [ocw] (.call yv [(.x oao),(.x oc1),(.x oa0)] false [oQ] (.need obs (.hsto (.fld oc2 3) [ocs] (.need obs (.load oe6 [oL] gd1))))))))))))))))))))))))))))
theorem GR:Rn oPP Ae [(false,[.ptr]),(false,[.ptr])] CK:=rq [] [2,4] [.cell 4 61] Tryz.func70 (by kernel_rfl)
def Gg:Tr:=
(.hsl 5 0 [] (.loop [.slice,oL,.slice,oL,oL] [obo,oad,oa6,oaq,oaz] (.lift (.br (.it (.cm .lss obp oas) (.cm .eql oca oad) oac) (.call zQ [(.agg [odo,obr,oca]),(.x oaw)] true [(true,[.slice,oL,oL]),oQ] (.join [.slice] (.br (.cm .eql ocw oad) (.hsl 5 1 [(.cv .u8 ocs)] (.app 5 1 1 [(.int .u8 0)] obm odb (.cont 2 [ob4]))) (.cont 2 [obm])) (.cont 0 [odb,obb,od4,och,ocw]))) (.ret (.tup [(true,[odo,obr,oca]),(false,[obm])]))))))
theorem Lb:Rn oPP Ch [(true,[.slice,oL,oL]),oQ] Gg:=rq [⟨3,[6,7],[(0,0),(0,1),(0,2)],[8,10,11,12,13,14,15,16,17,18,19,20,21,22,23,24,25,26,27,28,29,30,31,32]⟩] [] [.cell 4 67,.tmp 5] Tryz.func76 (by kernel_rfl)
def HQ:Tr:=
(.hsl 5 0 [] (.loop [.slice,.slice,oL,oL] [oau,oa6,oaq,oaz] (.lift (.br (.cm .eql oa9 oad) (.call zQ [(.agg [obm,obp,oa9]),(.x oaw)] true [(true,[.slice,oL,oL]),oQ] (.lift (.br (.cm .eql och oad) (.ret (.tup [(true,[odk,oca,oci]),(false,[obo])])) (.hsl 5 1 [(.cv .u8 och)] (.app 5 1 1 [(.int .u8 0)] obo oer (.cont 0 [(oS 13),odk,oca,oci])))))) (.ret (.tup [(true,[obm,obp,oa9]),(false,[obo])]))))))
theorem M7:Rn oPP AM [(true,[.slice,oL,oL])] HQ:=rq [⟨2,[4],[(0,0),(0,1),(0,2)],[5,7,8,9,10,11,12,13,14,15,16,17,18,19,20,21,22,23]⟩] [] [.cell 2 67,.tmp 3] Tryz.func77 (by kernel_rfl)
def BB:Tr:=
(.load ocu [.iface] (.join [oL] (.br (.nn (oF 3)) (.load oa0 [.ptr] (.need (.nt (.nn (oP 4))) (.call zP [(.x (.fld (.nz (oP 4)) 0)),(.x (.ar .mul .i64 oaw oco))] true [oQ,(false,[.iface])] (.hsto ocu [(oF 6)] (.cont 0 [oat]))))) (.cont 0 [oad])) (.ret (.x oap))))
theorem FC:Rn oPP yv [oQ,(false,[.addr]),(false,[.addr])] BB:=rq [] [] [.tmp 4] Tryz.func95 (by kernel_rfl)
def BC:Tr:=
(.load ocu [.iface] (.join [] (.br (.it (.nn (oF 2)) (.nt (oB 0)) oac) (.load (.glob 0) [oL] (.hsto ocu [(.ifc 106 (.ag (.cs oas .nl)))] (.cont 0 []))) (.cont 0 [])) (.ret (.tup []))))
theorem FD:Rn oPP xb [(false,[.bool]),(false,[.addr])] BC:=rq [] [] [] Tryz.func96 (by kernel_rfl)
def BV:Tr:=
(.hsl 5 0 [] (.loop [.slice,oL] [ob7,oad] (.lift (.br ofa (.need oag (.call zP [(.x obc),(.x oaw)] true [oQ,(false,[.iface])] (.lift (.br (.nt (.nn (oF 6))) (.ret (.tup [(false,[oai]),(false,[(oF 6)])])) (.hsl 5 1 [(.cv .u8 oat)] (.app 5 1 1 [(.int .u8 0)] oau odo (.cont 0 [odk,oa4]))))))) (.ret (.tup [(false,[oau]),(false,[obe])]))))))
theorem Gh:Rn oPP wH [(false,[.ptr]),oQ] BV:=rq [⟨3,[6,11],[],[7,8,12,13,14,15,16,17,18,19,20,21,22,23,24,25,26,27,28]⟩] [] [.tmp 4,.tmp 5] Tryz.func97 (by kernel_rfl)
def CL:Tr:=
(.hsl 5 0 [] (.loop [.slice] [ob0] (.need oag (.call zP [(.x obc),(.x oaw)] true [oQ,(false,[.iface])] (.lift (.br oe4 (.ret (.tup [(false,[oai]),(false,[(oF 4)])])) (.lift (.br (.cm .eql oas oad) (.ret (.tup [(false,[ob7]),(false,[obe])])) (.hsl 5 1 [(.cv .u8 oas)] (.app 5 1 1 [(.int .u8 0)] ob7 obm (.cont 0 [ocf])))))))))))
theorem GS:Rn oPP kP [(false,[.ptr])] CL:=rq [⟨2,[4],[],[5,6,8,9,10,11,12,13,14,15,16,17,18,19,20,21,22,23,24,25]⟩] [] [.tmp 2,.tmp 3] Tryz.func98 (by kernel_rfl)
def Dz:Tr:=
(.lift (.br ode (.hsl 5 0 [] (.ret (.x oau))) (.hsl 5 2 [(.cv .u8 (.ar .shr .u32 oay oda)),(.cv .u8 oay)] (.join [.slice] (.br (.cm .gtr odw oad) (.call xx [(.x obd),(.x ob7)] false [(false,[oN])] (.call kq [(.x oau),(.x (oU 4))] false [oR] (.cont 1 [obm]))) (.cont 1 [oau])) (.call j0 [(.x oa6)] false [oR] (.app 5 1 1 [(.int .u8 0)] obo obm (.call xx [(.x obd),(.x oa6)] false [(false,[oN])] (.call kq [(.x ocf),(.x (oU 7))] false [oR] (.ret (.x odk))))))))))
theorem Ia:Rn oPP Ax [oR,oQ,oR] Dz:=rq [] [] [.tmp 6] Tryz.func5 (by kernel_rfl)
def D2:Tr:=
(.lift (.br ode (.hsl 5 0 [] (.ret (.x oau))) (.hsl 5 0 [] (.call xy [(.x (.cv .u64 (.ar .add .i64 oep (.ar .rem .i64 (.ar .sub .i64 (oK 31) (.ar .rem .i64 oep (oK 31))) (oK 31))))),(.x obw),(.x oaf)] false [oR] (.app 5 1 1 [(.int .u8 0)] oau obo (.join [.slice] (.br (.cm .gtr odw oad) (.call yR [(.x obd),(.x ob7)] false [(false,[oN])] (.call xy [(.x (.cv .u64 (oU 6))),(.x ocq),(.x oaf)] false [oR] (.app 5 1 1 [(.int .u8 0)] obm odo (.cont 1 [odk])))) (.cont 1 [obm])) (.call j1 [(.x oa6)] false [oR] (.app 5 1 1 [(.int .u8 0)] ocf odo (.call yR [(.x obd),(.x oa6)] false [(false,[oN])] (.call xy [(.x (.cv .u64 (oU 9))),(.x ocq),(.x oaf)] false [oR] (.app 5 1 1 [(.int .u8 0)] odk od4 (.ret (.x od3)))))))))))))
theorem Ib:Rn oPP Az [oR,oQ,oR] D2:=rq [] [] [.tmp 6] Tryz.func8 (by kernel_rfl)
def Ey:Tr:=
(.hsl 5 4 [(.cv .u8 (.ar .shr .u32 (oU 1) (.cst (.int .u64 24)))),(.cv .u8 (.ar .shr .u32 (oU 1) (.cst (.int .u64 16)))),(.cv .u8 (.ar .shr .u32 (oU 1) oda)),(.cv .u8 (oU 1))] (.app 5 1 1 [(.int .u8 0)] oa6 ob7 (.ret (.x oau))))
theorem IN:Rn oPP kq [oR,(false,[oN])] Ey:=rq [] [] [.tmp 4] Tryz.func22 (by kernel_rfl)
def BW:Tr:=
(.loop [.slice,oM,oL] [oa6,(.var (.int .u64) 1),oad] (.lift (.br (.cm .lss oat oaz) (.hsl 5 1 [(.cv .u8 (.var (.int .u64) 4))] (.app 5 1 1 [(.int .u8 0)] oau ocf (.cont 0 [odo,(.ar .shr .u64 (.var (.int .u64) 4) oda),oa3]))) (.ret (.x oau)))))
theorem Gi:Rn oPP xi [oR,(false,[oM]),oQ] BW:=rq [⟨2,[0,1,8],[],[9,10,11,12,13,14,15,16,17]⟩] [] [.tmp 6] Tryz.func26 (by kernel_rfl)
def IP:Tr:=
(.hsl 5 0 [] (.loop [oM,.slice,oL] [(.var (.int .u64) 0),oau,oad] (.lift (.br (.cm .lss obp oaq) (.join [.slice] (.br (oB 2) (.hsl 5 1 [odx] (.app 5 1 1 [(.int .u8 0)] odo obm (.cont 2 [odk]))) (.hsl 5 1 [odx] (.app 5 1 1 [(.int .u8 0)] obm odo (.cont 2 [odk])))) (.cont 0 [(.ar .quo .u64 (.var (.int .u64) 4) (.cst (.int .u64 256))),odo,obb])) (.ret (.x obm))))))
theorem NU:Rn oPP xy [(false,[oM]),oQ,(false,[.bool])] IP:=rq [⟨3,[0,7,8],[],[10,11,12,13,14,15,16,17,18,19,20,21,22,23,24,25,26,27,28,29]⟩] [] [.tmp 6] Tryz.func28 (by kernel_rfl)
def CM:Tr:=
(.hall 28 [(1,oco),(1,oaq),(1,oaz),(1,oas),(1,obo),(1,obm),(1,ocf),(1,oa9)] (.join [.bool,oL,.bool,.bool,.bool,.bool,.bool,.bool,.bool,.bool,.bool,.bool,.bool,.bool,.bool,.bool,.bool,.bool,.bool,.bool,.bool,.bool,.bool,.bool,.bool] (.load (.fld oeh 0) [oL] (.call yZ [(.x oca),(.x (oK 31))] false [(false,[.bool])] (.br ocy (.load (.fld oeh 1) [oL] (.call yZ [(.x och),(.x (oK 4294967295))] false [(false,[.bool])] (.br oc8 (.load (.fld oeh 2) [oL] (.call yZ [(.x ocs),(.x (oK 255))] false [(false,[.bool])] (.br odd (.load (.fld oeh 3) [oL] (.call yZ [(.x odv),(.x (oK 255))] false [(false,[.bool])] (.br odr (.load (.fld oeh 4) [.slice] (.br oal (.load (.fld oeh 7) [oL] (.call yZ [(.x oex),(.x od0)] false [(false,[.bool])] (.br oel (.load (.fld oeh 4) [.slice] (.call xZ [(.x (oS 20)),(.x ocq),(.x oeh)] false [(false,[.bool])] (.br oey (.load (.fld oeh 5) [.slice] (.call xZ [(.x oeq),(.x oaw),(.x oeh)] false [(false,[.bool])] (.br (oB 23) (.load (.fld oeh 6) [.slice] (.call xZ [(.x (oS 24)),(.x odu),(.x oeh)] false [(false,[.bool])] (.br (oB 25) (.load (.fld oeh 5) [.slice] (.call qP [(.x (oS 26))] false [(false,[.bool])] (.br (oB 27) (.load (.fld oeh 6) [.slice] (.call qP [(.x (oS 28))] false [(false,[.bool])] (.br (oB 29) (.load (.fld oeh 4) [.slice]
(.load (.fld oeh 5) [.slice] (.load (.fld oeh 6) [.slice] (.cont 0 [oc6,oca,ocy,ocy,oc8,oc8,odd,odd,odr,odr,oal,oal,oel,oel,oey,oey,(oB 23),(oB 23),(oB 25),(oB 25),(oB 27),(oB 27),(oB 29),(oB 29),oc6])))) (.cont 0 [oac,oca,ocy,ocy,oc8,oc8,odd,odd,odr,odr,oal,oal,oel,oel,oey,oey,(oB 23),(oB 23),(oB 25),(oB 25),(oB 27),(oB 27),(oB 29),(oB 29),oac])))) (.cont 0 [oac,oca,ocy,ocy,oc8,oc8,odd,odd,odr,odr,oal,oal,oel,oel,oey,oey,(oB 23),(oB 23),(oB 25),(oB 25),(oB 27),(oB 27),oac,oac,oac])))) (.cont 0 [oac,oca,ocy,ocy,oc8,oc8,odd,odd,odr,odr,oal,oal,oel,oel,oey,oey,(oB 23),(oB 23),(oB 25),(oB 25),oac,oac,oac,oac,oac])))) (.cont 0 [oac,oca,ocy,ocy,oc8,oc8,odd,odd,odr,odr,oal,oal,oel,oel,oey,oey,(oB 23),(oB 23),oac,oac,oac,oac,oac,oac,oac])))) (.cont 0 [oac,oca,ocy,ocy,oc8,oc8,odd,odd,odr,odr,oal,oal,oel,oel,oey,oey,oac,oac,oac,oac,oac,oac,oac,oac,oac])))) (.cont 0 [oac,oca,ocy,ocy,oc8,oc8,odd,odd,odr,odr,oal,oal,oel,oel,oac,oac,oac,oac,oac,oac,oac,oac,oac,oac,oac])))) (.cont 0 [oac,oca,ocy,ocy,oc8,oc8,odd,odd,odr,odr,oal,oal,oac,oac,oac,oac,oac,oac,oac,oac,oac,oac,oac,oac,oac]))) (.cont 0 [oac,oca,ocy,ocy,oc8,oc8,odd,odd,odr,odr,oac,oac,oac,oac,oac,oac,oac,oac,oac,oac,oac,oac,oac,oac,oac])))) (.cont 0 [oac,oca,ocy,ocy,oc8,oc8,odd,odd,oac,oac,oac,oac,oac,oac,
 oac,oac,oac,oac,oac,oac,oac,oac,oac,oac,oac])))) (.cont 0 [oac,oca,ocy,ocy,oc8,oc8,oac,oac,oac,oac,oac,oac,oac,oac,oac,oac,oac,oac,oac,oac,oac,oac,oac,oac,oac])))) (.cont 0 [oac,oca,ocy,ocy,oac,oac,oac,oac,oac,oac,oac,oac,oac,oac,oac,oac,oac,oac,oac,oac,oac,oac,oac,oac,oac])))) (.ret (.x (oB 9)))))
theorem GU:Rn oPP wZ [(true,[oL,oL,oL,oL,.slice,.slice,.slice,oL])] CM:=rq [] [1] [.tmp 2] Tryz.func25 (by kernel_rfl)
def CN:Tr:=
(.lift (.br (.it (.it (.it (.it (.it (.it (.it (.cm .lss oco oad) oaf (.cm .gtr oco (oK 31))) oaf (.cm .lss oaq oad)) oaf (.cm .gtr oaq (oK 4294967295))) oaf (.cm .lss oaz oad)) oaf (.cm .gtr oaz (oK 255))) oaf (.cm .lss oas oad)) oaf (.cm .gtr oas (oK 255))) (.ret (.x oac)) (.lift (.br (.it (.it (.it (.cm .eql (.ar .rem .i64 (.ar .quo .i64 oco ocq) obw) oad) (.cm .gtr od9 oad) oac) oaf (.it (.cm .eql (.ar .rem .i64 (.ar .quo .i64 oco oaw) obw) oad) (.cm .gtr (.ln obm) oad) oac)) oaf (.it (.cm .eql (.ar .rem .i64 (.ar .quo .i64 oco odu) obw) oad) (.cm .gtr oe0 oad) oac)) (.ret (.x oac)) (.join [.bool,.bool,.bool,.bool,.bool,.bool,.bool,.bool,.bool,.bool] (.br (.cm .leq od9 (oK 65535)) (.call wM [(.x obm)] false [(false,[.bool])] (.br (oB 8) (.call wM [(.x ocf)] false [(false,[.bool])] (.cont 2 [(.it occ (.cm .leq oa9 od0) oac),(oB 8),(oB 8),(oB 9),(oB 9),(.it (oB 9) oam oac),(.it (oB 9) oam oac),occ,occ,(.it occ (.cm .leq oa9 od0) oac)])) (.cont 2 [oac,(oB 8),(oB 8),oac,oac,oac,oac,oac,oac,oac]))) (.cont 2 [oac,oac,oac,oac,oac,oac,oac,oac,oac,oac])) (.ret (.x (oB 8))))))))
theorem GW:Rn oPP Aa [(true,[oL,oL,oL,oL,.slice,.slice,.slice,oL])] CN:=rq [] [] [.tmp 2] Tryz.func30 (by kernel_rfl)
def BD:Tr:=
(.ret (.x (.it (.cm .geq oco oad) (.cm .leq oco oaq) oac)))
theorem FE:Rn oPP yZ [oQ,oQ] BD:=rq [] [] [.tmp 4] Tryz.func54 (by kernel_rfl)
def BE:Tr:=
(.join [.bool,.bool] (.br (.nt (.cm .eql oan oad)) (.load oc3 [oL] (.cont 0 [(.cm .neq (.ar .and .i64 oas oaq) oad),(.cm .neq (.ar .and .i64 oas oaq) oad)])) (.cont 0 [oaf,oaf])) (.ret (.x (oB 3))))
theorem FF:Rn oPP xZ [oR,oQ,(false,[.addr])] BE:=rq [] [] [.tmp 5] Tryz.func55 (by kernel_rfl)
def Ez:Tr:=
(.loop [oL] [oad] (.lift (.br odl (.need oax (.need ofd (.need odl (.load (.ix 1 oa6 oaq) [oO] (.lift (.br (.cm .eql (.var (.int .u8) 2) ob5) (.ret (.x oac)) (.cont 0 [(.ar .add .i64 oaq oao)]))))))) (.ret (.x oaf)))))
theorem IQ:Rn oPP qP [oR] Ez:=rq [⟨2,[7],[],[4,8,9,10,11,12,13]⟩] [] [.tmp 2] Tryz.func56 (by kernel_rfl)
def Ff:Tr:=
(.loop [oL] [oad] (.lift (.br odl (.need oax (.need ofd (.need odl (.load (.ix 1 oa6 oaq) [oO] (.lift (.br (.cm .eql (.var (.int .u8) 2) ob5) (.ret (.x oac)) (.cont 0 [(.ar .add .i64 oaq oao)]))))))) (.ret (.x oaf)))))
theorem Ke:Rn oPP wM [oR] Ff:=rq [⟨2,[3],[],[4,5,6,7,8,9,10,11,12,13,14]⟩] [] [.tmp 2] Tryz.func64 (by kernel_rfl)
def gi5:Tr:=
(.call j0 [(.x odk)] false [oR] (.app 5 1 1 [(.int .u8 0)] od2 odz (.call jm [(.x oaa),(.x odk)] false [(false,[oN])] (.call xi [(.x (oS 19)),(.x (.cv .u64 (oU 20))),(.x ocq)] false [oR] (.call xi [(.x (oS 21)),(.x (.cv .u64 (.ln odk))),(.x ocq)] false [oR] (.ret (.x oeq)))))))
def gi4:Tr:=
(.join [.slice] (.br (.cm .neq (.ar .and .i64 oco obw) oad) (.call jm [(.x oaa),(.x oei)] false [(false,[oN])] (.call xi [(.x oei),(.x (.cv .u64 (oU 17))),(.x obw)] false [oR] (.cont 1 [odz]))) (.cont 1 [oei])) gi5)
def gi3:Tr:=
(.join [.slice] (.br (.cm .neq (.ar .and .i64 oco odu) oad) (.app 5 1 1 [(.int .u8 0)] ob4 ocf (.hsl 5 1 [ob5] (.app 5 1 1 [(.int .u8 0)] oei od2 (.cont 1 [odz])))) (.cont 1 [ob4])) gi4)
def gi2:Tr:=
(.join [.slice] (.br (.cm .neq (.ar .and .i64 oco oaw) oad) (.app 5 1 1 [(.int .u8 0)] odb obm (.hsl 5 1 [ob5] (.app 5 1 1 [(.int .u8 0)] ob4 oei (.cont 1 [od2])))) (.cont 1 [odb])) gi3)
def gi1:Tr:=
(.join [.slice] (.br (.cm .neq (.ar .and .i64 oco ocq) oad) (.call xi [(.x (oS 13)),(.x (.cv .u64 od9)),(.x obw)] false [oR] (.app 5 1 1 [(.int .u8 0)] odb obo (.cont 1 [ob4]))) (.cont 1 [(oS 13)])) gi2)
def D4:Tr:=
(.call wZ [(.agg [oco,oaq,oaz,oas,obo,obm,ocf,oa9])] false [(false,[.bool])] (.lift (.br ofl (.hsl 5 0 [] (.ret (.x od4))) (.hsl 5 4 [(.cst (.int .u8 31)),(.cst (.int .u8 139)),(.cst (.int .u8 8)),(.cv .u8 oco)] (.call xi [(.x od4),(.x (.cv .u64 oaq)),(.x ocq)] false [oR] (.hsl 5 2 [(.cv .u8 oaz),(.cv .u8 oas)] (.app 5 1 1 [(.int .u8 0)] od3 oer gi1)))))))
theorem Ic:Rn oPP Ay [(true,[oL,oL,oL,oL,.slice,.slice,.slice,oL]),oR] D4:=rq [] [] [.tmp 4] Tryz.func6 (by kernel_rfl)
def gs5:Tr:=
(.call j1 [(.x odk)] false [oR] (.app 5 1 1 [(.int .u8 0)] odz (oS 19) (.call xw [(.x oaa),(.x odk)] false [(false,[oN])] (.call xy [(.x (.cv .u64 (oU 21))),(.x ocq),(.x oac)] false [oR] (.app 5 1 1 [(.int .u8 0)] (oS 20) oeq (.call xy [(.x (.cv .u64 (.ln odk))),(.x ocq),(.x oac)] false [oR] (.app 5 1 1 [(.int .u8 0)] (oS 23) (oS 24) (.ret (.x (oS 25))))))))))
def gs4:Tr:=
(.join [.slice] (.br (.cm .eql (.ar .rem .i64 (.ar .quo .i64 oco obw) obw) oao) (.call xw [(.x oaa),(.x od2)] false [(false,[oN])] (.call xy [(.x (.cv .u64 (.ar .rem .u32 (oU 18) oa2))),(.x obw),(.x oac)] false [oR] (.app 5 1 1 [(.int .u8 0)] od2 (oS 19) (.cont 1 [(oS 20)])))) (.cont 1 [od2])) gs5)
def gs3:Tr:=
(.join [.slice] (.br (.cm .eql (.ar .rem .i64 (.ar .quo .i64 oco odu) obw) oao) (.app 5 1 1 [(.int .u8 0)] oei ocf (.hsl 5 1 [ob5] (.app 5 1 1 [(.int .u8 0)] od2 odz (.cont 1 [(oS 19)])))) (.cont 1 [oei])) gs4)
def gs2:Tr:=
(.join [.slice] (.br (.cm .eql (.ar .rem .i64 (.ar .quo .i64 oco oaw) obw) oao) (.app 5 1 1 [(.int .u8 0)] ob4 obm (.hsl 5 1 [ob5] (.app 5 1 1 [(.int .u8 0)] oei od2 (.cont 1 [odz])))) (.cont 1 [ob4])) gs3)
def gs1:Tr:=
(.join [.slice] (.br (.cm .eql (.ar .rem .i64 (.ar .quo .i64 oco ocq) obw) oao) (.call xy [(.x (.cv .u64 od9)),(.x obw),(.x oac)] false [oR] (.app 5 1 1 [(.int .u8 0)] odb ob4 (.app 5 1 1 [(.int .u8 0)] oei obo (.cont 1 [od2])))) (.cont 1 [odb])) gs2)
def D5:Tr:=
(.call Aa [(.agg [oco,oaq,oaz,oas,obo,obm,ocf,oa9])] false [(false,[.bool])] (.lift (.br ofl (.hsl 5 0 [] (.ret (.x od4))) (.hsl 5 4 [(.cst (.int .u8 31)),(.cst (.int .u8 139)),(.cst (.int .u8 8)),(.cv .u8 oco)] (.call xy [(.x (.cv .u64 oaq)),(.x ocq),(.x oac)] false [oR] (.app 5 1 1 [(.int .u8 0)] od4 od3 (.hsl 5 2 [(.cv .u8 oaz),(.cv .u8 oas)] (.app 5 1 1 [(.int .u8 0)] oer (oS 13) gs1))))))))
theorem Ie:Rn oPP A0 [(true,[oL,oL,oL,oL,.slice,.slice,.slice,oL]),oR] D5:=rq [] [] [.tmp 4] Tryz.func9 (by kernel_rfl)
def Kz:Tr:=
(.lift (.br odl (.need oax (.need ofd (.need odl (.load (.ix 1 oa6 oaq) [oO] (.ret (.x (.cv .i64 (.var (.int .u8) 2)))))))) (.ret (.x (.ar .rem .i64 (.ar .add .i64 (.ar .mul .i64 oaq (oK 47)) (oK 13)) obu)))))
theorem Qb:Rn oPP A8 [oR,oQ] Kz:=rq [] [] [.tmp 4] Tryz.func10 (by kernel_rfl)
def IS:Tr:=
(.loop [oL,oL] [(.ar .add .i64 (oK 54321) oan),oad] (.lift (.br (.cm .lss oaz oan) (.need oax (.need (.cm .leq oad oaz) (.need (.cm .lss oaz oan) (.load (.ix 1 oa6 oaz) [oO] (.cont 0 [(.ar .and .i64 (.ar .add .i64 (.ar .add .i64 (.ar .mul .i64 oaq (oK 131)) (.cv .i64 (.var (.int .u8) 3))) (oK 7)) (oK 1073741823)),oef]))))) (.hall 84 [(1,oa6),(1,oad),(1,oaq)] (.ret (.x oc1))))))
theorem NV:Rn oPP Eg [oR] IS:=rq [⟨3,[3,4],[],[8,9,10,11,12,13,14,15,16,17,18,19,20,21,22,23]⟩] [27] [.tmp 2] Tryz.func17 (by kernel_rfl)
def Gj:Tr:=
(.lift (.br (.cm .leq oaq obu) (.call jG [(.x ob9)] false [oQ] (.need (.cm .neq oaq oad) (.ret (.x (.ar .rem .i64 oaz oaq))))) (.call jG [(.x ob9)] false [oQ] (.call jG [(.x ob9)] false [oQ] (.call jG [(.x ob9)] false [oQ] (.need (.cm .neq oaq oad) (.ret (.x (.ar .rem .i64 (.ar .add .i64 (.ar .add .i64 (.ar .mul .i64 oaz (oK 65536)) (.ar .mul .i64 oas obu)) oap) oaq)))))))))
theorem Lc:Rn oPP jk [(false,[.ptr]),oQ] Gj:=rq [] [] [.tmp 4] Tryz.func19 (by kernel_rfl)
def HT:Tr:=
(.hsl 5 0 [] (.loop [.slice,oL] [ob7,oad] (.lift (.br ofa (.call jG [(.x ob9)] false [oQ] (.hsl 5 1 [(.cv .u8 oat)] (.app 5 1 1 [(.int .u8 0)] oau ocf (.cont 0 [odo,oa4])))) (.ret (.x oau))))))
theorem M8:Rn oPP Dg [(false,[.ptr]),oQ] HT:=rq [⟨3,[5,6],[],[7,9,10,11,12,13,14,15,16,17,18,19,20]⟩] [] [.tmp 4] Tryz.func45 (by kernel_rfl)
def HU:Tr:=
(.need oag (.load oen [oL] (.need oag (.hsto oen [(.ar .add .i64 (.ar .mul .i64 oaq (oK 6364136223846793005)) (oK 1442695040888963407))] (.need oag (.load oen [oL] (.need oag (.load oen [oL] (.need oag (.load oct [oL] (.need oag (.load obc [.slice] (.join [oL] (.br (.cm .lss oap (.ln obm)) (.need oag (.load obc [.slice] (.need oag (.load oct [oL] (.need od8 (.need ocv (.need (.cm .lss oa9 oe0) (.load (.ix 1 ocf oa9) [oO] (.need oag (.load oct [oL] (.need oag (.hsto oct [(.ar .add .i64 oca oao)] (.cont 0 [(.ar .and .i64 (.ar .add .i64 ocj (.cv .i64 (.var (.int .u8) 8))) (oK 255))]))))))))))))) (.cont 0 [ocj])) (.ret (.x obp)))))))))))))))
theorem M9:Rn oPP jG [(false,[.ptr])] HU:=rq [] [] [.tmp 2] Tryz.func46 (by kernel_rfl)
def HV:Tr:=
(.call jk [(.x ob9),(.x oaq)] false [oQ] (.call wy [(.x ob9),(.x (oK 6))] false [(false,[.bool])] (.lift (.br (oB 3) (.call Dg [(.x ob9),(.x oaz)] false [oR] (.ret (.x obo))) (.hsl 5 0 [] (.loop [.slice,oL] [obo,oad] (.lift (.br (.cm .lss obp oaz) (.call jk [(.x ob9),(.x oev)] false [oQ] (.hsl 5 1 [(.cv .u8 (.ar .add .i64 (oK 97) oa9))] (.app 5 1 1 [(.int .u8 0)] obm odk (.cont 1 [odj,obb])))) (.ret (.x obm))))))))))
theorem MB:Rn oPP AJ [(false,[.ptr]),oQ] HV:=rq [⟨6,[6,7],[],[8,18,19,20,21,22,23,24,25,26,27,28,29,30]⟩] [] [.tmp 4] Tryz.func18 (by kernel_rfl)
def HW:Tr:=
(.call jk [(.x ob9),(.x oaq)] false [oQ] (.ret (.x ob2)))
theorem MD:Rn oPP wy [(false,[.ptr]),oQ] HW:=rq [] [] [.tmp 4] Tryz.func20 (by kernel_rfl)
def Bc:Tr:=
(.call Eg [(.x oa6)] false [(false,[.ptr])] (.call AJ [(.x (oP 1)),(.x (oK 30))] false [oR] (.call jk [(.x (oP 1)),(.x oaw)] false [oQ] (.call wy [(.x (oP 1)),(.x (oK 12))] false [(false,[.bool])] (.join [oL] (.br (oB 4) (.call jk [(.x (oP 1)),(.x obw)] false [oQ] (.cont 0 [(.ar .sub .i64 (.ar .mul .i64 (oK 9) oat) oao)])) (.cont 0 [oas])) (.call AK [(.x (oP 1))] false [oR] (.ret (.tup [(false,[ob7]),(false,[oat]),(false,[ocf])]))))))))
theorem EP:Rn oPP qx [oR] Bc:=rq [] [] [.tmp 2,.tmp 3,.tmp 4] Tryz.func4 (by kernel_rfl)
def Cj:Tr:=
(.strc oa6 (.strc ob0 (.ret (.x (.sq (.var (.str) 2) (.var (.str) 3))))))
theorem E3:Rn oPP jj [oR,oR] Cj:=rq [] [] [.tmp 4] Tryz.func7 (by kernel_rfl)
def HX:Tr:=
(.call wy [(.x ob9),(.x obw)] false [(false,[.bool])] (.lift (.br (oB 1) (.hsl 5 0 [] (.ret (.x ob7))) (.hsl 5 1 [(.cst (.int .u8 100))] (.call AJ [(.x ob9),(.x odu)] false [oR] (.app 5 1 1 [(.int .u8 0)] ob7 oau (.ret (.x obo))))))))
theorem ME:Rn oPP AK [(false,[.ptr])] HX:=rq [] [] [.tmp 2] Tryz.func21 (by kernel_rfl)
def fcC:Tr:=
(.lift (.br (oB 30) (.ret (.x oac)) (.join [.bool,.bool,.bool,.bool] (.br (.nt (.it (.cm .neq odq oao) oaf (.cm .neq (.ln oeq) oao))) (.call jj [(.x (oS 21)),(.x ob7)] false [(false,[.bool])] (.br (.nt (oB 31)) (.call xw [(.x oaa),(.x (oS 21))] false [(false,[oN])] (.call xw [(.x oaa),(.x ob7)] false [(false,[oN])] (.cont 4 [(.cm .eql (oU 32) (oU 33)),(oB 31),(oB 31),(.cm .eql (oU 32) (oU 33))]))) (.cont 4 [oaf,(oB 31),(oB 31),oaf]))) (.cont 4 [oaf,oaf,oaf,oaf])) (.ret (.x (oB 31))))))
def fcB:Tr:=
(.lift (.br (oB 27) (.ret (.x oac)) (.join [.bool,.bool,.bool] (.br (.it (.cm .eql odc oao) (.cm .eql ocx (.ln obm)) oac) (.call jj [(.x odz),(.x ob7)] false [(false,[.bool])] (.br (.nt (oB 28)) (.call yR [(.x obd),(.x odz)] false [(false,[oN])] (.call yR [(.x obd),(.x ob7)] false [(false,[oN])] (.cont 3 [(.nt (oB 28)),(.nt (oB 28)),(.cm .neq (oU 29) (oU 30))]))) (.cont 3 [(.nt (oB 28)),(.nt (oB 28)),oac]))) (.cont 3 [oac,oac,oac])) fcC)))
def fcA:Tr:=
(.lift (.br (oB 11) (.ret (.x oac)) (.call A8 [(.x ob0),(.x oao)] false [oQ] (.call A8 [(.x ob0),(.x oad)] false [oQ] (.need (.cm .neq (.ln obm) oad) (.need (.nt (.nn obm)) (.need (.cm .leq oad ob3) (.need (.cm .lss ob3 (.ln obm)) (.load (.ix 1 obm ob3) [oO] (.need (.nt (.nn obm)) (.need (.cm .leq oad ob3) (.need (.cm .lss ob3 (.ln obm)) (.hsto (.ix 1 obm ob3) [(.ar .xor .u8 (.var (.int .u8) 14) oem)] (.call A8 [(.x ob0),(.x oad)] false [oQ] (.need (.cm .neq oe0 oad) (.need od8 (.need (.cm .leq oad obt) (.need (.cm .lss obt oe0) (.load (.ix 1 ocf obt) [oO] (.need od8 (.need (.cm .leq oad obt) (.need (.cm .lss obt oe0) (.hsto (.ix 1 ocf obt) [(.ar .xor .u8 (.var (.int .u8) 16) oem)] (.call F1 [(.x obm),(.x obo)] false [(true,[oL,.slice,oL])] (.call Cu [(.x ocf)] false [(true,[oL,.slice,.slice,oL])] (.call F2 [(.x obm),(.x obo)] false [(true,[oL,.slice,oL])] (.join [.bool] (.br (.nt (.cm .neq odc (oI 24))) (.call F3 [(.x ocf)] false [(true,[oL,.slice,.slice,oL])] (.cont 2 [(.cm .neq odq od5)])) (.cont 2 [oaf])) fcB)))))))))))))))))))))))))))
def E4:Tr:=
(.lift (.br (.it (.cm .gtr oan (oK 1048576)) oaf (.cm .gtr oba (oK 1048576))) (.ret (.x oaf)) (.call qx [(.x oa6)] true [oR,oQ,oR] (.call Ax [(.x ob7),(.x (oK 7)),(.x obo)] false [oR] (.call Ay [(.agg [oad,oad,oad,oad,oai,oai,oai,odw]),(.x ob7)] false [oR] (.join [.slice,.bool,.bool,.bool,.bool] (.call Az [(.x ob7),(.x (oK 7)),(.x obo)] false [oR] (.call jj [(.x obm),(.x odo)] false [(false,[.bool])] (.br (.nt (.nt (oB 8))) (.call A0 [(.agg [oad,oad,oad,oad,oai,oai,oai,odw]),(.x ob7)] false [oR] (.call jj [(.x ocf),(.x odj)] false [(false,[.bool])] (.cont 1 [odo,(oB 8),(.nt (oB 8)),(.nt (oB 8)),(.nt ocy)]))) (.cont 1 [odo,(oB 8),(.nt (oB 8)),(.nt (oB 8)),oaf])))) fcA))))))
theorem IT:Rn oPP Ef [oR,oR] E4:=rq [] [] [.tmp 4] Tryz.func3 (by kernel_rfl)
end
end Go.Proofs.YtpodkihpnjhamaaGreatDoor
