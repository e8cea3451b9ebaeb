import Derived.Test.YteaonnfokkfnlaaGreatDoorChecked
import Derived.Test.YteaonnfokkfnlaaGreatDoorPf2
import Derived.Test.YteaonnfokkfnlaaGreatDoorPf3
set_option maxRecDepth 100000
set_option maxHeartbeats 8000000
set_option linter.unusedVariables false
set_option linter.unusedSimpArgs false
set_option linter.unusedSectionVars false
section
namespace Go.Eng
abbrev oI (n : Nat) : Ex := .var (.int .i64) n
abbrev oS (n : Nat) : Ex := .var .slice n
abbrev oP (n : Nat) : Ex := .var .ptr n
abbrev oB (n : Nat) : Ex := .var .bool n
abbrev oA (n : Nat) : Ex := .var .addr n
abbrev oF (n : Nat) : Ex := .var .iface n
abbrev oU (n : Nat) : Ex := .var (.int .u32) n
abbrev oK (n : Int) : Ex := .cst (.int .i64 n)
abbrev oQ : Bool × List Sh := (false, [.int .i64])
abbrev oR : Bool × List Sh := (false, [.slice])
end Go.Eng
namespace Go.Eng
open Go
abbrev Rn (P : Program) (f : FuncId) (ps : List (Bool × List Sh)) (t : Tr) : Prop := ∀ {S : Shared} {h : Heap} {Q : Value → Heap → Prop} {vs : List Value}, xQ (z6 ps) vs → Inv S h → t.wp P S jf Q vs h [] → zc P S f (jb ps vs) h Q
theorem rn {P : Program} {f : FuncId} {fn : Func} {cfg : Cfg} {t : Tr} {ps : List (Bool × List Sh)} (hT : zl P cfg.tab) (hm : P.follows .mixedOrders = true) (hf : P.funcs[f]? = some fn) (hres : fn.results.toList = cfg.results) (ht : sxF cfg fn ps = some t)
 (hn : (fn.name == "runtime.NumGoroutine") = false) (hb : fn.body.isNone = false) (hps : ps.all (fun r => r.1 || r.2.length == 1) = true) : Rn P f ps t := fun hsh hi hw => RZ hT hm hf hres ht (Mw hf hn hb) hps hsh hi hw
end Go.Eng
namespace Go.Proofs.YteaonnfokkfnlaaGreatDoor
open Go Go.Eng
def yh : List (TypeId × TyD) := [(0, ⟨.oth, 1, 0, [], none, some []⟩),
(2, ⟨(.int .i64), 1, 8, [.int .i64], some [(1, (.int .i64 0))], none⟩),
(3, ⟨(.int .i64), 1, 8, [.int .i64], some [(1, (.int .i64 0))], none⟩),
(4, ⟨.bool, 1, 1, [.bool], some [(1, (.bool false))], none⟩),
(5, ⟨(.int .u8), 1, 1, [.int .u8], some [(1, (.int .u8 0))], none⟩),
(9, ⟨.str, 1, 16, [.str], none, none⟩),
(17, ⟨(.ptr 263), 1, 8, [.ptr], some [(1, .nilPtr)], none⟩),
(20, ⟨.ifc, 1, 16, [.iface], some [(1, .nilIf)], none⟩),
(22, ⟨(.sl 5), 1, 24, [.slice], some [(1, .nilSl)], none⟩),
(24, ⟨(.st [(0, 2), (1, 22), (2, 2)]), 3, 40, [.int .i64, .slice, .int .i64], some [(1, (.int .i64 0)), (1, .nilSl), (1, (.int .i64 0))], none⟩),
(38, ⟨.oth, 1, 0, [], none, some [22, 2, 22]⟩),
(48, ⟨(.st [(0, 2), (1, 22), (2, 2)]), 3, 40, [.int .i64, .slice, .int .i64], some [(1, (.int .i64 0)), (1, .nilSl), (1, (.int .i64 0))], none⟩),
(53, ⟨(.int .u32), 1, 4, [.int .u32], some [(1, (.int .u32 0))], none⟩),
(56, ⟨(.st [(0, 22), (1, 2), (2, 2)]), 3, 40, [.slice, .int .i64, .int .i64], some [(1, .nilSl), (2, (.int .i64 0))], none⟩),
(57, ⟨.oth, 1, 0, [], none, some [56, 2]⟩),
(60, ⟨.fnk, 1, 8, [.fnv], some [(1, .nilFn)], none⟩),
(62, ⟨(.st [(0, 22), (1, 3), (2, 2), (3, 3)]), 4, 48, [.slice, .int .i64, .int .i64, .int .i64], some [(1, .nilSl), (3, (.int .i64 0))], none⟩),
(64, ⟨.oth, 1, 0, [], none, some [56, 62]⟩),
(68, ⟨(.ptr 74), 1, 8, [.ptr], some [(1, .nilPtr)], none⟩),
(69, ⟨(.ptr 146), 1, 8, [.ptr], some [(1, .nilPtr)], none⟩),
(70, ⟨(.ptr 236), 1, 8, [.ptr], some [(1, .nilPtr)], none⟩),
(72, ⟨(.st [(0, 22), (1, 2), (2, 69), (3, 22), (4, 3), (5, 4), (6, 70), (7, 70)]), 8, 96, [.slice, .int .i64, .ptr, .slice, .int .i64, .bool, .ptr, .ptr], some [(1, .nilSl), (1, (.int .i64 0)), (1, .nilPtr), (1, .nilSl), (1, (.int .i64 0)), (1, (.bool false)), (2, .nilPtr)], none⟩),
(74, ⟨(.st [(0, 72)]), 8, 96, [.slice, .int .i64, .ptr, .slice, .int .i64, .bool, .ptr, .ptr], some [(1, .nilSl), (1, (.int .i64 0)), (1, .nilPtr), (1, .nilSl), (1, (.int .i64 0)), (1, (.bool false)), (2, .nilPtr)], none⟩),
(76, ⟨.ifc, 1, 16, [.iface], some [(1, .nilIf)], none⟩),
(86, ⟨(.ptr 130), 1, 8, [.ptr], some [(1, .nilPtr)], none⟩),
(92, ⟨(.int .u64), 1, 8, [.int .u64], some [(1, (.int .u64 0))], none⟩),
(98, ⟨(.int .u64), 1, 8, [.int .u64], some [(1, (.int .u64 0))], none⟩),
(101, ⟨(.ptr 72), 1, 8, [.ptr], some [(1, .nilPtr)], none⟩),
(104, ⟨.fnk, 1, 8, [.fnv], some [(1, .nilFn)], none⟩),
(108, ⟨(.sl 2), 1, 24, [.slice], some [(1, .nilSl)], none⟩),
(109, ⟨.oth, 1, 0, [], none, some [108, 108]⟩),
(111, ⟨.oth, 1, 0, [], none, some [56, 108, 108]⟩),
(114, ⟨.oth, 1, 0, [], none, some [53, 76]⟩),
(117, ⟨(.st [(0, 2)]), 1, 8, [.int .i64], some [(1, (.int .i64 0))], none⟩),
(120, ⟨(.ptr 117), 1, 8, [.ptr], some [(1, .nilPtr)], none⟩),
(127, ⟨.oth, 1, 0, [], none, some [2, 76]⟩),
(130, ⟨(.st [(0, 22), (1, 3), (2, 2)]), 3, 40, [.slice, .int .i64, .int .i64], some [(1, .nilSl), (2, (.int .i64 0))], none⟩),
(131, ⟨(.sl 53), 1, 24, [.slice], some [(1, .nilSl)], none⟩),
(132, ⟨.oth, 1, 0, [], none, some [131, 108]⟩),
(134, ⟨.fnk, 1, 8, [.fnv], some [(1, .nilFn)], none⟩),
(136, ⟨(.sl 140), 1, 24, [.slice], some [(1, .nilSl)], none⟩),
(138, ⟨.fnk, 1, 8, [.fnv], some [(1, .nilFn)], none⟩),
(140, ⟨(.st [(0, 2), (1, 98)]), 2, 16, [.int .i64, .int .u64], some [(1, (.int .i64 0)), (1, (.int .u64 0))], none⟩),
(144, ⟨(.arr 32768 5), 32768, 32768, [], some [(32768, (.int .u8 0))], none⟩),
(146, ⟨(.st [(0, 3), (1, 144), (32769, 3), (32770, 3)]), 32771, 32792, [], some [(1, (.int .i64 0)), (32768, (.int .u8 0)), (2, (.int .i64 0))], none⟩),
(148, ⟨.fnk, 1, 8, [.fnv], some [(1, .nilFn)], none⟩),
(149, ⟨.oth, 1, 0, [], none, some [148, 76]⟩),
(151, ⟨(.sl 3), 1, 24, [.slice], some [(1, .nilSl)], none⟩),
(155, ⟨.oth, 1, 0, [], none, some [56, 108]⟩),
(159, ⟨.oth, 1, 8, [.ptr], some [(1, .nilPtr)], none⟩),
(160, ⟨(.int .u64), 1, 8, [.int .u64], some [(1, (.int .u64 0))], none⟩),
(162, ⟨(.st [(0, 17), (1, 159), (2, 160)]), 3, 24, [.ptr, .ptr, .int .u64], some [(2, .nilPtr), (1, (.int .u64 0))], none⟩),
(165, ⟨.ifc, 1, 16, [.iface], some [(1, .nilIf)], none⟩),
(167, ⟨(.int .u8), 1, 1, [.int .u8], some [(1, (.int .u8 0))], none⟩),
(176, ⟨.fnk, 1, 8, [.fnv], some [(1, .nilFn)], none⟩),
(186, ⟨(.arr 17 98), 17, 136, [.int .u64, .int .u64, .int .u64, .int .u64, .int .u64, .int .u64, .int .u64, .int .u64, .int .u64, .int .u64, .int .u64, .int .u64, .int .u64, .int .u64, .int .u64, .int .u64, .int .u64], some [(17, (.int .u64 0))], none⟩),
(196, ⟨.oth, 1, 0, [], none, some [108, 108, 76]⟩),
(199, ⟨(.st [(0, 2), (1, 2), (2, 2)]), 3, 24, [.int .i64, .int .i64, .int .i64], some [(3, (.int .i64 0))], none⟩),
(201, ⟨.oth, 1, 0, [], none, some [2, 2]⟩),
(209, ⟨.ifc, 1, 16, [.iface], some [(1, .nilIf)], none⟩),
(210, ⟨.oth, 1, 0, [], none, some [209, 4]⟩),
(212, ⟨.ifc, 1, 16, [.iface], some [(1, .nilIf)], none⟩),
(213, ⟨.ifc, 1, 16, [.iface], some [(1, .nilIf)], none⟩),
(214, ⟨(.sl 76), 1, 24, [.slice], some [(1, .nilSl)], none⟩),
(234, ⟨(.sl 238), 1, 24, [.slice], some [(1, .nilSl)], none⟩),
(236, ⟨(.st [(0, 234)]), 1, 24, [.slice], some [(1, .nilSl)], none⟩),
(238, ⟨(.st [(0, 3), (1, 3)]), 2, 16, [.int .i64, .int .i64], some [(2, (.int .i64 0))], none⟩),
(241, ⟨(.arr 19 3), 19, 152, [.int .i64, .int .i64, .int .i64, .int .i64, .int .i64, .int .i64, .int .i64, .int .i64, .int .i64, .int .i64, .int .i64, .int .i64, .int .i64, .int .i64, .int .i64, .int .i64, .int .i64, .int .i64, .int .i64], some [(19, (.int .i64 0))], none⟩)]
theorem z8 : zl Tryz.prog yh := Fp (by kernel_rfl)
theorem z9 : Tryz.prog.follows .mixedOrders = true := by kernel_rfl
def B5 : Tr :=
(.lift (.br (.cm .gtr (.ln (oS 0)) (oK 320)) (.ret (.x (oK 0))) (.loop [.int .i64, .int .i64, .int .i64, .int .i64] [(oK 0), (oK 0), (oK 0), (oK 0)] (.lift (.br (.cm .lss (oI 4) (.ln (oS 0))) (.need (.nt (.nn (oS 0))) (.need (.cm .leq (oK 0) (oI 4)) (.need (.cm .lss (oI 4) (.ln (oS 0))) (.load (.ix 1 (oS 0) (oI 4)) [.int .i64] (.lift (.br (.it (.cm .lss (oI 5) (oK 0)) (.cst (.bool true)) (.cm .gtr (oI 5) (oK 15))) (.ret (.x (oK 0))) (.join [.int .i64, .int .i64, .int .i64] (.br (.cm .gtr (oI 5) (oK 0)) (.need (.cm .geq (.ar .sub .i64 (oK 15) (oI 5)) (oK 0)) (.cont 4 [(.ar .add .i64 (oI 1) (.ar .shl .i64 (oK 1) (.ar .sub .i64 (oK 15) (oI 5)))), (.ar .add .i64 (oI 2) (oK 1)), (oI 5)])) (.cont 4 [(oI 1), (oI 2), (oI 3)])) (.cont 1 [(oI 6), (oI 7), (oI 8), (.ar .add .i64 (oI 4) (oK 1))])))))))) (.lift (.br (.cm .eql (oI 2) (oK 0)) (.ret (.x (oK 5))) (.lift (.br (.cm .gtr (oI 1) (oK 32768)) (.ret (.x (oK 2))) (.lift (.br (.cm .eql (oI 1) (oK 32768)) (.ret (.x (oK 1))) (.lift (.br (.it (.cm .eql (oI 2) (oK 1)) (.cm .eql (oI 3) (oK 1)) (.cst (.bool false))) (.ret (.x (oK 4))) (.ret (.x (oK 3))))))))))))))))
theorem EJ : Rn Tryz.prog xG [oR] B5 := rn (cfg := ⟨yh, [⟨5, [3, 4, 5, 13], [], [7, 14, 15, 16, 17, 18, 19, 20, 21, 22, 23, 24, 25, 26, 27, 28, 29, 30, 31, 32, 33]⟩], [], [.tmp 2]⟩) z8 z9 Tryz.func139 rfl (by kernel_rfl) (by kernel_rfl) (by kernel_rfl) rfl
def AT : Tr :=
(.call xG [(.x (oS 0))] false [oQ] (.lift (.br (.it (.cm .eql (oI 1) (oK 0)) (.cst (.bool true)) (.cm .eql (oI 1) (oK 2))) (.hsl 140 0 [] (.ret (.x (oS 2)))) (.hall 186 [(17, (.cst (.int .u64 0)))] (.hsto (oA 2) [(.cst (.int .u64 0)), (.cst (.int .u64 0)), (.cst (.int .u64 0)), (.cst (.int .u64 0)), (.cst (.int .u64 0)), (.cst (.int .u64 0)), (.cst (.int .u64 0)), (.cst (.int .u64 0)), (.cst (.int .u64 0)), (.cst (.int .u64 0)), (.cst (.int .u64 0)), (.cst (.int .u64 0)), (.cst (.int .u64 0)), (.cst (.int .u64 0)), (.cst (.int .u64 0)), (.cst (.int .u64 0)), (.cst (.int .u64 0))] (.loop [.int .i64] [(oK 0)] (.lift (.br (.cm .lss (oI 3) (.ln (oS 0))) (.need (.nt (.nn (oS 0))) (.need (.cm .leq (oK 0) (oI 3)) (.need (.cm .lss (oI 3) (.ln (oS 0))) (.load (.ix 1 (oS 0) (oI 3)) [.int .i64] (.join [] (.br (.cm .gtr (oI 4) (oK 0)) (.need (.cm .leq (oK 0) (oI 4)) (.need (.cm .lss (oI 4) (oK 17)) (.load (.ia 1 (oA 2) (oI 4)) [.int .u64] (.need (.cm .leq (oK 0) (oI 4)) (.need (.cm .lss (oI 4) (oK 17)) (.hsto (.ia 1 (oA 2) (oI 4)) [(.ar .add .u64 (.var (.int .u64) 5) (.cst (.int .u64 1)))] (.cont 3 []))))))) (.cont 3 [])) (.cont 1 [(.ar .add .i64 (oI 3) (oK 1))])))))) (.hall 186 [(17, (.cst (.int .u64 0)))] (.hsto (oA 4) [(.cst (.int .u64 0)), (.cst (.int .u64 0)), (.cst (.int .u64 0)), (.cst (.int .u64 0)), (.cst (.int .u64 0)), (.cst (.int .u64 0)), (.cst (.int .u64 0)), (.cst (.int .u64 0)), (.cst (.int .u64 0)), (.cst (.int .u64 0)), (.cst (.int .u64 0)), (.cst (.int
.u64 0)), (.cst (.int .u64 0)), (.cst (.int .u64 0)), (.cst (.int .u64 0)), (.cst (.int .u64 0)), (.cst (.int .u64 0))] (.loop [.int .i64] [(oK 1)] (.lift (.br (.cm .leq (oI 5) (oK 15)) (.need (.cm .leq (oK 0) (.ar .sub .i64 (oI 5) (oK 1))) (.need (.cm .lss (.ar .sub .i64 (oI 5) (oK 1)) (oK 17)) (.load (.ia 1 (oA 4) (.ar .sub .i64 (oI 5) (oK 1))) [.int .u64] (.need (.cm .leq (oK 0) (.ar .sub .i64 (oI 5) (oK 1))) (.need (.cm .lss (.ar .sub .i64 (oI 5) (oK 1)) (oK 17)) (.load (.ia 1 (oA 2) (.ar .sub .i64 (oI 5) (oK 1))) [.int .u64] (.need (.cm .leq (oK 0) (oI 5)) (.need (.cm .lss (oI 5) (oK 17)) (.hsto (.ia 1 (oA 4) (oI 5)) [(.ar .shl .u64 (.ar .add .u64 (.var (.int .u64) 6) (.var (.int .u64) 7)) (.cst (.int .u64 1)))] (.cont 3 [(.ar .add .i64 (oI 5) (oK 1))])))))))))) (.mks 140 2 16 [(.int .i64 0), (.int .u64 0)] (.ln (oS 0)) (.ln (oS 0)) (.loop [.int .i64] [(oK 0)] (.lift (.br (.cm .lss (oI 7) (.ln (oS 0))) (.need (.nt (.nn (oS 0))) (.need (.cm .leq (oK 0) (oI 7)) (.need (.cm .lss (oI 7) (.ln (oS 0))) (.load (.ix 1 (oS 0) (oI 7)) [.int .i64] (.join [] (.br (.cm .gtr (oI 8) (oK 0)) (.need (.cm .leq (oK 0) (oI 8)) (.need (.cm .lss (oI 8) (oK 17)) (.load (.ia 1 (oA 4) (oI 8)) [.int .u64] (.call At [(.x (.var (.int .u64) 9)), (.x (oI 8))] false [(false, [.int .u64])] (.need (.nt (.nn (oS 6))) (.need (.cm .leq (oK 0) (oI 7)) (.need (.cm .lss (oI 7) (.ln (oS 6))) (.hsto (.ix 2 (oS 6) (oI 7)) [(oI 8), (.var (.int .u64) 10)] (.need (.cm .leq (oK 0) (oI 8)) (.need (.cm
.lss (oI 8) (oK 17)) (.load (.ia 1 (oA 4) (oI 8)) [.int .u64] (.need (.cm .leq (oK 0) (oI 8)) (.need (.cm .lss (oI 8) (oK 17)) (.hsto (.ia 1 (oA 4) (oI 8)) [(.ar .add .u64 (.var (.int .u64) 11) (.cst (.int .u64 1)))] (.cont 7 []))))))))))))))) (.cont 7 [])) (.cont 5 [(.ar .add .i64 (oI 7) (oK 1))])))))) (.ret (.x (oS 6))))))))))))))))))))
theorem DF : Rn Tryz.prog kj [oR] AT := rn (cfg := ⟨yh, [⟨6, [24], [], [6, 25, 26, 27, 28, 29, 30, 31, 32, 33, 34, 35]⟩, ⟨13, [8], [], [37, 38, 39, 40, 41, 42, 43, 44, 45, 46, 47, 48, 49, 50, 51, 52]⟩, ⟨18, [58], [], [10, 11, 59, 60, 61, 62, 63, 64, 65, 66, 67, 68, 69, 70, 71, 72, 73, 74, 75, 76, 77, 78, 79, 80]⟩], [4, 7], [.tmp 2]⟩) z8 z9 Tryz.func101 rfl (by kernel_rfl) (by kernel_rfl) (by kernel_rfl) rfl
def CZ : Tr :=
(.loop [.int .u64, .int .i64] [(.cst (.int .u64 0)), (oK 0)] (.lift (.br (.cm .lss (oI 3) (oI 1)) (.need (.cm .geq (oI 3) (oK 0)) (.need (.cm .geq (.ar .sub .i64 (.ar .sub .i64 (oI 1) (oK 1)) (oI 3)) (oK 0)) (.cont 0 [(.ar .or .u64 (.var (.int .u64) 2) (.ar .shl .u64 (.ar .and .u64 (.ar .shr .u64 (.var (.int .u64) 0) (oI 3)) (.cst (.int .u64 1))) (.ar .sub .i64 (.ar .sub .i64 (oI 1) (oK 1)) (oI 3)))), (.ar .add .i64 (oI 3) (oK 1))]))) (.ret (.x (.var (.int .u64) 2))))))
theorem Gl : Rn Tryz.prog At [(false, [.int .u64]), oQ] CZ := rn (cfg := ⟨yh, [⟨3, [5, 8], [], [6, 9, 10, 11, 12, 13, 14, 15, 16, 17, 18, 19, 20, 21, 22]⟩], [], [.tmp 4]⟩) z8 z9 Tryz.func140 rfl (by kernel_rfl) (by kernel_rfl) (by kernel_rfl) rfl
def Cg : Tr :=
(.mks 238 2 16 [(.int .i64 0), (.int .i64 0)] (oK 1) (oK 1) (.hall 236 [(1, (oS 1))] (.call kj [(.x (oS 0))] false [oR] (.loop [.int .i64] [(oK 0)] (.lift (.br (.cm .lss (oI 4) (.ln (oS 3))) (.need (.nt (.nn (oS 3))) (.need (.cm .leq (oK 0) (oI 4)) (.need (.cm .lss (oI 4) (.ln (oS 3))) (.load (.ix 2 (oS 3) (oI 4)) [.int .i64, .int .u64] (.lift (.br (.cm .eql (oI 5) (oK 0)) (.cont 0 [(.ar .add .i64 (oI 4) (oK 1))]) (.loop [.int .i64, .int .i64] [(oK 0), (oK 0)] (.lift (.br (.cm .lss (oI 8) (oI 5)) (.load (.fld (oA 2) 0) [.slice] (.need (.nt (.nn (oS 9))) (.need (.cm .leq (oK 0) (oI 7)) (.need (.cm .lss (oI 7) (.ln (oS 9))) (.load (.fld (.ix 2 (oS 9) (oI 7)) 1) [.int .i64] (.join [] (.br (.cm .eql (oI 10) (oK 0)) (.load (.fld (oA 2) 0) [.slice] (.load (.fld (oA 2) 0) [.slice] (.need (.nt (.nn (oS 11))) (.need (.cm .leq (oK 0) (oI 7)) (.need (.cm .lss (oI 7) (.ln (oS 11))) (.hsto (.fld (.ix 2 (oS 11) (oI 7)) 1) [(.ln (oS 12))] (.load (.fld (oA 2) 0) [.slice] (.hsl 238 2 [(oK 0), (oK 0), (oK 0), (oK 0)] (.app 238 2 16 [(.int .i64 0), (.int .i64 0)] (oS 13) (oS 14) (.hsto (.fld (oA 2) 0) [(oS 15)] (.cont 5 []))))))))))) (.cont 5 [])) (.load (.fld (oA 2) 0) [.slice] (.need (.nt (.nn (oS 11))) (.need (.cm .leq (oK 0) (oI 7)) (.need (.cm .lss (oI 7) (.ln (oS 11))) (.load (.fld (.ix 2 (oS 11) (oI 7)) 1) [.int .i64] (.need (.cm .geq (oI 8) (oK 0)) (.cont 3 [(.ar .add .i64 (oI 12) (.cv .i64 (.ar .and .u64 (.ar .shr .u64 (.var (.int .u64) 6) (oI 8)) (.cst (.int .u64
1))))), (.ar .add .i64 (oI 8) (oK 1))]))))))))))))) (.load (.fld (oA 2) 0) [.slice] (.need (.nt (.nn (oS 9))) (.need (.cm .leq (oK 0) (oI 7)) (.need (.cm .lss (oI 7) (.ln (oS 9))) (.hsto (.fld (.ix 2 (oS 9) (oI 7)) 0) [(.ar .add .i64 (oI 4) (oK 1))] (.cont 0 [(.ar .add .i64 (oI 4) (oK 1))]))))))))))))))) (.ret (.x (oA 2)))))))))
theorem Ft : Rn Tryz.prog xx [oR] Cg := rn (cfg := ⟨yh, [⟨8, [6, 24], [], [7, 25, 26, 27, 28, 29, 30, 31, 32, 33, 34, 35, 36, 37, 38, 39, 40, 41, 42, 43, 44, 45, 46, 47, 48, 49, 50, 51, 52, 53, 54, 55, 56, 57, 58, 59, 60, 61, 62, 63, 64, 65, 66, 67, 68, 69, 70, 71, 72, 73, 74]⟩, ⟨3, [14], [], [4, 5, 6, 7, 15, 16, 17, 18, 19, 20, 21, 22, 23, 24, 25, 26, 27, 28, 29, 30, 31, 32, 33, 34, 35, 36, 37, 38, 39, 40, 41, 42, 43, 44, 45, 46, 47, 48, 49, 50, 51, 52, 53, 54, 55, 56, 57, 58, 59, 60, 61, 62, 63, 64, 65, 66, 67, 68, 69, 70, 71, 72, 73, 74, 75, 76, 77, 78, 79, 80, 81, 82, 83, 84]⟩], [10], [.tmp 2]⟩) z8 z9 Tryz.func148 rfl (by kernel_rfl) (by kernel_rfl) (by kernel_rfl) rfl
def qo : Tr :=
(.need (.nt (.nn (oP 0))) (.load (.fld (.nz (oP 0)) 0) [.slice] (.need (.nt (.nn (oS 2))) (.need (.cm .leq (oK 0) (oK 0)) (.need (.cm .lss (oK 0) (.ln (oS 2))) (.load (.ix 2 (oS 2) (oK 0)) [.int .i64, .int .i64] (.loop [.int .i64, .int .i64, .int .i64] [(oK 0), (oI 3), (oI 4)] (.lift (.br (.cm .gtr (oI 6) (oK 0)) (.ret (.agg [(oK 1), (.ar .sub .i64 (oI 6) (oK 1)), (oI 5)])) (.lift (.br (.cm .eql (oI 7) (oK 0)) (.ret (.agg [(oK 0), (oK 0), (oK 0)])) (.callv (.var (.fnv) 1) [] false [oQ] (.lift (.br (.cm .lss (oI 8) (oK 0)) (.ret (.agg [(oK 2), (oK 0), (oK 0)])) (.need (.nt (.nn (oP 0))) (.load (.fld (.nz (oP 0)) 0) [.slice] (.need (.nt (.nn (oS 9))) (.need (.cm .leq (oK 0) (.ar .add .i64 (oI 7) (oI 8))) (.need (.cm .lss (.ar .add .i64 (oI 7) (oI 8)) (.ln (oS 9))) (.load (.ix 2 (oS 9) (.ar .add .i64 (oI 7) (oI 8))) [.int .i64, .int .i64] (.cont 0 [(.ar .add .i64 (oI 5) (oK 1)), (oI 10), (oI 11)])))))))))))))))))))))
theorem AU : Rn Tryz.prog j9 [(false, [.ptr]), (false, [.fnv])] qo := rn (cfg := ⟨yh, [⟨4, [6], [(1, 0), (1, 1)], [7, 14, 15, 16, 17, 18, 19, 20, 21, 22, 23, 24, 25, 26, 27, 28, 29, 30, 31, 32, 33, 34, 35, 36, 37, 38, 39, 40, 41, 42]⟩], [], [.cell 4 199]⟩) z8 z9 Tryz.func189 rfl (by kernel_rfl) (by kernel_rfl) (by kernel_rfl) rfl
def Ch : Tr :=
(.hall 117 [(1, (oK 0))] (.hsto (oA 1) [(oK 1)] (.call BK [(.x (oF 0)), (.x (.ifc 120 (oA 1)))] false [(false, [.bool])] (.load (.fld (oA 1) 0) [.int .i64] (.ret (.x (oI 3)))))))
theorem Fu : Rn Tryz.prog wS [(false, [.iface])] Ch := rn (cfg := ⟨yh, [], [3], [.tmp 2]⟩) z8 z9 Tryz.func47 rfl (by kernel_rfl) (by kernel_rfl) (by kernel_rfl) rfl
def EV : Tr :=
(.lift (.br (.nn (oF 0)) (.ret (.x (.cst (.bool false)))) (.lift (.br (.nn (oF 1)) (.need (.cst (.bool false)) (.ret .junk)) (.call yI [(.x (oF 1))] false [(true, [.ptr, .ptr, .int .u64])] (.call xF [(.agg [(oP 2), (oP 3), (.var (.int .u64) 4)])] false [(false, [.iface])] (.join [.int .u8, .bool, .bool, .bool] (.calli (oF 5) "Kind" [] false [(false, [.int .u8])] (.br (.nt (.cm .neq (.var (.int .u8) 6) (.cst (.int .u8 22)))) (.call x9 [(.agg [(oP 2), (oP 3), (.var (.int .u64) 4)])] false [(false, [.bool])] (.cont 2 [(.var (.int .u8) 6), (.cm .neq (.var (.int .u8) 6) (.cst (.int .u8 22))), (.cm .neq (.var (.int .u8) 6) (.cst (.int .u8 22))), (oB 7)])) (.cont 2 [(.var (.int .u8) 6), (.cm .neq (.var (.int .u8) 6) (.cst (.int .u8 22))), (.cm .neq (.var (.int .u8) 6) (.cst (.int .u8 22))), (.cst (.bool true))]))) (.lift (.br (oB 9) (.need (.cst (.bool false)) (.ret .junk)) (.calli (oF 5) "Elem" [] false [(false, [.iface])] (.join [.int .u8, .bool, .bool, .bool] (.calli (oF 10) "Kind" [] false [(false, [.int .u8])] (.br (.cm .neq (.var (.int .u8) 11) (.cst (.int .u8 20))) (.load (.glob 3) [.iface] (.calli (oF 10) "Implements" [(.x (oF 12))] false [(false, [.bool])] (.cont 3 [(.var (.int .u8) 11), (.cm .neq (.var (.int .u8) 11) (.cst (.int .u8 20))), (.cm .neq (.var (.int .u8) 11) (.cst (.int .u8 20))), (.nt (oB 13))]))) (.cont 3 [(.var (.int .u8) 11), (.cm .neq (.var (.int .u8) 11) (.cst
(.int .u8 20))), (.cm .neq (.var (.int .u8) 11) (.cst (.int .u8 20))), (.cst (.bool false))]))) (.lift (.br (oB 14) (.need (.cst (.bool false)) (.ret .junk)) (.call BL [(.x (oF 0)), (.x (oF 1)), (.agg [(oP 2), (oP 3), (.var (.int .u64) 4)]), (.x (oF 10))] false [(false, [.bool])] (.ret (.x (oB 15)))))))))))))))))
theorem Ig : Rn Tryz.prog BK [(false, [.iface]), (false, [.iface])] EV := rn (cfg := ⟨yh, [], [], [.tmp 4]⟩) z8 z9 Tryz.func87 rfl (by kernel_rfl) (by kernel_rfl) (by kernel_rfl) rfl
def EW : Tr :=
(.loop [] [] (.call jC [(.x (oF 0))] false [(false, [.iface])] (.calli (oF 6) "AssignableTo" [(.x (oF 5))] false [(false, [.bool])] (.lift (.br (oB 7) (.call xH [(.agg [(oP 2), (oP 3), (.var (.int .u64) 4)])] false [(true, [.ptr, .ptr, .int .u64])] (.call yI [(.x (oF 0))] false [(true, [.ptr, .ptr, .int .u64])] (.call xO [(.agg [(oP 8), (oP 9), (.var (.int .u64) 10)]), (.agg [(oP 11), (oP 12), (.var (.int .u64) 13)])] true [] (.ret (.x (.cst (.bool true))))))) (.need (.cst (.bool false)) (.ret .junk)))))))
theorem Ih : Rn Tryz.prog BL [(false, [.iface]), (false, [.iface]), (true, [.ptr, .ptr, .int .u64]), (false, [.iface])] EW := rn (cfg := ⟨yh, [⟨1, [], [], [9, 10, 11, 12, 14, 15, 16, 17, 18, 19, 20, 21, 22, 23, 24, 25, 26, 27, 28, 29, 30, 31, 32, 33, 34, 35, 36, 37, 38, 39, 40, 41, 42, 43, 44, 45, 46, 47, 48, 49, 50, 51, 52, 53, 54, 55, 56, 57, 58, 59, 60, 61]⟩], [], [.tmp 8]⟩) z8 z9 Tryz.func129 rfl (by kernel_rfl) (by kernel_rfl) (by kernel_rfl) rfl
def qN : Tr :=
(.need (.nt (.nn (oP 0))) (.load (.fld (.nz (oP 0)) 1) [.int .i64] (.need (.nt (.nn (oP 0))) (.hsto (.fld (.nz (oP 0)) 1) [(.ar .mul .i64 (.ar .quo .i64 (.ar .add .i64 (oI 1) (oK 7)) (oK 8)) (oK 8))] (.ret (.tup []))))))
theorem Bs : Rn Tryz.prog xD [(false, [.ptr])] qN := rn (cfg := ⟨yh, [], [], []⟩) z8 z9 Tryz.func86 rfl (by kernel_rfl) (by kernel_rfl) (by kernel_rfl) rfl
def qp : Tr :=
(.need (.nt (.nn (oP 0))) (.load (.fld (.nz (oP 0)) 0) [.slice] (.need (.nt (.nn (oP 0))) (.load (.fld (.nz (oP 0)) 1) [.int .i64] (.lift (.br (.cm .gtr (oI 1) (.ar .sub .i64 (.ar .mul .i64 (oK 8) (.ln (oS 2))) (oI 3))) (.load (.glob 4) [.int .i64] (.ret (.tup [(false, [(oK 0)]), (false, [(.ifc 117 (.ag (.cs (oI 4) .nl)))])]))) (.loop [.int .i64, .int .i64] [(oK 0), (oK 0)] (.lift (.br (.cm .lss (oI 5) (oI 1)) (.call xv [(.x (oP 0))] false [oQ] (.need (.cm .geq (oI 5) (oK 0)) (.cont 1 [(.ar .or .i64 (oI 4) (.ar .shl .i64 (oI 6) (oI 5))), (.ar .add .i64 (oI 5) (oK 1))]))) (.ret (.tup [(false, [(oI 4)]), (false, [(.cst .nilIf)])])))))))))))
theorem AV : Rn Tryz.prog zJ [(false, [.ptr]), oQ] qp := rn (cfg := ⟨yh, [⟨5, [6, 24], [], [7, 25, 26, 27, 28, 29, 30, 31, 32, 33]⟩], [], [.tmp 4, .tmp 5]⟩) z8 z9 Tryz.func92 rfl (by kernel_rfl) (by kernel_rfl) (by kernel_rfl) rfl
def wJ : Tr :=
(.need (.nt (.nn (oP 0))) (.load (.fld (.nz (oP 0)) 1) [.int .i64] (.need (.nt (.nn (oP 0))) (.load (.fld (.nz (oP 0)) 0) [.slice] (.lift (.br (.cm .geq (oI 1) (.ar .mul .i64 (oK 8) (.ln (oS 2)))) (.ret (.x (.cst (.int .i64 (-1))))) (.need (.nt (.nn (oP 0))) (.load (.fld (.nz (oP 0)) 1) [.int .i64] (.need (.nt (.nn (oP 0))) (.load (.fld (.nz (oP 0)) 1) [.int .i64] (.need (.nt (.nn (oP 0))) (.hsto (.fld (.nz (oP 0)) 1) [(.ar .add .i64 (oI 4) (oK 1))] (.need (.nt (.nn (oP 0))) (.load (.fld (.nz (oP 0)) 0) [.slice] (.need (.nt (.nn (oS 5))) (.need (.cm .leq (oK 0) (.ar .quo .i64 (oI 3) (oK 8))) (.need (.cm .lss (.ar .quo .i64 (oI 3) (oK 8)) (.ln (oS 5))) (.load (.ix 1 (oS 5) (.ar .quo .i64 (oI 3) (oK 8))) [.int .u8] (.need (.cm .geq (.ar .rem .i64 (oI 3) (oK 8)) (oK 0)) (.ret (.x (.cv .i64 (.ar .and .u8 (.ar .shr .u8 (.var (.int .u8) 6) (.ar .rem .i64 (oI 3) (oK 8))) (.cst (.int .u8 1)))))))))))))))))))))))))
theorem Ci : Rn Tryz.prog xv [(false, [.ptr])] wJ := rn (cfg := ⟨yh, [], [], [.tmp 2]⟩) z8 z9 Tryz.func134 rfl (by kernel_rfl) (by kernel_rfl) (by kernel_rfl) rfl
def mlE : Tr :=
(.need (.cm .leq (oK 0) (.ar .add .i64 (oI 3) (oK 257))) (.need (.cm .leq (.ar .add .i64 (oI 3) (oK 257)) (.cp (oS 15))) (.need (.cm .leq (oK 0) (.ar .add .i64 (oI 3) (oK 257))) (.need (.cm .leq (.ar .add .i64 (oI 3) (oK 257)) (.ar .add .i64 (oI 3) (oK 257))) (.need (.cm .leq (oK 0) (.ar .add .i64 (oI 3) (oK 257))) (.need (.cm .leq (.ar .add .i64 (oI 3) (oK 257)) (.ln (oS 15))) (.call xG [(.x (.sub 1 (oS 15) .nl (.ar .add .i64 (oI 3) (oK 257)) (.ar .add .i64 (oI 3) (oK 257))))] false [oQ] (.call xG [(.x (.sub 1 (oS 15) (.ar .add .i64 (oI 3) (oK 257)) .nl .nl))] false [oQ] (.need (.nt (.nn (.sub 1 (oS 15) .nl (.ar .add .i64 (oI 3) (oK 257)) (.ar .add .i64 (oI 3) (oK 257))))) (.need (.cm .leq (oK 0) (oK 256)) (.need (.cm .lss (oK 256) (.ln (.sub 1 (oS 15) .nl (.ar .add .i64 (oI 3) (oK 257)) (.ar .add .i64 (oI 3) (oK 257))))) (.load (.ix 1 (.sub 1 (oS 15) .nl (.ar .add .i64 (oI 3) (oK 257)) (.ar .add .i64 (oI 3) (oK 257))) (oK 256)) [.int .i64] (.lift (.br (.it (.it (.cm .eql (oI 18) (oK 0)) (.cst (.bool true)) (.it (.cm .neq (oI 16) (oK 1)) (.cm .neq (oI 16) (oK 4)) (.cst (.bool false)))) (.cst (.bool true)) (.it (.it (.cm .neq (oI 17) (oK 1)) (.cm .neq (oI 17) (oK 4)) (.cst (.bool false))) (.cm .neq (oI 17) (oK 5)) (.cst (.bool false)))) (.load (.glob 0) [.int .i64] (.hsto (oA 2) [(.ifc 117 (.ag (.cs (oI 19) .nl)))] (.load (oA 2) [.iface] (.ret (.tup [(false, [(.cst .nilSl)]), (false, [(.cst .nilSl)]), (false, [(oF 20)])]))))) (.hsto (oA 2) [(.cst
.nilIf)] (.load (oA 2) [.iface] (.ret (.tup [(false, [(.sub 1 (oS 15) .nl (.ar .add .i64 (oI 3) (oK 257)) (.ar .add .i64 (oI 3) (oK 257)))]), (false, [(.sub 1 (oS 15) (.ar .add .i64 (oI 3) (oK 257)) .nl .nl)]), (false, [(oF 19)])]))))))))))))))))))
def mlR : Tr :=
(.load (oA 2) [.iface] (.lift (.br (.nt (.nn (oF 21))) (.load (oA 2) [.iface] (.hsto (oA 2) [(oF 22)] (.load (oA 2) [.iface] (.ret (.tup [(false, [(.cst .nilSl)]), (false, [(.cst .nilSl)]), (false, [(oF 23)])]))))) (.lift (.br (.cm .gtr (oI 20) (.ar .sub .i64 (.ar .add .i64 (.ar .add .i64 (oI 3) (oK 257)) (.ar .add .i64 (oI 5) (oK 1))) (.ln (oS 15)))) (.load (.glob 0) [.int .i64] (.hsto (oA 2) [(.ifc 117 (.ag (.cs (oI 22) .nl)))] (.load (oA 2) [.iface] (.ret (.tup [(false, [(.cst .nilSl)]), (false, [(.cst .nilSl)]), (false, [(oF 23)])]))))) (.loop [.slice, .int .i64] [(oS 15), (oK 0)] (.lift (.br (.cm .lss (oI 23) (oI 20)) (.hsl 2 1 [(oI 19)] (.app 2 1 8 [(.int .i64 0)] (oS 22) (oS 24) (.cont 9 [(oS 25), (.ar .add .i64 (oI 23) (oK 1))]))) (.cont 4 [(oS 22)])))))))))
def mlB : Tr :=
(.load (oA 1) [.ptr] (.call yC [(.x (oP 16)), (.x (oP 13))] true [oQ, (false, [.iface])] (.lift (.br (.nt (.nn (oF 18))) (.hsto (oA 2) [(oF 18)] (.load (oA 2) [.iface] (.ret (.tup [(false, [(.cst .nilSl)]), (false, [(.cst .nilSl)]), (false, [(oF 19)])])))) (.join [.int .i64, .int .i64] (.br (.cm .eql (oI 17) (oK 16)) (.lift (.br (.cm .eql (.ln (oS 15)) (oK 0)) (.load (.glob 0) [.int .i64] (.hsto (oA 2) [(.ifc 117 (.ag (.cs (oI 19) .nl)))] (.load (oA 2) [.iface] (.ret (.tup [(false, [(.cst .nilSl)]), (false, [(.cst .nilSl)]), (false, [(oF 20)])]))))) (.need (.nt (.nn (oS 15))) (.need (.cm .leq (oK 0) (.ar .sub .i64 (.ln (oS 15)) (oK 1))) (.need (.cm .lss (.ar .sub .i64 (.ln (oS 15)) (oK 1)) (.ln (oS 15))) (.load (.ix 1 (oS 15) (.ar .sub .i64 (.ln (oS 15)) (oK 1))) [.int .i64] (.call yb [(.x (oK 2)), (.x (oA 2)), (.x (oA 1))] false [oQ] (.still [((.ix 1 (oS 15) (.ar .sub .i64 (.ln (oS 15)) (oK 1))), (oI 19))] (.cont 7 [(oI 19), (.ar .add .i64 (oI 20) (oK 3))]))))))))) (.join [.int .i64, .int .i64] (.br (.cm .eql (oI 17) (oK 17)) (.call yb [(.x (oK 3)), (.x (oA 2)), (.x (oA 1))] false [oQ] (.cont 8 [(oK 0), (.ar .add .i64 (oI 19) (oK 3))])) (.join [.int .i64, .int .i64] (.br (.cm .eql (oI 17) (oK 18)) (.call yb [(.x (oK 7)), (.x (oA 2)), (.x (oA 1))] false [oQ] (.cont 9 [(oK 0), (.ar .add .i64 (oI 19) (oK 11))])) (.cont 9 [(oI 17), (oK 1)])) (.cont 8 [(oI 19), (oI 20)]))) (.cont 7 [(oI 19), (oI
20)]))) mlR)))))
def mlC : Tr :=
(.load (oA 2) [.iface] (.lift (.br (.nt (.nn (oF 11))) (.load (oA 2) [.iface] (.hsto (oA 2) [(oF 12)] (.load (oA 2) [.iface] (.ret (.tup [(false, [(.cst .nilSl)]), (false, [(.cst .nilSl)]), (false, [(oF 13)])]))))) (.call xG [(.x (oS 9))] false [oQ] (.lift (.br (.cm .neq (oI 12) (oK 1)) (.load (.glob 0) [.int .i64] (.hsto (oA 2) [(.ifc 117 (.ag (.cs (oI 13) .nl)))] (.load (oA 2) [.iface] (.ret (.tup [(false, [(.cst .nilSl)]), (false, [(.cst .nilSl)]), (false, [(oF 14)])]))))) (.call xx [(.x (oS 9))] false [(false, [.ptr])] (.hsl 2 0 [] (.loop [.slice] [(oS 14)] (.lift (.br (.cm .lss (.ln (oS 15)) (.ar .add .i64 (.ar .add .i64 (oI 3) (oK 257)) (.ar .add .i64 (oI 5) (oK 1)))) mlB mlE)))))))))))
def ml3 : Tr :=
(.call yb [(.x (oK 4)), (.x (oA 2)), (.x (oA 1))] false [oQ] (.hall 241 [(19, (oK 0))] (.hsto (oA 8) [(oK 16), (oK 17), (oK 18), (oK 0), (oK 8), (oK 7), (oK 9), (oK 6), (oK 10), (oK 5), (oK 11), (oK 4), (oK 12), (oK 3), (oK 13), (oK 2), (oK 14), (oK 1), (oK 15)] (.mks 2 1 8 [(.int .i64 0)] (oK 19) (oK 19) (.loop [.int .i64] [(oK 0)] (.lift (.br (.cm .lss (oI 10) (.ar .add .i64 (oI 7) (oK 4))) (.need (.cm .leq (oK 0) (oI 10)) (.need (.cm .lss (oI 10) (oK 19)) (.load (.ia 1 (oA 8) (oI 10)) [.int .i64] (.call yb [(.x (oK 3)), (.x (oA 2)), (.x (oA 1))] false [oQ] (.still [((.ia 1 (oA 8) (oI 10)), (oI 11))] (.need (.nt (.nn (oS 9))) (.need (.cm .leq (oK 0) (oI 11)) (.need (.cm .lss (oI 11) (.ln (oS 9))) (.hsto (.ix 1 (oS 9) (oI 11)) [(oI 12)] (.cont 0 [(.ar .add .i64 (oI 10) (oK 1))])))))))))) mlC)))))))
def ml2 : Tr :=
(.join [] (.br (.it (.nn (oF 6)) (.cm .gtr (.ar .add .i64 (oI 5) (oK 1)) (oK 30)) (.cst (.bool false))) (.load (.glob 0) [.int .i64] (.hsto (oA 2) [(.ifc 117 (.ag (.cs (oI 7) .nl)))] (.cont 0 []))) (.cont 0 [])) ml3)
def ml1 : Tr :=
(.join [] (.br (.it (.nn (oF 4)) (.cm .gtr (.ar .add .i64 (oI 3) (oK 257)) (oK 286)) (.cst (.bool false))) (.load (.glob 0) [.int .i64] (.hsto (oA 2) [(.ifc 117 (.ag (.cs (oI 5) .nl)))] (.cont 0 []))) (.cont 0 [])) (.call yb [(.x (oK 5)), (.x (oA 2)), (.x (oA 1))] false [oQ] (.load (oA 2) [.iface] ml2)))
def wu : Tr :=
(.hall 101 [(1, (oP 0))] (.hall 76 [(1, (.cst .nilIf))] (.call yb [(.x (oK 5)), (.x (oA 2)), (.x (oA 1))] false [oQ] (.load (oA 2) [.iface] ml1))))
theorem BM : Rn Tryz.prog ko [(false, [.ptr])] wu := rn (cfg := ⟨yh, [⟨12, [49], [], [11, 50, 51, 52, 53, 54, 55, 56, 57, 58, 59]⟩, ⟨42, [13, 128], [], [129, 130, 131, 132, 133, 134]⟩, ⟨22, [13], [], [14, 15, 16, 17, 71, 72, 73, 74, 75, 76, 77, 78, 79, 80, 81, 82, 83, 84, 85, 86, 87, 88, 89, 90, 91, 92, 93, 94, 95, 96, 97, 98, 99, 100, 101, 102, 103, 104, 105, 106, 107, 108, 109, 110, 111, 112, 113, 114, 115, 116, 117, 118, 119, 120, 121, 122, 123, 124, 125, 126, 127, 128, 129, 130, 131, 132, 133, 134]⟩], [1, 4, 9], [.tmp 2, .tmp 3, .cell 4 76]⟩) z8 z9 Tryz.func150 rfl (by kernel_rfl) (by kernel_rfl) (by kernel_rfl) rfl
end Go.Proofs.YteaonnfokkfnlaaGreatDoor
end
