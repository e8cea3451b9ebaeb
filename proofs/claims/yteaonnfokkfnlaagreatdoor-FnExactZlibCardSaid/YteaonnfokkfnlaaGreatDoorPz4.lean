import Derived.Test.YteaonnfokkfnlaaGreatDoorChecked
import Derived.Test.YteaonnfokkfnlaaGreatDoorPz2
import Derived.Test.YteaonnfokkfnlaaGreatDoorPz3
set_option maxRecDepth 100000
set_option maxHeartbeats 8000000
set_option linter.unusedVariables false
set_option linter.unusedSimpArgs false
set_option linter.unusedSectionVars false
section
namespace Go.Eng
abbrev oI (n : Nat) : Ex := .var (.int .i64) n
abbrev oS (n : Nat) : Ex := .var .slice n
abbrev oP (n : Nat) : Ex := .var .ptr n
abbrev oB (n : Nat) : Ex := .var .bool n
abbrev oA (n : Nat) : Ex := .var .addr n
abbrev oF (n : Nat) : Ex := .var .iface n
abbrev oU (n : Nat) : Ex := .var (.int .u32) n
abbrev oK (n : Int) : Ex := .cst (.int .i64 n)
abbrev oQ : Bool × List Sh := (false, [.int .i64])
abbrev oR : Bool × List Sh := (false, [.slice])
end Go.Eng
namespace Go.Eng
open Go
abbrev Rn (P : Program) (f : FuncId) (ps : List (Bool × List Sh)) (t : Tr) : Prop := ∀ {S : Shared} {h : Heap} {Q : Value → Heap → Prop} {vs : List Value}, jq (zw ps) vs → Inv S h → t.wp P S yV Q vs h [] → za P S f (ji ps vs) h Q
theorem rn {P : Program} {f : FuncId} {fn : Func} {cfg : Cfg} {t : Tr} {ps : List (Bool × List Sh)} (hT : zx P cfg.tab) (hm : P.follows .mixedOrders = true) (hf : P.funcs[f]? = some fn) (hres : fn.results.toList = cfg.results) (ht : sxF cfg fn ps = some t)
 (hn : (fn.name == "runtime.NumGoroutine") = false) (hb : fn.body.isNone = false) (hps : ps.all (fun r => r.1 || r.2.length == 1) = true) : Rn P f ps t := fun hsh hi hw => TG hT hm hf hres ht (Ow hf hn hb) hps hsh hi hw
end Go.Eng
namespace Go.Proofs.YteaonnfokkfnlaaGreatDoor
open Go Go.Eng
def zJ : List (TypeId × TyD) := [(0, ⟨.oth, 1, 0, [], none, some []⟩),
(2, ⟨(.int .i64), 1, 8, [.int .i64], some [(1, (.int .i64 0))], none⟩),
(3, ⟨(.int .i64), 1, 8, [.int .i64], some [(1, (.int .i64 0))], none⟩),
(4, ⟨.bool, 1, 1, [.bool], some [(1, (.bool false))], none⟩),
(5, ⟨(.int .u8), 1, 1, [.int .u8], some [(1, (.int .u8 0))], none⟩),
(9, ⟨.str, 1, 16, [.str], none, none⟩),
(17, ⟨(.ptr 263), 1, 8, [.ptr], some [(1, .nilPtr)], none⟩),
(20, ⟨.ifc, 1, 16, [.iface], some [(1, .nilIf)], none⟩),
(22, ⟨(.sl 5), 1, 24, [.slice], some [(1, .nilSl)], none⟩),
(24, ⟨(.st [(0, 2), (1, 22), (2, 2)]), 3, 40, [.int .i64, .slice, .int .i64], some [(1, (.int .i64 0)), (1, .nilSl), (1, (.int .i64 0))], none⟩),
(48, ⟨(.st [(0, 2), (1, 22), (2, 2)]), 3, 40, [.int .i64, .slice, .int .i64], some [(1, (.int .i64 0)), (1, .nilSl), (1, (.int .i64 0))], none⟩),
(53, ⟨(.int .u32), 1, 4, [.int .u32], some [(1, (.int .u32 0))], none⟩),
(56, ⟨(.st [(0, 22), (1, 2), (2, 2)]), 3, 40, [.slice, .int .i64, .int .i64], some [(1, .nilSl), (2, (.int .i64 0))], none⟩),
(57, ⟨.oth, 1, 0, [], none, some [56, 2]⟩),
(60, ⟨.fnk, 1, 8, [.fnv], some [(1, .nilFn)], none⟩),
(62, ⟨(.st [(0, 22), (1, 3), (2, 2), (3, 3)]), 4, 48, [.slice, .int .i64, .int .i64, .int .i64], some [(1, .nilSl), (3, (.int .i64 0))], none⟩),
(64, ⟨.oth, 1, 0, [], none, some [56, 62]⟩),
(68, ⟨(.ptr 74), 1, 8, [.ptr], some [(1, .nilPtr)], none⟩),
(69, ⟨(.ptr 146), 1, 8, [.ptr], some [(1, .nilPtr)], none⟩),
(70, ⟨(.ptr 236), 1, 8, [.ptr], some [(1, .nilPtr)], none⟩),
(72, ⟨(.st [(0, 22), (1, 2), (2, 69), (3, 22), (4, 3), (5, 4), (6, 70), (7, 70)]), 8, 96, [.slice, .int .i64, .ptr, .slice, .int .i64, .bool, .ptr, .ptr], some [(1, .nilSl), (1, (.int .i64 0)), (1, .nilPtr), (1, .nilSl), (1, (.int .i64 0)), (1, (.bool false)), (2, .nilPtr)], none⟩),
(74, ⟨(.st [(0, 72)]), 8, 96, [.slice, .int .i64, .ptr, .slice, .int .i64, .bool, .ptr, .ptr], some [(1, .nilSl), (1, (.int .i64 0)), (1, .nilPtr), (1, .nilSl), (1, (.int .i64 0)), (1, (.bool false)), (2, .nilPtr)], none⟩),
(76, ⟨.ifc, 1, 16, [.iface], some [(1, .nilIf)], none⟩),
(92, ⟨(.int .u64), 1, 8, [.int .u64], some [(1, (.int .u64 0))], none⟩),
(98, ⟨(.int .u64), 1, 8, [.int .u64], some [(1, (.int .u64 0))], none⟩),
(101, ⟨(.ptr 72), 1, 8, [.ptr], some [(1, .nilPtr)], none⟩),
(104, ⟨.fnk, 1, 8, [.fnv], some [(1, .nilFn)], none⟩),
(108, ⟨(.sl 2), 1, 24, [.slice], some [(1, .nilSl)], none⟩),
(109, ⟨.oth, 1, 0, [], none, some [108, 108]⟩),
(111, ⟨.oth, 1, 0, [], none, some [56, 108, 108]⟩),
(114, ⟨.oth, 1, 0, [], none, some [53, 76]⟩),
(117, ⟨(.st [(0, 2)]), 1, 8, [.int .i64], some [(1, (.int .i64 0))], none⟩),
(120, ⟨(.ptr 117), 1, 8, [.ptr], some [(1, .nilPtr)], none⟩),
(127, ⟨.oth, 1, 0, [], none, some [2, 76]⟩),
(131, ⟨(.sl 53), 1, 24, [.slice], some [(1, .nilSl)], none⟩),
(132, ⟨.oth, 1, 0, [], none, some [131, 108]⟩),
(134, ⟨.fnk, 1, 8, [.fnv], some [(1, .nilFn)], none⟩),
(136, ⟨(.sl 140), 1, 24, [.slice], some [(1, .nilSl)], none⟩),
(138, ⟨.fnk, 1, 8, [.fnv], some [(1, .nilFn)], none⟩),
(140, ⟨(.st [(0, 2), (1, 98)]), 2, 16, [.int .i64, .int .u64], some [(1, (.int .i64 0)), (1, (.int .u64 0))], none⟩),
(144, ⟨(.arr 32768 5), 32768, 32768, [], some [(32768, (.int .u8 0))], none⟩),
(146, ⟨(.st [(0, 3), (1, 144), (32769, 3), (32770, 3)]), 32771, 32792, [], some [(1, (.int .i64 0)), (32768, (.int .u8 0)), (2, (.int .i64 0))], none⟩),
(148, ⟨.fnk, 1, 8, [.fnv], some [(1, .nilFn)], none⟩),
(149, ⟨.oth, 1, 0, [], none, some [148, 76]⟩),
(151, ⟨(.sl 3), 1, 24, [.slice], some [(1, .nilSl)], none⟩),
(155, ⟨.oth, 1, 0, [], none, some [56, 108]⟩),
(159, ⟨.oth, 1, 8, [.ptr], some [(1, .nilPtr)], none⟩),
(160, ⟨(.int .u64), 1, 8, [.int .u64], some [(1, (.int .u64 0))], none⟩),
(162, ⟨(.st [(0, 17), (1, 159), (2, 160)]), 3, 24, [.ptr, .ptr, .int .u64], some [(2, .nilPtr), (1, (.int .u64 0))], none⟩),
(165, ⟨.ifc, 1, 16, [.iface], some [(1, .nilIf)], none⟩),
(167, ⟨(.int .u8), 1, 1, [.int .u8], some [(1, (.int .u8 0))], none⟩),
(176, ⟨.fnk, 1, 8, [.fnv], some [(1, .nilFn)], none⟩),
(186, ⟨(.arr 17 98), 17, 136, [.int .u64, .int .u64, .int .u64, .int .u64, .int .u64, .int .u64, .int .u64, .int .u64, .int .u64, .int .u64, .int .u64, .int .u64, .int .u64, .int .u64, .int .u64, .int .u64, .int .u64], some [(17, (.int .u64 0))], none⟩),
(196, ⟨.oth, 1, 0, [], none, some [108, 108, 76]⟩),
(199, ⟨(.st [(0, 2), (1, 2), (2, 2)]), 3, 24, [.int .i64, .int .i64, .int .i64], some [(3, (.int .i64 0))], none⟩),
(201, ⟨.oth, 1, 0, [], none, some [2, 2]⟩),
(209, ⟨.ifc, 1, 16, [.iface], some [(1, .nilIf)], none⟩),
(210, ⟨.oth, 1, 0, [], none, some [209, 4]⟩),
(212, ⟨.ifc, 1, 16, [.iface], some [(1, .nilIf)], none⟩),
(213, ⟨.ifc, 1, 16, [.iface], some [(1, .nilIf)], none⟩),
(214, ⟨(.sl 76), 1, 24, [.slice], some [(1, .nilSl)], none⟩),
(234, ⟨(.sl 238), 1, 24, [.slice], some [(1, .nilSl)], none⟩),
(236, ⟨(.st [(0, 234)]), 1, 24, [.slice], some [(1, .nilSl)], none⟩),
(238, ⟨(.st [(0, 3), (1, 3)]), 2, 16, [.int .i64, .int .i64], some [(2, (.int .i64 0))], none⟩),
(241, ⟨(.arr 19 3), 19, 152, [.int .i64, .int .i64, .int .i64, .int .i64, .int .i64, .int .i64, .int .i64, .int .i64, .int .i64, .int .i64, .int .i64, .int .i64, .int .i64, .int .i64, .int .i64, .int .i64, .int .i64, .int .i64, .int .i64], some [(19, (.int .i64 0))], none⟩)]
theorem zr : zx Tryz.prog zJ := G7 (by kernel_rfl)
theorem zt : Tryz.prog.follows .mixedOrders = true := by kernel_rfl
def EV : Tr :=
(.ret (.agg [(oS 0), (oI 1), (.it (.it (.cm .eql (oI 2) (oK 0)) (oB 3) (.cst (.bool false))) (oK 3) (oI 2))]))
theorem I5 : Rn Tryz.prog ym [(true, [.slice, .int .i64, .int .i64]), (false, [.bool])] EV := rn (cfg := ⟨zJ, [], [], [.cell 4 56]⟩) zr zt Tryz.func39 rfl (by kernel_rfl) (by kernel_rfl) (by kernel_rfl) rfl
def Ep : Tr :=
(.lift (.br (.cm .neq (.it (.it (.cm .eql (oI 2) (oK 0)) (.cm .gtr (.ar .add .i64 (oI 1) (oI 3)) (.ar .mul .i64 (oK 8) (.ln (oS 0)))) (.cst (.bool false))) (oK 2) (oI 2)) (oK 0)) (.ret (.tup [(true, [(oS 0), (oI 1), (.it (.it (.cm .eql (oI 2) (oK 0)) (.cm .gtr (.ar .add .i64 (oI 1) (oI 3)) (.ar .mul .i64 (oK 8) (.ln (oS 0)))) (.cst (.bool false))) (oK 2) (oI 2))]), (false, [(oK 0)])])) (.loop [.int .i64, .int .i64] [(oK 0), (.ar .sub .i64 (oI 3) (oK 1))] (.lift (.br (.cm .geq (oI 5) (oK 0)) (.call wK [(.x (oS 0)), (.x (.ar .add .i64 (oI 1) (oI 5)))] false [(false, [.int .u64])] (.cont 1 [(.ar .add .i64 (.ar .mul .i64 (oK 2) (oI 4)) (.cv .i64 (.var (.int .u64) 6))), (.ar .sub .i64 (oI 5) (oK 1))])) (.ret (.tup [(true, [(oS 0), (.ar .add .i64 (oI 1) (oI 3)), (.it (.it (.cm .eql (oI 2) (oK 0)) (.cm .gtr (.ar .add .i64 (oI 1) (oI 3)) (.ar .mul .i64 (oK 8) (.ln (oS 0)))) (.cst (.bool false))) (oK 2) (oI 2))]), (false, [(oI 4)])])))))))
theorem HH : Rn Tryz.prog ye [(true, [.slice, .int .i64, .int .i64]), oQ] Ep := rn (cfg := ⟨zJ, [⟨7, [6, 7], [], [29, 30, 31, 32, 33, 34, 35, 36, 37, 38, 39, 40, 41, 42, 43]⟩], [], [.cell 4 56, .tmp 5]⟩) zr zt Tryz.func50 rfl (by kernel_rfl) (by kernel_rfl) (by kernel_rfl) rfl
def Nf : Tr :=
(.lift (.br (.cm .neq (oI 37) (oK 0)) (.hsl 2 0 [] (.hsl 2 0 [] (.ret (.tup [(true, [(oS 35), (oI 36), (oI 37)]), (false, [(oS 38)]), (false, [(oS 39)])])))) (.need (.cm .leq (oK 0) (.ar .add .i64 (oI 6) (oK 257))) (.need (.cm .leq (.ar .add .i64 (oI 6) (oK 257)) (.cp (oS 34))) (.need (.cm .leq (oK 0) (.ar .add .i64 (oI 6) (oK 257))) (.need (.cm .leq (.ar .add .i64 (oI 6) (oK 257)) (.ln (oS 34))) (.join [.int .i64, .bool, .bool, .bool, .bool, .bool, .slice, .int .i64, .int .i64] (.need (.nt (.nn (.sub 1 (oS 34) .nl (.ar .add .i64 (oI 6) (oK 257)) .nl))) (.need (.cm .leq (oK 0) (oK 256)) (.need (.cm .lss (oK 256) (.ln (.sub 1 (oS 34) .nl (.ar .add .i64 (oI 6) (oK 257)) .nl))) (.load (.ix 1 (.sub 1 (oS 34) .nl (.ar .add .i64 (oI 6) (oK 257)) .nl) (oK 256)) [.int .i64] (.br (.nt (.cm .eql (oI 38) (oK 0))) (.call kU [(.x (.sub 1 (oS 34) .nl (.ar .add .i64 (oI 6) (oK 257)) .nl)), (.x (oK 1)), (.x (oK 4)), (.x (oK 4))] false [(false, [.bool])] (.br (.nt (.nt (oB 39))) (.call kU [(.x (.sub 1 (oS 34) (.ar .add .i64 (oI 6) (oK 257)) .nl .nl)), (.x (oK 1)), (.x (oK 4)), (.x (oK 5))] false [(false, [.bool])] (.call ym [(.agg [(oS 35), (oI 36), (oI 37)]), (.x (.nt (oB 40)))] false [(true, [.slice, .int .i64, .int .i64])] (.cont 5 [(oI 38), (.cm .eql (oI 38) (oK 0)), (.cm .eql (oI 38) (oK 0)), (.nt (oB 39)), (.nt (oB 39)), (.nt (oB 40)), (oS 41), (oI 42), (oI 43)]))) (.call ym [(.agg [(oS 35), (oI 36), (oI 37)]), (.x (.cst (.bool true)))]
 false [(true, [.slice, .int .i64, .int .i64])] (.cont 5 [(oI 38), (.cm .eql (oI 38) (oK 0)), (.cm .eql (oI 38) (oK 0)), (.nt (oB 39)), (.nt (oB 39)), (.cst (.bool true)), (oS 40), (oI 41), (oI 42)])))) (.call ym [(.agg [(oS 35), (oI 36), (oI 37)]), (.x (.cst (.bool true)))] false [(true, [.slice, .int .i64, .int .i64])] (.cont 5 [(oI 38), (.cm .eql (oI 38) (oK 0)), (.cm .eql (oI 38) (oK 0)), (.cst (.bool true)), (.cst (.bool true)), (.cst (.bool true)), (oS 39), (oI 40), (oI 41)]))))))) (.ret (.tup [(true, [(oS 44), (oI 45), (oI 46)]), (false, [(.sub 1 (oS 34) .nl (.ar .add .i64 (oI 6) (oK 257)) .nl)]), (false, [(.sub 1 (oS 34) (.ar .add .i64 (oI 6) (oK 257)) .nl .nl)])])))))))))
def Nh : Tr :=
(.loop [.int .i64, .slice, .slice, .int .i64, .int .i64] [(oI 22), (oS 32), (oS 28), (oI 29), (oI 30)] (.lift (.br (.it (.cm .eql (oI 37) (oK 0)) (.cm .lss (.ln (oS 34)) (.ar .add .i64 (.ar .add .i64 (oI 6) (oK 257)) (.ar .add .i64 (oI 13) (oK 1)))) (.cst (.bool false))) (.call qh [(.agg [(oS 35), (oI 36), (oI 37)]), (.x (oS 31))] true [(true, [.slice, .int .i64, .int .i64]), oQ] (.join [.slice, .slice, .int .i64, .int .i64] (.br (.cm .eql (oI 40) (oK 0)) (.call wM [(.agg [(oS 38), (oI 39), (oI 40)]), (.x (oS 34)), (.x (oI 41))] true [(true, [.slice, .int .i64, .int .i64]), oR] (.call ym [(.agg [(oS 42), (oI 43), (oI 44)]), (.x (.cm .gtr (.ln (oS 45)) (.ar .add .i64 (.ar .add .i64 (oI 6) (oK 257)) (.ar .add .i64 (oI 13) (oK 1)))))] false [(true, [.slice, .int .i64, .int .i64])] (.cont 4 [(oS 45), (oS 46), (oI 47), (oI 48)]))) (.cont 4 [(oS 34), (oS 38), (oI 39), (oI 40)])) (.cont 2 [(oI 41), (oS 42), (oS 43), (oI 44), (oI 45)]))) Nf)))
def Er : Tr :=
(.call ye [(.agg [(oS 0), (oI 1), (oI 2)]), (.x (oK 5))] true [(true, [.slice, .int .i64, .int .i64]), oQ] (.call ym [(.agg [(oS 3), (oI 4), (oI 5)]), (.x (.cm .gtr (.ar .add .i64 (oI 6) (oK 257)) (oK 286)))] false [(true, [.slice, .int .i64, .int .i64])] (.call ye [(.agg [(oS 7), (oI 8), (oI 9)]), (.x (oK 5))] true [(true, [.slice, .int .i64, .int .i64]), oQ] (.call ym [(.agg [(oS 10), (oI 11), (oI 12)]), (.x (.cm .gtr (.ar .add .i64 (oI 13) (oK 1)) (oK 30)))] false [(true, [.slice, .int .i64, .int .i64])] (.call ye [(.agg [(oS 14), (oI 15), (oI 16)]), (.x (oK 4))] true [(true, [.slice, .int .i64, .int .i64]), oQ] (.hsl 2 19 [(oK 0), (oK 0), (oK 0), (oK 0), (oK 0), (oK 0), (oK 0), (oK 0), (oK 0), (oK 0), (oK 0), (oK 0), (oK 0), (oK 0), (oK 0), (oK 0), (oK 0), (oK 0), (oK 0)] (.loop [.int .i64, .int .i64, .slice, .int .i64, .int .i64] [(oK 0), (oK 0), (oS 17), (oI 18), (oI 19)] (.lift (.br (.cm .lss (oI 23) (.ar .add .i64 (oI 20) (oK 4))) (.call ye [(.agg [(oS 24), (oI 25), (oI 26)]), (.x (oK 3))] true [(true, [.slice, .int .i64, .int .i64]), oQ] (.call Aq [] false [oR] (.need (.nt (.nn (oS 31))) (.need (.cm .leq (oK 0) (oI 23)) (.need (.cm .lss (oI 23) (.ln (oS 31))) (.load (.ix 1 (oS 31) (oI 23)) [.int .i64] (.need (.nt (.nn (oS 21))) (.need (.cm .leq (oK 0) (oI 32)) (.need (.cm .lss (oI 32) (.ln (oS 21))) (.hsto (.ix 1 (oS 21) (oI 32)) [(oI 30)] (.cont 0 [(oI 30), (.ar .add .i64 (oI 23) (oK 1)),
(oS 27), (oI 28), (oI 29)]))))))))))) (.call jA [(.x (oS 21))] false [oQ] (.call ym [(.agg [(oS 24), (oI 25), (oI 26)]), (.x (.cm .neq (oI 27) (oK 1)))] false [(true, [.slice, .int .i64, .int .i64])] (.call ju [(.x (oS 21))] false [oR] (.hsl 2 0 [] Nh)))))))))))))
theorem HI : Rn Tryz.prog AX [(true, [.slice, .int .i64, .int .i64])] Er := rn (cfg := ⟨zJ, [⟨14, [8, 10], [(0, 0), (0, 1), (0, 2)], [43, 44, 45, 46, 47, 48, 49, 50, 51, 52, 53, 54, 55, 56, 57, 58, 59, 60]⟩, ⟨21, [8, 12], [(0, 0), (0, 1), (0, 2)], [69, 70, 71, 72, 73, 74, 75, 76, 77, 78, 79, 80, 81, 82, 83, 84, 85, 86, 87, 88, 89, 90, 91, 92, 93, 94, 95, 96, 97, 98, 99, 100, 101, 102, 103]⟩], [], [.cell 2 56, .tmp 3, .tmp 4]⟩) zr zt Tryz.func82 rfl (by kernel_rfl) (by kernel_rfl) (by kernel_rfl) rfl
def EW : Tr :=
(.need (.nt (.nn (oS 0))) (.need (.cm .leq (oK 0) (.ar .quo .i64 (oI 1) (oK 8))) (.need (.cm .lss (.ar .quo .i64 (oI 1) (oK 8)) (.ln (oS 0))) (.load (.ix 1 (oS 0) (.ar .quo .i64 (oI 1) (oK 8))) [.int .u8] (.need (.cm .geq (.cv .u64 (.ar .rem .i64 (oI 1) (oK 8))) (.cst (.int .u64 0))) (.ret (.x (.ar .rem .u64 (.cv .u64 (.ar .shr .u8 (.var (.int .u8) 2) (.cv .u64 (.ar .rem .i64 (oI 1) (oK 8))))) (.cst (.int .u64 2))))))))))
theorem I6 : Rn Tryz.prog wK [oR, oQ] EW := rn (cfg := ⟨zJ, [], [], [.tmp 4]⟩) zr zt Tryz.func90 rfl (by kernel_rfl) (by kernel_rfl) (by kernel_rfl) rfl
def Dk : Tr :=
(.hsl 3 19 [(oK 16), (oK 17), (oK 18), (oK 0), (oK 8), (oK 7), (oK 9), (oK 6), (oK 10), (oK 5), (oK 11), (oK 4), (oK 12), (oK 3), (oK 13), (oK 2), (oK 14), (oK 1), (oK 15)] (.ret (.x (oS 0))))
theorem G9 : Rn Tryz.prog Aq [] Dk := rn (cfg := ⟨zJ, [], [], [.tmp 0]⟩) zr zt Tryz.func120 rfl (by kernel_rfl) (by kernel_rfl) (by kernel_rfl) rfl
def EX : Tr :=
(.lift (.br (.cm .neq (oI 2) (oK 0)) (.ret (.tup [(true, [(oS 0), (oI 1), (oI 2)]), (false, [(oK 0)])])) (.loop [.int .u64, .int .i64] [(.cst (.int .u64 0)), (oK 0)] (.lift (.br (.it (.cm .lss (oI 5) (oK 15)) (.cm .lss (.ar .add .i64 (oI 1) (oI 5)) (.ar .mul .i64 (oK 8) (.ln (oS 0)))) (.cst (.bool false))) (.call wK [(.x (oS 0)), (.x (.ar .add .i64 (oI 1) (oI 5)))] false [(false, [.int .u64])] (.need (.cm .geq (.cv .u64 (oI 5)) (.cst (.int .u64 0))) (.cont 1 [(.ar .add .u64 (.var (.int .u64) 4) (.ar .shl .u64 (.var (.int .u64) 6) (.cv .u64 (oI 5)))), (.ar .add .i64 (oI 5) (oK 1))]))) (.call Bb [(.x (oS 3)), (.x (.var (.int .u64) 4)), (.x (oI 5))] false [(true, [.int .i64, .int .i64, .int .i64])] (.call ym [(.agg [(oS 0), (oI 1), (.it (.cm .eql (oI 6) (oK 2)) (oK 2) (oI 2))]), (.x (.cm .eql (oI 6) (oK 0)))] false [(true, [.slice, .int .i64, .int .i64])] (.ret (.tup [(true, [(oS 9), (.ar .add .i64 (oI 10) (oI 8)), (oI 11)]), (false, [(oI 7)])])))))))))
theorem I7 : Rn Tryz.prog qh [(true, [.slice, .int .i64, .int .i64]), oR] EX := rn (cfg := ⟨zJ, [⟨5, [6, 7], [], [13, 14, 15, 16, 17, 18, 19, 20, 21, 22, 23, 24, 25, 26, 27, 28, 29, 30, 31, 32, 33, 34, 35, 36, 37, 38, 39]⟩], [], [.cell 4 56, .tmp 5]⟩) zr zt Tryz.func122 rfl (by kernel_rfl) (by kernel_rfl) (by kernel_rfl) rfl
def Cr : Tr :=
(.join [.int .i64, .int .i64, .slice, .int .i64, .int .i64] (.br (.cm .eql (oI 4) (oK 16)) (.call ym [(.agg [(oS 0), (oI 1), (oI 2)]), (.x (.cm .eql (.ln (oS 3)) (oK 0)))] false [(true, [.slice, .int .i64, .int .i64])] (.call ye [(.agg [(oS 5), (oI 6), (oI 7)]), (.x (oK 2))] true [(true, [.slice, .int .i64, .int .i64]), oQ] (.join [.int .i64] (.br (.cm .eql (oI 10) (oK 0)) (.need (.nt (.nn (oS 3))) (.need (.cm .leq (oK 0) (.ar .sub .i64 (.ln (oS 3)) (oK 1))) (.need (.cm .lss (.ar .sub .i64 (.ln (oS 3)) (oK 1)) (.ln (oS 3))) (.load (.ix 1 (oS 3) (.ar .sub .i64 (.ln (oS 3)) (oK 1))) [.int .i64] (.cont 1 [(oI 12)]))))) (.cont 1 [(oI 4)])) (.cont 0 [(.ar .add .i64 (oI 11) (oK 3)), (oI 12), (oS 8), (oI 9), (oI 10)])))) (.cont 0 [(oK 1), (oI 4), (oS 0), (oI 1), (oI 2)])) (.join [.int .i64, .int .i64, .slice, .int .i64, .int .i64] (.br (.cm .eql (oI 4) (oK 17)) (.call ye [(.agg [(oS 7), (oI 8), (oI 9)]), (.x (oK 3))] true [(true, [.slice, .int .i64, .int .i64]), oQ] (.cont 0 [(.ar .add .i64 (oI 13) (oK 3)), (oK 0), (oS 10), (oI 11), (oI 12)])) (.cont 0 [(oI 5), (oI 6), (oS 7), (oI 8), (oI 9)])) (.join [.int .i64, .int .i64, .slice, .int .i64, .int .i64] (.br (.cm .eql (oI 4) (oK 18)) (.call ye [(.agg [(oS 12), (oI 13), (oI 14)]), (.x (oK 7))] true [(true, [.slice, .int .i64, .int .i64]), oQ] (.cont 0 [(.ar .add .i64 (oI 18) (oK 11)), (oK 0), (oS 15), (oI 16), (oI 17)])) (.cont 0 [(oI 10), (oI 11), (oS 12), (oI 13), (oI 14)])) (.loop
[.slice, .int .i64] [(oS 3), (oK 0)] (.lift (.br (.it (.cm .lss (oI 21) (oI 15)) (.cm .eql (oI 19) (oK 0)) (.cst (.bool false))) (.hsl 2 1 [(oI 16)] (.app 2 1 8 [(.int .i64 0)] (oS 20) (oS 22) (.cont 0 [(oS 23), (.ar .add .i64 (oI 21) (oK 1))]))) (.ret (.tup [(true, [(oS 17), (oI 18), (oI 19)]), (false, [(oS 20)])]))))))))
theorem Ga : Rn Tryz.prog wM [(true, [.slice, .int .i64, .int .i64]), oR, oQ] Cr := rn (cfg := ⟨zJ, [⟨18, [1, 10], [], [53, 54, 55, 56, 57, 58, 59, 60, 61, 62, 63, 64, 65, 66]⟩], [], [.cell 6 56, .tmp 7]⟩) zr zt Tryz.func123 rfl (by kernel_rfl) (by kernel_rfl) (by kernel_rfl) rfl
def Cs : Tr :=
(.call jA [(.x (oS 0))] false [oQ] (.ret (.x (.it (.it (.cm .eql (oI 4) (oI 1)) (.cst (.bool true)) (.cm .eql (oI 4) (oI 2))) (.cst (.bool true)) (.cm .eql (oI 4) (oI 3))))))
theorem Gc : Rn Tryz.prog kU [oR, oQ, oQ, oQ] Cs := rn (cfg := ⟨zJ, [], [], [.tmp 8]⟩) zr zt Tryz.func124 rfl (by kernel_rfl) (by kernel_rfl) (by kernel_rfl) rfl
def EY : Tr :=
(.loop [.int .i64, .int .i64] [(oK 1), (oK 0)] (.lift (.br (.cm .lss (oI 2) (oI 0)) (.cont 0 [(.ar .mul .i64 (oK 2) (oI 1)), (.ar .add .i64 (oI 2) (oK 1))]) (.ret (.x (oI 1))))))
theorem I8 : Rn Tryz.prog yS [oQ] EY := rn (cfg := ⟨zJ, [⟨3, [3, 4], [], [5, 6, 7, 8, 9, 10, 11]⟩], [], [.tmp 2]⟩) zr zt Tryz.func40 rfl (by kernel_rfl) (by kernel_rfl) (by kernel_rfl) rfl
def Ct : Tr :=
(.lift (.br (.cm .gtr (.ln (oS 0)) (oK 320)) (.ret (.x (oK 0))) (.loop [.int .i64, .int .i64, .int .i64] [(oK 0), (oK 0), (oK 0)] (.lift (.br (.cm .lss (oI 3) (.ln (oS 0))) (.join [.int .i64, .bool, .bool, .bool] (.need (.nt (.nn (oS 0))) (.need (.cm .leq (oK 0) (oI 3)) (.need (.cm .lss (oI 3) (.ln (oS 0))) (.load (.ix 1 (oS 0) (oI 3)) [.int .i64] (.br (.nt (.cm .lss (oI 4) (oK 0))) (.need (.nt (.nn (oS 0))) (.need (.cm .leq (oK 0) (oI 3)) (.need (.cm .lss (oI 3) (.ln (oS 0))) (.load (.ix 1 (oS 0) (oI 3)) [.int .i64] (.cont 3 [(oI 4), (.cm .lss (oI 4) (oK 0)), (.cm .lss (oI 4) (oK 0)), (.cm .gtr (oI 5) (oK 15))]))))) (.cont 3 [(oI 4), (.cm .lss (oI 4) (oK 0)), (.cm .lss (oI 4) (oK 0)), (.cst (.bool true))])))))) (.lift (.br (oB 7) (.ret (.x (oK 0))) (.need (.nt (.nn (oS 0))) (.need (.cm .leq (oK 0) (oI 3)) (.need (.cm .lss (oI 3) (.ln (oS 0))) (.load (.ix 1 (oS 0) (oI 3)) [.int .i64] (.join [.int .i64, .int .i64] (.br (.cm .gtr (oI 8) (oK 0)) (.need (.nt (.nn (oS 0))) (.need (.cm .leq (oK 0) (oI 3)) (.need (.cm .lss (oI 3) (.ln (oS 0))) (.load (.ix 1 (oS 0) (oI 3)) [.int .i64] (.call yS [(.x (.ar .sub .i64 (oK 15) (oI 9)))] false [oQ] (.cont 4 [(.ar .add .i64 (oI 1) (oI 10)), (.ar .add .i64 (oI 2) (oK 1))])))))) (.cont 4 [(oI 1), (oI 2)])) (.cont 1 [(oI 9), (oI 10), (.ar .add .i64 (oI 3) (oK 1))]))))))))) (.lift (.br (.cm .eql (oI 2) (oK 0)) (.ret (.x (oK 5))) (.call yS [(.x (oK 15))] false [oQ] (.lift (.br (.cm .gtr (oI 1) (oI 4)) (.ret (.x (oK 2)))
(.call yS [(.x (oK 15))] false [oQ] (.lift (.br (.cm .eql (oI 1) (oI 5)) (.ret (.x (oK 1))) (.join [.bool] (.br (.cm .eql (oI 2) (oK 1)) (.call yS [(.x (oK 14))] false [oQ] (.cont 6 [(.cm .eql (oI 1) (oI 6))])) (.cont 6 [(.cst (.bool false))])) (.lift (.br (oB 6) (.ret (.x (oK 4))) (.ret (.x (oK 3)))))))))))))))))))
theorem Gd : Rn Tryz.prog jA [oR] Ct := rn (cfg := ⟨zJ, [⟨6, [3, 4, 5], [], [9, 10, 11, 12, 13, 14, 15, 16, 17, 18, 19, 20, 21, 22, 23, 24, 25, 26, 27, 28, 29, 30, 31, 32, 33, 34, 35, 36, 37, 38, 39, 40, 41]⟩], [], [.tmp 2]⟩) zr zt Tryz.func121 rfl (by kernel_rfl) (by kernel_rfl) (by kernel_rfl) rfl
def Cu : Tr :=
(.lift (.br (.cm .gtr (.ln (oS 0)) (oK 320)) (.ret (.x (oK 0))) (.loop [.int .i64, .int .i64, .int .i64, .int .i64] [(oK 0), (oK 0), (oK 0), (oK 0)] (.lift (.br (.cm .lss (oI 4) (.ln (oS 0))) (.need (.nt (.nn (oS 0))) (.need (.cm .leq (oK 0) (oI 4)) (.need (.cm .lss (oI 4) (.ln (oS 0))) (.load (.ix 1 (oS 0) (oI 4)) [.int .i64] (.lift (.br (.it (.cm .lss (oI 5) (oK 0)) (.cst (.bool true)) (.cm .gtr (oI 5) (oK 15))) (.ret (.x (oK 0))) (.join [.int .i64, .int .i64, .int .i64] (.br (.cm .gtr (oI 5) (oK 0)) (.need (.cm .geq (.ar .sub .i64 (oK 15) (oI 5)) (oK 0)) (.cont 4 [(.ar .add .i64 (oI 1) (.ar .shl .i64 (oK 1) (.ar .sub .i64 (oK 15) (oI 5)))), (.ar .add .i64 (oI 2) (oK 1)), (oI 5)])) (.cont 4 [(oI 1), (oI 2), (oI 3)])) (.cont 1 [(oI 6), (oI 7), (oI 8), (.ar .add .i64 (oI 4) (oK 1))])))))))) (.lift (.br (.cm .eql (oI 2) (oK 0)) (.ret (.x (oK 5))) (.lift (.br (.cm .gtr (oI 1) (oK 32768)) (.ret (.x (oK 2))) (.lift (.br (.cm .eql (oI 1) (oK 32768)) (.ret (.x (oK 1))) (.lift (.br (.it (.cm .eql (oI 2) (oK 1)) (.cm .eql (oI 3) (oK 1)) (.cst (.bool false))) (.ret (.x (oK 4))) (.ret (.x (oK 3))))))))))))))))
theorem Ge : Rn Tryz.prog xP [oR] Cu := rn (cfg := ⟨zJ, [⟨5, [3, 4, 5, 13], [], [7, 14, 15, 16, 17, 18, 19, 20, 21, 22, 23, 24, 25, 26, 27, 28, 29, 30, 31, 32, 33]⟩], [], [.tmp 2]⟩) zr zt Tryz.func139 rfl (by kernel_rfl) (by kernel_rfl) (by kernel_rfl) rfl
def BJ : Tr :=
(.call xP [(.x (oS 0))] false [oQ] (.lift (.br (.it (.cm .eql (oI 1) (oK 0)) (.cst (.bool true)) (.cm .eql (oI 1) (oK 2))) (.hsl 140 0 [] (.ret (.x (oS 2)))) (.hall 186 [(17, (.cst (.int .u64 0)))] (.hsto (oA 2) [(.cst (.int .u64 0)), (.cst (.int .u64 0)), (.cst (.int .u64 0)), (.cst (.int .u64 0)), (.cst (.int .u64 0)), (.cst (.int .u64 0)), (.cst (.int .u64 0)), (.cst (.int .u64 0)), (.cst (.int .u64 0)), (.cst (.int .u64 0)), (.cst (.int .u64 0)), (.cst (.int .u64 0)), (.cst (.int .u64 0)), (.cst (.int .u64 0)), (.cst (.int .u64 0)), (.cst (.int .u64 0)), (.cst (.int .u64 0))] (.loop [.int .i64] [(oK 0)] (.lift (.br (.cm .lss (oI 3) (.ln (oS 0))) (.need (.nt (.nn (oS 0))) (.need (.cm .leq (oK 0) (oI 3)) (.need (.cm .lss (oI 3) (.ln (oS 0))) (.load (.ix 1 (oS 0) (oI 3)) [.int .i64] (.join [] (.br (.cm .gtr (oI 4) (oK 0)) (.need (.cm .leq (oK 0) (oI 4)) (.need (.cm .lss (oI 4) (oK 17)) (.load (.ia 1 (oA 2) (oI 4)) [.int .u64] (.need (.cm .leq (oK 0) (oI 4)) (.need (.cm .lss (oI 4) (oK 17)) (.hsto (.ia 1 (oA 2) (oI 4)) [(.ar .add .u64 (.var (.int .u64) 5) (.cst (.int .u64 1)))] (.cont 3 []))))))) (.cont 3 [])) (.cont 1 [(.ar .add .i64 (oI 3) (oK 1))])))))) (.hall 186 [(17, (.cst (.int .u64 0)))] (.hsto (oA 4) [(.cst (.int .u64 0)), (.cst (.int .u64 0)), (.cst (.int .u64 0)), (.cst (.int .u64 0)), (.cst (.int .u64 0)), (.cst (.int .u64 0)), (.cst (.int .u64 0)), (.cst (.int .u64 0)), (.cst (.int .u64 0)), (.cst (.int .u64 0)), (.cst (.int .u64 0)), (.cst (.int
.u64 0)), (.cst (.int .u64 0)), (.cst (.int .u64 0)), (.cst (.int .u64 0)), (.cst (.int .u64 0)), (.cst (.int .u64 0))] (.loop [.int .i64] [(oK 1)] (.lift (.br (.cm .leq (oI 5) (oK 15)) (.need (.cm .leq (oK 0) (.ar .sub .i64 (oI 5) (oK 1))) (.need (.cm .lss (.ar .sub .i64 (oI 5) (oK 1)) (oK 17)) (.load (.ia 1 (oA 4) (.ar .sub .i64 (oI 5) (oK 1))) [.int .u64] (.need (.cm .leq (oK 0) (.ar .sub .i64 (oI 5) (oK 1))) (.need (.cm .lss (.ar .sub .i64 (oI 5) (oK 1)) (oK 17)) (.load (.ia 1 (oA 2) (.ar .sub .i64 (oI 5) (oK 1))) [.int .u64] (.need (.cm .leq (oK 0) (oI 5)) (.need (.cm .lss (oI 5) (oK 17)) (.hsto (.ia 1 (oA 4) (oI 5)) [(.ar .shl .u64 (.ar .add .u64 (.var (.int .u64) 6) (.var (.int .u64) 7)) (.cst (.int .u64 1)))] (.cont 3 [(.ar .add .i64 (oI 5) (oK 1))])))))))))) (.mks 140 2 16 [(.int .i64 0), (.int .u64 0)] (.ln (oS 0)) (.ln (oS 0)) (.loop [.int .i64] [(oK 0)] (.lift (.br (.cm .lss (oI 7) (.ln (oS 0))) (.need (.nt (.nn (oS 0))) (.need (.cm .leq (oK 0) (oI 7)) (.need (.cm .lss (oI 7) (.ln (oS 0))) (.load (.ix 1 (oS 0) (oI 7)) [.int .i64] (.join [] (.br (.cm .gtr (oI 8) (oK 0)) (.need (.cm .leq (oK 0) (oI 8)) (.need (.cm .lss (oI 8) (oK 17)) (.load (.ia 1 (oA 4) (oI 8)) [.int .u64] (.call AZ [(.x (.var (.int .u64) 9)), (.x (oI 8))] false [(false, [.int .u64])] (.need (.nt (.nn (oS 6))) (.need (.cm .leq (oK 0) (oI 7)) (.need (.cm .lss (oI 7) (.ln (oS 6))) (.hsto (.ix 2 (oS 6) (oI 7)) [(oI 8), (.var (.int .u64) 10)] (.need (.cm .leq (oK 0) (oI 8)) (.need (.cm
.lss (oI 8) (oK 17)) (.load (.ia 1 (oA 4) (oI 8)) [.int .u64] (.need (.cm .leq (oK 0) (oI 8)) (.need (.cm .lss (oI 8) (oK 17)) (.hsto (.ia 1 (oA 4) (oI 8)) [(.ar .add .u64 (.var (.int .u64) 11) (.cst (.int .u64 1)))] (.cont 7 []))))))))))))))) (.cont 7 [])) (.cont 5 [(.ar .add .i64 (oI 7) (oK 1))])))))) (.ret (.x (oS 6))))))))))))))))))))
theorem EZ : Rn Tryz.prog qT [oR] BJ := rn (cfg := ⟨zJ, [⟨6, [24], [], [6, 25, 26, 27, 28, 29, 30, 31, 32, 33, 34, 35]⟩, ⟨13, [8], [], [37, 38, 39, 40, 41, 42, 43, 44, 45, 46, 47, 48, 49, 50, 51, 52]⟩, ⟨18, [58], [], [10, 11, 59, 60, 61, 62, 63, 64, 65, 66, 67, 68, 69, 70, 71, 72, 73, 74, 75, 76, 77, 78, 79, 80]⟩], [4, 7], [.tmp 2]⟩) zr zt Tryz.func101 rfl (by kernel_rfl) (by kernel_rfl) (by kernel_rfl) rfl
def BK : Tr :=
(.hsl 140 0 [] (.call jA [(.x (oS 0))] false [oQ] (.lift (.br (.it (.cm .eql (oI 2) (oK 0)) (.cst (.bool true)) (.cm .eql (oI 2) (oK 2))) (.ret (.x (oS 1))) (.loop [.slice, .int .i64] [(oS 1), (oK 0)] (.lift (.br (.cm .lss (oI 4) (.ln (oS 0))) (.hsl 140 1 [(oK 0), (.cst (.int .u64 0))] (.app 140 2 16 [(.int .i64 0), (.int .u64 0)] (oS 3) (oS 5) (.cont 1 [(oS 6), (.ar .add .i64 (oI 4) (oK 1))]))) (.loop [.int .i64, .int .i64] [(oK 0), (oK 1)] (.lift (.br (.cm .leq (oI 6) (oK 15)) (.loop [.int .i64, .int .i64] [(.ar .mul .i64 (oK 2) (oI 5)), (oK 0)] (.lift (.br (.cm .lss (oI 8) (.ln (oS 0))) (.need (.nt (.nn (oS 0))) (.need (.cm .leq (oK 0) (oI 8)) (.need (.cm .lss (oI 8) (.ln (oS 0))) (.load (.ix 1 (oS 0) (oI 8)) [.int .i64] (.join [.int .i64] (.br (.cm .eql (oI 9) (oI 6)) (.call Ba [(.x (oI 7)), (.x (oI 6))] false [(false, [.int .u64])] (.need (.nt (.nn (oS 3))) (.need (.cm .leq (oK 0) (oI 8)) (.need (.cm .lss (oI 8) (.ln (oS 3))) (.hsto (.ix 2 (oS 3) (oI 8)) [(oI 6), (.var (.int .u64) 10)] (.cont 7 [(.ar .add .i64 (oI 7) (oK 1))])))))) (.cont 7 [(oI 7)])) (.cont 5 [(oI 10), (.ar .add .i64 (oI 8) (oK 1))])))))) (.cont 3 [(oI 7), (.ar .add .i64 (oI 6) (oK 1))])))) (.ret (.x (oS 3)))))))))))))
theorem Fa : Rn Tryz.prog ju [oR] BK := rn (cfg := ⟨zJ, [⟨6, [3, 5], [], [19, 20, 21, 22, 23, 24, 25, 26, 27, 28]⟩, ⟨15, [6, 8], [], [35, 36, 37, 38, 39, 40, 41, 42, 43, 44, 45, 46, 47, 48, 49, 50, 51, 52, 53, 54, 55, 56]⟩, ⟨11, [6, 7], [], [8, 29, 30, 31, 32, 33, 34, 35, 36, 37, 38, 39, 40, 41, 42, 43, 44, 45, 46, 47, 48, 49, 50, 51, 52, 53, 54, 55, 56]⟩], [], [.tmp 2]⟩) zr zt Tryz.func111 rfl (by kernel_rfl) (by kernel_rfl) (by kernel_rfl) rfl
end Go.Proofs.YteaonnfokkfnlaaGreatDoor
end
