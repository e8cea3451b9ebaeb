import Derived.Test.YteaonnfokkfnlaaGreatDoorChecked
import Derived.Test.YteaonnfokkfnlaaGreatDoorPf4
set_option maxRecDepth 100000
set_option maxHeartbeats 8000000
set_option linter.unusedVariables false
set_option linter.unusedSimpArgs false
set_option linter.unusedSectionVars false
section
namespace Go.Proofs.YteaonnfokkfnlaaGreatDoor
open Go Go.Eng
def Df : Tr :=
(.call xw [(.x (oP 0)), (.x (oI 1))] false [oQ] (.ret (.x (.cm .eql (oI 2) (oK 0)))))
theorem Gs : Rn Tryz.prog k9 [(false, [.ptr]), oQ] Df := rn (cfg := ⟨yh, [], [], [.tmp 4]⟩) z8 z9 Tryz.func58 rfl (by kernel_rfl) (by kernel_rfl) (by kernel_rfl) rfl
def Dg : Tr :=
(.lift (.br (.cm .gtr (.ln (oS 0)) (oK 1048576)) (.ret (.x (.cst (.bool true)))) (.call jO [(.x (oS 0))] true [oR, oQ, oR] (.call qj [(.x (oS 1)), (.x (oI 2)), (.x (oS 3))] false [oR] (.lift (.br (.it (.cm .lss (oI 2) (oK 0)) (.cst (.bool true)) (.cm .gtr (oI 2) (oK 7))) (.ret (.x (.cm .eql (.ln (oS 4)) (oK 0)))) (.call qn [(.x (oS 4)), (.x (oS 3))] false [(true, [.int .i64, .slice, .int .i64])] (.join [.bool, .bool, .bool] (.br (.nt (.cm .neq (oI 5) (oK 1))) (.call qc [(.x (oS 6)), (.x (oS 1))] false [(false, [.bool])] (.cont 2 [(.nt (oB 8)), (.nt (oB 8)), (.it (.nt (oB 8)) (.cst (.bool true)) (.cm .neq (oI 7) (.ln (oS 4))))])) (.cont 2 [(.cst (.bool true)), (.cst (.bool true)), (.cst (.bool true))])) (.lift (.br (oB 10) (.ret (.x (.cst (.bool false)))) (.hsl 5 0 [] (.app 5 1 1 [(.int .u8 0)] (oS 11) (oS 3) (.hsl 5 1 [(.cst (.int .u8 1))] (.app 5 1 1 [(.int .u8 0)] (oS 12) (oS 13) (.call qn [(.x (oS 4)), (.x (oS 14))] false [(true, [.int .i64, .slice, .int .i64])] (.hsl 5 0 [] (.call qn [(.x (oS 4)), (.x (oS 18))] false [(true, [.int .i64, .slice, .int .i64])] (.lift (.br (.cm .eql (.ln (oS 3)) (oK 0)) (.join [.bool, .bool] (.br (.cm .eql (oI 15) (oK 1)) (.call qc [(.x (oS 16)), (.x (oS 1))] false [(false, [.bool])] (.cont 4 [(oB 22), (oB 22)])) (.cont 4 [(.cst (.bool false)), (.cst (.bool false))])) (.ret (.x (oB 22)))) (.ret (.x (.it (.it (.cm .eql (oI 15) (oK 5)) (.cm .eql (oI 19) (oK
5)) (.cst (.bool false))) (.cm .eql (.ln (oS 16)) (oK 0)) (.cst (.bool false))))))))))))))))))))))))
theorem Gt : Rn Tryz.prog CY [oR] Dg := rn (cfg := ⟨yh, [], [], [.tmp 2]⟩) z8 z9 Tryz.func5 rfl (by kernel_rfl) (by kernel_rfl) (by kernel_rfl) rfl
def qQ : Tr :=
(.call AS [(.x (oS 0))] false [(false, [.ptr])] (.call q9 [(.x (oP 1)), (.x (oK 30))] false [oR] (.call xw [(.x (oP 1)), (.x (oK 8))] false [oQ] (.call k9 [(.x (oP 1)), (.x (oK 12))] false [(false, [.bool])] (.join [.int .i64] (.br (oB 4) (.call xw [(.x (oP 1)), (.x (oK 2))] false [oQ] (.cont 0 [(.ar .sub .i64 (.ar .mul .i64 (oK 9) (oI 5)) (oK 1))])) (.cont 0 [(oI 3)])) (.call qA [(.x (oP 1))] false [oR] (.ret (.tup [(false, [(oS 2)]), (false, [(oI 5)]), (false, [(oS 6)])]))))))))
theorem Bv : Rn Tryz.prog jO [oR] qQ := rn (cfg := ⟨yh, [], [], [.tmp 2, .tmp 3, .tmp 4]⟩) z8 z9 Tryz.func22 rfl (by kernel_rfl) (by kernel_rfl) (by kernel_rfl) rfl
def Cm : Tr :=
(.strc (oS 0) (.strc (oS 1) (.ret (.x (.sq (.var (.str) 2) (.var (.str) 3))))))
theorem Fw : Rn Tryz.prog qc [oR, oR] Cm := rn (cfg := ⟨yh, [], [], [.tmp 4]⟩) z8 z9 Tryz.func24 rfl (by kernel_rfl) (by kernel_rfl) (by kernel_rfl) rfl
def Dh : Tr :=
(.call k9 [(.x (oP 0)), (.x (oK 2))] false [(false, [.bool])] (.lift (.br (oB 1) (.hsl 5 0 [] (.ret (.x (oS 2)))) (.hsl 5 1 [(.cst (.int .u8 100))] (.call q9 [(.x (oP 0)), (.x (oK 16))] false [oR] (.app 5 1 1 [(.int .u8 0)] (oS 2) (oS 3) (.ret (.x (oS 4)))))))))
theorem Gu : Rn Tryz.prog qA [(false, [.ptr])] Dh := rn (cfg := ⟨yh, [], [], [.tmp 2]⟩) z8 z9 Tryz.func59 rfl (by kernel_rfl) (by kernel_rfl) (by kernel_rfl) rfl
end Go.Proofs.YteaonnfokkfnlaaGreatDoor
end
