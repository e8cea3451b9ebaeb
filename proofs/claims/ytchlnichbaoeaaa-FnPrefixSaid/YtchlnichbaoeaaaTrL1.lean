-- printed by a generator of my own (wip/eng/Gen) from the translation
import Derived.Test.YtchlnichbaoeaaaEng2
import Derived.Test.YtchlnichbaoeaaaChecked
import Derived.Test.YtchlnichbaoeaaaNums
set_option linter.unusedVariables false
set_option linter.unusedSimpArgs false
namespace Go.Proofs.Ytchlnichbaoeaaa
open Go Go.Eng
def tabL1 : List (TypeId × TyD) := [(0, ⟨.oth, 1, 0, [], none, some []⟩),
  (2, ⟨(.int .i64), 1, 8, [.int .i64], some [(1, (.int .i64 0))], none⟩),
  (3, ⟨(.int .i64), 1, 8, [.int .i64], some [(1, (.int .i64 0))], none⟩),
  (4, ⟨.bool, 1, 1, [.bool], some [(1, (.bool false))], none⟩),
  (5, ⟨(.int .u8), 1, 1, [.int .u8], some [(1, (.int .u8 0))], none⟩),
  (22, ⟨(.sl 5), 1, 24, [.slice], some [(1, .nilSl)], none⟩),
  (91, ⟨(.int .u32), 1, 4, [.int .u32], some [(1, (.int .u32 0))], none⟩),
  (94, ⟨(.sl 98), 1, 24, [.slice], some [(1, .nilSl)], none⟩),
  (98, ⟨(.st [(0, 22)]), 1, 24, [.slice], some [(1, .nilSl)], none⟩),
  (101, ⟨(.int .u64), 1, 8, [.int .u64], some [(1, (.int .u64 0))], none⟩),
  (141, ⟨(.ptr 164), 1, 8, [.ptr], some [(1, .nilPtr)], none⟩),
  (164, ⟨(.st [(0, 22), (1, 3), (2, 2)]), 3, 40, [.slice, .int .i64, .int .i64], some [(1, .nilSl), (2, (.int .i64 0))], none⟩)]
set_option maxRecDepth 100000 in
theorem tabL1Ok : TabOk Try.prog tabL1 := tabOk_of (by kernel_rfl)
theorem mixedL1 : Try.prog.follows .mixedOrders = true := by kernel_rfl
/- function 71 -/
def c_laws_lwAt : Cfg := ⟨tabL1, [], [], [.tmp 4]⟩
def p_laws_lwAt : List (Bool × List Sh) := [(false, [.slice]), (false, [.int .i64])]
set_option maxRecDepth 100000 in
def t_laws_lwAt : Tr :=
(.lift (.br (.cm .lss (.var (.int .i64) 1) (.ln (.var (.slice) 0)))
 (.need (.nt (.nn (.var (.slice) 0)))
 (.need (.cm .leq (.cst (.int .i64 0)) (.var (.int .i64) 1))
 (.need (.cm .lss (.var (.int .i64) 1) (.ln (.var (.slice) 0)))
 (.load (.ix 1 (.var (.slice) 0) (.var (.int .i64) 1)) [.int .u8]
 (.ret (.x (.cv .i64 (.var (.int .u8) 2))))))))
 (.ret (.x (.ar .rem .i64 (.ar .add .i64 (.ar .mul .i64 (.var (.int .i64) 1) (.cst (.int .i64 47))) (.cst (.int .i64 13))) (.cst (.int .i64 256)))))))
set_option maxRecDepth 100000 in
theorem s_laws_lwAt : sxF c_laws_lwAt Try.f71 p_laws_lwAt = some t_laws_lwAt := by kernel_rfl
theorem e_laws_lwAt (xs : Array Value) (w : World) : (callFunc F_laws_lwAt xs).runT Try.prog w #[] = (.ok (.enter F_laws_lwAt xs) w, #[]) := ent_of Try.func71 (by kernel_rfl) (by kernel_rfl) xs w
theorem run_laws_lwAt {S : Nat → Prop} {h : Eng.Heap} {Q : Value → Eng.Heap → Prop} {vs : List Value} (hsh : shOk (resShs p_laws_lwAt) vs) (hi : Inv S h) (hw : t_laws_lwAt.wp Try.prog S noLeaf Q vs h []) : CallsH Try.prog S F_laws_lwAt (argVals p_laws_lwAt vs) h Q :=
  sxF_ok (cfg := c_laws_lwAt) tabL1Ok mixedL1 Try.func71 rfl s_laws_lwAt e_laws_lwAt rfl hsh hi hw
/- function 73 -/
def c_spec_DrawCrcUpdate : Cfg := ⟨tabL1, [], [], [.tmp 2, .tmp 3]⟩
def p_spec_DrawCrcUpdate : List (Bool × List Sh) := [(false, [.slice])]
set_option maxRecDepth 100000 in
def t_spec_DrawCrcUpdate : Tr :=
(.call F_spec_l1New [(.x (.var (.slice) 0))] false [(false, [.ptr])]
(.call F_spec_l1Number [(.x (.var (.ptr) 1))] false [(false, [.int .u32])]
(.call F_spec_l1Below [(.x (.var (.ptr) 1)), (.x (.cst (.int .i64 60)))] false [(false, [.int .i64])]
(.call F_spec_l1Some [(.x (.var (.ptr) 1)), (.x (.var (.int .i64) 3))] false [(false, [.slice])]
(.ret (.tup [(false, [(.var (.int .u32) 2)]), (false, [(.var (.slice) 4)])]))))))
set_option maxRecDepth 100000 in
theorem s_spec_DrawCrcUpdate : sxF c_spec_DrawCrcUpdate Try.f73 p_spec_DrawCrcUpdate = some t_spec_DrawCrcUpdate := by kernel_rfl
theorem e_spec_DrawCrcUpdate (xs : Array Value) (w : World) : (callFunc F_spec_DrawCrcUpdate xs).runT Try.prog w #[] = (.ok (.enter F_spec_DrawCrcUpdate xs) w, #[]) := ent_of Try.func73 (by kernel_rfl) (by kernel_rfl) xs w
theorem run_spec_DrawCrcUpdate {S : Nat → Prop} {h : Eng.Heap} {Q : Value → Eng.Heap → Prop} {vs : List Value} (hsh : shOk (resShs p_spec_DrawCrcUpdate) vs) (hi : Inv S h) (hw : t_spec_DrawCrcUpdate.wp Try.prog S noLeaf Q vs h []) : CallsH Try.prog S F_spec_DrawCrcUpdate (argVals p_spec_DrawCrcUpdate vs) h Q :=
  sxF_ok (cfg := c_spec_DrawCrcUpdate) tabL1Ok mixedL1 Try.func73 rfl s_spec_DrawCrcUpdate e_spec_DrawCrcUpdate rfl hsh hi hw
/- function 74 -/
def c_laws_lwCut : Cfg := ⟨tabL1, [⟨3, [0, 7, 8], [], [9, 11, 12, 13, 14, 15, 16, 17, 18, 19, 20, 21, 22, 23, 24, 25, 26, 27, 28, 29, 30, 31, 32, 33, 34, 35, 36, 37, 38, 39, 40, 41, 42, 43, 44]⟩], [], [.tmp 6]⟩
def p_laws_lwCut : List (Bool × List Sh) := [(false, [.slice]), (false, [.slice]), (false, [.int .i64])]
set_option maxRecDepth 100000 in
def t_laws_lwCut : Tr :=
(.hsl 98 0 []
(.loop [.slice, .slice, .int .i64] [(.var (.slice) 0), (.var (.slice) 3), (.cst (.int .i64 0))]
 (.lift (.br (.cm .gtr (.ln (.var (.slice) 4)) (.cst (.int .i64 0)))
  (.call F_laws_lwAt [(.x (.var (.slice) 1)), (.x (.ar .add .i64 (.var (.int .i64) 2) (.var (.int .i64) 6)))] false [(false, [.int .i64])]
  (.hsl 5 0 []
  (.need (.cm .leq (.cst (.int .i64 0)) (.it (.it (.cm .gtr (.ar .rem .i64 (.var (.int .i64) 7) (.cst (.int .i64 9))) (.ln (.var (.slice) 4))) (.cst (.bool true)) (.cm .eql (.ln (.var (.slice) 5)) (.cst (.int .i64 254)))) (.ln (.var (.slice) 4)) (.ar .rem .i64 (.var (.int .i64) 7) (.cst (.int .i64 9)))))
  (.need (.cm .leq (.it (.it (.cm .gtr (.ar .rem .i64 (.var (.int .i64) 7) (.cst (.int .i64 9))) (.ln (.var (.slice) 4))) (.cst (.bool true)) (.cm .eql (.ln (.var (.slice) 5)) (.cst (.int .i64 254)))) (.ln (.var (.slice) 4)) (.ar .rem .i64 (.var (.int .i64) 7) (.cst (.int .i64 9)))) (.cp (.var (.slice) 4)))
  (.app 5 1 1 [(.int .u8 0)] (.var (.slice) 8) (.sub 1 (.var (.slice) 4) .nl (.it (.it (.cm .gtr (.ar .rem .i64 (.var (.int .i64) 7) (.cst (.int .i64 9))) (.ln (.var (.slice) 4))) (.cst (.bool true)) (.cm .eql (.ln (.var (.slice) 5)) (.cst (.int .i64 254)))) (.ln (.var (.slice) 4)) (.ar .rem .i64 (.var (.int .i64) 7) (.cst (.int .i64 9)))) .nl)
  (.hsl 98 1 [(.var (.slice) 9)]
  (.app 98 1 24 [.nilSl] (.var (.slice) 5) (.var (.slice) 10)
  (.need (.cm .leq (.cst (.int .i64 0)) (.it (.it (.cm .gtr (.ar .rem .i64 (.var (.int .i64) 7) (.cst (.int .i64 9))) (.ln (.var (.slice) 4))) (.cst (.bool true)) (.cm .eql (.ln (.var (.slice) 5)) (.cst (.int .i64 254)))) (.ln (.var (.slice) 4)) (.ar .rem .i64 (.var (.int .i64) 7) (.cst (.int .i64 9)))))
  (.need (.cm .leq (.it (.it (.cm .gtr (.ar .rem .i64 (.var (.int .i64) 7) (.cst (.int .i64 9))) (.ln (.var (.slice) 4))) (.cst (.bool true)) (.cm .eql (.ln (.var (.slice) 5)) (.cst (.int .i64 254)))) (.ln (.var (.slice) 4)) (.ar .rem .i64 (.var (.int .i64) 7) (.cst (.int .i64 9)))) (.ln (.var (.slice) 4)))
  (.cont 0 [(.sub 1 (.var (.slice) 4) (.it (.it (.cm .gtr (.ar .rem .i64 (.var (.int .i64) 7) (.cst (.int .i64 9))) (.ln (.var (.slice) 4))) (.cst (.bool true)) (.cm .eql (.ln (.var (.slice) 5)) (.cst (.int .i64 254)))) (.ln (.var (.slice) 4)) (.ar .rem .i64 (.var (.int .i64) 7) (.cst (.int .i64 9)))) .nl .nl), (.var (.slice) 11), (.ar .add .i64 (.var (.int .i64) 6) (.cst (.int .i64 1)))]))))))))))
  (.ret (.x (.var (.slice) 5)))))))
set_option maxRecDepth 100000 in
theorem s_laws_lwCut : sxF c_laws_lwCut Try.f74 p_laws_lwCut = some t_laws_lwCut := by kernel_rfl
theorem e_laws_lwCut (xs : Array Value) (w : World) : (callFunc F_laws_lwCut xs).runT Try.prog w #[] = (.ok (.enter F_laws_lwCut xs) w, #[]) := ent_of Try.func74 (by kernel_rfl) (by kernel_rfl) xs w
theorem run_laws_lwCut {S : Nat → Prop} {h : Eng.Heap} {Q : Value → Eng.Heap → Prop} {vs : List Value} (hsh : shOk (resShs p_laws_lwCut) vs) (hi : Inv S h) (hw : t_laws_lwCut.wp Try.prog S noLeaf Q vs h []) : CallsH Try.prog S F_laws_lwCut (argVals p_laws_lwCut vs) h Q :=
  sxF_ok (cfg := c_laws_lwCut) tabL1Ok mixedL1 Try.func74 rfl s_laws_lwCut e_laws_lwCut rfl hsh hi hw
/- function 77 -/
def c_laws_lwOne : Cfg := ⟨tabL1, [], [], [.tmp 2]⟩
def p_laws_lwOne : List (Bool × List Sh) := [(false, [.bool])]
set_option maxRecDepth 100000 in
def t_laws_lwOne : Tr :=
(.lift (.br (.var (.bool) 0)
 (.ret (.x (.cst (.int .i64 1))))
 (.ret (.x (.cst (.int .i64 0))))))
set_option maxRecDepth 100000 in
theorem s_laws_lwOne : sxF c_laws_lwOne Try.f77 p_laws_lwOne = some t_laws_lwOne := by kernel_rfl
theorem e_laws_lwOne (xs : Array Value) (w : World) : (callFunc F_laws_lwOne xs).runT Try.prog w #[] = (.ok (.enter F_laws_lwOne xs) w, #[]) := ent_of Try.func77 (by kernel_rfl) (by kernel_rfl) xs w
theorem run_laws_lwOne {S : Nat → Prop} {h : Eng.Heap} {Q : Value → Eng.Heap → Prop} {vs : List Value} (hsh : shOk (resShs p_laws_lwOne) vs) (hi : Inv S h) (hw : t_laws_lwOne.wp Try.prog S noLeaf Q vs h []) : CallsH Try.prog S F_laws_lwOne (argVals p_laws_lwOne vs) h Q :=
  sxF_ok (cfg := c_laws_lwOne) tabL1Ok mixedL1 Try.func77 rfl s_laws_lwOne e_laws_lwOne rfl hsh hi hw
/- function 115 -/
def c_spec_l1New : Cfg := ⟨tabL1, [⟨3, [3, 4], [], [8, 9, 10, 11, 12, 13, 14, 15, 16, 17, 18, 19, 20, 21, 22, 23]⟩], [27], [.tmp 2]⟩
def p_spec_l1New : List (Bool × List Sh) := [(false, [.slice])]
set_option maxRecDepth 100000 in
def t_spec_l1New : Tr :=
(.loop [.int .i64, .int .i64] [(.ar .add .i64 (.cst (.int .i64 54321)) (.ln (.var (.slice) 0))), (.cst (.int .i64 0))]
 (.lift (.br (.cm .lss (.var (.int .i64) 2) (.ln (.var (.slice) 0)))
  (.need (.nt (.nn (.var (.slice) 0)))
  (.need (.cm .leq (.cst (.int .i64 0)) (.var (.int .i64) 2))
  (.need (.cm .lss (.var (.int .i64) 2) (.ln (.var (.slice) 0)))
  (.load (.ix 1 (.var (.slice) 0) (.var (.int .i64) 2)) [.int .u8]
  (.cont 0 [(.ar .and .i64 (.ar .add .i64 (.ar .add .i64 (.ar .mul .i64 (.var (.int .i64) 1) (.cst (.int .i64 131))) (.cv .i64 (.var (.int .u8) 3))) (.cst (.int .i64 7))) (.cst (.int .i64 1073741823))), (.ar .add .i64 (.var (.int .i64) 2) (.cst (.int .i64 1)))])))))
  (.hall 164 [(1, (.var (.slice) 0)), (1, (.cst (.int .i64 0))), (1, (.var (.int .i64) 1))]
  (.ret (.x (.var (.addr) 3)))))))
set_option maxRecDepth 100000 in
theorem s_spec_l1New : sxF c_spec_l1New Try.f115 p_spec_l1New = some t_spec_l1New := by kernel_rfl
theorem e_spec_l1New (xs : Array Value) (w : World) : (callFunc F_spec_l1New xs).runT Try.prog w #[] = (.ok (.enter F_spec_l1New xs) w, #[]) := ent_of Try.func115 (by kernel_rfl) (by kernel_rfl) xs w
theorem run_spec_l1New {S : Nat → Prop} {h : Eng.Heap} {Q : Value → Eng.Heap → Prop} {vs : List Value} (hsh : shOk (resShs p_spec_l1New) vs) (hi : Inv S h) (hw : t_spec_l1New.wp Try.prog S noLeaf Q vs h []) : CallsH Try.prog S F_spec_l1New (argVals p_spec_l1New vs) h Q :=
  sxF_ok (cfg := c_spec_l1New) tabL1Ok mixedL1 Try.func115 rfl s_spec_l1New e_spec_l1New rfl hsh hi hw
/- function 117 -/
def c_spec_l1Number : Cfg := ⟨tabL1, [], [], [.tmp 2]⟩
def p_spec_l1Number : List (Bool × List Sh) := [(false, [.ptr])]
set_option maxRecDepth 100000 in
def t_spec_l1Number : Tr :=
(.call F_spec_l1Below [(.x (.var (.ptr) 0)), (.x (.cst (.int .i64 5)))] false [(false, [.int .i64])]
(.call F_spec_l1Below [(.x (.var (.ptr) 0)), (.x (.cst (.int .i64 70000)))] false [(false, [.int .i64])]
(.call F_spec_l1Below [(.x (.var (.ptr) 0)), (.x (.cst (.int .i64 70000)))] false [(false, [.int .i64])]
(.lift (.br (.cm .eql (.var (.int .i64) 1) (.cst (.int .i64 0)))
 (.ret (.x (.cv .u32 (.var (.int .i64) 1))))
 (.lift (.br (.cm .eql (.var (.int .i64) 1) (.cst (.int .i64 1)))
  (.ret (.x (.ar .sub .u32 (.cst (.int .u32 4294967295)) (.cv .u32 (.ar .rem .i64 (.var (.int .i64) 2) (.cst (.int .i64 3)))))))
  (.lift (.br (.cm .eql (.var (.int .i64) 1) (.cst (.int .i64 2)))
   (.ret (.x (.ar .sub .u32 (.ar .add .u32 (.cst (.int .u32 65521)) (.cv .u32 (.ar .rem .i64 (.var (.int .i64) 2) (.cst (.int .i64 3))))) (.cst (.int .u32 1)))))
   (.ret (.x (.cv .u32 (.ar .add .i64 (.ar .mul .i64 (.var (.int .i64) 2) (.cst (.int .i64 65536))) (.var (.int .i64) 3))))))))))))))
set_option maxRecDepth 100000 in
theorem s_spec_l1Number : sxF c_spec_l1Number Try.f117 p_spec_l1Number = some t_spec_l1Number := by kernel_rfl
theorem e_spec_l1Number (xs : Array Value) (w : World) : (callFunc F_spec_l1Number xs).runT Try.prog w #[] = (.ok (.enter F_spec_l1Number xs) w, #[]) := ent_of Try.func117 (by kernel_rfl) (by kernel_rfl) xs w
theorem run_spec_l1Number {S : Nat → Prop} {h : Eng.Heap} {Q : Value → Eng.Heap → Prop} {vs : List Value} (hsh : shOk (resShs p_spec_l1Number) vs) (hi : Inv S h) (hw : t_spec_l1Number.wp Try.prog S noLeaf Q vs h []) : CallsH Try.prog S F_spec_l1Number (argVals p_spec_l1Number vs) h Q :=
  sxF_ok (cfg := c_spec_l1Number) tabL1Ok mixedL1 Try.func117 rfl s_spec_l1Number e_spec_l1Number rfl hsh hi hw
/- function 118 -/
def c_spec_l1Some : Cfg := ⟨tabL1, [⟨3, [5, 6], [], [7, 9, 10, 11, 12, 13, 14, 15, 16, 17, 18, 19, 20]⟩], [], [.tmp 4]⟩
def p_spec_l1Some : List (Bool × List Sh) := [(false, [.ptr]), (false, [.int .i64])]
set_option maxRecDepth 100000 in
def t_spec_l1Some : Tr :=
(.hsl 5 0 []
(.loop [.slice, .int .i64] [(.var (.slice) 2), (.cst (.int .i64 0))]
 (.lift (.br (.cm .lss (.var (.int .i64) 4) (.var (.int .i64) 1))
  (.call F_spec_l1Byte [(.x (.var (.ptr) 0))] false [(false, [.int .i64])]
  (.hsl 5 1 [(.cv .u8 (.var (.int .i64) 5))]
  (.app 5 1 1 [(.int .u8 0)] (.var (.slice) 3) (.var (.slice) 6)
  (.cont 0 [(.var (.slice) 7), (.ar .add .i64 (.var (.int .i64) 4) (.cst (.int .i64 1)))]))))
  (.ret (.x (.var (.slice) 3)))))))
set_option maxRecDepth 100000 in
theorem s_spec_l1Some : sxF c_spec_l1Some Try.f118 p_spec_l1Some = some t_spec_l1Some := by kernel_rfl
theorem e_spec_l1Some (xs : Array Value) (w : World) : (callFunc F_spec_l1Some xs).runT Try.prog w #[] = (.ok (.enter F_spec_l1Some xs) w, #[]) := ent_of Try.func118 (by kernel_rfl) (by kernel_rfl) xs w
theorem run_spec_l1Some {S : Nat → Prop} {h : Eng.Heap} {Q : Value → Eng.Heap → Prop} {vs : List Value} (hsh : shOk (resShs p_spec_l1Some) vs) (hi : Inv S h) (hw : t_spec_l1Some.wp Try.prog S noLeaf Q vs h []) : CallsH Try.prog S F_spec_l1Some (argVals p_spec_l1Some vs) h Q :=
  sxF_ok (cfg := c_spec_l1Some) tabL1Ok mixedL1 Try.func118 rfl s_spec_l1Some e_spec_l1Some rfl hsh hi hw
/- function 119 -/
def c_spec_l1Below : Cfg := ⟨tabL1, [], [], [.tmp 4]⟩
def p_spec_l1Below : List (Bool × List Sh) := [(false, [.ptr]), (false, [.int .i64])]
set_option maxRecDepth 100000 in
def t_spec_l1Below : Tr :=
(.lift (.br (.cm .leq (.var (.int .i64) 1) (.cst (.int .i64 256)))
 (.call F_spec_l1Byte [(.x (.var (.ptr) 0))] false [(false, [.int .i64])]
 (.need (.cm .neq (.var (.int .i64) 1) (.cst (.int .i64 0)))
 (.ret (.x (.ar .rem .i64 (.var (.int .i64) 2) (.var (.int .i64) 1))))))
 (.call F_spec_l1Byte [(.x (.var (.ptr) 0))] false [(false, [.int .i64])]
 (.call F_spec_l1Byte [(.x (.var (.ptr) 0))] false [(false, [.int .i64])]
 (.call F_spec_l1Byte [(.x (.var (.ptr) 0))] false [(false, [.int .i64])]
 (.need (.cm .neq (.var (.int .i64) 1) (.cst (.int .i64 0)))
 (.ret (.x (.ar .rem .i64 (.ar .add .i64 (.ar .add .i64 (.ar .mul .i64 (.var (.int .i64) 2) (.cst (.int .i64 65536))) (.ar .mul .i64 (.var (.int .i64) 3) (.cst (.int .i64 256)))) (.var (.int .i64) 4)) (.var (.int .i64) 1))))))))))
set_option maxRecDepth 100000 in
theorem s_spec_l1Below : sxF c_spec_l1Below Try.f119 p_spec_l1Below = some t_spec_l1Below := by kernel_rfl
theorem e_spec_l1Below (xs : Array Value) (w : World) : (callFunc F_spec_l1Below xs).runT Try.prog w #[] = (.ok (.enter F_spec_l1Below xs) w, #[]) := ent_of Try.func119 (by kernel_rfl) (by kernel_rfl) xs w
theorem run_spec_l1Below {S : Nat → Prop} {h : Eng.Heap} {Q : Value → Eng.Heap → Prop} {vs : List Value} (hsh : shOk (resShs p_spec_l1Below) vs) (hi : Inv S h) (hw : t_spec_l1Below.wp Try.prog S noLeaf Q vs h []) : CallsH Try.prog S F_spec_l1Below (argVals p_spec_l1Below vs) h Q :=
  sxF_ok (cfg := c_spec_l1Below) tabL1Ok mixedL1 Try.func119 rfl s_spec_l1Below e_spec_l1Below rfl hsh hi hw
/- function 127 -/
def c_spec_l1Byte : Cfg := ⟨tabL1, [], [], [.tmp 2]⟩
def p_spec_l1Byte : List (Bool × List Sh) := [(false, [.ptr])]
set_option maxRecDepth 100000 in
def t_spec_l1Byte : Tr :=
(.need (.nt (.nn (.var (.ptr) 0)))
(.load (.fld (.nz (.var (.ptr) 0)) 2) [.int .i64]
(.need (.nt (.nn (.var (.ptr) 0)))
(.hsto (.fld (.nz (.var (.ptr) 0)) 2) [(.ar .add .i64 (.ar .mul .i64 (.var (.int .i64) 1) (.cst (.int .i64 6364136223846793005))) (.cst (.int .i64 1442695040888963407)))]
(.need (.nt (.nn (.var (.ptr) 0)))
(.load (.fld (.nz (.var (.ptr) 0)) 2) [.int .i64]
(.need (.nt (.nn (.var (.ptr) 0)))
(.load (.fld (.nz (.var (.ptr) 0)) 2) [.int .i64]
(.need (.nt (.nn (.var (.ptr) 0)))
(.load (.fld (.nz (.var (.ptr) 0)) 1) [.int .i64]
(.need (.nt (.nn (.var (.ptr) 0)))
(.load (.fld (.nz (.var (.ptr) 0)) 0) [.slice]
(.join [.int .i64]
 (.br (.cm .lss (.var (.int .i64) 4) (.ln (.var (.slice) 5)))
  (.need (.nt (.nn (.var (.ptr) 0)))
  (.load (.fld (.nz (.var (.ptr) 0)) 0) [.slice]
  (.need (.nt (.nn (.var (.ptr) 0)))
  (.load (.fld (.nz (.var (.ptr) 0)) 1) [.int .i64]
  (.need (.nt (.nn (.var (.slice) 6)))
  (.need (.cm .leq (.cst (.int .i64 0)) (.var (.int .i64) 7))
  (.need (.cm .lss (.var (.int .i64) 7) (.ln (.var (.slice) 6)))
  (.load (.ix 1 (.var (.slice) 6) (.var (.int .i64) 7)) [.int .u8]
  (.need (.nt (.nn (.var (.ptr) 0)))
  (.load (.fld (.nz (.var (.ptr) 0)) 1) [.int .i64]
  (.need (.nt (.nn (.var (.ptr) 0)))
  (.hsto (.fld (.nz (.var (.ptr) 0)) 1) [(.ar .add .i64 (.var (.int .i64) 9) (.cst (.int .i64 1)))]
  (.cont 0 [(.ar .and .i64 (.ar .add .i64 (.ar .and .i64 (.ar .xor .i64 (.ar .shr .i64 (.var (.int .i64) 2) (.cst (.int .u64 33))) (.ar .shr .i64 (.var (.int .i64) 3) (.cst (.int .u64 45)))) (.cst (.int .i64 255))) (.cv .i64 (.var (.int .u8) 8))) (.cst (.int .i64 255)))])))))))))))))
  (.cont 0 [(.ar .and .i64 (.ar .xor .i64 (.ar .shr .i64 (.var (.int .i64) 2) (.cst (.int .u64 33))) (.ar .shr .i64 (.var (.int .i64) 3) (.cst (.int .u64 45)))) (.cst (.int .i64 255)))]))
 (.ret (.x (.var (.int .i64) 6))))))))))))))))
set_option maxRecDepth 100000 in
theorem s_spec_l1Byte : sxF c_spec_l1Byte Try.f127 p_spec_l1Byte = some t_spec_l1Byte := by kernel_rfl
theorem e_spec_l1Byte (xs : Array Value) (w : World) : (callFunc F_spec_l1Byte xs).runT Try.prog w #[] = (.ok (.enter F_spec_l1Byte xs) w, #[]) := ent_of Try.func127 (by kernel_rfl) (by kernel_rfl) xs w
theorem run_spec_l1Byte {S : Nat → Prop} {h : Eng.Heap} {Q : Value → Eng.Heap → Prop} {vs : List Value} (hsh : shOk (resShs p_spec_l1Byte) vs) (hi : Inv S h) (hw : t_spec_l1Byte.wp Try.prog S noLeaf Q vs h []) : CallsH Try.prog S F_spec_l1Byte (argVals p_spec_l1Byte vs) h Q :=
  sxF_ok (cfg := c_spec_l1Byte) tabL1Ok mixedL1 Try.func127 rfl s_spec_l1Byte e_spec_l1Byte rfl hsh hi hw
end Go.Proofs.Ytchlnichbaoeaaa
