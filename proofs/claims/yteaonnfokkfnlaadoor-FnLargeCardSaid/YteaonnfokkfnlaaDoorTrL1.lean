-- printed by a generator of my own (wip/eng/Gen) from the translation
import Derived.Test.YteaonnfokkfnlaaDoorEng2
import Derived.Test.YteaonnfokkfnlaaDoorChecked
import Derived.Test.YteaonnfokkfnlaaDoorNums
set_option linter.unusedVariables false
set_option linter.unusedSimpArgs false
namespace Go.Proofs.YteaonnfokkfnlaaDoor
open Go Go.Eng
def tabL1 : List (TypeId × TyD) := [(0, ⟨.oth, 1, 0, [], none, some []⟩),
  (2, ⟨(.int .i64), 1, 8, [.int .i64], some [(1, (.int .i64 0))], none⟩),
  (3, ⟨(.int .i64), 1, 8, [.int .i64], some [(1, (.int .i64 0))], none⟩),
  (4, ⟨.bool, 1, 1, [.bool], some [(1, (.bool false))], none⟩),
  (5, ⟨(.int .u8), 1, 1, [.int .u8], some [(1, (.int .u8 0))], none⟩),
  (22, ⟨(.sl 5), 1, 24, [.slice], some [(1, .nilSl)], none⟩),
  (32, ⟨(.int .u64), 1, 8, [.int .u64], some [(1, (.int .u64 0))], none⟩),
  (55, ⟨(.ptr 77), 1, 8, [.ptr], some [(1, .nilPtr)], none⟩),
  (77, ⟨(.st [(0, 22), (1, 3), (2, 2)]), 3, 40, [.slice, .int .i64, .int .i64], some [(1, .nilSl), (2, (.int .i64 0))], none⟩)]
set_option maxRecDepth 100000 in
theorem tabL1Ok : TabOk Tryd.prog tabL1 := tabOk_of (by kernel_rfl)
theorem mixedL1 : Tryd.prog.follows .mixedOrders = true := by kernel_rfl
/- function 5 -/
def c_laws_lwAt : Cfg := ⟨tabL1, [], [], [.tmp 4]⟩
def p_laws_lwAt : List (Bool × List Sh) := [(false, [.slice]), (false, [.int .i64])]
set_option maxRecDepth 100000 in
def t_laws_lwAt : Tr :=
(.lift (.br (.cm .lss (.var (.int .i64) 1) (.ln (.var (.slice) 0)))
 (.need (.nt (.nn (.var (.slice) 0)))
 (.need (.cm .leq (.cst (.int .i64 0)) (.var (.int .i64) 1))
 (.need (.cm .lss (.var (.int .i64) 1) (.ln (.var (.slice) 0)))
 (.load (.ix 1 (.var (.slice) 0) (.var (.int .i64) 1)) [.int .u8]
 (.ret (.x (.cv .i64 (.var (.int .u8) 2))))))))
 (.ret (.x (.ar .rem .i64 (.ar .add .i64 (.ar .mul .i64 (.var (.int .i64) 1) (.cst (.int .i64 47))) (.cst (.int .i64 13))) (.cst (.int .i64 256)))))))
set_option maxRecDepth 100000 in
theorem s_laws_lwAt : sxF c_laws_lwAt Tryd.f5 p_laws_lwAt = some t_laws_lwAt := by kernel_rfl
theorem e_laws_lwAt (xs : Array Value) (w : World) : (callFunc F_laws_lwAt xs).runT Tryd.prog w #[] = (.ok (.enter F_laws_lwAt xs) w, #[]) := ent_of Tryd.func5 (by kernel_rfl) (by kernel_rfl) xs w
theorem run_laws_lwAt {S : Shared} {h : Eng.Heap} {Q : Value → Eng.Heap → Prop} {vs : List Value} (hsh : shOk (resShs p_laws_lwAt) vs) (hi : Inv S h) (hw : t_laws_lwAt.wp Tryd.prog S noLeaf Q vs h []) : CallsH Tryd.prog S F_laws_lwAt (argVals p_laws_lwAt vs) h Q :=
  sxF_ok (cfg := c_laws_lwAt) tabL1Ok mixedL1 Tryd.func5 rfl s_laws_lwAt e_laws_lwAt rfl hsh hi hw
/- function 20 -/
def c_spec_l1New : Cfg := ⟨tabL1, [⟨3, [3, 4], [], [8, 9, 10, 11, 12, 13, 14, 15, 16, 17, 18, 19, 20, 21, 22, 23]⟩], [27], [.tmp 2]⟩
def p_spec_l1New : List (Bool × List Sh) := [(false, [.slice])]
set_option maxRecDepth 100000 in
def t_spec_l1New : Tr :=
(.loop [.int .i64, .int .i64] [(.ar .add .i64 (.cst (.int .i64 54321)) (.ln (.var (.slice) 0))), (.cst (.int .i64 0))]
 (.lift (.br (.cm .lss (.var (.int .i64) 2) (.ln (.var (.slice) 0)))
  (.need (.nt (.nn (.var (.slice) 0)))
  (.need (.cm .leq (.cst (.int .i64 0)) (.var (.int .i64) 2))
  (.need (.cm .lss (.var (.int .i64) 2) (.ln (.var (.slice) 0)))
  (.load (.ix 1 (.var (.slice) 0) (.var (.int .i64) 2)) [.int .u8]
  (.cont 0 [(.ar .and .i64 (.ar .add .i64 (.ar .add .i64 (.ar .mul .i64 (.var (.int .i64) 1) (.cst (.int .i64 131))) (.cv .i64 (.var (.int .u8) 3))) (.cst (.int .i64 7))) (.cst (.int .i64 1073741823))), (.ar .add .i64 (.var (.int .i64) 2) (.cst (.int .i64 1)))])))))
  (.hall 77 [(1, (.var (.slice) 0)), (1, (.cst (.int .i64 0))), (1, (.var (.int .i64) 1))]
  (.ret (.x (.var (.addr) 3)))))))
set_option maxRecDepth 100000 in
theorem s_spec_l1New : sxF c_spec_l1New Tryd.f20 p_spec_l1New = some t_spec_l1New := by kernel_rfl
theorem e_spec_l1New (xs : Array Value) (w : World) : (callFunc F_spec_l1New xs).runT Tryd.prog w #[] = (.ok (.enter F_spec_l1New xs) w, #[]) := ent_of Tryd.func20 (by kernel_rfl) (by kernel_rfl) xs w
theorem run_spec_l1New {S : Shared} {h : Eng.Heap} {Q : Value → Eng.Heap → Prop} {vs : List Value} (hsh : shOk (resShs p_spec_l1New) vs) (hi : Inv S h) (hw : t_spec_l1New.wp Tryd.prog S noLeaf Q vs h []) : CallsH Tryd.prog S F_spec_l1New (argVals p_spec_l1New vs) h Q :=
  sxF_ok (cfg := c_spec_l1New) tabL1Ok mixedL1 Tryd.func20 rfl s_spec_l1New e_spec_l1New rfl hsh hi hw
/- function 22 -/
def c_spec_l1Below : Cfg := ⟨tabL1, [], [], [.tmp 4]⟩
def p_spec_l1Below : List (Bool × List Sh) := [(false, [.ptr]), (false, [.int .i64])]
set_option maxRecDepth 100000 in
def t_spec_l1Below : Tr :=
(.lift (.br (.cm .leq (.var (.int .i64) 1) (.cst (.int .i64 256)))
 (.call F_spec_l1Byte [(.x (.var (.ptr) 0))] false [(false, [.int .i64])]
 (.need (.cm .neq (.var (.int .i64) 1) (.cst (.int .i64 0)))
 (.ret (.x (.ar .rem .i64 (.var (.int .i64) 2) (.var (.int .i64) 1))))))
 (.call F_spec_l1Byte [(.x (.var (.ptr) 0))] false [(false, [.int .i64])]
 (.call F_spec_l1Byte [(.x (.var (.ptr) 0))] false [(false, [.int .i64])]
 (.call F_spec_l1Byte [(.x (.var (.ptr) 0))] false [(false, [.int .i64])]
 (.need (.cm .neq (.var (.int .i64) 1) (.cst (.int .i64 0)))
 (.ret (.x (.ar .rem .i64 (.ar .add .i64 (.ar .add .i64 (.ar .mul .i64 (.var (.int .i64) 2) (.cst (.int .i64 65536))) (.ar .mul .i64 (.var (.int .i64) 3) (.cst (.int .i64 256)))) (.var (.int .i64) 4)) (.var (.int .i64) 1))))))))))
set_option maxRecDepth 100000 in
theorem s_spec_l1Below : sxF c_spec_l1Below Tryd.f22 p_spec_l1Below = some t_spec_l1Below := by kernel_rfl
theorem e_spec_l1Below (xs : Array Value) (w : World) : (callFunc F_spec_l1Below xs).runT Tryd.prog w #[] = (.ok (.enter F_spec_l1Below xs) w, #[]) := ent_of Tryd.func22 (by kernel_rfl) (by kernel_rfl) xs w
theorem run_spec_l1Below {S : Shared} {h : Eng.Heap} {Q : Value → Eng.Heap → Prop} {vs : List Value} (hsh : shOk (resShs p_spec_l1Below) vs) (hi : Inv S h) (hw : t_spec_l1Below.wp Tryd.prog S noLeaf Q vs h []) : CallsH Tryd.prog S F_spec_l1Below (argVals p_spec_l1Below vs) h Q :=
  sxF_ok (cfg := c_spec_l1Below) tabL1Ok mixedL1 Tryd.func22 rfl s_spec_l1Below e_spec_l1Below rfl hsh hi hw
/- function 34 -/
def c_spec_l1Some : Cfg := ⟨tabL1, [⟨3, [5, 6], [], [7, 9, 10, 11, 12, 13, 14, 15, 16, 17, 18, 19, 20]⟩], [], [.tmp 4]⟩
def p_spec_l1Some : List (Bool × List Sh) := [(false, [.ptr]), (false, [.int .i64])]
set_option maxRecDepth 100000 in
def t_spec_l1Some : Tr :=
(.hsl 5 0 []
(.loop [.slice, .int .i64] [(.var (.slice) 2), (.cst (.int .i64 0))]
 (.lift (.br (.cm .lss (.var (.int .i64) 4) (.var (.int .i64) 1))
  (.call F_spec_l1Byte [(.x (.var (.ptr) 0))] false [(false, [.int .i64])]
  (.hsl 5 1 [(.cv .u8 (.var (.int .i64) 5))]
  (.app 5 1 1 [(.int .u8 0)] (.var (.slice) 3) (.var (.slice) 6)
  (.cont 0 [(.var (.slice) 7), (.ar .add .i64 (.var (.int .i64) 4) (.cst (.int .i64 1)))]))))
  (.ret (.x (.var (.slice) 3)))))))
set_option maxRecDepth 100000 in
theorem s_spec_l1Some : sxF c_spec_l1Some Tryd.f34 p_spec_l1Some = some t_spec_l1Some := by kernel_rfl
theorem e_spec_l1Some (xs : Array Value) (w : World) : (callFunc F_spec_l1Some xs).runT Tryd.prog w #[] = (.ok (.enter F_spec_l1Some xs) w, #[]) := ent_of Tryd.func34 (by kernel_rfl) (by kernel_rfl) xs w
theorem run_spec_l1Some {S : Shared} {h : Eng.Heap} {Q : Value → Eng.Heap → Prop} {vs : List Value} (hsh : shOk (resShs p_spec_l1Some) vs) (hi : Inv S h) (hw : t_spec_l1Some.wp Tryd.prog S noLeaf Q vs h []) : CallsH Tryd.prog S F_spec_l1Some (argVals p_spec_l1Some vs) h Q :=
  sxF_ok (cfg := c_spec_l1Some) tabL1Ok mixedL1 Tryd.func34 rfl s_spec_l1Some e_spec_l1Some rfl hsh hi hw
/- function 35 -/
def c_spec_l1Byte : Cfg := ⟨tabL1, [], [], [.tmp 2]⟩
def p_spec_l1Byte : List (Bool × List Sh) := [(false, [.ptr])]
set_option maxRecDepth 100000 in
def t_spec_l1Byte : Tr :=
(.need (.nt (.nn (.var (.ptr) 0)))
(.load (.fld (.nz (.var (.ptr) 0)) 2) [.int .i64]
(.need (.nt (.nn (.var (.ptr) 0)))
(.hsto (.fld (.nz (.var (.ptr) 0)) 2) [(.ar .add .i64 (.ar .mul .i64 (.var (.int .i64) 1) (.cst (.int .i64 6364136223846793005))) (.cst (.int .i64 1442695040888963407)))]
(.need (.nt (.nn (.var (.ptr) 0)))
(.load (.fld (.nz (.var (.ptr) 0)) 2) [.int .i64]
(.need (.nt (.nn (.var (.ptr) 0)))
(.load (.fld (.nz (.var (.ptr) 0)) 2) [.int .i64]
(.need (.nt (.nn (.var (.ptr) 0)))
(.load (.fld (.nz (.var (.ptr) 0)) 1) [.int .i64]
(.need (.nt (.nn (.var (.ptr) 0)))
(.load (.fld (.nz (.var (.ptr) 0)) 0) [.slice]
(.join [.int .i64]
 (.br (.cm .lss (.var (.int .i64) 4) (.ln (.var (.slice) 5)))
  (.need (.nt (.nn (.var (.ptr) 0)))
  (.load (.fld (.nz (.var (.ptr) 0)) 0) [.slice]
  (.need (.nt (.nn (.var (.ptr) 0)))
  (.load (.fld (.nz (.var (.ptr) 0)) 1) [.int .i64]
  (.need (.nt (.nn (.var (.slice) 6)))
  (.need (.cm .leq (.cst (.int .i64 0)) (.var (.int .i64) 7))
  (.need (.cm .lss (.var (.int .i64) 7) (.ln (.var (.slice) 6)))
  (.load (.ix 1 (.var (.slice) 6) (.var (.int .i64) 7)) [.int .u8]
  (.need (.nt (.nn (.var (.ptr) 0)))
  (.load (.fld (.nz (.var (.ptr) 0)) 1) [.int .i64]
  (.need (.nt (.nn (.var (.ptr) 0)))
  (.hsto (.fld (.nz (.var (.ptr) 0)) 1) [(.ar .add .i64 (.var (.int .i64) 9) (.cst (.int .i64 1)))]
  (.cont 0 [(.ar .and .i64 (.ar .add .i64 (.ar .and .i64 (.ar .xor .i64 (.ar .shr .i64 (.var (.int .i64) 2) (.cst (.int .u64 33))) (.ar .shr .i64 (.var (.int .i64) 3) (.cst (.int .u64 45)))) (.cst (.int .i64 255))) (.cv .i64 (.var (.int .u8) 8))) (.cst (.int .i64 255)))])))))))))))))
  (.cont 0 [(.ar .and .i64 (.ar .xor .i64 (.ar .shr .i64 (.var (.int .i64) 2) (.cst (.int .u64 33))) (.ar .shr .i64 (.var (.int .i64) 3) (.cst (.int .u64 45)))) (.cst (.int .i64 255)))]))
 (.ret (.x (.var (.int .i64) 6))))))))))))))))
set_option maxRecDepth 100000 in
theorem s_spec_l1Byte : sxF c_spec_l1Byte Tryd.f35 p_spec_l1Byte = some t_spec_l1Byte := by kernel_rfl
theorem e_spec_l1Byte (xs : Array Value) (w : World) : (callFunc F_spec_l1Byte xs).runT Tryd.prog w #[] = (.ok (.enter F_spec_l1Byte xs) w, #[]) := ent_of Tryd.func35 (by kernel_rfl) (by kernel_rfl) xs w
theorem run_spec_l1Byte {S : Shared} {h : Eng.Heap} {Q : Value → Eng.Heap → Prop} {vs : List Value} (hsh : shOk (resShs p_spec_l1Byte) vs) (hi : Inv S h) (hw : t_spec_l1Byte.wp Tryd.prog S noLeaf Q vs h []) : CallsH Tryd.prog S F_spec_l1Byte (argVals p_spec_l1Byte vs) h Q :=
  sxF_ok (cfg := c_spec_l1Byte) tabL1Ok mixedL1 Tryd.func35 rfl s_spec_l1Byte e_spec_l1Byte rfl hsh hi hw
end Go.Proofs.YteaonnfokkfnlaaDoor
