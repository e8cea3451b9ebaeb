-- printed by a generator of my own (wip/eng/Gen) from the translation
import Derived.Test.YtmnialmphlbmaaaEng2
import Derived.Test.YtmnialmphlbmaaaChecked
import Derived.Test.YtmnialmphlbmaaaNums
set_option linter.unusedVariables false
set_option linter.unusedSimpArgs false
namespace Go.Proofs.Ytmnialmphlbmaaa
open Go Go.Eng
def tabL1 : List (TypeId × TyD) := [(0, ⟨.oth, 1, 0, [], none, some []⟩),
  (2, ⟨(.int .i64), 1, 8, [.int .i64], some [(1, (.int .i64 0))], none⟩),
  (3, ⟨(.int .i64), 1, 8, [.int .i64], some [(1, (.int .i64 0))], none⟩),
  (4, ⟨.bool, 1, 1, [.bool], some [(1, (.bool false))], none⟩),
  (5, ⟨(.int .u8), 1, 1, [.int .u8], some [(1, (.int .u8 0))], none⟩),
  (22, ⟨(.int .u32), 1, 4, [.int .u32], some [(1, (.int .u32 0))], none⟩),
  (23, ⟨(.sl 5), 1, 24, [.slice], some [(1, .nilSl)], none⟩),
  (51, ⟨(.ptr 74), 1, 8, [.ptr], some [(1, .nilPtr)], none⟩),
  (59, ⟨(.int .u64), 1, 8, [.int .u64], some [(1, (.int .u64 0))], none⟩),
  (74, ⟨(.st [(0, 23), (1, 3), (2, 2)]), 3, 40, [.slice, .int .i64, .int .i64], some [(1, .nilSl), (2, (.int .i64 0))], none⟩)]
set_option maxRecDepth 100000 in
theorem tabL1Ok : TabOk Try.prog tabL1 := tabOk_of (by kernel_rfl)
theorem mixedL1 : Try.prog.follows .mixedOrders = true := by kernel_rfl
/- function 18 -/
def c_spec_DrawAdlerUpdate : Cfg := ⟨tabL1, [⟨8, [22], [], [7, 23, 24, 25, 26, 27, 28]⟩], [], [.tmp 2, .tmp 3]⟩
def p_spec_DrawAdlerUpdate : List (Bool × List Sh) := [(false, [.slice])]
set_option maxRecDepth 100000 in
def t_spec_DrawAdlerUpdate : Tr :=
(.call F_spec_l1New [(.x (.var (.slice) 0))] false [(false, [.ptr])]
(.call F_spec_l1Number [(.x (.var (.ptr) 1))] false [(false, [.int .u32])]
(.call F_spec_l1Once [(.x (.var (.ptr) 1)), (.x (.cst (.int .i64 3)))] false [(false, [.bool])]
(.call F_spec_l1Below [(.x (.var (.ptr) 1)), (.x (.cst (.int .i64 60)))] false [(false, [.int .i64])]
(.call F_spec_l1Some [(.x (.var (.ptr) 1)), (.x (.var (.int .i64) 4))] false [(false, [.slice])]
(.call F_spec_l1Once [(.x (.var (.ptr) 1)), (.x (.cst (.int .i64 8)))] false [(false, [.bool])]
(.join []
 (.br (.var (.bool) 6)
  (.loop [.int .i64] [(.cst (.int .i64 0))]
   (.lift (.br (.cm .lss (.var (.int .i64) 7) (.ln (.var (.slice) 5)))
    (.need (.nt (.nn (.var (.slice) 5)))
    (.need (.cm .leq (.cst (.int .i64 0)) (.var (.int .i64) 7))
    (.need (.cm .lss (.var (.int .i64) 7) (.ln (.var (.slice) 5)))
    (.hsto (.ix 1 (.var (.slice) 5) (.var (.int .i64) 7)) [(.cst (.int .u8 255))]
    (.cont 1 [(.ar .add .i64 (.var (.int .i64) 7) (.cst (.int .i64 1)))])))))
    (.cont 0 []))))
  (.cont 0 []))
 (.ret (.tup [(false, [(.it (.var (.bool) 3) (.cst (.int .u32 1)) (.var (.int .u32) 2))]), (false, [(.var (.slice) 5)])])))))))))
set_option maxRecDepth 100000 in
theorem s_spec_DrawAdlerUpdate : sxF c_spec_DrawAdlerUpdate Try.f18 p_spec_DrawAdlerUpdate = some t_spec_DrawAdlerUpdate := by kernel_rfl
theorem e_spec_DrawAdlerUpdate (xs : Array Value) (w : World) : (callFunc F_spec_DrawAdlerUpdate xs).runT Try.prog w #[] = (.ok (.enter F_spec_DrawAdlerUpdate xs) w, #[]) := ent_of Try.func18 (by kernel_rfl) (by kernel_rfl) xs w
theorem run_spec_DrawAdlerUpdate {S : Shared} {h : Eng.Heap} {Q : Value → Eng.Heap → Prop} {vs : List Value} (hsh : shOk (resShs p_spec_DrawAdlerUpdate) vs) (hi : Inv S h) (hw : t_spec_DrawAdlerUpdate.wp Try.prog S noLeaf Q vs h []) : CallsH Try.prog S F_spec_DrawAdlerUpdate (argVals p_spec_DrawAdlerUpdate vs) h Q :=
  sxF_ok (cfg := c_spec_DrawAdlerUpdate) tabL1Ok mixedL1 Try.func18 rfl s_spec_DrawAdlerUpdate e_spec_DrawAdlerUpdate rfl hsh hi hw
/- function 36 -/
def c_spec_l1New : Cfg := ⟨tabL1, [⟨3, [3, 4], [], [8, 9, 10, 11, 12, 13, 14, 15, 16, 17, 18, 19, 20, 21, 22, 23]⟩], [27], [.tmp 2]⟩
def p_spec_l1New : List (Bool × List Sh) := [(false, [.slice])]
set_option maxRecDepth 100000 in
def t_spec_l1New : Tr :=
(.loop [.int .i64, .int .i64] [(.ar .add .i64 (.cst (.int .i64 54321)) (.ln (.var (.slice) 0))), (.cst (.int .i64 0))]
 (.lift (.br (.cm .lss (.var (.int .i64) 2) (.ln (.var (.slice) 0)))
  (.need (.nt (.nn (.var (.slice) 0)))
  (.need (.cm .leq (.cst (.int .i64 0)) (.var (.int .i64) 2))
  (.need (.cm .lss (.var (.int .i64) 2) (.ln (.var (.slice) 0)))
  (.load (.ix 1 (.var (.slice) 0) (.var (.int .i64) 2)) [.int .u8]
  (.cont 0 [(.ar .and .i64 (.ar .add .i64 (.ar .add .i64 (.ar .mul .i64 (.var (.int .i64) 1) (.cst (.int .i64 131))) (.cv .i64 (.var (.int .u8) 3))) (.cst (.int .i64 7))) (.cst (.int .i64 1073741823))), (.ar .add .i64 (.var (.int .i64) 2) (.cst (.int .i64 1)))])))))
  (.hall 74 [(1, (.var (.slice) 0)), (1, (.cst (.int .i64 0))), (1, (.var (.int .i64) 1))]
  (.ret (.x (.var (.addr) 3)))))))
set_option maxRecDepth 100000 in
theorem s_spec_l1New : sxF c_spec_l1New Try.f36 p_spec_l1New = some t_spec_l1New := by kernel_rfl
theorem e_spec_l1New (xs : Array Value) (w : World) : (callFunc F_spec_l1New xs).runT Try.prog w #[] = (.ok (.enter F_spec_l1New xs) w, #[]) := ent_of Try.func36 (by kernel_rfl) (by kernel_rfl) xs w
theorem run_spec_l1New {S : Shared} {h : Eng.Heap} {Q : Value → Eng.Heap → Prop} {vs : List Value} (hsh : shOk (resShs p_spec_l1New) vs) (hi : Inv S h) (hw : t_spec_l1New.wp Try.prog S noLeaf Q vs h []) : CallsH Try.prog S F_spec_l1New (argVals p_spec_l1New vs) h Q :=
  sxF_ok (cfg := c_spec_l1New) tabL1Ok mixedL1 Try.func36 rfl s_spec_l1New e_spec_l1New rfl hsh hi hw
/- function 37 -/
def c_spec_l1Number : Cfg := ⟨tabL1, [], [], [.tmp 2]⟩
def p_spec_l1Number : List (Bool × List Sh) := [(false, [.ptr])]
set_option maxRecDepth 100000 in
def t_spec_l1Number : Tr :=
(.call F_spec_l1Below [(.x (.var (.ptr) 0)), (.x (.cst (.int .i64 5)))] false [(false, [.int .i64])]
(.call F_spec_l1Below [(.x (.var (.ptr) 0)), (.x (.cst (.int .i64 70000)))] false [(false, [.int .i64])]
(.call F_spec_l1Below [(.x (.var (.ptr) 0)), (.x (.cst (.int .i64 70000)))] false [(false, [.int .i64])]
(.lift (.br (.cm .eql (.var (.int .i64) 1) (.cst (.int .i64 0)))
 (.ret (.x (.cv .u32 (.var (.int .i64) 1))))
 (.lift (.br (.cm .eql (.var (.int .i64) 1) (.cst (.int .i64 1)))
  (.ret (.x (.ar .sub .u32 (.cst (.int .u32 4294967295)) (.cv .u32 (.ar .rem .i64 (.var (.int .i64) 2) (.cst (.int .i64 3)))))))
  (.lift (.br (.cm .eql (.var (.int .i64) 1) (.cst (.int .i64 2)))
   (.ret (.x (.ar .sub .u32 (.ar .add .u32 (.cst (.int .u32 65521)) (.cv .u32 (.ar .rem .i64 (.var (.int .i64) 2) (.cst (.int .i64 3))))) (.cst (.int .u32 1)))))
   (.ret (.x (.cv .u32 (.ar .add .i64 (.ar .mul .i64 (.var (.int .i64) 2) (.cst (.int .i64 65536))) (.var (.int .i64) 3))))))))))))))
set_option maxRecDepth 100000 in
theorem s_spec_l1Number : sxF c_spec_l1Number Try.f37 p_spec_l1Number = some t_spec_l1Number := by kernel_rfl
theorem e_spec_l1Number (xs : Array Value) (w : World) : (callFunc F_spec_l1Number xs).runT Try.prog w #[] = (.ok (.enter F_spec_l1Number xs) w, #[]) := ent_of Try.func37 (by kernel_rfl) (by kernel_rfl) xs w
theorem run_spec_l1Number {S : Shared} {h : Eng.Heap} {Q : Value → Eng.Heap → Prop} {vs : List Value} (hsh : shOk (resShs p_spec_l1Number) vs) (hi : Inv S h) (hw : t_spec_l1Number.wp Try.prog S noLeaf Q vs h []) : CallsH Try.prog S F_spec_l1Number (argVals p_spec_l1Number vs) h Q :=
  sxF_ok (cfg := c_spec_l1Number) tabL1Ok mixedL1 Try.func37 rfl s_spec_l1Number e_spec_l1Number rfl hsh hi hw
/- function 38 -/
def c_spec_l1Once : Cfg := ⟨tabL1, [], [], [.tmp 4]⟩
def p_spec_l1Once : List (Bool × List Sh) := [(false, [.ptr]), (false, [.int .i64])]
set_option maxRecDepth 100000 in
def t_spec_l1Once : Tr :=
(.call F_spec_l1Below [(.x (.var (.ptr) 0)), (.x (.var (.int .i64) 1))] false [(false, [.int .i64])]
(.ret (.x (.cm .eql (.var (.int .i64) 2) (.cst (.int .i64 0))))))
set_option maxRecDepth 100000 in
theorem s_spec_l1Once : sxF c_spec_l1Once Try.f38 p_spec_l1Once = some t_spec_l1Once := by kernel_rfl
theorem e_spec_l1Once (xs : Array Value) (w : World) : (callFunc F_spec_l1Once xs).runT Try.prog w #[] = (.ok (.enter F_spec_l1Once xs) w, #[]) := ent_of Try.func38 (by kernel_rfl) (by kernel_rfl) xs w
theorem run_spec_l1Once {S : Shared} {h : Eng.Heap} {Q : Value → Eng.Heap → Prop} {vs : List Value} (hsh : shOk (resShs p_spec_l1Once) vs) (hi : Inv S h) (hw : t_spec_l1Once.wp Try.prog S noLeaf Q vs h []) : CallsH Try.prog S F_spec_l1Once (argVals p_spec_l1Once vs) h Q :=
  sxF_ok (cfg := c_spec_l1Once) tabL1Ok mixedL1 Try.func38 rfl s_spec_l1Once e_spec_l1Once rfl hsh hi hw
/- function 39 -/
def c_spec_l1Some : Cfg := ⟨tabL1, [⟨3, [5, 6], [], [7, 9, 10, 11, 12, 13, 14, 15, 16, 17, 18, 19, 20]⟩], [], [.tmp 4]⟩
def p_spec_l1Some : List (Bool × List Sh) := [(false, [.ptr]), (false, [.int .i64])]
set_option maxRecDepth 100000 in
def t_spec_l1Some : Tr :=
(.hsl 5 0 []
(.loop [.slice, .int .i64] [(.var (.slice) 2), (.cst (.int .i64 0))]
 (.lift (.br (.cm .lss (.var (.int .i64) 4) (.var (.int .i64) 1))
  (.call F_spec_l1Byte [(.x (.var (.ptr) 0))] false [(false, [.int .i64])]
  (.hsl 5 1 [(.cv .u8 (.var (.int .i64) 5))]
  (.app 5 1 1 [(.int .u8 0)] (.var (.slice) 3) (.var (.slice) 6)
  (.cont 0 [(.var (.slice) 7), (.ar .add .i64 (.var (.int .i64) 4) (.cst (.int .i64 1)))]))))
  (.ret (.x (.var (.slice) 3)))))))
set_option maxRecDepth 100000 in
theorem s_spec_l1Some : sxF c_spec_l1Some Try.f39 p_spec_l1Some = some t_spec_l1Some := by kernel_rfl
theorem e_spec_l1Some (xs : Array Value) (w : World) : (callFunc F_spec_l1Some xs).runT Try.prog w #[] = (.ok (.enter F_spec_l1Some xs) w, #[]) := ent_of Try.func39 (by kernel_rfl) (by kernel_rfl) xs w
theorem run_spec_l1Some {S : Shared} {h : Eng.Heap} {Q : Value → Eng.Heap → Prop} {vs : List Value} (hsh : shOk (resShs p_spec_l1Some) vs) (hi : Inv S h) (hw : t_spec_l1Some.wp Try.prog S noLeaf Q vs h []) : CallsH Try.prog S F_spec_l1Some (argVals p_spec_l1Some vs) h Q :=
  sxF_ok (cfg := c_spec_l1Some) tabL1Ok mixedL1 Try.func39 rfl s_spec_l1Some e_spec_l1Some rfl hsh hi hw
/- function 40 -/
def c_spec_l1Below : Cfg := ⟨tabL1, [], [], [.tmp 4]⟩
def p_spec_l1Below : List (Bool × List Sh) := [(false, [.ptr]), (false, [.int .i64])]
set_option maxRecDepth 100000 in
def t_spec_l1Below : Tr :=
(.lift (.br (.cm .leq (.var (.int .i64) 1) (.cst (.int .i64 256)))
 (.call F_spec_l1Byte [(.x (.var (.ptr) 0))] false [(false, [.int .i64])]
 (.need (.cm .neq (.var (.int .i64) 1) (.cst (.int .i64 0)))
 (.ret (.x (.ar .rem .i64 (.var (.int .i64) 2) (.var (.int .i64) 1))))))
 (.call F_spec_l1Byte [(.x (.var (.ptr) 0))] false [(false, [.int .i64])]
 (.call F_spec_l1Byte [(.x (.var (.ptr) 0))] false [(false, [.int .i64])]
 (.call F_spec_l1Byte [(.x (.var (.ptr) 0))] false [(false, [.int .i64])]
 (.need (.cm .neq (.var (.int .i64) 1) (.cst (.int .i64 0)))
 (.ret (.x (.ar .rem .i64 (.ar .add .i64 (.ar .add .i64 (.ar .mul .i64 (.var (.int .i64) 2) (.cst (.int .i64 65536))) (.ar .mul .i64 (.var (.int .i64) 3) (.cst (.int .i64 256)))) (.var (.int .i64) 4)) (.var (.int .i64) 1))))))))))
set_option maxRecDepth 100000 in
theorem s_spec_l1Below : sxF c_spec_l1Below Try.f40 p_spec_l1Below = some t_spec_l1Below := by kernel_rfl
theorem e_spec_l1Below (xs : Array Value) (w : World) : (callFunc F_spec_l1Below xs).runT Try.prog w #[] = (.ok (.enter F_spec_l1Below xs) w, #[]) := ent_of Try.func40 (by kernel_rfl) (by kernel_rfl) xs w
theorem run_spec_l1Below {S : Shared} {h : Eng.Heap} {Q : Value → Eng.Heap → Prop} {vs : List Value} (hsh : shOk (resShs p_spec_l1Below) vs) (hi : Inv S h) (hw : t_spec_l1Below.wp Try.prog S noLeaf Q vs h []) : CallsH Try.prog S F_spec_l1Below (argVals p_spec_l1Below vs) h Q :=
  sxF_ok (cfg := c_spec_l1Below) tabL1Ok mixedL1 Try.func40 rfl s_spec_l1Below e_spec_l1Below rfl hsh hi hw
/- function 53 -/
def c_spec_l1Byte : Cfg := ⟨tabL1, [], [], [.tmp 2]⟩
def p_spec_l1Byte : List (Bool × List Sh) := [(false, [.ptr])]
set_option maxRecDepth 100000 in
def t_spec_l1Byte : Tr :=
(.need (.nt (.nn (.var (.ptr) 0)))
(.load (.fld (.nz (.var (.ptr) 0)) 2) [.int .i64]
(.need (.nt (.nn (.var (.ptr) 0)))
(.hsto (.fld (.nz (.var (.ptr) 0)) 2) [(.ar .add .i64 (.ar .mul .i64 (.var (.int .i64) 1) (.cst (.int .i64 6364136223846793005))) (.cst (.int .i64 1442695040888963407)))]
(.need (.nt (.nn (.var (.ptr) 0)))
(.load (.fld (.nz (.var (.ptr) 0)) 2) [.int .i64]
(.need (.nt (.nn (.var (.ptr) 0)))
(.load (.fld (.nz (.var (.ptr) 0)) 2) [.int .i64]
(.need (.nt (.nn (.var (.ptr) 0)))
(.load (.fld (.nz (.var (.ptr) 0)) 1) [.int .i64]
(.need (.nt (.nn (.var (.ptr) 0)))
(.load (.fld (.nz (.var (.ptr) 0)) 0) [.slice]
(.join [.int .i64]
 (.br (.cm .lss (.var (.int .i64) 4) (.ln (.var (.slice) 5)))
  (.need (.nt (.nn (.var (.ptr) 0)))
  (.load (.fld (.nz (.var (.ptr) 0)) 0) [.slice]
  (.need (.nt (.nn (.var (.ptr) 0)))
  (.load (.fld (.nz (.var (.ptr) 0)) 1) [.int .i64]
  (.need (.nt (.nn (.var (.slice) 6)))
  (.need (.cm .leq (.cst (.int .i64 0)) (.var (.int .i64) 7))
  (.need (.cm .lss (.var (.int .i64) 7) (.ln (.var (.slice) 6)))
  (.load (.ix 1 (.var (.slice) 6) (.var (.int .i64) 7)) [.int .u8]
  (.need (.nt (.nn (.var (.ptr) 0)))
  (.load (.fld (.nz (.var (.ptr) 0)) 1) [.int .i64]
  (.need (.nt (.nn (.var (.ptr) 0)))
  (.hsto (.fld (.nz (.var (.ptr) 0)) 1) [(.ar .add .i64 (.var (.int .i64) 9) (.cst (.int .i64 1)))]
  (.cont 0 [(.ar .and .i64 (.ar .add .i64 (.ar .and .i64 (.ar .xor .i64 (.ar .shr .i64 (.var (.int .i64) 2) (.cst (.int .u64 33))) (.ar .shr .i64 (.var (.int .i64) 3) (.cst (.int .u64 45)))) (.cst (.int .i64 255))) (.cv .i64 (.var (.int .u8) 8))) (.cst (.int .i64 255)))])))))))))))))
  (.cont 0 [(.ar .and .i64 (.ar .xor .i64 (.ar .shr .i64 (.var (.int .i64) 2) (.cst (.int .u64 33))) (.ar .shr .i64 (.var (.int .i64) 3) (.cst (.int .u64 45)))) (.cst (.int .i64 255)))]))
 (.ret (.x (.var (.int .i64) 6))))))))))))))))
set_option maxRecDepth 100000 in
theorem s_spec_l1Byte : sxF c_spec_l1Byte Try.f53 p_spec_l1Byte = some t_spec_l1Byte := by kernel_rfl
theorem e_spec_l1Byte (xs : Array Value) (w : World) : (callFunc F_spec_l1Byte xs).runT Try.prog w #[] = (.ok (.enter F_spec_l1Byte xs) w, #[]) := ent_of Try.func53 (by kernel_rfl) (by kernel_rfl) xs w
theorem run_spec_l1Byte {S : Shared} {h : Eng.Heap} {Q : Value → Eng.Heap → Prop} {vs : List Value} (hsh : shOk (resShs p_spec_l1Byte) vs) (hi : Inv S h) (hw : t_spec_l1Byte.wp Try.prog S noLeaf Q vs h []) : CallsH Try.prog S F_spec_l1Byte (argVals p_spec_l1Byte vs) h Q :=
  sxF_ok (cfg := c_spec_l1Byte) tabL1Ok mixedL1 Try.func53 rfl s_spec_l1Byte e_spec_l1Byte rfl hsh hi hw
end Go.Proofs.Ytmnialmphlbmaaa
