-- printed by a generator of my own (wip/eng/Gen) from the translation
import Derived.Test.YteaonnfokkfnlaaDoorEng2
import Derived.Test.YteaonnfokkfnlaaDoorChecked
import Derived.Test.YteaonnfokkfnlaaDoorNums
set_option linter.unusedVariables false
set_option linter.unusedSimpArgs false
namespace Go.Proofs.YteaonnfokkfnlaaDoor
open Go Go.Eng
def tabIM : List (TypeId × TyD) := [(0, ⟨.oth, 1, 0, [], none, some []⟩),
  (2, ⟨(.int .i64), 1, 8, [.int .i64], some [(1, (.int .i64 0))], none⟩),
  (3, ⟨(.int .i64), 1, 8, [.int .i64], some [(1, (.int .i64 0))], none⟩),
  (4, ⟨.bool, 1, 1, [.bool], some [(1, (.bool false))], none⟩),
  (5, ⟨(.int .u8), 1, 1, [.int .u8], some [(1, (.int .u8 0))], none⟩),
  (22, ⟨(.sl 5), 1, 24, [.slice], some [(1, .nilSl)], none⟩),
  (30, ⟨(.sl 2), 1, 24, [.slice], some [(1, .nilSl)], none⟩),
  (34, ⟨(.st [(0, 2), (1, 22), (2, 2)]), 3, 40, [.int .i64, .slice, .int .i64], some [(1, (.int .i64 0)), (1, .nilSl), (1, (.int .i64 0))], none⟩),
  (44, ⟨(.ptr 49), 1, 8, [.ptr], some [(1, .nilPtr)], none⟩),
  (45, ⟨(.ptr 66), 1, 8, [.ptr], some [(1, .nilPtr)], none⟩),
  (47, ⟨(.ptr 101), 1, 8, [.ptr], some [(1, .nilPtr)], none⟩),
  (49, ⟨(.st [(0, 22), (1, 2), (2, 45), (3, 22), (4, 3), (5, 4), (6, 47), (7, 47)]), 8, 96, [.slice, .int .i64, .ptr, .slice, .int .i64, .bool, .ptr, .ptr], some [(1, .nilSl), (1, (.int .i64 0)), (1, .nilPtr), (1, .nilSl), (1, (.int .i64 0)), (1, (.bool false)), (2, .nilPtr)], none⟩),
  (51, ⟨.ifc, 1, 16, [.iface], some [(1, .nilIf)], none⟩),
  (53, ⟨.fnk, 1, 8, [.fnv], some [(1, .nilFn)], none⟩),
  (60, ⟨.oth, 1, 0, [], none, some [30, 30]⟩),
  (64, ⟨(.arr 32768 5), 32768, 32768, [], some [(32768, (.int .u8 0))], none⟩),
  (66, ⟨(.st [(0, 3), (1, 64), (32769, 3), (32770, 3)]), 32771, 32792, [], some [(1, (.int .i64 0)), (32768, (.int .u8 0)), (2, (.int .i64 0))], none⟩),
  (68, ⟨.fnk, 1, 8, [.fnv], some [(1, .nilFn)], none⟩),
  (69, ⟨.oth, 1, 0, [], none, some [68, 51]⟩),
  (70, ⟨.oth, 1, 0, [], none, some [2, 51]⟩),
  (73, ⟨(.st [(0, 2)]), 1, 8, [.int .i64], some [(1, (.int .i64 0))], none⟩),
  (84, ⟨.oth, 1, 0, [], none, some [30, 30, 51]⟩),
  (105, ⟨.oth, 1, 0, [], none, some [2, 2]⟩)]
set_option maxRecDepth 100000 in
theorem tabIMOk : TabOk Tryd.prog tabIM := tabOk_of (by kernel_rfl)
theorem mixedIM : Tryd.prog.follows .mixedOrders = true := by kernel_rfl
/- function 9 -/
def c_impl_Inflate : Cfg := ⟨tabIM, [], [25], [.cell 6 34]⟩
def p_impl_Inflate : List (Bool × List Sh) := [(false, [.slice]), (false, [.int .i64]), (false, [.slice])]
set_option maxRecDepth 100000 in
def t_impl_Inflate : Tr :=
(.lift (.br (.cm .gtr (.ln (.var (.slice) 0)) (.cst (.int .i64 65536)))
 (.ret (.agg [(.cst (.int .i64 7)), (.cst .nilSl), (.cst (.int .i64 0))]))
 (.lift (.br (.it (.cm .lss (.var (.int .i64) 1) (.cst (.int .i64 1))) (.cst (.bool true)) (.cm .gtr (.var (.int .i64) 1) (.cst (.int .i64 32768))))
  (.ret (.agg [(.cst (.int .i64 3)), (.cst .nilSl), (.cst (.int .i64 0))]))
  (.call F_impl_ringOf [(.x (.var (.int .i64) 1)), (.x (.var (.slice) 2))] false [(false, [.ptr])]
  (.hall 49 [(1, (.var (.slice) 0)), (1, (.cst (.int .i64 0))), (1, (.var (.ptr) 3)), (1, (.cst .nilSl)), (1, (.cst (.int .i64 100000))), (1, (.cst (.bool false))), (2, (.cst .nilPtr))]
  (.call F_impl_machine__run [(.x (.var (.addr) 4)), (.x (.fn 18 (.cs (.var (.addr) 4) .nl) .nl))] false [(false, [.iface])]
  (.lift (.br (.nt (.nn (.var (.iface) 5)))
   (.load (.fld (.var (.addr) 4) 3) [.slice]
   (.call F_impl_classOf [(.x (.var (.iface) 5))] false [(false, [.int .i64])]
   (.still [((.fld (.var (.addr) 4) 3), (.var (.slice) 6))]
   (.ret (.agg [(.var (.int .i64) 7), (.var (.slice) 6), (.cst (.int .i64 0))])))))
   (.load (.fld (.var (.addr) 4) 3) [.slice]
   (.load (.fld (.var (.addr) 4) 1) [.int .i64]
   (.ret (.agg [(.cst (.int .i64 1)), (.var (.slice) 6), (.var (.int .i64) 7)])))))))))))))
set_option maxRecDepth 100000 in
theorem s_impl_Inflate : sxF c_impl_Inflate Tryd.f9 p_impl_Inflate = some t_impl_Inflate := by kernel_rfl
theorem e_impl_Inflate (xs : Array Value) (w : World) : (callFunc F_impl_Inflate xs).runT Tryd.prog w #[] = (.ok (.enter F_impl_Inflate xs) w, #[]) := ent_of Tryd.func9 (by kernel_rfl) (by kernel_rfl) xs w
theorem run_impl_Inflate {S : Shared} {h : Eng.Heap} {Q : Value → Eng.Heap → Prop} {vs : List Value} (hsh : shOk (resShs p_impl_Inflate) vs) (hi : Inv S h) (hw : t_impl_Inflate.wp Tryd.prog S noLeaf Q vs h []) : CallsH Tryd.prog S F_impl_Inflate (argVals p_impl_Inflate vs) h Q :=
  sxF_ok (cfg := c_impl_Inflate) tabIMOk mixedIM Tryd.func9 rfl s_impl_Inflate e_impl_Inflate rfl hsh hi hw
/- function 17 -/
def c_impl_machine__run : Cfg := ⟨tabIM, [⟨1, [1], [], [5, 6, 7, 8, 9, 10, 11, 12, 13, 14, 15, 16, 17]⟩], [], [.tmp 4]⟩
def p_impl_machine__run : List (Bool × List Sh) := [(false, [.ptr]), (false, [.fnv])]
set_option maxRecDepth 100000 in
def t_impl_machine__run : Tr :=
(.loop [.fnv] [(.var (.fnv) 1)]
 (.lift (.br (.nt (.nn (.var (.fnv) 2)))
  (.callv (.var (.fnv) 2) [] true [(false, [.fnv]), (false, [.iface])]
  (.lift (.br (.nt (.nn (.var (.iface) 4)))
   (.ret (.x (.var (.iface) 4)))
   (.cont 0 [(.var (.fnv) 3)]))))
  (.ret (.x (.cst .nilIf))))))
set_option maxRecDepth 100000 in
theorem s_impl_machine__run : sxF c_impl_machine__run Tryd.f17 p_impl_machine__run = some t_impl_machine__run := by kernel_rfl
theorem e_impl_machine__run (xs : Array Value) (w : World) : (callFunc F_impl_machine__run xs).runT Tryd.prog w #[] = (.ok (.enter F_impl_machine__run xs) w, #[]) := ent_of Tryd.func17 (by kernel_rfl) (by kernel_rfl) xs w
theorem run_impl_machine__run {S : Shared} {h : Eng.Heap} {Q : Value → Eng.Heap → Prop} {vs : List Value} (hsh : shOk (resShs p_impl_machine__run) vs) (hi : Inv S h) (hw : t_impl_machine__run.wp Tryd.prog S noLeaf Q vs h []) : CallsH Tryd.prog S F_impl_machine__run (argVals p_impl_machine__run vs) h Q :=
  sxF_ok (cfg := c_impl_machine__run) tabIMOk mixedIM Tryd.func17 rfl s_impl_machine__run e_impl_machine__run rfl hsh hi hw
/- function 18 -/
def c_impl_machine__block : Cfg := ⟨tabIM, [], [], [.tmp 2, .tmp 3]⟩
def p_impl_machine__block : List (Bool × List Sh) := [(false, [.ptr])]
set_option maxRecDepth 100000 in
def t_impl_machine__block : Tr :=
(.call F_impl_machine__number [(.x (.var (.ptr) 0)), (.x (.cst (.int .i64 1)))] true [(false, [.int .i64]), (false, [.iface])]
(.lift (.br (.nt (.nn (.var (.iface) 2)))
 (.ret (.tup [(false, [(.cst .nilFn)]), (false, [(.var (.iface) 2)])]))
 (.need (.nt (.nn (.var (.ptr) 0)))
 (.hsto (.fld (.nz (.var (.ptr) 0)) 5) [(.cm .eql (.var (.int .i64) 1) (.cst (.int .i64 1)))]
 (.call F_impl_machine__number [(.x (.var (.ptr) 0)), (.x (.cst (.int .i64 2)))] true [(false, [.int .i64]), (false, [.iface])]
 (.lift (.br (.nt (.nn (.var (.iface) 4)))
  (.ret (.tup [(false, [(.cst .nilFn)]), (false, [(.var (.iface) 4)])]))
  (.lift (.br (.cm .eql (.var (.int .i64) 3) (.cst (.int .i64 0)))
   (.ret (.tup [(false, [(.fn 30 (.cs (.var (.ptr) 0) .nl) .nl)]), (false, [(.cst .nilIf)])]))
   (.lift (.br (.cm .eql (.var (.int .i64) 3) (.cst (.int .i64 1)))
    (.ret (.tup [(false, [(.fn 31 (.cs (.var (.ptr) 0) .nl) .nl)]), (false, [(.cst .nilIf)])]))
    (.lift (.br (.cm .eql (.var (.int .i64) 3) (.cst (.int .i64 2)))
     (.ret (.tup [(false, [(.fn 32 (.cs (.var (.ptr) 0) .nl) .nl)]), (false, [(.cst .nilIf)])]))
     (.load (.glob 0) [.int .i64]
     (.ret (.tup [(false, [(.cst .nilFn)]), (false, [(.ifc 73 (.ag (.cs (.var (.int .i64) 5) .nl)))])])))))))))))))))))
set_option maxRecDepth 100000 in
theorem s_impl_machine__block : sxF c_impl_machine__block Tryd.f18 p_impl_machine__block = some t_impl_machine__block := by kernel_rfl
theorem e_impl_machine__block (xs : Array Value) (w : World) : (callFunc F_impl_machine__block xs).runT Tryd.prog w #[] = (.ok (.enter F_impl_machine__block xs) w, #[]) := ent_of Tryd.func18 (by kernel_rfl) (by kernel_rfl) xs w
theorem run_impl_machine__block {S : Shared} {h : Eng.Heap} {Q : Value → Eng.Heap → Prop} {vs : List Value} (hsh : shOk (resShs p_impl_machine__block) vs) (hi : Inv S h) (hw : t_impl_machine__block.wp Tryd.prog S noLeaf Q vs h []) : CallsH Tryd.prog S F_impl_machine__block (argVals p_impl_machine__block vs) h Q :=
  sxF_ok (cfg := c_impl_machine__block) tabIMOk mixedIM Tryd.func18 rfl s_impl_machine__block e_impl_machine__block rfl hsh hi hw
/- function 30 -/
def c_impl_machine__stored : Cfg := ⟨tabIM, [⟨11, [35], [], [7, 8, 9, 36, 37, 38, 39, 40, 41, 42, 43, 44, 45, 46, 47, 48, 49, 50, 51, 52, 53]⟩], [], [.tmp 2, .tmp 3]⟩
def p_impl_machine__stored : List (Bool × List Sh) := [(false, [.ptr])]
set_option maxRecDepth 100000 in
def t_impl_machine__stored : Tr :=
(.call F_impl_machine__align [(.x (.var (.ptr) 0))] true []
(.call F_impl_machine__number [(.x (.var (.ptr) 0)), (.x (.cst (.int .i64 16)))] true [(false, [.int .i64]), (false, [.iface])]
(.lift (.br (.nt (.nn (.var (.iface) 2)))
 (.ret (.tup [(false, [(.cst .nilFn)]), (false, [(.var (.iface) 2)])]))
 (.call F_impl_machine__number [(.x (.var (.ptr) 0)), (.x (.cst (.int .i64 16)))] true [(false, [.int .i64]), (false, [.iface])]
 (.lift (.br (.nt (.nn (.var (.iface) 4)))
  (.ret (.tup [(false, [(.cst .nilFn)]), (false, [(.var (.iface) 4)])]))
  (.lift (.br (.cm .neq (.var (.int .i64) 3) (.ar .sub .i64 (.cst (.int .i64 65535)) (.var (.int .i64) 1)))
   (.load (.glob 0) [.int .i64]
   (.ret (.tup [(false, [(.cst .nilFn)]), (false, [(.ifc 73 (.ag (.cs (.var (.int .i64) 5) .nl)))])])))
   (.loop [.int .i64] [(.cst (.int .i64 0))]
    (.lift (.br (.cm .lss (.var (.int .i64) 5) (.var (.int .i64) 1))
     (.call F_impl_machine__number [(.x (.var (.ptr) 0)), (.x (.cst (.int .i64 8)))] true [(false, [.int .i64]), (false, [.iface])]
     (.lift (.br (.nt (.nn (.var (.iface) 7)))
      (.ret (.tup [(false, [(.cst .nilFn)]), (false, [(.var (.iface) 7)])]))
      (.hsl 5 1 [(.cv .u8 (.var (.int .i64) 6))]
      (.call F_impl_machine__tell [(.x (.var (.ptr) 0)), (.x (.var (.slice) 8))] false [(false, [.iface])]
      (.lift (.br (.nt (.nn (.var (.iface) 9)))
       (.ret (.tup [(false, [(.cst .nilFn)]), (false, [(.var (.iface) 9)])]))
       (.cont 3 [(.ar .add .i64 (.var (.int .i64) 5) (.cst (.int .i64 1)))]))))))))
     (.ret (.tup [(false, [(.fn 41 (.cs (.var (.ptr) 0) .nl) .nl)]), (false, [(.cst .nilIf)])]))))))))))))))
set_option maxRecDepth 100000 in
theorem s_impl_machine__stored : sxF c_impl_machine__stored Tryd.f30 p_impl_machine__stored = some t_impl_machine__stored := by kernel_rfl
theorem e_impl_machine__stored (xs : Array Value) (w : World) : (callFunc F_impl_machine__stored xs).runT Tryd.prog w #[] = (.ok (.enter F_impl_machine__stored xs) w, #[]) := ent_of Tryd.func30 (by kernel_rfl) (by kernel_rfl) xs w
theorem run_impl_machine__stored {S : Shared} {h : Eng.Heap} {Q : Value → Eng.Heap → Prop} {vs : List Value} (hsh : shOk (resShs p_impl_machine__stored) vs) (hi : Inv S h) (hw : t_impl_machine__stored.wp Tryd.prog S noLeaf Q vs h []) : CallsH Tryd.prog S F_impl_machine__stored (argVals p_impl_machine__stored vs) h Q :=
  sxF_ok (cfg := c_impl_machine__stored) tabIMOk mixedIM Tryd.func30 rfl s_impl_machine__stored e_impl_machine__stored rfl hsh hi hw
/- function 31 -/
def c_impl_machine__fixed : Cfg := ⟨tabIM, [], [], [.tmp 2, .tmp 3]⟩
def p_impl_machine__fixed : List (Bool × List Sh) := [(false, [.ptr])]
set_option maxRecDepth 100000 in
def t_impl_machine__fixed : Tr :=
(.call F_impl_fixedLens [] true [(false, [.slice]), (false, [.slice])]
(.call F_impl_tableOf [(.x (.var (.slice) 1))] false [(false, [.ptr])]
(.call F_impl_tableOf [(.x (.var (.slice) 2))] false [(false, [.ptr])]
(.need (.nt (.nn (.var (.ptr) 0)))
(.hsto (.fld (.nz (.var (.ptr) 0)) 6) [(.var (.ptr) 3)]
(.need (.nt (.nn (.var (.ptr) 0)))
(.hsto (.fld (.nz (.var (.ptr) 0)) 7) [(.var (.ptr) 4)]
(.ret (.tup [(false, [(.fn 43 (.cs (.var (.ptr) 0) .nl) .nl)]), (false, [(.cst .nilIf)])])))))))))
set_option maxRecDepth 100000 in
theorem s_impl_machine__fixed : sxF c_impl_machine__fixed Tryd.f31 p_impl_machine__fixed = some t_impl_machine__fixed := by kernel_rfl
theorem e_impl_machine__fixed (xs : Array Value) (w : World) : (callFunc F_impl_machine__fixed xs).runT Tryd.prog w #[] = (.ok (.enter F_impl_machine__fixed xs) w, #[]) := ent_of Tryd.func31 (by kernel_rfl) (by kernel_rfl) xs w
theorem run_impl_machine__fixed {S : Shared} {h : Eng.Heap} {Q : Value → Eng.Heap → Prop} {vs : List Value} (hsh : shOk (resShs p_impl_machine__fixed) vs) (hi : Inv S h) (hw : t_impl_machine__fixed.wp Tryd.prog S noLeaf Q vs h []) : CallsH Tryd.prog S F_impl_machine__fixed (argVals p_impl_machine__fixed vs) h Q :=
  sxF_ok (cfg := c_impl_machine__fixed) tabIMOk mixedIM Tryd.func31 rfl s_impl_machine__fixed e_impl_machine__fixed rfl hsh hi hw
/- function 32 -/
def c_impl_machine__dynamic : Cfg := ⟨tabIM, [], [], [.tmp 2, .tmp 3]⟩
def p_impl_machine__dynamic : List (Bool × List Sh) := [(false, [.ptr])]
set_option maxRecDepth 100000 in
def t_impl_machine__dynamic : Tr :=
(.call F_impl_machine__lens [(.x (.var (.ptr) 0))] true [(false, [.slice]), (false, [.slice]), (false, [.iface])]
(.lift (.br (.nt (.nn (.var (.iface) 3)))
 (.ret (.tup [(false, [(.cst .nilFn)]), (false, [(.var (.iface) 3)])]))
 (.call F_impl_tableOf [(.x (.var (.slice) 1))] false [(false, [.ptr])]
 (.call F_impl_tableOf [(.x (.var (.slice) 2))] false [(false, [.ptr])]
 (.need (.nt (.nn (.var (.ptr) 0)))
 (.hsto (.fld (.nz (.var (.ptr) 0)) 6) [(.var (.ptr) 4)]
 (.need (.nt (.nn (.var (.ptr) 0)))
 (.hsto (.fld (.nz (.var (.ptr) 0)) 7) [(.var (.ptr) 5)]
 (.ret (.tup [(false, [(.fn 43 (.cs (.var (.ptr) 0) .nl) .nl)]), (false, [(.cst .nilIf)])])))))))))))
set_option maxRecDepth 100000 in
theorem s_impl_machine__dynamic : sxF c_impl_machine__dynamic Tryd.f32 p_impl_machine__dynamic = some t_impl_machine__dynamic := by kernel_rfl
theorem e_impl_machine__dynamic (xs : Array Value) (w : World) : (callFunc F_impl_machine__dynamic xs).runT Tryd.prog w #[] = (.ok (.enter F_impl_machine__dynamic xs) w, #[]) := ent_of Tryd.func32 (by kernel_rfl) (by kernel_rfl) xs w
theorem run_impl_machine__dynamic {S : Shared} {h : Eng.Heap} {Q : Value → Eng.Heap → Prop} {vs : List Value} (hsh : shOk (resShs p_impl_machine__dynamic) vs) (hi : Inv S h) (hw : t_impl_machine__dynamic.wp Tryd.prog S noLeaf Q vs h []) : CallsH Tryd.prog S F_impl_machine__dynamic (argVals p_impl_machine__dynamic vs) h Q :=
  sxF_ok (cfg := c_impl_machine__dynamic) tabIMOk mixedIM Tryd.func32 rfl s_impl_machine__dynamic e_impl_machine__dynamic rfl hsh hi hw
/- function 40 -/
def c_impl_machine__tell : Cfg := ⟨tabIM, [], [], [.tmp 4]⟩
def p_impl_machine__tell : List (Bool × List Sh) := [(false, [.ptr]), (false, [.slice])]
set_option maxRecDepth 100000 in
def t_impl_machine__tell : Tr :=
(.need (.nt (.nn (.var (.ptr) 0)))
(.load (.fld (.nz (.var (.ptr) 0)) 4) [.int .i64]
(.lift (.br (.cm .gtr (.ln (.var (.slice) 1)) (.var (.int .i64) 2))
 (.load (.glob 3) [.int .i64]
 (.ret (.x (.ifc 73 (.ag (.cs (.var (.int .i64) 3) .nl))))))
 (.need (.nt (.nn (.var (.ptr) 0)))
 (.load (.fld (.nz (.var (.ptr) 0)) 4) [.int .i64]
 (.need (.nt (.nn (.var (.ptr) 0)))
 (.hsto (.fld (.nz (.var (.ptr) 0)) 4) [(.ar .sub .i64 (.var (.int .i64) 3) (.ln (.var (.slice) 1)))]
 (.need (.nt (.nn (.var (.ptr) 0)))
 (.load (.fld (.nz (.var (.ptr) 0)) 3) [.slice]
 (.app 5 1 1 [(.int .u8 0)] (.var (.slice) 4) (.var (.slice) 1)
 (.need (.nt (.nn (.var (.ptr) 0)))
 (.hsto (.fld (.nz (.var (.ptr) 0)) 3) [(.var (.slice) 5)]
 (.need (.nt (.nn (.var (.ptr) 0)))
 (.load (.fld (.nz (.var (.ptr) 0)) 2) [.ptr]
 (.call F_impl_ring__put [(.x (.var (.ptr) 6)), (.x (.var (.slice) 1))] true []
 (.ret (.x (.cst .nilIf)))))))))))))))))))
set_option maxRecDepth 100000 in
theorem s_impl_machine__tell : sxF c_impl_machine__tell Tryd.f40 p_impl_machine__tell = some t_impl_machine__tell := by kernel_rfl
theorem e_impl_machine__tell (xs : Array Value) (w : World) : (callFunc F_impl_machine__tell xs).runT Tryd.prog w #[] = (.ok (.enter F_impl_machine__tell xs) w, #[]) := ent_of Tryd.func40 (by kernel_rfl) (by kernel_rfl) xs w
theorem run_impl_machine__tell {S : Shared} {h : Eng.Heap} {Q : Value → Eng.Heap → Prop} {vs : List Value} (hsh : shOk (resShs p_impl_machine__tell) vs) (hi : Inv S h) (hw : t_impl_machine__tell.wp Tryd.prog S noLeaf Q vs h []) : CallsH Tryd.prog S F_impl_machine__tell (argVals p_impl_machine__tell vs) h Q :=
  sxF_ok (cfg := c_impl_machine__tell) tabIMOk mixedIM Tryd.func40 rfl s_impl_machine__tell e_impl_machine__tell rfl hsh hi hw
/- function 41 -/
def c_impl_machine__behind : Cfg := ⟨tabIM, [], [], [.tmp 2, .tmp 3]⟩
def p_impl_machine__behind : List (Bool × List Sh) := [(false, [.ptr])]
set_option maxRecDepth 100000 in
def t_impl_machine__behind : Tr :=
(.need (.nt (.nn (.var (.ptr) 0)))
(.load (.fld (.nz (.var (.ptr) 0)) 5) [.bool]
(.lift (.br (.var (.bool) 1)
 (.ret (.tup [(false, [(.cst .nilFn)]), (false, [(.cst .nilIf)])]))
 (.ret (.tup [(false, [(.fn 18 (.cs (.var (.ptr) 0) .nl) .nl)]), (false, [(.cst .nilIf)])]))))))
set_option maxRecDepth 100000 in
theorem s_impl_machine__behind : sxF c_impl_machine__behind Tryd.f41 p_impl_machine__behind = some t_impl_machine__behind := by kernel_rfl
theorem e_impl_machine__behind (xs : Array Value) (w : World) : (callFunc F_impl_machine__behind xs).runT Tryd.prog w #[] = (.ok (.enter F_impl_machine__behind xs) w, #[]) := ent_of Tryd.func41 (by kernel_rfl) (by kernel_rfl) xs w
theorem run_impl_machine__behind {S : Shared} {h : Eng.Heap} {Q : Value → Eng.Heap → Prop} {vs : List Value} (hsh : shOk (resShs p_impl_machine__behind) vs) (hi : Inv S h) (hw : t_impl_machine__behind.wp Tryd.prog S noLeaf Q vs h []) : CallsH Tryd.prog S F_impl_machine__behind (argVals p_impl_machine__behind vs) h Q :=
  sxF_ok (cfg := c_impl_machine__behind) tabIMOk mixedIM Tryd.func41 rfl s_impl_machine__behind e_impl_machine__behind rfl hsh hi hw
/- function 43 -/
def c_impl_machine__symbols : Cfg := ⟨tabIM, [], [], [.tmp 2, .tmp 3]⟩
def p_impl_machine__symbols : List (Bool × List Sh) := [(false, [.ptr])]
set_option maxRecDepth 100000 in
def t_impl_machine__symbols : Tr :=
(.need (.nt (.nn (.var (.ptr) 0)))
(.load (.fld (.nz (.var (.ptr) 0)) 6) [.ptr]
(.call F_impl_machine__symbol [(.x (.var (.ptr) 0)), (.x (.var (.ptr) 1))] true [(false, [.int .i64]), (false, [.iface])]
(.lift (.br (.nt (.nn (.var (.iface) 3)))
 (.ret (.tup [(false, [(.cst .nilFn)]), (false, [(.var (.iface) 3)])]))
 (.lift (.br (.cm .lss (.var (.int .i64) 2) (.cst (.int .i64 256)))
  (.hsl 5 1 [(.cv .u8 (.var (.int .i64) 2))]
  (.call F_impl_machine__tell [(.x (.var (.ptr) 0)), (.x (.var (.slice) 4))] false [(false, [.iface])]
  (.ret (.tup [(false, [(.fn 43 (.cs (.var (.ptr) 0) .nl) .nl)]), (false, [(.var (.iface) 5)])]))))
  (.lift (.br (.cm .eql (.var (.int .i64) 2) (.cst (.int .i64 256)))
   (.ret (.tup [(false, [(.fn 41 (.cs (.var (.ptr) 0) .nl) .nl)]), (false, [(.cst .nilIf)])]))
   (.lift (.br (.cm .gtr (.var (.int .i64) 2) (.cst (.int .i64 285)))
    (.load (.glob 0) [.int .i64]
    (.ret (.tup [(false, [(.cst .nilFn)]), (false, [(.ifc 73 (.ag (.cs (.var (.int .i64) 4) .nl)))])])))
    (.call F_impl_lengthOf [(.x (.var (.int .i64) 2))] true [(false, [.int .i64]), (false, [.int .i64])]
    (.call F_impl_machine__number [(.x (.var (.ptr) 0)), (.x (.var (.int .i64) 5))] true [(false, [.int .i64]), (false, [.iface])]
    (.lift (.br (.nt (.nn (.var (.iface) 7)))
     (.ret (.tup [(false, [(.cst .nilFn)]), (false, [(.var (.iface) 7)])]))
     (.need (.nt (.nn (.var (.ptr) 0)))
     (.load (.fld (.nz (.var (.ptr) 0)) 7) [.ptr]
     (.call F_impl_machine__symbol [(.x (.var (.ptr) 0)), (.x (.var (.ptr) 8))] true [(false, [.int .i64]), (false, [.iface])]
     (.lift (.br (.nt (.nn (.var (.iface) 10)))
      (.ret (.tup [(false, [(.cst .nilFn)]), (false, [(.var (.iface) 10)])]))
      (.lift (.br (.cm .gtr (.var (.int .i64) 9) (.cst (.int .i64 29)))
       (.load (.glob 0) [.int .i64]
       (.ret (.tup [(false, [(.cst .nilFn)]), (false, [(.ifc 73 (.ag (.cs (.var (.int .i64) 11) .nl)))])])))
       (.call F_impl_distOf [(.x (.var (.int .i64) 9))] true [(false, [.int .i64]), (false, [.int .i64])]
       (.call F_impl_machine__number [(.x (.var (.ptr) 0)), (.x (.var (.int .i64) 12))] true [(false, [.int .i64]), (false, [.iface])]
       (.lift (.br (.nt (.nn (.var (.iface) 14)))
        (.ret (.tup [(false, [(.cst .nilFn)]), (false, [(.var (.iface) 14)])]))
        (.need (.nt (.nn (.var (.ptr) 0)))
        (.load (.fld (.nz (.var (.ptr) 0)) 2) [.ptr]
        (.need (.nt (.nn (.var (.ptr) 15)))
        (.load (.fld (.nz (.var (.ptr) 15)) 32770) [.int .i64]
        (.lift (.br (.cm .gtr (.ar .add .i64 (.var (.int .i64) 11) (.var (.int .i64) 13)) (.var (.int .i64) 16))
         (.load (.glob 0) [.int .i64]
         (.ret (.tup [(false, [(.cst .nilFn)]), (false, [(.ifc 73 (.ag (.cs (.var (.int .i64) 17) .nl)))])])))
         (.need (.nt (.nn (.var (.ptr) 0)))
         (.load (.fld (.nz (.var (.ptr) 0)) 4) [.int .i64]
         (.lift (.br (.cm .gtr (.ar .add .i64 (.var (.int .i64) 4) (.var (.int .i64) 6)) (.var (.int .i64) 17))
          (.load (.glob 3) [.int .i64]
          (.ret (.tup [(false, [(.cst .nilFn)]), (false, [(.ifc 73 (.ag (.cs (.var (.int .i64) 18) .nl)))])])))
          (.need (.nt (.nn (.var (.ptr) 0)))
          (.load (.fld (.nz (.var (.ptr) 0)) 4) [.int .i64]
          (.need (.nt (.nn (.var (.ptr) 0)))
          (.hsto (.fld (.nz (.var (.ptr) 0)) 4) [(.ar .sub .i64 (.var (.int .i64) 18) (.ar .add .i64 (.var (.int .i64) 4) (.var (.int .i64) 6)))]
          (.need (.nt (.nn (.var (.ptr) 0)))
          (.load (.fld (.nz (.var (.ptr) 0)) 3) [.slice]
          (.need (.nt (.nn (.var (.ptr) 0)))
          (.load (.fld (.nz (.var (.ptr) 0)) 2) [.ptr]
          (.call F_impl_ring__repeat [(.x (.var (.ptr) 20)), (.x (.ar .add .i64 (.var (.int .i64) 11) (.var (.int .i64) 13))), (.x (.ar .add .i64 (.var (.int .i64) 4) (.var (.int .i64) 6)))] false [(false, [.slice])]
          (.still [((.fld (.nz (.var (.ptr) 0)) 3), (.var (.slice) 19))]
          (.app 5 1 1 [(.int .u8 0)] (.var (.slice) 19) (.var (.slice) 21)
          (.need (.nt (.nn (.var (.ptr) 0)))
          (.hsto (.fld (.nz (.var (.ptr) 0)) 3) [(.var (.slice) 22)]
          (.ret (.tup [(false, [(.fn 43 (.cs (.var (.ptr) 0) .nl) .nl)]), (false, [(.cst .nilIf)])])))))))))))))))))))))))))))))))))))))))))))))))))))
set_option maxRecDepth 100000 in
theorem s_impl_machine__symbols : sxF c_impl_machine__symbols Tryd.f43 p_impl_machine__symbols = some t_impl_machine__symbols := by kernel_rfl
theorem e_impl_machine__symbols (xs : Array Value) (w : World) : (callFunc F_impl_machine__symbols xs).runT Tryd.prog w #[] = (.ok (.enter F_impl_machine__symbols xs) w, #[]) := ent_of Tryd.func43 (by kernel_rfl) (by kernel_rfl) xs w
theorem run_impl_machine__symbols {S : Shared} {h : Eng.Heap} {Q : Value → Eng.Heap → Prop} {vs : List Value} (hsh : shOk (resShs p_impl_machine__symbols) vs) (hi : Inv S h) (hw : t_impl_machine__symbols.wp Tryd.prog S noLeaf Q vs h []) : CallsH Tryd.prog S F_impl_machine__symbols (argVals p_impl_machine__symbols vs) h Q :=
  sxF_ok (cfg := c_impl_machine__symbols) tabIMOk mixedIM Tryd.func43 rfl s_impl_machine__symbols e_impl_machine__symbols rfl hsh hi hw
/- function 50 -/
def c_impl_lengthOf : Cfg := ⟨tabIM, [], [], [.tmp 2, .tmp 3]⟩
def p_impl_lengthOf : List (Bool × List Sh) := [(false, [.int .i64])]
set_option maxRecDepth 100000 in
def t_impl_lengthOf : Tr :=
(.lift (.br (.cm .eql (.var (.int .i64) 0) (.cst (.int .i64 285)))
 (.ret (.tup [(false, [(.cst (.int .i64 258))]), (false, [(.cst (.int .i64 0))])]))
 (.lift (.br (.cm .lss (.var (.int .i64) 0) (.cst (.int .i64 265)))
  (.ret (.tup [(false, [(.ar .sub .i64 (.var (.int .i64) 0) (.cst (.int .i64 254)))]), (false, [(.cst (.int .i64 0))])]))
  (.need (.cm .geq (.ar .add .i64 (.ar .quo .i64 (.ar .sub .i64 (.var (.int .i64) 0) (.cst (.int .i64 265))) (.cst (.int .i64 4))) (.cst (.int .i64 1))) (.cst (.int .i64 0)))
  (.ret (.tup [(false, [(.ar .add .i64 (.ar .shl .i64 (.ar .add .i64 (.cst (.int .i64 4)) (.ar .rem .i64 (.ar .sub .i64 (.var (.int .i64) 0) (.cst (.int .i64 265))) (.cst (.int .i64 4)))) (.ar .add .i64 (.ar .quo .i64 (.ar .sub .i64 (.var (.int .i64) 0) (.cst (.int .i64 265))) (.cst (.int .i64 4))) (.cst (.int .i64 1)))) (.cst (.int .i64 3)))]), (false, [(.ar .add .i64 (.ar .quo .i64 (.ar .sub .i64 (.var (.int .i64) 0) (.cst (.int .i64 265))) (.cst (.int .i64 4))) (.cst (.int .i64 1)))])])))))))
set_option maxRecDepth 100000 in
theorem s_impl_lengthOf : sxF c_impl_lengthOf Tryd.f50 p_impl_lengthOf = some t_impl_lengthOf := by kernel_rfl
theorem e_impl_lengthOf (xs : Array Value) (w : World) : (callFunc F_impl_lengthOf xs).runT Tryd.prog w #[] = (.ok (.enter F_impl_lengthOf xs) w, #[]) := ent_of Tryd.func50 (by kernel_rfl) (by kernel_rfl) xs w
theorem run_impl_lengthOf {S : Shared} {h : Eng.Heap} {Q : Value → Eng.Heap → Prop} {vs : List Value} (hsh : shOk (resShs p_impl_lengthOf) vs) (hi : Inv S h) (hw : t_impl_lengthOf.wp Tryd.prog S noLeaf Q vs h []) : CallsH Tryd.prog S F_impl_lengthOf (argVals p_impl_lengthOf vs) h Q :=
  sxF_ok (cfg := c_impl_lengthOf) tabIMOk mixedIM Tryd.func50 rfl s_impl_lengthOf e_impl_lengthOf rfl hsh hi hw
/- function 51 -/
def c_impl_distOf : Cfg := ⟨tabIM, [], [], [.tmp 2, .tmp 3]⟩
def p_impl_distOf : List (Bool × List Sh) := [(false, [.int .i64])]
set_option maxRecDepth 100000 in
def t_impl_distOf : Tr :=
(.lift (.br (.cm .lss (.var (.int .i64) 0) (.cst (.int .i64 4)))
 (.ret (.tup [(false, [(.ar .add .i64 (.var (.int .i64) 0) (.cst (.int .i64 1)))]), (false, [(.cst (.int .i64 0))])]))
 (.need (.cm .geq (.ar .sub .i64 (.ar .quo .i64 (.var (.int .i64) 0) (.cst (.int .i64 2))) (.cst (.int .i64 1))) (.cst (.int .i64 0)))
 (.ret (.tup [(false, [(.ar .add .i64 (.ar .shl .i64 (.ar .add .i64 (.cst (.int .i64 2)) (.ar .rem .i64 (.var (.int .i64) 0) (.cst (.int .i64 2)))) (.ar .sub .i64 (.ar .quo .i64 (.var (.int .i64) 0) (.cst (.int .i64 2))) (.cst (.int .i64 1)))) (.cst (.int .i64 1)))]), (false, [(.ar .sub .i64 (.ar .quo .i64 (.var (.int .i64) 0) (.cst (.int .i64 2))) (.cst (.int .i64 1)))])])))))
set_option maxRecDepth 100000 in
theorem s_impl_distOf : sxF c_impl_distOf Tryd.f51 p_impl_distOf = some t_impl_distOf := by kernel_rfl
theorem e_impl_distOf (xs : Array Value) (w : World) : (callFunc F_impl_distOf xs).runT Tryd.prog w #[] = (.ok (.enter F_impl_distOf xs) w, #[]) := ent_of Tryd.func51 (by kernel_rfl) (by kernel_rfl) xs w
theorem run_impl_distOf {S : Shared} {h : Eng.Heap} {Q : Value → Eng.Heap → Prop} {vs : List Value} (hsh : shOk (resShs p_impl_distOf) vs) (hi : Inv S h) (hw : t_impl_distOf.wp Tryd.prog S noLeaf Q vs h []) : CallsH Tryd.prog S F_impl_distOf (argVals p_impl_distOf vs) h Q :=
  sxF_ok (cfg := c_impl_distOf) tabIMOk mixedIM Tryd.func51 rfl s_impl_distOf e_impl_distOf rfl hsh hi hw
end Go.Proofs.YteaonnfokkfnlaaDoor
