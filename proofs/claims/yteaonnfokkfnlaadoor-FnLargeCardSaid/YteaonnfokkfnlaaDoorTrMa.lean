-- printed by a generator of my own (wip/eng/Gen) from the translation
import Derived.Test.YteaonnfokkfnlaaDoorEng2
import Derived.Test.YteaonnfokkfnlaaDoorChecked
import Derived.Test.YteaonnfokkfnlaaDoorNums
set_option linter.unusedVariables false
set_option linter.unusedSimpArgs false
namespace Go.Proofs.YteaonnfokkfnlaaDoor
open Go Go.Eng
def tabMa : List (TypeId × TyD) := [(0, ⟨.oth, 1, 0, [], none, some []⟩),
  (2, ⟨(.int .i64), 1, 8, [.int .i64], some [(1, (.int .i64 0))], none⟩),
  (3, ⟨(.int .i64), 1, 8, [.int .i64], some [(1, (.int .i64 0))], none⟩),
  (4, ⟨.bool, 1, 1, [.bool], some [(1, (.bool false))], none⟩),
  (5, ⟨(.int .u8), 1, 1, [.int .u8], some [(1, (.int .u8 0))], none⟩),
  (22, ⟨(.sl 5), 1, 24, [.slice], some [(1, .nilSl)], none⟩),
  (30, ⟨(.sl 2), 1, 24, [.slice], some [(1, .nilSl)], none⟩),
  (44, ⟨(.ptr 49), 1, 8, [.ptr], some [(1, .nilPtr)], none⟩),
  (45, ⟨(.ptr 66), 1, 8, [.ptr], some [(1, .nilPtr)], none⟩),
  (47, ⟨(.ptr 101), 1, 8, [.ptr], some [(1, .nilPtr)], none⟩),
  (49, ⟨(.st [(0, 22), (1, 2), (2, 45), (3, 22), (4, 3), (5, 4), (6, 47), (7, 47)]), 8, 96, [.slice, .int .i64, .ptr, .slice, .int .i64, .bool, .ptr, .ptr], some [(1, .nilSl), (1, (.int .i64 0)), (1, .nilPtr), (1, .nilSl), (1, (.int .i64 0)), (1, (.bool false)), (2, .nilPtr)], none⟩),
  (51, ⟨.ifc, 1, 16, [.iface], some [(1, .nilIf)], none⟩),
  (63, ⟨.fnk, 1, 8, [.fnv], some [(1, .nilFn)], none⟩),
  (70, ⟨.oth, 1, 0, [], none, some [2, 51]⟩),
  (73, ⟨(.st [(0, 2)]), 1, 8, [.int .i64], some [(1, (.int .i64 0))], none⟩),
  (81, ⟨.fnk, 1, 8, [.fnv], some [(1, .nilFn)], none⟩),
  (108, ⟨(.arr 19 3), 19, 152, [.int .i64, .int .i64, .int .i64, .int .i64, .int .i64, .int .i64, .int .i64, .int .i64, .int .i64, .int .i64, .int .i64, .int .i64, .int .i64, .int .i64, .int .i64, .int .i64, .int .i64, .int .i64, .int .i64], some [(19, (.int .i64 0))], none⟩),
  (124, ⟨(.st [(0, 2), (1, 2), (2, 2)]), 3, 24, [.int .i64, .int .i64, .int .i64], some [(3, (.int .i64 0))], none⟩)]
set_option maxRecDepth 100000 in
theorem tabMaOk : TabOk Tryd.prog tabMa := tabOk_of (by kernel_rfl)
theorem mixedMa : Tryd.prog.follows .mixedOrders = true := by kernel_rfl
/- function 29 -/
def c_impl_machine__number : Cfg := ⟨tabMa, [⟨5, [6, 24], [], [7, 25, 26, 27, 28, 29, 30, 31, 32, 33]⟩], [], [.tmp 4, .tmp 5]⟩
def p_impl_machine__number : List (Bool × List Sh) := [(false, [.ptr]), (false, [.int .i64])]
set_option maxRecDepth 100000 in
def t_impl_machine__number : Tr :=
(.need (.nt (.nn (.var (.ptr) 0)))
(.load (.fld (.nz (.var (.ptr) 0)) 0) [.slice]
(.need (.nt (.nn (.var (.ptr) 0)))
(.load (.fld (.nz (.var (.ptr) 0)) 1) [.int .i64]
(.lift (.br (.cm .gtr (.var (.int .i64) 1) (.ar .sub .i64 (.ar .mul .i64 (.cst (.int .i64 8)) (.ln (.var (.slice) 2))) (.var (.int .i64) 3)))
 (.load (.glob 1) [.int .i64]
 (.ret (.tup [(false, [(.cst (.int .i64 0))]), (false, [(.ifc 73 (.ag (.cs (.var (.int .i64) 4) .nl)))])])))
 (.loop [.int .i64, .int .i64] [(.cst (.int .i64 0)), (.cst (.int .i64 0))]
  (.lift (.br (.cm .lss (.var (.int .i64) 5) (.var (.int .i64) 1))
   (.call F_impl_machine__bit [(.x (.var (.ptr) 0))] false [(false, [.int .i64])]
   (.need (.cm .geq (.var (.int .i64) 5) (.cst (.int .i64 0)))
   (.cont 1 [(.ar .or .i64 (.var (.int .i64) 4) (.ar .shl .i64 (.var (.int .i64) 6) (.var (.int .i64) 5))), (.ar .add .i64 (.var (.int .i64) 5) (.cst (.int .i64 1)))])))
   (.ret (.tup [(false, [(.var (.int .i64) 4)]), (false, [(.cst .nilIf)])])))))))))))
set_option maxRecDepth 100000 in
theorem s_impl_machine__number : sxF c_impl_machine__number Tryd.f29 p_impl_machine__number = some t_impl_machine__number := by kernel_rfl
theorem e_impl_machine__number (xs : Array Value) (w : World) : (callFunc F_impl_machine__number xs).runT Tryd.prog w #[] = (.ok (.enter F_impl_machine__number xs) w, #[]) := ent_of Tryd.func29 (by kernel_rfl) (by kernel_rfl) xs w
theorem run_impl_machine__number {S : Shared} {h : Eng.Heap} {Q : Value → Eng.Heap → Prop} {vs : List Value} (hsh : shOk (resShs p_impl_machine__number) vs) (hi : Inv S h) (hw : t_impl_machine__number.wp Tryd.prog S noLeaf Q vs h []) : CallsH Tryd.prog S F_impl_machine__number (argVals p_impl_machine__number vs) h Q :=
  sxF_ok (cfg := c_impl_machine__number) tabMaOk mixedMa Tryd.func29 rfl s_impl_machine__number e_impl_machine__number rfl hsh hi hw
/- function 38 -/
def c_impl_machine__bit : Cfg := ⟨tabMa, [], [], [.tmp 2]⟩
def p_impl_machine__bit : List (Bool × List Sh) := [(false, [.ptr])]
set_option maxRecDepth 100000 in
def t_impl_machine__bit : Tr :=
(.need (.nt (.nn (.var (.ptr) 0)))
(.load (.fld (.nz (.var (.ptr) 0)) 1) [.int .i64]
(.need (.nt (.nn (.var (.ptr) 0)))
(.load (.fld (.nz (.var (.ptr) 0)) 0) [.slice]
(.lift (.br (.cm .geq (.var (.int .i64) 1) (.ar .mul .i64 (.cst (.int .i64 8)) (.ln (.var (.slice) 2))))
 (.ret (.x (.cst (.int .i64 (-1)))))
 (.need (.nt (.nn (.var (.ptr) 0)))
 (.load (.fld (.nz (.var (.ptr) 0)) 1) [.int .i64]
 (.need (.nt (.nn (.var (.ptr) 0)))
 (.load (.fld (.nz (.var (.ptr) 0)) 1) [.int .i64]
 (.need (.nt (.nn (.var (.ptr) 0)))
 (.hsto (.fld (.nz (.var (.ptr) 0)) 1) [(.ar .add .i64 (.var (.int .i64) 4) (.cst (.int .i64 1)))]
 (.need (.nt (.nn (.var (.ptr) 0)))
 (.load (.fld (.nz (.var (.ptr) 0)) 0) [.slice]
 (.need (.nt (.nn (.var (.slice) 5)))
 (.need (.cm .leq (.cst (.int .i64 0)) (.ar .quo .i64 (.var (.int .i64) 3) (.cst (.int .i64 8))))
 (.need (.cm .lss (.ar .quo .i64 (.var (.int .i64) 3) (.cst (.int .i64 8))) (.ln (.var (.slice) 5)))
 (.load (.ix 1 (.var (.slice) 5) (.ar .quo .i64 (.var (.int .i64) 3) (.cst (.int .i64 8)))) [.int .u8]
 (.need (.cm .geq (.ar .rem .i64 (.var (.int .i64) 3) (.cst (.int .i64 8))) (.cst (.int .i64 0)))
 (.ret (.x (.cv .i64 (.ar .and .u8 (.ar .shr .u8 (.var (.int .u8) 6) (.ar .rem .i64 (.var (.int .i64) 3) (.cst (.int .i64 8)))) (.cst (.int .u8 1)))))))))))))))))))))))))
set_option maxRecDepth 100000 in
theorem s_impl_machine__bit : sxF c_impl_machine__bit Tryd.f38 p_impl_machine__bit = some t_impl_machine__bit := by kernel_rfl
theorem e_impl_machine__bit (xs : Array Value) (w : World) : (callFunc F_impl_machine__bit xs).runT Tryd.prog w #[] = (.ok (.enter F_impl_machine__bit xs) w, #[]) := ent_of Tryd.func38 (by kernel_rfl) (by kernel_rfl) xs w
theorem run_impl_machine__bit {S : Shared} {h : Eng.Heap} {Q : Value → Eng.Heap → Prop} {vs : List Value} (hsh : shOk (resShs p_impl_machine__bit) vs) (hi : Inv S h) (hw : t_impl_machine__bit.wp Tryd.prog S noLeaf Q vs h []) : CallsH Tryd.prog S F_impl_machine__bit (argVals p_impl_machine__bit vs) h Q :=
  sxF_ok (cfg := c_impl_machine__bit) tabMaOk mixedMa Tryd.func38 rfl s_impl_machine__bit e_impl_machine__bit rfl hsh hi hw
/- function 39 -/
def c_impl_machine__align : Cfg := ⟨tabMa, [], [], []⟩
def p_impl_machine__align : List (Bool × List Sh) := [(false, [.ptr])]
set_option maxRecDepth 100000 in
def t_impl_machine__align : Tr :=
(.need (.nt (.nn (.var (.ptr) 0)))
(.load (.fld (.nz (.var (.ptr) 0)) 1) [.int .i64]
(.need (.nt (.nn (.var (.ptr) 0)))
(.hsto (.fld (.nz (.var (.ptr) 0)) 1) [(.ar .mul .i64 (.ar .quo .i64 (.ar .add .i64 (.var (.int .i64) 1) (.cst (.int .i64 7))) (.cst (.int .i64 8))) (.cst (.int .i64 8)))]
(.ret (.tup []))))))
set_option maxRecDepth 100000 in
theorem s_impl_machine__align : sxF c_impl_machine__align Tryd.f39 p_impl_machine__align = some t_impl_machine__align := by kernel_rfl
theorem e_impl_machine__align (xs : Array Value) (w : World) : (callFunc F_impl_machine__align xs).runT Tryd.prog w #[] = (.ok (.enter F_impl_machine__align xs) w, #[]) := ent_of Tryd.func39 (by kernel_rfl) (by kernel_rfl) xs w
theorem run_impl_machine__align {S : Shared} {h : Eng.Heap} {Q : Value → Eng.Heap → Prop} {vs : List Value} (hsh : shOk (resShs p_impl_machine__align) vs) (hi : Inv S h) (hw : t_impl_machine__align.wp Tryd.prog S noLeaf Q vs h []) : CallsH Tryd.prog S F_impl_machine__align (argVals p_impl_machine__align vs) h Q :=
  sxF_ok (cfg := c_impl_machine__align) tabMaOk mixedMa Tryd.func39 rfl s_impl_machine__align e_impl_machine__align rfl hsh hi hw
/- function 44 -/
def c_impl_machine__lens : Cfg := ⟨tabMa, [⟨12, [49], [], [11, 50, 51, 52, 53, 54, 55, 56, 57, 58, 59]⟩, ⟨42, [13, 128], [], [129, 130, 131, 132, 133, 134]⟩, ⟨22, [13], [], [14, 15, 16, 17, 71, 72, 73, 74, 75, 76, 77, 78, 79, 80, 81, 82, 83, 84, 85, 86, 87, 88, 89, 90, 91, 92, 93, 94, 95, 96, 97, 98, 99, 100, 101, 102, 103, 104, 105, 106, 107, 108, 109, 110, 111, 112, 113, 114, 115, 116, 117, 118, 119, 120, 121, 122, 123, 124, 125, 126, 127, 128, 129, 130, 131, 132, 133, 134]⟩], [1, 4, 9], [.tmp 2, .tmp 3, .cell 4 51]⟩
def p_impl_machine__lens : List (Bool × List Sh) := [(false, [.ptr])]
set_option maxRecDepth 100000 in
def t_impl_machine__lens : Tr :=
(.hall 44 [(1, (.var (.ptr) 0))]
(.hall 51 [(1, (.cst .nilIf))]
(.call F_impl_machine__lens_1 [(.x (.cst (.int .i64 5))), (.x (.var (.addr) 2)), (.x (.var (.addr) 1))] false [(false, [.int .i64])]
(.load (.var (.addr) 2) [.iface]
(.join []
 (.br (.it (.nn (.var (.iface) 4)) (.cm .gtr (.ar .add .i64 (.var (.int .i64) 3) (.cst (.int .i64 257))) (.cst (.int .i64 286))) (.cst (.bool false)))
  (.load (.glob 0) [.int .i64]
  (.hsto (.var (.addr) 2) [(.ifc 73 (.ag (.cs (.var (.int .i64) 5) .nl)))]
  (.cont 0 [])))
  (.cont 0 []))
 (.call F_impl_machine__lens_1 [(.x (.cst (.int .i64 5))), (.x (.var (.addr) 2)), (.x (.var (.addr) 1))] false [(false, [.int .i64])]
 (.load (.var (.addr) 2) [.iface]
 (.join []
  (.br (.it (.nn (.var (.iface) 6)) (.cm .gtr (.ar .add .i64 (.var (.int .i64) 5) (.cst (.int .i64 1))) (.cst (.int .i64 30))) (.cst (.bool false)))
   (.load (.glob 0) [.int .i64]
   (.hsto (.var (.addr) 2) [(.ifc 73 (.ag (.cs (.var (.int .i64) 7) .nl)))]
   (.cont 0 [])))
   (.cont 0 []))
  (.call F_impl_machine__lens_1 [(.x (.cst (.int .i64 4))), (.x (.var (.addr) 2)), (.x (.var (.addr) 1))] false [(false, [.int .i64])]
  (.hall 108 [(19, (.cst (.int .i64 0)))]
  (.hsto (.var (.addr) 8) [(.cst (.int .i64 16)), (.cst (.int .i64 17)), (.cst (.int .i64 18)), (.cst (.int .i64 0)), (.cst (.int .i64 8)), (.cst (.int .i64 7)), (.cst (.int .i64 9)), (.cst (.int .i64 6)), (.cst (.int .i64 10)), (.cst (.int .i64 5)), (.cst (.int .i64 11)), (.cst (.int .i64 4)), (.cst (.int .i64 12)), (.cst (.int .i64 3)), (.cst (.int .i64 13)), (.cst (.int .i64 2)), (.cst (.int .i64 14)), (.cst (.int .i64 1)), (.cst (.int .i64 15))]
  (.mks 2 1 8 [(.int .i64 0)] (.cst (.int .i64 19)) (.cst (.int .i64 19))
  (.loop [.int .i64] [(.cst (.int .i64 0))]
   (.lift (.br (.cm .lss (.var (.int .i64) 10) (.ar .add .i64 (.var (.int .i64) 7) (.cst (.int .i64 4))))
    (.need (.cm .leq (.cst (.int .i64 0)) (.var (.int .i64) 10))
    (.need (.cm .lss (.var (.int .i64) 10) (.cst (.int .i64 19)))
    (.load (.ia 1 (.var (.addr) 8) (.var (.int .i64) 10)) [.int .i64]
    (.call F_impl_machine__lens_1 [(.x (.cst (.int .i64 3))), (.x (.var (.addr) 2)), (.x (.var (.addr) 1))] false [(false, [.int .i64])]
    (.still [((.ia 1 (.var (.addr) 8) (.var (.int .i64) 10)), (.var (.int .i64) 11))]
    (.need (.nt (.nn (.var (.slice) 9)))
    (.need (.cm .leq (.cst (.int .i64 0)) (.var (.int .i64) 11))
    (.need (.cm .lss (.var (.int .i64) 11) (.ln (.var (.slice) 9)))
    (.hsto (.ix 1 (.var (.slice) 9) (.var (.int .i64) 11)) [(.var (.int .i64) 12)]
    (.cont 0 [(.ar .add .i64 (.var (.int .i64) 10) (.cst (.int .i64 1)))]))))))))))
    (.load (.var (.addr) 2) [.iface]
    (.lift (.br (.nt (.nn (.var (.iface) 11)))
     (.load (.var (.addr) 2) [.iface]
     (.hsto (.var (.addr) 2) [(.var (.iface) 12)]
     (.load (.var (.addr) 2) [.iface]
     (.ret (.tup [(false, [(.cst .nilSl)]), (false, [(.cst .nilSl)]), (false, [(.var (.iface) 13)])])))))
     (.call F_impl_HuffKind [(.x (.var (.slice) 9))] false [(false, [.int .i64])]
     (.lift (.br (.cm .neq (.var (.int .i64) 12) (.cst (.int .i64 1)))
      (.load (.glob 0) [.int .i64]
      (.hsto (.var (.addr) 2) [(.ifc 73 (.ag (.cs (.var (.int .i64) 13) .nl)))]
      (.load (.var (.addr) 2) [.iface]
      (.ret (.tup [(false, [(.cst .nilSl)]), (false, [(.cst .nilSl)]), (false, [(.var (.iface) 14)])])))))
      (.call F_impl_tableOf [(.x (.var (.slice) 9))] false [(false, [.ptr])]
      (.hsl 2 0 []
      (.loop [.slice] [(.var (.slice) 14)]
       (.lift (.br (.cm .lss (.ln (.var (.slice) 15)) (.ar .add .i64 (.ar .add .i64 (.var (.int .i64) 3) (.cst (.int .i64 257))) (.ar .add .i64 (.var (.int .i64) 5) (.cst (.int .i64 1)))))
        (.load (.var (.addr) 1) [.ptr]
        (.call F_impl_machine__symbol [(.x (.var (.ptr) 16)), (.x (.var (.ptr) 13))] true [(false, [.int .i64]), (false, [.iface])]
        (.lift (.br (.nt (.nn (.var (.iface) 18)))
         (.hsto (.var (.addr) 2) [(.var (.iface) 18)]
         (.load (.var (.addr) 2) [.iface]
         (.ret (.tup [(false, [(.cst .nilSl)]), (false, [(.cst .nilSl)]), (false, [(.var (.iface) 19)])]))))
         (.join [.int .i64, .int .i64]
          (.br (.cm .eql (.var (.int .i64) 17) (.cst (.int .i64 16)))
           (.lift (.br (.cm .eql (.ln (.var (.slice) 15)) (.cst (.int .i64 0)))
            (.load (.glob 0) [.int .i64]
            (.hsto (.var (.addr) 2) [(.ifc 73 (.ag (.cs (.var (.int .i64) 19) .nl)))]
            (.load (.var (.addr) 2) [.iface]
            (.ret (.tup [(false, [(.cst .nilSl)]), (false, [(.cst .nilSl)]), (false, [(.var (.iface) 20)])])))))
            (.need (.nt (.nn (.var (.slice) 15)))
            (.need (.cm .leq (.cst (.int .i64 0)) (.ar .sub .i64 (.ln (.var (.slice) 15)) (.cst (.int .i64 1))))
            (.need (.cm .lss (.ar .sub .i64 (.ln (.var (.slice) 15)) (.cst (.int .i64 1))) (.ln (.var (.slice) 15)))
            (.load (.ix 1 (.var (.slice) 15) (.ar .sub .i64 (.ln (.var (.slice) 15)) (.cst (.int .i64 1)))) [.int .i64]
            (.call F_impl_machine__lens_1 [(.x (.cst (.int .i64 2))), (.x (.var (.addr) 2)), (.x (.var (.addr) 1))] false [(false, [.int .i64])]
            (.still [((.ix 1 (.var (.slice) 15) (.ar .sub .i64 (.ln (.var (.slice) 15)) (.cst (.int .i64 1)))), (.var (.int .i64) 19))]
            (.cont 7 [(.var (.int .i64) 19), (.ar .add .i64 (.var (.int .i64) 20) (.cst (.int .i64 3)))])))))))))
           (.join [.int .i64, .int .i64]
            (.br (.cm .eql (.var (.int .i64) 17) (.cst (.int .i64 17)))
             (.call F_impl_machine__lens_1 [(.x (.cst (.int .i64 3))), (.x (.var (.addr) 2)), (.x (.var (.addr) 1))] false [(false, [.int .i64])]
             (.cont 8 [(.cst (.int .i64 0)), (.ar .add .i64 (.var (.int .i64) 19) (.cst (.int .i64 3)))]))
             (.join [.int .i64, .int .i64]
              (.br (.cm .eql (.var (.int .i64) 17) (.cst (.int .i64 18)))
               (.call F_impl_machine__lens_1 [(.x (.cst (.int .i64 7))), (.x (.var (.addr) 2)), (.x (.var (.addr) 1))] false [(false, [.int .i64])]
               (.cont 9 [(.cst (.int .i64 0)), (.ar .add .i64 (.var (.int .i64) 19) (.cst (.int .i64 11)))]))
               (.cont 9 [(.var (.int .i64) 17), (.cst (.int .i64 1))]))
              (.cont 8 [(.var (.int .i64) 19), (.var (.int .i64) 20)])))
            (.cont 7 [(.var (.int .i64) 19), (.var (.int .i64) 20)])))
          (.load (.var (.addr) 2) [.iface]
          (.lift (.br (.nt (.nn (.var (.iface) 21)))
           (.load (.var (.addr) 2) [.iface]
           (.hsto (.var (.addr) 2) [(.var (.iface) 22)]
           (.load (.var (.addr) 2) [.iface]
           (.ret (.tup [(false, [(.cst .nilSl)]), (false, [(.cst .nilSl)]), (false, [(.var (.iface) 23)])])))))
           (.lift (.br (.cm .gtr (.var (.int .i64) 20) (.ar .sub .i64 (.ar .add .i64 (.ar .add .i64 (.var (.int .i64) 3) (.cst (.int .i64 257))) (.ar .add .i64 (.var (.int .i64) 5) (.cst (.int .i64 1)))) (.ln (.var (.slice) 15))))
            (.load (.glob 0) [.int .i64]
            (.hsto (.var (.addr) 2) [(.ifc 73 (.ag (.cs (.var (.int .i64) 22) .nl)))]
            (.load (.var (.addr) 2) [.iface]
            (.ret (.tup [(false, [(.cst .nilSl)]), (false, [(.cst .nilSl)]), (false, [(.var (.iface) 23)])])))))
            (.loop [.slice, .int .i64] [(.var (.slice) 15), (.cst (.int .i64 0))]
             (.lift (.br (.cm .lss (.var (.int .i64) 23) (.var (.int .i64) 20))
              (.hsl 2 1 [(.var (.int .i64) 19)]
              (.app 2 1 8 [(.int .i64 0)] (.var (.slice) 22) (.var (.slice) 24)
              (.cont 9 [(.var (.slice) 25), (.ar .add .i64 (.var (.int .i64) 23) (.cst (.int .i64 1)))])))
              (.cont 4 [(.var (.slice) 22)]))))))))))))))
        (.need (.cm .leq (.cst (.int .i64 0)) (.ar .add .i64 (.var (.int .i64) 3) (.cst (.int .i64 257))))
        (.need (.cm .leq (.ar .add .i64 (.var (.int .i64) 3) (.cst (.int .i64 257))) (.cp (.var (.slice) 15)))
        (.need (.cm .leq (.cst (.int .i64 0)) (.ar .add .i64 (.var (.int .i64) 3) (.cst (.int .i64 257))))
        (.need (.cm .leq (.ar .add .i64 (.var (.int .i64) 3) (.cst (.int .i64 257))) (.ar .add .i64 (.var (.int .i64) 3) (.cst (.int .i64 257))))
        (.need (.cm .leq (.cst (.int .i64 0)) (.ar .add .i64 (.var (.int .i64) 3) (.cst (.int .i64 257))))
        (.need (.cm .leq (.ar .add .i64 (.var (.int .i64) 3) (.cst (.int .i64 257))) (.ln (.var (.slice) 15)))
        (.call F_impl_HuffKind [(.x (.sub 1 (.var (.slice) 15) .nl (.ar .add .i64 (.var (.int .i64) 3) (.cst (.int .i64 257))) (.ar .add .i64 (.var (.int .i64) 3) (.cst (.int .i64 257)))))] false [(false, [.int .i64])]
        (.call F_impl_HuffKind [(.x (.sub 1 (.var (.slice) 15) (.ar .add .i64 (.var (.int .i64) 3) (.cst (.int .i64 257))) .nl .nl))] false [(false, [.int .i64])]
        (.need (.nt (.nn (.sub 1 (.var (.slice) 15) .nl (.ar .add .i64 (.var (.int .i64) 3) (.cst (.int .i64 257))) (.ar .add .i64 (.var (.int .i64) 3) (.cst (.int .i64 257))))))
        (.need (.cm .leq (.cst (.int .i64 0)) (.cst (.int .i64 256)))
        (.need (.cm .lss (.cst (.int .i64 256)) (.ln (.sub 1 (.var (.slice) 15) .nl (.ar .add .i64 (.var (.int .i64) 3) (.cst (.int .i64 257))) (.ar .add .i64 (.var (.int .i64) 3) (.cst (.int .i64 257))))))
        (.load (.ix 1 (.sub 1 (.var (.slice) 15) .nl (.ar .add .i64 (.var (.int .i64) 3) (.cst (.int .i64 257))) (.ar .add .i64 (.var (.int .i64) 3) (.cst (.int .i64 257)))) (.cst (.int .i64 256))) [.int .i64]
        (.lift (.br (.it (.it (.cm .eql (.var (.int .i64) 18) (.cst (.int .i64 0))) (.cst (.bool true)) (.it (.cm .neq (.var (.int .i64) 16) (.cst (.int .i64 1))) (.cm .neq (.var (.int .i64) 16) (.cst (.int .i64 4))) (.cst (.bool false)))) (.cst (.bool true)) (.it (.it (.cm .neq (.var (.int .i64) 17) (.cst (.int .i64 1))) (.cm .neq (.var (.int .i64) 17) (.cst (.int .i64 4))) (.cst (.bool false))) (.cm .neq (.var (.int .i64) 17) (.cst (.int .i64 5))) (.cst (.bool false))))
         (.load (.glob 0) [.int .i64]
         (.hsto (.var (.addr) 2) [(.ifc 73 (.ag (.cs (.var (.int .i64) 19) .nl)))]
         (.load (.var (.addr) 2) [.iface]
         (.ret (.tup [(false, [(.cst .nilSl)]), (false, [(.cst .nilSl)]), (false, [(.var (.iface) 20)])])))))
         (.hsto (.var (.addr) 2) [(.cst .nilIf)]
         (.load (.var (.addr) 2) [.iface]
         (.ret (.tup [(false, [(.sub 1 (.var (.slice) 15) .nl (.ar .add .i64 (.var (.int .i64) 3) (.cst (.int .i64 257))) (.ar .add .i64 (.var (.int .i64) 3) (.cst (.int .i64 257))))]), (false, [(.sub 1 (.var (.slice) 15) (.ar .add .i64 (.var (.int .i64) 3) (.cst (.int .i64 257))) .nl .nl)]), (false, [(.var (.iface) 19)])]))))))))))))))))))))))))))))))))))))))))))))
set_option maxRecDepth 100000 in
theorem s_impl_machine__lens : sxF c_impl_machine__lens Tryd.f44 p_impl_machine__lens = some t_impl_machine__lens := by kernel_rfl
theorem e_impl_machine__lens (xs : Array Value) (w : World) : (callFunc F_impl_machine__lens xs).runT Tryd.prog w #[] = (.ok (.enter F_impl_machine__lens xs) w, #[]) := ent_of Tryd.func44 (by kernel_rfl) (by kernel_rfl) xs w
theorem run_impl_machine__lens {S : Shared} {h : Eng.Heap} {Q : Value → Eng.Heap → Prop} {vs : List Value} (hsh : shOk (resShs p_impl_machine__lens) vs) (hi : Inv S h) (hw : t_impl_machine__lens.wp Tryd.prog S noLeaf Q vs h []) : CallsH Tryd.prog S F_impl_machine__lens (argVals p_impl_machine__lens vs) h Q :=
  sxF_ok (cfg := c_impl_machine__lens) tabMaOk mixedMa Tryd.func44 rfl s_impl_machine__lens e_impl_machine__lens rfl hsh hi hw
/- function 49 -/
def c_impl_machine__symbol : Cfg := ⟨tabMa, [], [], [.tmp 4, .tmp 5]⟩
def p_impl_machine__symbol : List (Bool × List Sh) := [(false, [.ptr]), (false, [.ptr])]
set_option maxRecDepth 100000 in
def t_impl_machine__symbol : Tr :=
(.call F_impl_codeTable__next [(.x (.var (.ptr) 1)), (.x (.fn 38 (.cs (.var (.ptr) 0) .nl) .nl))] false [(true, [.int .i64, .int .i64, .int .i64])]
(.lift (.br (.cm .eql (.var (.int .i64) 2) (.cst (.int .i64 0)))
 (.load (.glob 0) [.int .i64]
 (.ret (.tup [(false, [(.cst (.int .i64 0))]), (false, [(.ifc 73 (.ag (.cs (.var (.int .i64) 5) .nl)))])])))
 (.lift (.br (.cm .eql (.var (.int .i64) 2) (.cst (.int .i64 2)))
  (.load (.glob 1) [.int .i64]
  (.ret (.tup [(false, [(.cst (.int .i64 0))]), (false, [(.ifc 73 (.ag (.cs (.var (.int .i64) 5) .nl)))])])))
  (.ret (.tup [(false, [(.var (.int .i64) 3)]), (false, [(.cst .nilIf)])])))))))
set_option maxRecDepth 100000 in
theorem s_impl_machine__symbol : sxF c_impl_machine__symbol Tryd.f49 p_impl_machine__symbol = some t_impl_machine__symbol := by kernel_rfl
theorem e_impl_machine__symbol (xs : Array Value) (w : World) : (callFunc F_impl_machine__symbol xs).runT Tryd.prog w #[] = (.ok (.enter F_impl_machine__symbol xs) w, #[]) := ent_of Tryd.func49 (by kernel_rfl) (by kernel_rfl) xs w
theorem run_impl_machine__symbol {S : Shared} {h : Eng.Heap} {Q : Value → Eng.Heap → Prop} {vs : List Value} (hsh : shOk (resShs p_impl_machine__symbol) vs) (hi : Inv S h) (hw : t_impl_machine__symbol.wp Tryd.prog S noLeaf Q vs h []) : CallsH Tryd.prog S F_impl_machine__symbol (argVals p_impl_machine__symbol vs) h Q :=
  sxF_ok (cfg := c_impl_machine__symbol) tabMaOk mixedMa Tryd.func49 rfl s_impl_machine__symbol e_impl_machine__symbol rfl hsh hi hw
/- function 53 -/
def c_impl_machine__lens_1 : Cfg := ⟨tabMa, [], [], [.tmp 4]⟩
def p_impl_machine__lens_1 : List (Bool × List Sh) := [(false, [.int .i64]), (false, [.addr]), (false, [.addr])]
set_option maxRecDepth 100000 in
def t_impl_machine__lens_1 : Tr :=
(.load (.var (.addr) 1) [.iface]
(.join [.int .i64]
 (.br (.nn (.var (.iface) 3))
  (.load (.var (.addr) 2) [.ptr]
  (.call F_impl_machine__number [(.x (.var (.ptr) 4)), (.x (.var (.int .i64) 0))] true [(false, [.int .i64]), (false, [.iface])]
  (.hsto (.var (.addr) 1) [(.var (.iface) 6)]
  (.cont 0 [(.var (.int .i64) 5)]))))
  (.cont 0 [(.cst (.int .i64 0))]))
 (.ret (.x (.var (.int .i64) 4)))))
set_option maxRecDepth 100000 in
theorem s_impl_machine__lens_1 : sxF c_impl_machine__lens_1 Tryd.f53 p_impl_machine__lens_1 = some t_impl_machine__lens_1 := by kernel_rfl
theorem e_impl_machine__lens_1 (xs : Array Value) (w : World) : (callFunc F_impl_machine__lens_1 xs).runT Tryd.prog w #[] = (.ok (.enter F_impl_machine__lens_1 xs) w, #[]) := ent_of Tryd.func53 (by kernel_rfl) (by kernel_rfl) xs w
theorem run_impl_machine__lens_1 {S : Shared} {h : Eng.Heap} {Q : Value → Eng.Heap → Prop} {vs : List Value} (hsh : shOk (resShs p_impl_machine__lens_1) vs) (hi : Inv S h) (hw : t_impl_machine__lens_1.wp Tryd.prog S noLeaf Q vs h []) : CallsH Tryd.prog S F_impl_machine__lens_1 (argVals p_impl_machine__lens_1 vs) h Q :=
  sxF_ok (cfg := c_impl_machine__lens_1) tabMaOk mixedMa Tryd.func53 rfl s_impl_machine__lens_1 e_impl_machine__lens_1 rfl hsh hi hw
end Go.Proofs.YteaonnfokkfnlaaDoor
