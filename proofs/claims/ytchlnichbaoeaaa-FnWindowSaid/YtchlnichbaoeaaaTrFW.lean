-- printed by a generator of my own (wip/eng/Gen) from the translation
import Derived.Test.YtchlnichbaoeaaaEng2
import Derived.Test.YtchlnichbaoeaaaChecked
import Derived.Test.YtchlnichbaoeaaaNums
set_option linter.unusedVariables false
set_option linter.unusedSimpArgs false
namespace Go.Proofs.Ytchlnichbaoeaaa
open Go Go.Eng
def tabFW : List (TypeId × TyD) := [(0, ⟨.oth, 1, 0, [], none, some []⟩),
  (2, ⟨(.int .i64), 1, 8, [.int .i64], some [(1, (.int .i64 0))], none⟩),
  (3, ⟨(.int .i64), 1, 8, [.int .i64], some [(1, (.int .i64 0))], none⟩),
  (4, ⟨.bool, 1, 1, [.bool], some [(1, (.bool false))], none⟩),
  (5, ⟨(.int .u8), 1, 1, [.int .u8], some [(1, (.int .u8 0))], none⟩),
  (9, ⟨.str, 1, 16, [.str], none, none⟩),
  (22, ⟨(.sl 5), 1, 24, [.slice], some [(1, .nilSl)], none⟩),
  (24, ⟨(.st [(0, 2), (1, 22)]), 2, 32, [.int .i64, .slice], some [(1, (.int .i64 0)), (1, .nilSl)], none⟩),
  (67, ⟨(.st [(0, 4), (1, 22), (2, 24)]), 4, 64, [.bool, .slice, .int .i64, .slice], some [(1, (.bool false)), (1, .nilSl), (1, (.int .i64 0)), (1, .nilSl)], none⟩),
  (87, ⟨.oth, 1, 0, [], none, some [2, 22]⟩),
  (141, ⟨(.ptr 164), 1, 8, [.ptr], some [(1, .nilPtr)], none⟩)]
set_option maxRecDepth 100000 in
theorem tabFWOk : TabOk Try.prog tabFW := tabOk_of (by kernel_rfl)
theorem mixedFW : Try.prog.follows .mixedOrders = true := by kernel_rfl
/- function 13 -/
def c_laws_FnWindow : Cfg := ⟨tabFW, [⟨26, [8, 16], [], [104, 105, 106, 107, 108, 109, 110, 111, 112, 113, 114, 115, 116, 117, 118]⟩, ⟨9, [8, 9], [(0, 0), (0, 1)], [10, 11, 12, 13, 14, 15, 16, 17, 51, 52, 53, 54, 55, 56, 57, 58, 59, 60, 61, 62, 63, 64, 65, 66, 67, 68, 69, 70, 71, 72, 73, 74, 75, 76, 77, 78, 79, 80, 81, 82, 83, 84, 85, 86, 87, 88, 89, 90, 91, 92, 93, 94, 95, 96, 97, 98, 99, 100, 101, 102, 103, 104, 105, 106, 107, 108, 109, 110, 111, 112, 113, 114, 115, 116, 117, 118, 119, 120, 121, 122, 123, 124, 125, 126, 127, 128, 129, 130, 131, 132, 133, 134, 135, 136, 137, 138, 139, 140, 141, 142, 143, 144, 145, 146, 147, 148, 149, 150, 151, 152]⟩], [], [.tmp 4]⟩
def p_laws_FnWindow : List (Bool × List Sh) := [(false, [.slice]), (false, [.slice])]
set_option maxRecDepth 100000 in
def t_laws_FnWindow : Tr :=
(.lift (.br (.it (.cm .gtr (.ln (.var (.slice) 0)) (.cst (.int .i64 1048576))) (.cst (.bool true)) (.cm .gtr (.ln (.var (.slice) 1)) (.cst (.int .i64 1048576))))
 (.ret (.x (.cst (.bool true))))
 (.call F_spec_DrawWindowNew [(.x (.var (.slice) 0))] true [(false, [.int .i64]), (false, [.slice])]
 (.call F_impl_WindowNew [(.x (.var (.int .i64) 2)), (.x (.var (.slice) 3))] false [(true, [.int .i64, .slice])]
 (.lift (.br (.it (.cm .lss (.var (.int .i64) 2) (.cst (.int .i64 1))) (.cst (.bool true)) (.cm .gtr (.var (.int .i64) 2) (.cst (.int .i64 32768))))
  (.join [.bool, .bool]
   (.br (.cm .eql (.var (.int .i64) 4) (.cst (.int .i64 0)))
    (.call F_impl_ValidWindow [(.agg [(.var (.int .i64) 4), (.var (.slice) 5)])] false [(false, [.bool])]
    (.cont 2 [(.nt (.var (.bool) 6)), (.nt (.var (.bool) 6))]))
    (.cont 2 [(.cst (.bool false)), (.cst (.bool false))]))
   (.ret (.x (.var (.bool) 6))))
  (.hsl 5 0 []
  (.app 5 1 1 [(.int .u8 0)] (.var (.slice) 6) (.var (.slice) 3)
  (.loop [.slice, .int .i64, .int .i64, .slice] [(.var (.slice) 7), (.cst (.int .i64 0)), (.var (.int .i64) 4), (.var (.slice) 5)]
   (.lift (.br (.cm .lss (.var (.int .i64) 9) (.cst (.int .i64 8)))
    (.call F_laws_lwAt [(.x (.var (.slice) 1)), (.x (.ar .mul .i64 (.cst (.int .i64 2)) (.var (.int .i64) 9)))] false [(false, [.int .i64])]
    (.call F_laws_lwAt [(.x (.var (.slice) 1)), (.x (.ar .add .i64 (.ar .mul .i64 (.cst (.int .i64 2)) (.var (.int .i64) 9)) (.cst (.int .i64 1))))] false [(false, [.int .i64])]
    (.join [.slice, .int .i64, .slice]
     (.br (.cm .eql (.ar .rem .i64 (.var (.int .i64) 12) (.cst (.int .i64 2))) (.cst (.int .i64 0)))
      (.hsl 5 3 [(.cv .u8 (.var (.int .i64) 12)), (.cv .u8 (.ar .add .i64 (.cst (.int .i64 1)) (.ar .rem .i64 (.var (.int .i64) 13) (.cst (.int .i64 30))))), (.cv .u8 (.var (.int .i64) 9))]
      (.app 5 1 1 [(.int .u8 0)] (.var (.slice) 8) (.var (.slice) 14)
      (.call F_impl_WindowPut [(.agg [(.var (.int .i64) 10), (.var (.slice) 11)]), (.x (.var (.slice) 14))] false [(true, [.int .i64, .slice])]
      (.cont 4 [(.var (.slice) 15), (.var (.int .i64) 16), (.var (.slice) 17)]))))
      (.call F_impl_WindowCopy [(.agg [(.var (.int .i64) 10), (.var (.slice) 11)]), (.x (.ar .add .i64 (.cst (.int .i64 1)) (.ar .rem .i64 (.ar .quo .i64 (.var (.int .i64) 12) (.cst (.int .i64 2))) (.cst (.int .i64 16))))), (.x (.ar .add .i64 (.cst (.int .i64 1)) (.ar .rem .i64 (.var (.int .i64) 13) (.cst (.int .i64 30)))))] false [(true, [.bool, .slice, .int .i64, .slice])]
      (.lift (.br (.nt (.bq (.var (.bool) 14) (.cm .leq (.ar .add .i64 (.cst (.int .i64 1)) (.ar .rem .i64 (.ar .quo .i64 (.var (.int .i64) 12) (.cst (.int .i64 2))) (.cst (.int .i64 16)))) (.it (.cm .gtr (.ln (.var (.slice) 8)) (.var (.int .i64) 2)) (.var (.int .i64) 2) (.ln (.var (.slice) 8))))))
       (.ret (.x (.cst (.bool false))))
       (.join [.slice, .int .i64, .slice]
        (.br (.var (.bool) 14)
         (.loop [.slice, .int .i64] [(.var (.slice) 8), (.cst (.int .i64 0))]
          (.lift (.br (.cm .lss (.var (.int .i64) 19) (.ar .add .i64 (.cst (.int .i64 1)) (.ar .rem .i64 (.var (.int .i64) 13) (.cst (.int .i64 30)))))
           (.need (.nt (.nn (.var (.slice) 18)))
           (.need (.cm .leq (.cst (.int .i64 0)) (.ar .sub .i64 (.ln (.var (.slice) 18)) (.ar .add .i64 (.cst (.int .i64 1)) (.ar .rem .i64 (.ar .quo .i64 (.var (.int .i64) 12) (.cst (.int .i64 2))) (.cst (.int .i64 16))))))
           (.need (.cm .lss (.ar .sub .i64 (.ln (.var (.slice) 18)) (.ar .add .i64 (.cst (.int .i64 1)) (.ar .rem .i64 (.ar .quo .i64 (.var (.int .i64) 12) (.cst (.int .i64 2))) (.cst (.int .i64 16))))) (.ln (.var (.slice) 18)))
           (.load (.ix 1 (.var (.slice) 18) (.ar .sub .i64 (.ln (.var (.slice) 18)) (.ar .add .i64 (.cst (.int .i64 1)) (.ar .rem .i64 (.ar .quo .i64 (.var (.int .i64) 12) (.cst (.int .i64 2))) (.cst (.int .i64 16)))))) [.int .u8]
           (.hsl 5 1 [(.var (.int .u8) 20)]
           (.app 5 1 1 [(.int .u8 0)] (.var (.slice) 18) (.var (.slice) 21)
           (.cont 7 [(.var (.slice) 22), (.ar .add .i64 (.var (.int .i64) 19) (.cst (.int .i64 1)))])))))))
           (.need (.cm .leq (.cst (.int .i64 0)) (.ar .sub .i64 (.ln (.var (.slice) 18)) (.ar .add .i64 (.cst (.int .i64 1)) (.ar .rem .i64 (.var (.int .i64) 13) (.cst (.int .i64 30))))))
           (.need (.cm .leq (.ar .sub .i64 (.ln (.var (.slice) 18)) (.ar .add .i64 (.cst (.int .i64 1)) (.ar .rem .i64 (.var (.int .i64) 13) (.cst (.int .i64 30))))) (.ln (.var (.slice) 18)))
           (.call F_laws_lwBytes [(.x (.var (.slice) 15)), (.x (.sub 1 (.var (.slice) 18) (.ar .sub .i64 (.ln (.var (.slice) 18)) (.ar .add .i64 (.cst (.int .i64 1)) (.ar .rem .i64 (.var (.int .i64) 13) (.cst (.int .i64 30))))) .nl .nl))] false [(false, [.bool])]
           (.lift (.br (.nt (.var (.bool) 20))
            (.ret (.x (.cst (.bool false))))
            (.cont 6 [(.var (.slice) 18), (.var (.int .i64) 16), (.var (.slice) 17)])))))))))
         (.cont 6 [(.var (.slice) 8), (.var (.int .i64) 10), (.var (.slice) 11)]))
        (.cont 4 [(.var (.slice) 18), (.var (.int .i64) 19), (.var (.slice) 20)]))))))
     (.join [.slice]
      (.br (.cm .gtr (.ln (.var (.slice) 14)) (.var (.int .i64) 2))
       (.need (.cm .leq (.cst (.int .i64 0)) (.ar .sub .i64 (.ln (.var (.slice) 14)) (.var (.int .i64) 2)))
       (.need (.cm .leq (.ar .sub .i64 (.ln (.var (.slice) 14)) (.var (.int .i64) 2)) (.ln (.var (.slice) 14)))
       (.cont 4 [(.sub 1 (.var (.slice) 14) (.ar .sub .i64 (.ln (.var (.slice) 14)) (.var (.int .i64) 2)) .nl .nl)])))
       (.cont 4 [(.var (.slice) 14)]))
      (.join [.bool]
       (.br (.nt (.cm .neq (.var (.int .i64) 15) (.var (.int .i64) 2)))
        (.call F_laws_lwBytes [(.x (.var (.slice) 16)), (.x (.var (.slice) 17))] false [(false, [.bool])]
        (.cont 4 [(.nt (.var (.bool) 18))]))
        (.cont 4 [(.cst (.bool true))]))
       (.lift (.br (.var (.bool) 18)
        (.ret (.x (.cst (.bool false))))
        (.cont 2 [(.var (.slice) 14), (.ar .add .i64 (.var (.int .i64) 9) (.cst (.int .i64 1))), (.var (.int .i64) 15), (.var (.slice) 16)]))))))))
    (.ret (.x (.cst (.bool true)))))))))))))))
set_option maxRecDepth 100000 in
theorem s_laws_FnWindow : sxF c_laws_FnWindow Try.f13 p_laws_FnWindow = some t_laws_FnWindow := by kernel_rfl
theorem e_laws_FnWindow (xs : Array Value) (w : World) : (callFunc F_laws_FnWindow xs).runT Try.prog w #[] = (.ok (.enter F_laws_FnWindow xs) w, #[]) := ent_of Try.func13 (by kernel_rfl) (by kernel_rfl) xs w
theorem run_laws_FnWindow {S : Nat → Prop} {h : Eng.Heap} {Q : Value → Eng.Heap → Prop} {vs : List Value} (hsh : shOk (resShs p_laws_FnWindow) vs) (hi : Inv S h) (hw : t_laws_FnWindow.wp Try.prog S noLeaf Q vs h []) : CallsH Try.prog S F_laws_FnWindow (argVals p_laws_FnWindow vs) h Q :=
  sxF_ok (cfg := c_laws_FnWindow) tabFWOk mixedFW Try.func13 rfl s_laws_FnWindow e_laws_FnWindow rfl hsh hi hw
/- function 69 -/
def c_spec_DrawWindowNew : Cfg := ⟨tabFW, [], [], [.tmp 2, .tmp 3]⟩
def p_spec_DrawWindowNew : List (Bool × List Sh) := [(false, [.slice])]
set_option maxRecDepth 100000 in
def t_spec_DrawWindowNew : Tr :=
(.call F_spec_l1New [(.x (.var (.slice) 0))] false [(false, [.ptr])]
(.call F_spec_l4Draw [(.x (.var (.ptr) 1))] false [(true, [.int .i64, .slice])]
(.ret (.tup [(false, [(.var (.int .i64) 2)]), (false, [(.var (.slice) 3)])]))))
set_option maxRecDepth 100000 in
theorem s_spec_DrawWindowNew : sxF c_spec_DrawWindowNew Try.f69 p_spec_DrawWindowNew = some t_spec_DrawWindowNew := by kernel_rfl
theorem e_spec_DrawWindowNew (xs : Array Value) (w : World) : (callFunc F_spec_DrawWindowNew xs).runT Try.prog w #[] = (.ok (.enter F_spec_DrawWindowNew xs) w, #[]) := ent_of Try.func69 (by kernel_rfl) (by kernel_rfl) xs w
theorem run_spec_DrawWindowNew {S : Nat → Prop} {h : Eng.Heap} {Q : Value → Eng.Heap → Prop} {vs : List Value} (hsh : shOk (resShs p_spec_DrawWindowNew) vs) (hi : Inv S h) (hw : t_spec_DrawWindowNew.wp Try.prog S noLeaf Q vs h []) : CallsH Try.prog S F_spec_DrawWindowNew (argVals p_spec_DrawWindowNew vs) h Q :=
  sxF_ok (cfg := c_spec_DrawWindowNew) tabFWOk mixedFW Try.func69 rfl s_spec_DrawWindowNew e_spec_DrawWindowNew rfl hsh hi hw
/- function 72 -/
def c_laws_lwBytes : Cfg := ⟨tabFW, [], [], [.tmp 4]⟩
def p_laws_lwBytes : List (Bool × List Sh) := [(false, [.slice]), (false, [.slice])]
set_option maxRecDepth 100000 in
def t_laws_lwBytes : Tr :=
(.strc (.var (.slice) 0)
(.strc (.var (.slice) 1)
(.ret (.x (.sq (.var (.str) 2) (.var (.str) 3))))))
set_option maxRecDepth 100000 in
theorem s_laws_lwBytes : sxF c_laws_lwBytes Try.f72 p_laws_lwBytes = some t_laws_lwBytes := by kernel_rfl
theorem e_laws_lwBytes (xs : Array Value) (w : World) : (callFunc F_laws_lwBytes xs).runT Try.prog w #[] = (.ok (.enter F_laws_lwBytes xs) w, #[]) := ent_of Try.func72 (by kernel_rfl) (by kernel_rfl) xs w
theorem run_laws_lwBytes {S : Nat → Prop} {h : Eng.Heap} {Q : Value → Eng.Heap → Prop} {vs : List Value} (hsh : shOk (resShs p_laws_lwBytes) vs) (hi : Inv S h) (hw : t_laws_lwBytes.wp Try.prog S noLeaf Q vs h []) : CallsH Try.prog S F_laws_lwBytes (argVals p_laws_lwBytes vs) h Q :=
  sxF_ok (cfg := c_laws_lwBytes) tabFWOk mixedFW Try.func72 rfl s_laws_lwBytes e_laws_lwBytes rfl hsh hi hw
/- function 116 -/
def c_spec_l4Draw : Cfg := ⟨tabFW, [], [], [.cell 2 24]⟩
def p_spec_l4Draw : List (Bool × List Sh) := [(false, [.ptr])]
set_option maxRecDepth 100000 in
def t_spec_l4Draw : Tr :=
(.call F_spec_l1Below [(.x (.var (.ptr) 0)), (.x (.cst (.int .i64 12)))] false [(false, [.int .i64])]
(.call F_spec_l1Once [(.x (.var (.ptr) 0)), (.x (.cst (.int .i64 12)))] false [(false, [.bool])]
(.join [.int .i64]
 (.br (.var (.bool) 2)
  (.call F_spec_l1Below [(.x (.var (.ptr) 0)), (.x (.cst (.int .i64 2)))] false [(false, [.int .i64])]
  (.cont 0 [(.ar .add .i64 (.cst (.int .i64 32768)) (.var (.int .i64) 3))]))
  (.cont 0 [(.ar .add .i64 (.cst (.int .i64 1)) (.var (.int .i64) 1))]))
 (.call F_spec_l1Once [(.x (.var (.ptr) 0)), (.x (.cst (.int .i64 15)))] false [(false, [.bool])]
 (.call F_spec_l1Below [(.x (.var (.ptr) 0)), (.x (.cst (.int .i64 14)))] false [(false, [.int .i64])]
 (.call F_spec_l1Some [(.x (.var (.ptr) 0)), (.x (.var (.int .i64) 5))] false [(false, [.slice])]
 (.call F_spec_l1Once [(.x (.var (.ptr) 0)), (.x (.cst (.int .i64 25)))] false [(false, [.bool])]
 (.join [.slice]
  (.br (.var (.bool) 7)
   (.call F_spec_l1Below [(.x (.var (.ptr) 0)), (.x (.cst (.int .i64 2)))] false [(false, [.int .i64])]
   (.mks 5 1 1 [(.int .u8 0)] (.ar .add .i64 (.cst (.int .i64 32768)) (.var (.int .i64) 8)) (.ar .add .i64 (.cst (.int .i64 32768)) (.var (.int .i64) 8))
   (.cont 0 [(.var (.slice) 9)])))
   (.cont 0 [(.var (.slice) 6)]))
  (.ret (.agg [(.it (.var (.bool) 4) (.cst (.int .i64 0)) (.var (.int .i64) 3)), (.var (.slice) 8)]))))))))))
set_option maxRecDepth 100000 in
theorem s_spec_l4Draw : sxF c_spec_l4Draw Try.f116 p_spec_l4Draw = some t_spec_l4Draw := by kernel_rfl
theorem e_spec_l4Draw (xs : Array Value) (w : World) : (callFunc F_spec_l4Draw xs).runT Try.prog w #[] = (.ok (.enter F_spec_l4Draw xs) w, #[]) := ent_of Try.func116 (by kernel_rfl) (by kernel_rfl) xs w
theorem run_spec_l4Draw {S : Nat → Prop} {h : Eng.Heap} {Q : Value → Eng.Heap → Prop} {vs : List Value} (hsh : shOk (resShs p_spec_l4Draw) vs) (hi : Inv S h) (hw : t_spec_l4Draw.wp Try.prog S noLeaf Q vs h []) : CallsH Try.prog S F_spec_l4Draw (argVals p_spec_l4Draw vs) h Q :=
  sxF_ok (cfg := c_spec_l4Draw) tabFWOk mixedFW Try.func116 rfl s_spec_l4Draw e_spec_l4Draw rfl hsh hi hw
/- function 126 -/
def c_spec_l1Once : Cfg := ⟨tabFW, [], [], [.tmp 4]⟩
def p_spec_l1Once : List (Bool × List Sh) := [(false, [.ptr]), (false, [.int .i64])]
set_option maxRecDepth 100000 in
def t_spec_l1Once : Tr :=
(.call F_spec_l1Below [(.x (.var (.ptr) 0)), (.x (.var (.int .i64) 1))] false [(false, [.int .i64])]
(.ret (.x (.cm .eql (.var (.int .i64) 2) (.cst (.int .i64 0))))))
set_option maxRecDepth 100000 in
theorem s_spec_l1Once : sxF c_spec_l1Once Try.f126 p_spec_l1Once = some t_spec_l1Once := by kernel_rfl
theorem e_spec_l1Once (xs : Array Value) (w : World) : (callFunc F_spec_l1Once xs).runT Try.prog w #[] = (.ok (.enter F_spec_l1Once xs) w, #[]) := ent_of Try.func126 (by kernel_rfl) (by kernel_rfl) xs w
theorem run_spec_l1Once {S : Nat → Prop} {h : Eng.Heap} {Q : Value → Eng.Heap → Prop} {vs : List Value} (hsh : shOk (resShs p_spec_l1Once) vs) (hi : Inv S h) (hw : t_spec_l1Once.wp Try.prog S noLeaf Q vs h []) : CallsH Try.prog S F_spec_l1Once (argVals p_spec_l1Once vs) h Q :=
  sxF_ok (cfg := c_spec_l1Once) tabFWOk mixedFW Try.func126 rfl s_spec_l1Once e_spec_l1Once rfl hsh hi hw
end Go.Proofs.Ytchlnichbaoeaaa
