-- printed by a generator of my own (wip/eng/Gen) from the translation
import Derived.Test.YtdcalidppjclpaaEng2
import Derived.Test.YtdcalidppjclpaaChecked
import Derived.Test.YtdcalidppjclpaaNums
set_option linter.unusedVariables false
set_option linter.unusedSimpArgs false
namespace Go.Proofs.Ytdcalidppjclpaa
open Go Go.Eng
def tabBV : List (TypeId × TyD) := [(0, ⟨.oth, 1, 0, [], none, some []⟩),
  (2, ⟨(.int .i64), 1, 8, [.int .i64], some [(1, (.int .i64 0))], none⟩),
  (3, ⟨(.int .i64), 1, 8, [.int .i64], some [(1, (.int .i64 0))], none⟩),
  (4, ⟨.bool, 1, 1, [.bool], some [(1, (.bool false))], none⟩),
  (5, ⟨(.int .u8), 1, 1, [.int .u8], some [(1, (.int .u8 0))], none⟩),
  (22, ⟨(.sl 5), 1, 24, [.slice], some [(1, .nilSl)], none⟩),
  (48, ⟨(.st [(0, 22), (1, 2), (2, 2)]), 3, 40, [.slice, .int .i64, .int .i64], some [(1, .nilSl), (2, (.int .i64 0))], none⟩),
  (50, ⟨(.st [(0, 22), (1, 2), (2, 2)]), 3, 40, [.slice, .int .i64, .int .i64], some [(1, .nilSl), (2, (.int .i64 0))], none⟩)]
set_option maxRecDepth 100000 in
theorem tabBVOk : TabOk Try.prog tabBV := tabOk_of (by kernel_rfl)
theorem mixedBV : Try.prog.follows .mixedOrders = true := by kernel_rfl
/- function 32 -/
def c_laws_szBits : Cfg := ⟨tabBV, [], [], [.tmp 4]⟩
def p_laws_szBits : List (Bool × List Sh) := [(true, [.slice, .int .i64, .int .i64]), (false, [.int .i64])]
set_option maxRecDepth 100000 in
def t_laws_szBits : Tr :=
(.call F_laws_szByteS [(.x (.var (.slice) 0)), (.x (.var (.int .i64) 3))] false [(false, [.int .i64])]
(.lift (.br (.cm .lss (.var (.int .i64) 4) (.cst (.int .i64 0)))
 (.ret (.x (.cst (.int .i64 (-1)))))
 (.ret (.x (.var (.int .i64) 4))))))
set_option maxRecDepth 100000 in
theorem s_laws_szBits : sxF c_laws_szBits Try.f32 p_laws_szBits = some t_laws_szBits := by kernel_rfl
theorem e_laws_szBits (xs : Array Value) (w : World) : (callFunc F_laws_szBits xs).runT Try.prog w #[] = (.ok (.enter F_laws_szBits xs) w, #[]) := ent_of Try.func32 (by kernel_rfl) (by kernel_rfl) xs w
theorem run_laws_szBits {S : Nat → Prop} {h : Eng.Heap} {Q : Value → Eng.Heap → Prop} {vs : List Value} (hsh : shOk (resShs p_laws_szBits) vs) (hi : Inv S h) (hw : t_laws_szBits.wp Try.prog S noLeaf Q vs h []) : CallsH Try.prog S F_laws_szBits (argVals p_laws_szBits vs) h Q :=
  sxF_ok (cfg := c_laws_szBits) tabBVOk mixedBV Try.func32 rfl s_laws_szBits e_laws_szBits rfl hsh hi hw
/- function 34 -/
def c_laws_toBits : Cfg := ⟨tabBV, [], [], [.cell 2 50]⟩
def p_laws_toBits : List (Bool × List Sh) := [(true, [.slice, .int .i64, .int .i64])]
set_option maxRecDepth 100000 in
def t_laws_toBits : Tr :=
(.call F_laws_toByteS [(.x (.var (.slice) 0))] false [(false, [.slice])]
(.ret (.agg [(.var (.slice) 3), (.var (.int .i64) 1), (.var (.int .i64) 2)])))
set_option maxRecDepth 100000 in
theorem s_laws_toBits : sxF c_laws_toBits Try.f34 p_laws_toBits = some t_laws_toBits := by kernel_rfl
theorem e_laws_toBits (xs : Array Value) (w : World) : (callFunc F_laws_toBits xs).runT Try.prog w #[] = (.ok (.enter F_laws_toBits xs) w, #[]) := ent_of Try.func34 (by kernel_rfl) (by kernel_rfl) xs w
theorem run_laws_toBits {S : Nat → Prop} {h : Eng.Heap} {Q : Value → Eng.Heap → Prop} {vs : List Value} (hsh : shOk (resShs p_laws_toBits) vs) (hi : Inv S h) (hw : t_laws_toBits.wp Try.prog S noLeaf Q vs h []) : CallsH Try.prog S F_laws_toBits (argVals p_laws_toBits vs) h Q :=
  sxF_ok (cfg := c_laws_toBits) tabBVOk mixedBV Try.func34 rfl s_laws_toBits e_laws_toBits rfl hsh hi hw
/- function 36 -/
def c_laws_eqBits : Cfg := ⟨tabBV, [], [], [.tmp 4]⟩
def p_laws_eqBits : List (Bool × List Sh) := [(true, [.slice, .int .i64, .int .i64]), (true, [.slice, .int .i64, .int .i64])]
set_option maxRecDepth 100000 in
def t_laws_eqBits : Tr :=
(.call F_laws_eqByteS [(.x (.var (.slice) 0)), (.x (.var (.slice) 3))] false [(false, [.bool])]
(.lift (.br (.nt (.var (.bool) 6))
 (.ret (.x (.cst (.bool false))))
 (.lift (.br (.cm .neq (.var (.int .i64) 1) (.var (.int .i64) 4))
  (.ret (.x (.cst (.bool false))))
  (.lift (.br (.cm .neq (.var (.int .i64) 2) (.var (.int .i64) 5))
   (.ret (.x (.cst (.bool false))))
   (.ret (.x (.cst (.bool true)))))))))))
set_option maxRecDepth 100000 in
theorem s_laws_eqBits : sxF c_laws_eqBits Try.f36 p_laws_eqBits = some t_laws_eqBits := by kernel_rfl
theorem e_laws_eqBits (xs : Array Value) (w : World) : (callFunc F_laws_eqBits xs).runT Try.prog w #[] = (.ok (.enter F_laws_eqBits xs) w, #[]) := ent_of Try.func36 (by kernel_rfl) (by kernel_rfl) xs w
theorem run_laws_eqBits {S : Nat → Prop} {h : Eng.Heap} {Q : Value → Eng.Heap → Prop} {vs : List Value} (hsh : shOk (resShs p_laws_eqBits) vs) (hi : Inv S h) (hw : t_laws_eqBits.wp Try.prog S noLeaf Q vs h []) : CallsH Try.prog S F_laws_eqBits (argVals p_laws_eqBits vs) h Q :=
  sxF_ok (cfg := c_laws_eqBits) tabBVOk mixedBV Try.func36 rfl s_laws_eqBits e_laws_eqBits rfl hsh hi hw
/- function 37 -/
def c_laws_markBits : Cfg := ⟨tabBV, [], [], [.tmp 4]⟩
def p_laws_markBits : List (Bool × List Sh) := [(true, [.slice, .int .i64, .int .i64]), (false, [.int .i64])]
set_option maxRecDepth 100000 in
def t_laws_markBits : Tr :=
(.call F_laws_markByteS [(.x (.var (.slice) 0)), (.x (.var (.int .i64) 3))] false [(false, [.int .i64])]
(.ret (.x (.var (.int .i64) 4))))
set_option maxRecDepth 100000 in
theorem s_laws_markBits : sxF c_laws_markBits Try.f37 p_laws_markBits = some t_laws_markBits := by kernel_rfl
theorem e_laws_markBits (xs : Array Value) (w : World) : (callFunc F_laws_markBits xs).runT Try.prog w #[] = (.ok (.enter F_laws_markBits xs) w, #[]) := ent_of Try.func37 (by kernel_rfl) (by kernel_rfl) xs w
theorem run_laws_markBits {S : Nat → Prop} {h : Eng.Heap} {Q : Value → Eng.Heap → Prop} {vs : List Value} (hsh : shOk (resShs p_laws_markBits) vs) (hi : Inv S h) (hw : t_laws_markBits.wp Try.prog S noLeaf Q vs h []) : CallsH Try.prog S F_laws_markBits (argVals p_laws_markBits vs) h Q :=
  sxF_ok (cfg := c_laws_markBits) tabBVOk mixedBV Try.func37 rfl s_laws_markBits e_laws_markBits rfl hsh hi hw
/- function 38 -/
def c_laws_heldBits : Cfg := ⟨tabBV, [], [], [.tmp 4]⟩
def p_laws_heldBits : List (Bool × List Sh) := [(true, [.slice, .int .i64, .int .i64]), (false, [.int .i64])]
set_option maxRecDepth 100000 in
def t_laws_heldBits : Tr :=
(.call F_laws_heldByteS [(.x (.var (.slice) 0)), (.x (.var (.int .i64) 3))] false [(false, [.int .i64])]
(.lift (.br (.cm .lss (.var (.int .i64) 4) (.cst (.int .i64 0)))
 (.ret (.x (.cst (.int .i64 (-1)))))
 (.ret (.x (.var (.int .i64) 4))))))
set_option maxRecDepth 100000 in
theorem s_laws_heldBits : sxF c_laws_heldBits Try.f38 p_laws_heldBits = some t_laws_heldBits := by kernel_rfl
theorem e_laws_heldBits (xs : Array Value) (w : World) : (callFunc F_laws_heldBits xs).runT Try.prog w #[] = (.ok (.enter F_laws_heldBits xs) w, #[]) := ent_of Try.func38 (by kernel_rfl) (by kernel_rfl) xs w
theorem run_laws_heldBits {S : Nat → Prop} {h : Eng.Heap} {Q : Value → Eng.Heap → Prop} {vs : List Value} (hsh : shOk (resShs p_laws_heldBits) vs) (hi : Inv S h) (hw : t_laws_heldBits.wp Try.prog S noLeaf Q vs h []) : CallsH Try.prog S F_laws_heldBits (argVals p_laws_heldBits vs) h Q :=
  sxF_ok (cfg := c_laws_heldBits) tabBVOk mixedBV Try.func38 rfl s_laws_heldBits e_laws_heldBits rfl hsh hi hw
/- function 65 -/
def c_spec_ValidBits : Cfg := ⟨tabBV, [], [], [.tmp 2]⟩
def p_spec_ValidBits : List (Bool × List Sh) := [(true, [.slice, .int .i64, .int .i64])]
set_option maxRecDepth 100000 in
def t_spec_ValidBits : Tr :=
(.join [.bool, .bool, .bool, .bool]
 (.br (.it (.it (.it (.it (.cm .geq (.var (.int .i64) 1) (.cst (.int .i64 0))) (.cm .leq (.var (.int .i64) 1) (.cst (.int .i64 7))) (.cst (.bool false))) (.it (.cm .eql (.var (.int .i64) 1) (.cst (.int .i64 0))) (.cst (.bool true)) (.cm .gtr (.ln (.var (.slice) 0)) (.cst (.int .i64 0)))) (.cst (.bool false))) (.cm .leq (.ln (.var (.slice) 0)) (.cst (.int .i64 1000000))) (.cst (.bool false))) (.cm .geq (.var (.int .i64) 2) (.cst (.int .i64 0))) (.cst (.bool false)))
  (.call F_spec_l2Most [] false [(false, [.int .i64])]
  (.cont 0 [(.it (.cm .leq (.var (.int .i64) 2) (.var (.int .i64) 3)) (.cm .eql (.ar .rem .i64 (.var (.int .i64) 2) (.cst (.int .i64 8))) (.var (.int .i64) 1)) (.cst (.bool false))), (.cm .leq (.var (.int .i64) 2) (.var (.int .i64) 3)), (.cm .leq (.var (.int .i64) 2) (.var (.int .i64) 3)), (.it (.cm .leq (.var (.int .i64) 2) (.var (.int .i64) 3)) (.cm .eql (.ar .rem .i64 (.var (.int .i64) 2) (.cst (.int .i64 8))) (.var (.int .i64) 1)) (.cst (.bool false)))]))
  (.cont 0 [(.cst (.bool false)), (.cst (.bool false)), (.cst (.bool false)), (.cst (.bool false))]))
 (.ret (.x (.var (.bool) 3))))
set_option maxRecDepth 100000 in
theorem s_spec_ValidBits : sxF c_spec_ValidBits Try.f65 p_spec_ValidBits = some t_spec_ValidBits := by kernel_rfl
theorem e_spec_ValidBits (xs : Array Value) (w : World) : (callFunc F_spec_ValidBits xs).runT Try.prog w #[] = (.ok (.enter F_spec_ValidBits xs) w, #[]) := ent_of Try.func65 (by kernel_rfl) (by kernel_rfl) xs w
theorem run_spec_ValidBits {S : Nat → Prop} {h : Eng.Heap} {Q : Value → Eng.Heap → Prop} {vs : List Value} (hsh : shOk (resShs p_spec_ValidBits) vs) (hi : Inv S h) (hw : t_spec_ValidBits.wp Try.prog S noLeaf Q vs h []) : CallsH Try.prog S F_spec_ValidBits (argVals p_spec_ValidBits vs) h Q :=
  sxF_ok (cfg := c_spec_ValidBits) tabBVOk mixedBV Try.func65 rfl s_spec_ValidBits e_spec_ValidBits rfl hsh hi hw
/- function 67 -/
def c_impl_ValidBits : Cfg := ⟨tabBV, [], [], [.tmp 2]⟩
def p_impl_ValidBits : List (Bool × List Sh) := [(true, [.slice, .int .i64, .int .i64])]
set_option maxRecDepth 100000 in
def t_impl_ValidBits : Tr :=
(.ret (.x (.it (.it (.it (.it (.it (.it (.cm .geq (.var (.int .i64) 1) (.cst (.int .i64 0))) (.cm .leq (.var (.int .i64) 1) (.cst (.int .i64 7))) (.cst (.bool false))) (.it (.cm .gtr (.ln (.var (.slice) 0)) (.cst (.int .i64 0))) (.cst (.bool true)) (.cm .eql (.var (.int .i64) 1) (.cst (.int .i64 0)))) (.cst (.bool false))) (.cm .leq (.ln (.var (.slice) 0)) (.cst (.int .i64 1000000))) (.cst (.bool false))) (.cm .geq (.var (.int .i64) 2) (.cst (.int .i64 0))) (.cst (.bool false))) (.cm .leq (.var (.int .i64) 2) (.cst (.int .i64 34359738368))) (.cst (.bool false))) (.cm .eql (.ar .rem .i64 (.var (.int .i64) 2) (.cst (.int .i64 8))) (.var (.int .i64) 1)) (.cst (.bool false)))))
set_option maxRecDepth 100000 in
theorem s_impl_ValidBits : sxF c_impl_ValidBits Try.f67 p_impl_ValidBits = some t_impl_ValidBits := by kernel_rfl
theorem e_impl_ValidBits (xs : Array Value) (w : World) : (callFunc F_impl_ValidBits xs).runT Try.prog w #[] = (.ok (.enter F_impl_ValidBits xs) w, #[]) := ent_of Try.func67 (by kernel_rfl) (by kernel_rfl) xs w
theorem run_impl_ValidBits {S : Nat → Prop} {h : Eng.Heap} {Q : Value → Eng.Heap → Prop} {vs : List Value} (hsh : shOk (resShs p_impl_ValidBits) vs) (hi : Inv S h) (hw : t_impl_ValidBits.wp Try.prog S noLeaf Q vs h []) : CallsH Try.prog S F_impl_ValidBits (argVals p_impl_ValidBits vs) h Q :=
  sxF_ok (cfg := c_impl_ValidBits) tabBVOk mixedBV Try.func67 rfl s_impl_ValidBits e_impl_ValidBits rfl hsh hi hw
/- function 84 -/
def c_spec_l2Most : Cfg := ⟨tabBV, [], [], [.tmp 0]⟩
def p_spec_l2Most : List (Bool × List Sh) := []
set_option maxRecDepth 100000 in
def t_spec_l2Most : Tr :=
(.ret (.x (.cst (.int .i64 34359738368))))
set_option maxRecDepth 100000 in
theorem s_spec_l2Most : sxF c_spec_l2Most Try.f84 p_spec_l2Most = some t_spec_l2Most := by kernel_rfl
theorem e_spec_l2Most (xs : Array Value) (w : World) : (callFunc F_spec_l2Most xs).runT Try.prog w #[] = (.ok (.enter F_spec_l2Most xs) w, #[]) := ent_of Try.func84 (by kernel_rfl) (by kernel_rfl) xs w
theorem run_spec_l2Most {S : Nat → Prop} {h : Eng.Heap} {Q : Value → Eng.Heap → Prop} {vs : List Value} (hsh : shOk (resShs p_spec_l2Most) vs) (hi : Inv S h) (hw : t_spec_l2Most.wp Try.prog S noLeaf Q vs h []) : CallsH Try.prog S F_spec_l2Most (argVals p_spec_l2Most vs) h Q :=
  sxF_ok (cfg := c_spec_l2Most) tabBVOk mixedBV Try.func84 rfl s_spec_l2Most e_spec_l2Most rfl hsh hi hw
end Go.Proofs.Ytdcalidppjclpaa
