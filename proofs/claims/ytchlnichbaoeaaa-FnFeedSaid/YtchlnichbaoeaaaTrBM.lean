-- printed by a generator of my own (wip/eng/Gen) from the translation
import Derived.Test.YtchlnichbaoeaaaEng2
import Derived.Test.YtchlnichbaoeaaaChecked
import Derived.Test.YtchlnichbaoeaaaNums
set_option linter.unusedVariables false
set_option linter.unusedSimpArgs false
namespace Go.Proofs.Ytchlnichbaoeaaa
open Go Go.Eng
def tabBM : List (TypeId × TyD) := [(0, ⟨.oth, 1, 0, [], none, some []⟩),
  (2, ⟨(.int .i64), 1, 8, [.int .i64], some [(1, (.int .i64 0))], none⟩),
  (3, ⟨(.int .i64), 1, 8, [.int .i64], some [(1, (.int .i64 0))], none⟩),
  (4, ⟨.bool, 1, 1, [.bool], some [(1, (.bool false))], none⟩),
  (5, ⟨(.int .u8), 1, 1, [.int .u8], some [(1, (.int .u8 0))], none⟩),
  (22, ⟨(.sl 5), 1, 24, [.slice], some [(1, .nilSl)], none⟩),
  (46, ⟨(.st [(0, 22), (1, 2), (2, 2)]), 3, 40, [.slice, .int .i64, .int .i64], some [(1, .nilSl), (2, (.int .i64 0))], none⟩),
  (48, ⟨(.st [(0, 22), (1, 2), (2, 2)]), 3, 40, [.slice, .int .i64, .int .i64], some [(1, .nilSl), (2, (.int .i64 0))], none⟩),
  (116, ⟨(.st [(0, 22), (1, 2), (2, 2)]), 3, 40, [.slice, .int .i64, .int .i64], some [(1, .nilSl), (2, (.int .i64 0))], none⟩),
  (154, ⟨(.ptr 116), 1, 8, [.ptr], some [(1, .nilPtr)], none⟩)]
set_option maxRecDepth 100000 in
theorem tabBMOk : TabOk Try.prog tabBM := tabOk_of (by kernel_rfl)
theorem mixedBM : Try.prog.follows .mixedOrders = true := by kernel_rfl
/- function 33 -/
def c_laws_szBits : Cfg := ⟨tabBM, [], [], [.tmp 4]⟩
def p_laws_szBits : List (Bool × List Sh) := [(true, [.slice, .int .i64, .int .i64]), (false, [.int .i64])]
set_option maxRecDepth 100000 in
def t_laws_szBits : Tr :=
(.call F_laws_szByteS [(.x (.var (.slice) 0)), (.x (.var (.int .i64) 3))] false [(false, [.int .i64])]
(.lift (.br (.cm .lss (.var (.int .i64) 4) (.cst (.int .i64 0)))
 (.ret (.x (.cst (.int .i64 (-1)))))
 (.ret (.x (.var (.int .i64) 4))))))
set_option maxRecDepth 100000 in
theorem s_laws_szBits : sxF c_laws_szBits Try.f33 p_laws_szBits = some t_laws_szBits := by kernel_rfl
theorem e_laws_szBits (xs : Array Value) (w : World) : (callFunc F_laws_szBits xs).runT Try.prog w #[] = (.ok (.enter F_laws_szBits xs) w, #[]) := ent_of Try.func33 (by kernel_rfl) (by kernel_rfl) xs w
theorem run_laws_szBits {S : Nat → Prop} {h : Eng.Heap} {Q : Value → Eng.Heap → Prop} {vs : List Value} (hsh : shOk (resShs p_laws_szBits) vs) (hi : Inv S h) (hw : t_laws_szBits.wp Try.prog S noLeaf Q vs h []) : CallsH Try.prog S F_laws_szBits (argVals p_laws_szBits vs) h Q :=
  sxF_ok (cfg := c_laws_szBits) tabBMOk mixedBM Try.func33 rfl s_laws_szBits e_laws_szBits rfl hsh hi hw
/- function 35 -/
def c_laws_toBits : Cfg := ⟨tabBM, [], [], [.cell 2 48]⟩
def p_laws_toBits : List (Bool × List Sh) := [(true, [.slice, .int .i64, .int .i64])]
set_option maxRecDepth 100000 in
def t_laws_toBits : Tr :=
(.call F_laws_toByteS [(.x (.var (.slice) 0))] false [(false, [.slice])]
(.ret (.agg [(.var (.slice) 3), (.var (.int .i64) 1), (.var (.int .i64) 2)])))
set_option maxRecDepth 100000 in
theorem s_laws_toBits : sxF c_laws_toBits Try.f35 p_laws_toBits = some t_laws_toBits := by kernel_rfl
theorem e_laws_toBits (xs : Array Value) (w : World) : (callFunc F_laws_toBits xs).runT Try.prog w #[] = (.ok (.enter F_laws_toBits xs) w, #[]) := ent_of Try.func35 (by kernel_rfl) (by kernel_rfl) xs w
theorem run_laws_toBits {S : Nat → Prop} {h : Eng.Heap} {Q : Value → Eng.Heap → Prop} {vs : List Value} (hsh : shOk (resShs p_laws_toBits) vs) (hi : Inv S h) (hw : t_laws_toBits.wp Try.prog S noLeaf Q vs h []) : CallsH Try.prog S F_laws_toBits (argVals p_laws_toBits vs) h Q :=
  sxF_ok (cfg := c_laws_toBits) tabBMOk mixedBM Try.func35 rfl s_laws_toBits e_laws_toBits rfl hsh hi hw
/- function 37 -/
def c_laws_eqBits : Cfg := ⟨tabBM, [], [], [.tmp 4]⟩
def p_laws_eqBits : List (Bool × List Sh) := [(true, [.slice, .int .i64, .int .i64]), (true, [.slice, .int .i64, .int .i64])]
set_option maxRecDepth 100000 in
def t_laws_eqBits : Tr :=
(.call F_laws_eqByteS [(.x (.var (.slice) 0)), (.x (.var (.slice) 3))] false [(false, [.bool])]
(.lift (.br (.nt (.var (.bool) 6))
 (.ret (.x (.cst (.bool false))))
 (.lift (.br (.cm .neq (.var (.int .i64) 1) (.var (.int .i64) 4))
  (.ret (.x (.cst (.bool false))))
  (.lift (.br (.cm .neq (.var (.int .i64) 2) (.var (.int .i64) 5))
   (.ret (.x (.cst (.bool false))))
   (.ret (.x (.cst (.bool true)))))))))))
set_option maxRecDepth 100000 in
theorem s_laws_eqBits : sxF c_laws_eqBits Try.f37 p_laws_eqBits = some t_laws_eqBits := by kernel_rfl
theorem e_laws_eqBits (xs : Array Value) (w : World) : (callFunc F_laws_eqBits xs).runT Try.prog w #[] = (.ok (.enter F_laws_eqBits xs) w, #[]) := ent_of Try.func37 (by kernel_rfl) (by kernel_rfl) xs w
theorem run_laws_eqBits {S : Nat → Prop} {h : Eng.Heap} {Q : Value → Eng.Heap → Prop} {vs : List Value} (hsh : shOk (resShs p_laws_eqBits) vs) (hi : Inv S h) (hw : t_laws_eqBits.wp Try.prog S noLeaf Q vs h []) : CallsH Try.prog S F_laws_eqBits (argVals p_laws_eqBits vs) h Q :=
  sxF_ok (cfg := c_laws_eqBits) tabBMOk mixedBM Try.func37 rfl s_laws_eqBits e_laws_eqBits rfl hsh hi hw
/- function 38 -/
def c_laws_markBits : Cfg := ⟨tabBM, [], [], [.tmp 4]⟩
def p_laws_markBits : List (Bool × List Sh) := [(true, [.slice, .int .i64, .int .i64]), (false, [.int .i64])]
set_option maxRecDepth 100000 in
def t_laws_markBits : Tr :=
(.call F_laws_markByteS [(.x (.var (.slice) 0)), (.x (.var (.int .i64) 3))] false [(false, [.int .i64])]
(.ret (.x (.var (.int .i64) 4))))
set_option maxRecDepth 100000 in
theorem s_laws_markBits : sxF c_laws_markBits Try.f38 p_laws_markBits = some t_laws_markBits := by kernel_rfl
theorem e_laws_markBits (xs : Array Value) (w : World) : (callFunc F_laws_markBits xs).runT Try.prog w #[] = (.ok (.enter F_laws_markBits xs) w, #[]) := ent_of Try.func38 (by kernel_rfl) (by kernel_rfl) xs w
theorem run_laws_markBits {S : Nat → Prop} {h : Eng.Heap} {Q : Value → Eng.Heap → Prop} {vs : List Value} (hsh : shOk (resShs p_laws_markBits) vs) (hi : Inv S h) (hw : t_laws_markBits.wp Try.prog S noLeaf Q vs h []) : CallsH Try.prog S F_laws_markBits (argVals p_laws_markBits vs) h Q :=
  sxF_ok (cfg := c_laws_markBits) tabBMOk mixedBM Try.func38 rfl s_laws_markBits e_laws_markBits rfl hsh hi hw
/- function 39 -/
def c_laws_heldBits : Cfg := ⟨tabBM, [], [], [.tmp 4]⟩
def p_laws_heldBits : List (Bool × List Sh) := [(true, [.slice, .int .i64, .int .i64]), (false, [.int .i64])]
set_option maxRecDepth 100000 in
def t_laws_heldBits : Tr :=
(.call F_laws_heldByteS [(.x (.var (.slice) 0)), (.x (.var (.int .i64) 3))] false [(false, [.int .i64])]
(.lift (.br (.cm .lss (.var (.int .i64) 4) (.cst (.int .i64 0)))
 (.ret (.x (.cst (.int .i64 (-1)))))
 (.ret (.x (.var (.int .i64) 4))))))
set_option maxRecDepth 100000 in
theorem s_laws_heldBits : sxF c_laws_heldBits Try.f39 p_laws_heldBits = some t_laws_heldBits := by kernel_rfl
theorem e_laws_heldBits (xs : Array Value) (w : World) : (callFunc F_laws_heldBits xs).runT Try.prog w #[] = (.ok (.enter F_laws_heldBits xs) w, #[]) := ent_of Try.func39 (by kernel_rfl) (by kernel_rfl) xs w
theorem run_laws_heldBits {S : Nat → Prop} {h : Eng.Heap} {Q : Value → Eng.Heap → Prop} {vs : List Value} (hsh : shOk (resShs p_laws_heldBits) vs) (hi : Inv S h) (hw : t_laws_heldBits.wp Try.prog S noLeaf Q vs h []) : CallsH Try.prog S F_laws_heldBits (argVals p_laws_heldBits vs) h Q :=
  sxF_ok (cfg := c_laws_heldBits) tabBMOk mixedBM Try.func39 rfl s_laws_heldBits e_laws_heldBits rfl hsh hi hw
/- function 76 -/
def c_spec_ValidBits : Cfg := ⟨tabBM, [], [], [.tmp 2]⟩
def p_spec_ValidBits : List (Bool × List Sh) := [(true, [.slice, .int .i64, .int .i64])]
set_option maxRecDepth 100000 in
def t_spec_ValidBits : Tr :=
(.join [.bool, .bool, .bool, .bool]
 (.br (.it (.it (.it (.it (.cm .geq (.var (.int .i64) 1) (.cst (.int .i64 0))) (.cm .leq (.var (.int .i64) 1) (.cst (.int .i64 7))) (.cst (.bool false))) (.it (.cm .eql (.var (.int .i64) 1) (.cst (.int .i64 0))) (.cst (.bool true)) (.cm .gtr (.ln (.var (.slice) 0)) (.cst (.int .i64 0)))) (.cst (.bool false))) (.cm .leq (.ln (.var (.slice) 0)) (.cst (.int .i64 1000000))) (.cst (.bool false))) (.cm .geq (.var (.int .i64) 2) (.cst (.int .i64 0))) (.cst (.bool false)))
  (.call F_spec_l2Most [] false [(false, [.int .i64])]
  (.cont 0 [(.it (.cm .leq (.var (.int .i64) 2) (.var (.int .i64) 3)) (.cm .eql (.ar .rem .i64 (.var (.int .i64) 2) (.cst (.int .i64 8))) (.var (.int .i64) 1)) (.cst (.bool false))), (.cm .leq (.var (.int .i64) 2) (.var (.int .i64) 3)), (.cm .leq (.var (.int .i64) 2) (.var (.int .i64) 3)), (.it (.cm .leq (.var (.int .i64) 2) (.var (.int .i64) 3)) (.cm .eql (.ar .rem .i64 (.var (.int .i64) 2) (.cst (.int .i64 8))) (.var (.int .i64) 1)) (.cst (.bool false)))]))
  (.cont 0 [(.cst (.bool false)), (.cst (.bool false)), (.cst (.bool false)), (.cst (.bool false))]))
 (.ret (.x (.var (.bool) 3))))
set_option maxRecDepth 100000 in
theorem s_spec_ValidBits : sxF c_spec_ValidBits Try.f76 p_spec_ValidBits = some t_spec_ValidBits := by kernel_rfl
theorem e_spec_ValidBits (xs : Array Value) (w : World) : (callFunc F_spec_ValidBits xs).runT Try.prog w #[] = (.ok (.enter F_spec_ValidBits xs) w, #[]) := ent_of Try.func76 (by kernel_rfl) (by kernel_rfl) xs w
theorem run_spec_ValidBits {S : Nat → Prop} {h : Eng.Heap} {Q : Value → Eng.Heap → Prop} {vs : List Value} (hsh : shOk (resShs p_spec_ValidBits) vs) (hi : Inv S h) (hw : t_spec_ValidBits.wp Try.prog S noLeaf Q vs h []) : CallsH Try.prog S F_spec_ValidBits (argVals p_spec_ValidBits vs) h Q :=
  sxF_ok (cfg := c_spec_ValidBits) tabBMOk mixedBM Try.func76 rfl s_spec_ValidBits e_spec_ValidBits rfl hsh hi hw
/- function 78 -/
def c_impl_ValidBits : Cfg := ⟨tabBM, [], [], [.tmp 2]⟩
def p_impl_ValidBits : List (Bool × List Sh) := [(true, [.slice, .int .i64, .int .i64])]
set_option maxRecDepth 100000 in
def t_impl_ValidBits : Tr :=
(.ret (.x (.it (.it (.it (.it (.it (.it (.cm .geq (.var (.int .i64) 1) (.cst (.int .i64 0))) (.cm .leq (.var (.int .i64) 1) (.cst (.int .i64 7))) (.cst (.bool false))) (.it (.cm .gtr (.ln (.var (.slice) 0)) (.cst (.int .i64 0))) (.cst (.bool true)) (.cm .eql (.var (.int .i64) 1) (.cst (.int .i64 0)))) (.cst (.bool false))) (.cm .leq (.ln (.var (.slice) 0)) (.cst (.int .i64 1000000))) (.cst (.bool false))) (.cm .geq (.var (.int .i64) 2) (.cst (.int .i64 0))) (.cst (.bool false))) (.cm .leq (.var (.int .i64) 2) (.cst (.int .i64 34359738368))) (.cst (.bool false))) (.cm .eql (.ar .rem .i64 (.var (.int .i64) 2) (.cst (.int .i64 8))) (.var (.int .i64) 1)) (.cst (.bool false)))))
set_option maxRecDepth 100000 in
theorem s_impl_ValidBits : sxF c_impl_ValidBits Try.f78 p_impl_ValidBits = some t_impl_ValidBits := by kernel_rfl
theorem e_impl_ValidBits (xs : Array Value) (w : World) : (callFunc F_impl_ValidBits xs).runT Try.prog w #[] = (.ok (.enter F_impl_ValidBits xs) w, #[]) := ent_of Try.func78 (by kernel_rfl) (by kernel_rfl) xs w
theorem run_impl_ValidBits {S : Nat → Prop} {h : Eng.Heap} {Q : Value → Eng.Heap → Prop} {vs : List Value} (hsh : shOk (resShs p_impl_ValidBits) vs) (hi : Inv S h) (hw : t_impl_ValidBits.wp Try.prog S noLeaf Q vs h []) : CallsH Try.prog S F_impl_ValidBits (argVals p_impl_ValidBits vs) h Q :=
  sxF_ok (cfg := c_impl_ValidBits) tabBMOk mixedBM Try.func78 rfl s_impl_ValidBits e_impl_ValidBits rfl hsh hi hw
/- function 92 -/
def c_spec_l2Has : Cfg := ⟨tabBM, [], [], [.tmp 4]⟩
def p_spec_l2Has : List (Bool × List Sh) := [(true, [.slice, .int .i64, .int .i64]), (false, [.int .i64])]
set_option maxRecDepth 100000 in
def t_spec_l2Has : Tr :=
(.join [.bool, .bool]
 (.br (.cm .leq (.var (.int .i64) 3) (.ar .sub .i64 (.ar .mul .i64 (.cst (.int .i64 8)) (.ln (.var (.slice) 0))) (.var (.int .i64) 1)))
  (.call F_spec_l2Most [] false [(false, [.int .i64])]
  (.cont 0 [(.cm .leq (.ar .add .i64 (.var (.int .i64) 2) (.var (.int .i64) 3)) (.var (.int .i64) 4)), (.cm .leq (.ar .add .i64 (.var (.int .i64) 2) (.var (.int .i64) 3)) (.var (.int .i64) 4))]))
  (.cont 0 [(.cst (.bool false)), (.cst (.bool false))]))
 (.ret (.x (.var (.bool) 4))))
set_option maxRecDepth 100000 in
theorem s_spec_l2Has : sxF c_spec_l2Has Try.f92 p_spec_l2Has = some t_spec_l2Has := by kernel_rfl
theorem e_spec_l2Has (xs : Array Value) (w : World) : (callFunc F_spec_l2Has xs).runT Try.prog w #[] = (.ok (.enter F_spec_l2Has xs) w, #[]) := ent_of Try.func92 (by kernel_rfl) (by kernel_rfl) xs w
theorem run_spec_l2Has {S : Nat → Prop} {h : Eng.Heap} {Q : Value → Eng.Heap → Prop} {vs : List Value} (hsh : shOk (resShs p_spec_l2Has) vs) (hi : Inv S h) (hw : t_spec_l2Has.wp Try.prog S noLeaf Q vs h []) : CallsH Try.prog S F_spec_l2Has (argVals p_spec_l2Has vs) h Q :=
  sxF_ok (cfg := c_spec_l2Has) tabBMOk mixedBM Try.func92 rfl s_spec_l2Has e_spec_l2Has rfl hsh hi hw
/- function 93 -/
def c_spec_l2Copy : Cfg := ⟨tabBM, [], [], [.cell 2 48]⟩
def p_spec_l2Copy : List (Bool × List Sh) := [(true, [.slice, .int .i64, .int .i64])]
set_option maxRecDepth 100000 in
def t_spec_l2Copy : Tr :=
(.hsl 5 0 []
(.app 5 1 1 [(.int .u8 0)] (.var (.slice) 3) (.var (.slice) 0)
(.ret (.agg [(.var (.slice) 4), (.var (.int .i64) 1), (.var (.int .i64) 2)]))))
set_option maxRecDepth 100000 in
theorem s_spec_l2Copy : sxF c_spec_l2Copy Try.f93 p_spec_l2Copy = some t_spec_l2Copy := by kernel_rfl
theorem e_spec_l2Copy (xs : Array Value) (w : World) : (callFunc F_spec_l2Copy xs).runT Try.prog w #[] = (.ok (.enter F_spec_l2Copy xs) w, #[]) := ent_of Try.func93 (by kernel_rfl) (by kernel_rfl) xs w
theorem run_spec_l2Copy {S : Nat → Prop} {h : Eng.Heap} {Q : Value → Eng.Heap → Prop} {vs : List Value} (hsh : shOk (resShs p_spec_l2Copy) vs) (hi : Inv S h) (hw : t_spec_l2Copy.wp Try.prog S noLeaf Q vs h []) : CallsH Try.prog S F_spec_l2Copy (argVals p_spec_l2Copy vs) h Q :=
  sxF_ok (cfg := c_spec_l2Copy) tabBMOk mixedBM Try.func93 rfl s_spec_l2Copy e_spec_l2Copy rfl hsh hi hw
/- function 94 -/
def c_spec_l2Skip : Cfg := ⟨tabBM, [], [], [.cell 4 48]⟩
def p_spec_l2Skip : List (Bool × List Sh) := [(true, [.slice, .int .i64, .int .i64]), (false, [.int .i64])]
set_option maxRecDepth 100000 in
def t_spec_l2Skip : Tr :=
(.need (.cm .leq (.cst (.int .i64 0)) (.ar .quo .i64 (.ar .add .i64 (.var (.int .i64) 1) (.var (.int .i64) 3)) (.cst (.int .i64 8))))
(.need (.cm .leq (.ar .quo .i64 (.ar .add .i64 (.var (.int .i64) 1) (.var (.int .i64) 3)) (.cst (.int .i64 8))) (.ln (.var (.slice) 0)))
(.hsl 5 0 []
(.app 5 1 1 [(.int .u8 0)] (.var (.slice) 4) (.sub 1 (.var (.slice) 0) (.ar .quo .i64 (.ar .add .i64 (.var (.int .i64) 1) (.var (.int .i64) 3)) (.cst (.int .i64 8))) .nl .nl)
(.ret (.agg [(.var (.slice) 5), (.ar .rem .i64 (.ar .add .i64 (.var (.int .i64) 1) (.var (.int .i64) 3)) (.cst (.int .i64 8))), (.ar .add .i64 (.var (.int .i64) 2) (.var (.int .i64) 3))]))))))
set_option maxRecDepth 100000 in
theorem s_spec_l2Skip : sxF c_spec_l2Skip Try.f94 p_spec_l2Skip = some t_spec_l2Skip := by kernel_rfl
theorem e_spec_l2Skip (xs : Array Value) (w : World) : (callFunc F_spec_l2Skip xs).runT Try.prog w #[] = (.ok (.enter F_spec_l2Skip xs) w, #[]) := ent_of Try.func94 (by kernel_rfl) (by kernel_rfl) xs w
theorem run_spec_l2Skip {S : Nat → Prop} {h : Eng.Heap} {Q : Value → Eng.Heap → Prop} {vs : List Value} (hsh : shOk (resShs p_spec_l2Skip) vs) (hi : Inv S h) (hw : t_spec_l2Skip.wp Try.prog S noLeaf Q vs h []) : CallsH Try.prog S F_spec_l2Skip (argVals p_spec_l2Skip vs) h Q :=
  sxF_ok (cfg := c_spec_l2Skip) tabBMOk mixedBM Try.func94 rfl s_spec_l2Skip e_spec_l2Skip rfl hsh hi hw
/- function 95 -/
def c_impl_sourceOf : Cfg := ⟨tabBM, [], [], [.cell 2 116]⟩
def p_impl_sourceOf : List (Bool × List Sh) := [(true, [.slice, .int .i64, .int .i64])]
set_option maxRecDepth 100000 in
def t_impl_sourceOf : Tr :=
(.hsl 5 0 []
(.app 5 1 1 [(.int .u8 0)] (.var (.slice) 3) (.var (.slice) 0)
(.ret (.agg [(.var (.slice) 4), (.var (.int .i64) 1), (.var (.int .i64) 2)]))))
set_option maxRecDepth 100000 in
theorem s_impl_sourceOf : sxF c_impl_sourceOf Try.f95 p_impl_sourceOf = some t_impl_sourceOf := by kernel_rfl
theorem e_impl_sourceOf (xs : Array Value) (w : World) : (callFunc F_impl_sourceOf xs).runT Try.prog w #[] = (.ok (.enter F_impl_sourceOf xs) w, #[]) := ent_of Try.func95 (by kernel_rfl) (by kernel_rfl) xs w
theorem run_impl_sourceOf {S : Nat → Prop} {h : Eng.Heap} {Q : Value → Eng.Heap → Prop} {vs : List Value} (hsh : shOk (resShs p_impl_sourceOf) vs) (hi : Inv S h) (hw : t_impl_sourceOf.wp Try.prog S noLeaf Q vs h []) : CallsH Try.prog S F_impl_sourceOf (argVals p_impl_sourceOf vs) h Q :=
  sxF_ok (cfg := c_impl_sourceOf) tabBMOk mixedBM Try.func95 rfl s_impl_sourceOf e_impl_sourceOf rfl hsh hi hw
/- function 96 -/
def c_impl_source__left : Cfg := ⟨tabBM, [], [], [.tmp 2]⟩
def p_impl_source__left : List (Bool × List Sh) := [(false, [.ptr])]
set_option maxRecDepth 100000 in
def t_impl_source__left : Tr :=
(.need (.nt (.nn (.var (.ptr) 0)))
(.load (.fld (.nz (.var (.ptr) 0)) 0) [.slice]
(.need (.nt (.nn (.var (.ptr) 0)))
(.load (.fld (.nz (.var (.ptr) 0)) 1) [.int .i64]
(.need (.nt (.nn (.var (.ptr) 0)))
(.load (.fld (.nz (.var (.ptr) 0)) 2) [.int .i64]
(.ret (.x (.mn (.ar .sub .i64 (.ar .mul .i64 (.cst (.int .i64 8)) (.ln (.var (.slice) 1))) (.var (.int .i64) 2)) (.ar .sub .i64 (.cst (.int .i64 34359738368)) (.var (.int .i64) 3)))))))))))
set_option maxRecDepth 100000 in
theorem s_impl_source__left : sxF c_impl_source__left Try.f96 p_impl_source__left = some t_impl_source__left := by kernel_rfl
theorem e_impl_source__left (xs : Array Value) (w : World) : (callFunc F_impl_source__left xs).runT Try.prog w #[] = (.ok (.enter F_impl_source__left xs) w, #[]) := ent_of Try.func96 (by kernel_rfl) (by kernel_rfl) xs w
theorem run_impl_source__left {S : Nat → Prop} {h : Eng.Heap} {Q : Value → Eng.Heap → Prop} {vs : List Value} (hsh : shOk (resShs p_impl_source__left) vs) (hi : Inv S h) (hw : t_impl_source__left.wp Try.prog S noLeaf Q vs h []) : CallsH Try.prog S F_impl_source__left (argVals p_impl_source__left vs) h Q :=
  sxF_ok (cfg := c_impl_source__left) tabBMOk mixedBM Try.func96 rfl s_impl_source__left e_impl_source__left rfl hsh hi hw
/- function 97 -/
def c_impl_source__skip : Cfg := ⟨tabBM, [], [], []⟩
def p_impl_source__skip : List (Bool × List Sh) := [(false, [.ptr]), (false, [.int .i64])]
set_option maxRecDepth 100000 in
def t_impl_source__skip : Tr :=
(.need (.nt (.nn (.var (.ptr) 0)))
(.load (.fld (.nz (.var (.ptr) 0)) 2) [.int .i64]
(.need (.nt (.nn (.var (.ptr) 0)))
(.hsto (.fld (.nz (.var (.ptr) 0)) 2) [(.ar .add .i64 (.var (.int .i64) 2) (.var (.int .i64) 1))]
(.need (.nt (.nn (.var (.ptr) 0)))
(.load (.fld (.nz (.var (.ptr) 0)) 1) [.int .i64]
(.need (.nt (.nn (.var (.ptr) 0)))
(.hsto (.fld (.nz (.var (.ptr) 0)) 1) [(.ar .add .i64 (.var (.int .i64) 3) (.var (.int .i64) 1))]
(.need (.nt (.nn (.var (.ptr) 0)))
(.load (.fld (.nz (.var (.ptr) 0)) 0) [.slice]
(.need (.nt (.nn (.var (.ptr) 0)))
(.load (.fld (.nz (.var (.ptr) 0)) 1) [.int .i64]
(.need (.cm .leq (.cst (.int .i64 0)) (.ar .quo .i64 (.var (.int .i64) 5) (.cst (.int .i64 8))))
(.need (.cm .leq (.ar .quo .i64 (.var (.int .i64) 5) (.cst (.int .i64 8))) (.ln (.var (.slice) 4)))
(.need (.nt (.nn (.var (.ptr) 0)))
(.hsto (.fld (.nz (.var (.ptr) 0)) 0) [(.sub 1 (.var (.slice) 4) (.ar .quo .i64 (.var (.int .i64) 5) (.cst (.int .i64 8))) .nl .nl)]
(.need (.nt (.nn (.var (.ptr) 0)))
(.load (.fld (.nz (.var (.ptr) 0)) 1) [.int .i64]
(.need (.nt (.nn (.var (.ptr) 0)))
(.hsto (.fld (.nz (.var (.ptr) 0)) 1) [(.ar .rem .i64 (.var (.int .i64) 6) (.cst (.int .i64 8)))]
(.ret (.tup []))))))))))))))))))))))
set_option maxRecDepth 100000 in
theorem s_impl_source__skip : sxF c_impl_source__skip Try.f97 p_impl_source__skip = some t_impl_source__skip := by kernel_rfl
theorem e_impl_source__skip (xs : Array Value) (w : World) : (callFunc F_impl_source__skip xs).runT Try.prog w #[] = (.ok (.enter F_impl_source__skip xs) w, #[]) := ent_of Try.func97 (by kernel_rfl) (by kernel_rfl) xs w
theorem run_impl_source__skip {S : Nat → Prop} {h : Eng.Heap} {Q : Value → Eng.Heap → Prop} {vs : List Value} (hsh : shOk (resShs p_impl_source__skip) vs) (hi : Inv S h) (hw : t_impl_source__skip.wp Try.prog S noLeaf Q vs h []) : CallsH Try.prog S F_impl_source__skip (argVals p_impl_source__skip vs) h Q :=
  sxF_ok (cfg := c_impl_source__skip) tabBMOk mixedBM Try.func97 rfl s_impl_source__skip e_impl_source__skip rfl hsh hi hw
/- function 98 -/
def c_impl_source__bits : Cfg := ⟨tabBM, [], [], [.cell 2 48]⟩
def p_impl_source__bits : List (Bool × List Sh) := [(true, [.slice, .int .i64, .int .i64])]
set_option maxRecDepth 100000 in
def t_impl_source__bits : Tr :=
(.ret (.agg [(.var (.slice) 0), (.var (.int .i64) 1), (.var (.int .i64) 2)]))
set_option maxRecDepth 100000 in
theorem s_impl_source__bits : sxF c_impl_source__bits Try.f98 p_impl_source__bits = some t_impl_source__bits := by kernel_rfl
theorem e_impl_source__bits (xs : Array Value) (w : World) : (callFunc F_impl_source__bits xs).runT Try.prog w #[] = (.ok (.enter F_impl_source__bits xs) w, #[]) := ent_of Try.func98 (by kernel_rfl) (by kernel_rfl) xs w
theorem run_impl_source__bits {S : Nat → Prop} {h : Eng.Heap} {Q : Value → Eng.Heap → Prop} {vs : List Value} (hsh : shOk (resShs p_impl_source__bits) vs) (hi : Inv S h) (hw : t_impl_source__bits.wp Try.prog S noLeaf Q vs h []) : CallsH Try.prog S F_impl_source__bits (argVals p_impl_source__bits vs) h Q :=
  sxF_ok (cfg := c_impl_source__bits) tabBMOk mixedBM Try.func98 rfl s_impl_source__bits e_impl_source__bits rfl hsh hi hw
/- function 121 -/
def c_spec_l2Most : Cfg := ⟨tabBM, [], [], [.tmp 0]⟩
def p_spec_l2Most : List (Bool × List Sh) := []
set_option maxRecDepth 100000 in
def t_spec_l2Most : Tr :=
(.ret (.x (.cst (.int .i64 34359738368))))
set_option maxRecDepth 100000 in
theorem s_spec_l2Most : sxF c_spec_l2Most Try.f121 p_spec_l2Most = some t_spec_l2Most := by kernel_rfl
theorem e_spec_l2Most (xs : Array Value) (w : World) : (callFunc F_spec_l2Most xs).runT Try.prog w #[] = (.ok (.enter F_spec_l2Most xs) w, #[]) := ent_of Try.func121 (by kernel_rfl) (by kernel_rfl) xs w
theorem run_spec_l2Most {S : Nat → Prop} {h : Eng.Heap} {Q : Value → Eng.Heap → Prop} {vs : List Value} (hsh : shOk (resShs p_spec_l2Most) vs) (hi : Inv S h) (hw : t_spec_l2Most.wp Try.prog S noLeaf Q vs h []) : CallsH Try.prog S F_spec_l2Most (argVals p_spec_l2Most vs) h Q :=
  sxF_ok (cfg := c_spec_l2Most) tabBMOk mixedBM Try.func121 rfl s_spec_l2Most e_spec_l2Most rfl hsh hi hw
end Go.Proofs.Ytchlnichbaoeaaa
