import Derived.Test.YtmnialmphlbmaaaKParts
set_option linter.unusedVariables false
set_option linter.unusedSimpArgs false
namespace Go.Proofs.Ytmnialmphlbmaaa
open Go Go.Eng Go.Conc Go.RowKit Go.Conc.Lib Go.ConcR.Gen
open Go.ConcR (KK wgBlock WgAt stA smA rd wr DC0 Payload)

def allP : List (Nat × Sh) := [(0, .slice), (3, .addr), (7, .addr), (8, .slice), (9, .addr), (22, .int .i64), (23, .int .i64)]
def envP (da : Value) (fb sb bS wg n j : Nat) : List Value := [da, .pointer (some ⟨fb, 0, none⟩), .pointer (some ⟨sb, 0, none⟩), .slice (some ⟨bS, 0, none⟩) n n, .pointer (some ⟨wg, 0, none⟩), .int .i64 n, .int .i64 j]

/-- The slots at the loop's head. -/
structure AtL (a : Act) (da : Value) (fb sb bS wg n j : Nat) : Prop where
  sz : a.tmps.size = 47
  df : a.defers = []
  s0 : a.tmps.getD 0 undef = da
  s3 : a.tmps.getD 3 undef = .pointer (some ⟨fb, 0, none⟩)
  s7 : a.tmps.getD 7 undef = .pointer (some ⟨sb, 0, none⟩)
  s8 : a.tmps.getD 8 undef = .slice (some ⟨bS, 0, none⟩) n n
  s9 : a.tmps.getD 9 undef = .pointer (some ⟨wg, 0, none⟩)
  s22 : a.tmps.getD 22 undef = .int .i64 n
  s23 : a.tmps.getD 23 undef = .int .i64 j

theorem AtL.slots {a : Act} {x : Option Addr} {l c fb sb bS wg n j : Nat} (A : AtL a (.slice x l c) fb sb bS wg n j) : slotsAre a allP (envP (.slice x l c) fb sb bS wg n j) :=
  ⟨A.s0, rfl, A.s3, rfl, A.s7, rfl, A.s8, rfl, A.s9, rfl, A.s22, rfl, A.s23, rfl, trivial⟩

theorem put_getD (a : Act) (d i : Nat) (v : Value) (hd : d < a.tmps.size) : (a.put (some d) v).tmps.getD i undef = if i = d then v else a.tmps.getD i undef := by
  by_cases e : i = d
  · subst e; simp [Act.put, Array.getD_eq_getD_getElem?, hd]
  · simp only [Act.put, Array.getD_eq_getD_getElem?, Array.getElem?_setIfInBounds_ne (Ne.symm e), if_neg e]
theorem put_size (a : Act) (d : Nat) (v : Value) : (a.put (some d) v).tmps.size = a.tmps.size := by simp [Act.put]

theorem AtL.put {a : Act} {da : Value} {fb sb bS wg n j : Nat} (A : AtL a da fb sb bS wg n j) (d : Nat) (v : Value) (hd : d = 41 ∨ d = 42 ∨ d = 44) : AtL (a.put (some d) v) da fb sb bS wg n j := by
  have hs : d < a.tmps.size := by rw [A.sz]; omega
  have g : ∀ i, i ≠ d → (a.put (some d) v).tmps.getD i undef = a.tmps.getD i undef := fun i hi => by rw [put_getD a d i v hs, if_neg hi]
  exact ⟨by rw [put_size]; exact A.sz, A.df, (g 0 (by omega)).trans A.s0, (g 3 (by omega)).trans A.s3, (g 7 (by omega)).trans A.s7, (g 8 (by omega)).trans A.s8, (g 9 (by omega)).trans A.s9, (g 22 (by omega)).trans A.s22, (g 23 (by omega)).trans A.s23⟩

/-- What a small piece leaves. -/
def RS (h : Eng.Heap) (da : Value) (fb sb bS wg n j : Nat) (f : Nat → Value) (h' : Eng.Heap) : Prop :=
  f 0 = da ∧ f 3 = .pointer (some ⟨fb, 0, none⟩) ∧ f 7 = .pointer (some ⟨sb, 0, none⟩) ∧ f 8 = .slice (some ⟨bS, 0, none⟩) n n ∧ f 9 = .pointer (some ⟨wg, 0, none⟩) ∧ f 22 = .int .i64 n ∧ f 23 = .int .i64 j ∧ h' = h

noncomputable def opsP (i : Nat) : Array Oper := match rP i with | .region _ ops _ => ops | _ => #[]
theorem rP9 : rP 9 = .region 9 (opsP 9) false := by kernel_rfl
theorem rP10 : rP 10 = .region 10 (opsP 10) false := by kernel_rfl
theorem rP12 : rP 12 = .region 12 (opsP 12) false := by kernel_rfl
theorem size9 : (opsP 9).size = 1 := by kernel_rfl
theorem size10 : (opsP 10).size = 2 := by kernel_rfl
theorem size12 : (opsP 12).size = 1 := by kernel_rfl
theorem op_of {ops : Array Oper} {i : Nat} {d : Option Tmp} {p : Op → Bool} (h1 : (ops[i]?.map fun o => (o.dst, o.guard)) = some (d, none)) {q : Op} (h2 : (ops[i]?.map fun o => o.op) = some q) :
    ∃ o, ops[i]? = some o ∧ o.dst = d ∧ o.guard = none ∧ o.op = q := by
  cases h : ops[i]? with
  | none => rw [h] at h1; cases h1
  | some o =>
    rw [h] at h1 h2
    simp only [Option.map_some, Option.some.injEq, Prod.mk.injEq] at h1 h2
    exact ⟨o, rfl, h1.1, h1.2, h2⟩
def atsOf (o : Option Oper) : Array TypeId := match o with | some o => (match o.op with | .call c => c.argTypes | .go c => c.argTypes | _ => #[]) | none => #[]
theorem c9a : ((opsP 9)[0]?.map fun o => (o.dst, o.guard)) = some (some 41, none) := by kernel_rfl
theorem c9b : ((opsP 9)[0]?.map fun o => o.op) = some (.call { callee := .value (.func 49), args := #[.tmp 9, .const (.int .i64 1)], argTypes := atsOf (opsP 9)[0]? }) := by kernel_rfl
theorem c12a : ((opsP 12)[0]?.map fun o => (o.dst, o.guard)) = some (some 44, none) := by kernel_rfl
theorem c12b : ((opsP 12)[0]?.map fun o => o.op) = some (.call { callee := .value (.func 52), args := #[.tmp 9], argTypes := atsOf (opsP 12)[0]? }) := by kernel_rfl
theorem c10a : ((opsP 10)[0]?.map fun o => (o.dst, o.guard)) = some (some 42, none) := by kernel_rfl
theorem c10b : ((opsP 10)[0]?.map fun o => o.op) = some (.makeFunc (.func 50) #[] #[.tmp 9, .tmp 3, .tmp 11, .tmp 7, .tmp 10]) := by kernel_rfl
theorem c10c : ((opsP 10)[1]?.map fun o => (o.dst, o.guard)) = some (none, none) := by kernel_rfl
theorem c10d : ((opsP 10)[1]?.map fun o => o.op) = some (.go { callee := .value (.tmp 42), args := #[], argTypes := atsOf (opsP 10)[1]? }) := by kernel_rfl

theorem enter_step {P : Program} {b : Frame} {a : Act} {k : List Item} {cs : List Frame} {ops : Array Oper} {i : Nat} {rest : List Nat} {o : Oper} {f : FuncId} {fn : Func} {c : Code} {args : Array Operand} {ats : Array TypeId}
    (ho : ops[i]? = some o) (hw : Region.wanted o (yielded ops a.tmps) = true) (hk : b.kind ≠ .early) (hop : o.op = .call { callee := .value (.func f), args, argTypes := ats })
    (hf : P.funcs[f]? = some fn) (hname : (fn.name == "runtime.NumGoroutine") = false) (hb : fn.body = some c) (main : Bool) (w : World) :
    stepG P main (gor (b.at a (.inRegion ops (i :: rest) :: k)) cs) w = .go (gor ((base f).at { tmps := args.map a.eval ++ Array.replicate (fn.ntmps - (args.map a.eval).size) undef, defers := [] } [.code c]) (b.at a (.inRegion ops (i :: rest) :: k) :: cs)) w #[] :=
  step_of_goes (goes_call ho hw hk hop hf hname hb ⟨rfl, rfl, rfl⟩)

theorem b_add (L : WgLink) : (addFn L).body = some (body_add L) := rfl
theorem b_wait (L : WgLink) : (waitFn L).body = some (body_wait L) := rfl
set_option maxRecDepth 100000 in
theorem t_add (L : WgLink) (x y : Value) : #[x, y] ++ Array.replicate ((addFn L).ntmps - (#[x, y] : Array Value).size) undef = #[x, y, undef, undef, undef, undef, undef, undef, undef, undef, undef, undef, undef, undef, undef, undef, undef, undef, undef, undef, undef, undef, undef, undef, undef, undef, undef, undef, undef, undef, undef, undef, undef, undef, undef, undef, undef, undef, undef, undef, undef, undef, undef, undef, undef, undef, undef, undef, undef, undef, undef, undef, undef, undef, undef, undef, undef, undef, undef, undef, undef, undef, undef, undef, undef, undef, undef, undef, undef, undef, undef, undef, undef, undef, undef, undef, undef, undef, undef, undef, undef, undef, undef, undef, undef, undef, undef, undef, undef, undef, undef, undef, undef, undef, undef, undef, undef, undef, undef, undef, undef, undef, undef, undef, undef, undef, undef, undef, undef, undef, undef, undef, undef, undef, undef, undef, undef] := by kernel_rfl
set_option maxRecDepth 100000 in
theorem t_wait (L : WgLink) (x : Value) : #[x] ++ Array.replicate ((waitFn L).ntmps - (#[x] : Array Value).size) undef = #[x, undef, undef, undef, undef, undef, undef, undef, undef, undef, undef, undef, undef, undef, undef, undef, undef, undef, undef, undef, undef, undef, undef, undef, undef, undef, undef, undef, undef, undef, undef, undef, undef, undef, undef, undef, undef, undef, undef, undef, undef, undef, undef, undef, undef, undef, undef, undef, undef, undef, undef, undef, undef, undef, undef, undef, undef, undef, undef, undef, undef, undef, undef, undef, undef, undef, undef, undef, undef, undef, undef, undef, undef, undef, undef, undef, undef, undef, undef, undef, undef, undef, undef, undef] := by kernel_rfl

section
variable {Φ : Ph} {b : Frame} {k : List Item} {cs : List Frame}

set_option maxRecDepth 100000 in
/-- 'wg.Add(1)', as the loop does it. -/
theorem add9 (hty : Φ.ty = Try.link.tWg) (hCW : Φ.C ≠ Φ.Wg) (hk : b.kind ≠ .early) {a : Act} (h9 : a.tmps.getD 9 undef = .pointer (some ⟨Φ.Wg, 0, none⟩)) {Nx : Frame → List Frame → Prop}
    (hN : Nx (b.at (a.put (some 41) (.tuple #[])) (.inRegion (opsP 9) [] :: k)) cs) : AddOp Try.prog Φ Nx (b.at a (.inRegion (opsP 9) [0] :: k)) cs := by
  obtain ⟨o, d1, d2, d3, d4⟩ := op_of (p := fun _ => true) c9a c9b
  by_cases hJ : ∃ w, Φ.J w
  · obtain ⟨w, hw⟩ := hJ
    refine AddOp.step (fun w => enter_step d1 (by simp [Region.wanted, d3]) hk d4 Try.wgLib.f_add (nm_add Try.link) (b_add Try.link) true w) ⟨100, ?_⟩
    have e : (#[Operand.tmp 9, .const (.int .i64 1)].map a.eval) = #[.pointer (some ⟨Φ.Wg, 0, none⟩), .int .i64 1] := by simp [Act.eval, h9]
    rw [e, t_add]
    have W := @walkAdd _ Try.prog Try.link Φ cs b a (opsP 9) 0 [] k Try.wgLib hCW Nx (by rw [d1]; simp only [Option.bind_some, d2]; exact hN) w hw
    exact Sil.of (w := w) W
  · exact ⟨0, fun w w₁ h => absurd ⟨w₁, h⟩ hJ⟩

set_option maxRecDepth 100000 in
theorem wait12 (hty : Φ.ty = Try.link.tWg) (hCW : Φ.C ≠ Φ.Wg) (hk : b.kind ≠ .early) {a : Act} (h9 : a.tmps.getD 9 undef = .pointer (some ⟨Φ.Wg, 0, none⟩)) :
    WaitOp Try.prog Φ (Back Try.prog (b.at (a.put (some 44) (.tuple #[])) (.inRegion (opsP 12) [] :: k)) cs) (b.at a (.inRegion (opsP 12) [0] :: k)) cs := by
  obtain ⟨o, d1, d2, d3, d4⟩ := op_of (p := fun _ => true) c12a c12b
  by_cases hJ : ∃ w, Φ.J w
  · obtain ⟨w, hw⟩ := hJ
    refine WaitOp.step (fun w => enter_step d1 (by simp [Region.wanted, d3]) hk d4 Try.wgLib.f_wait (nm_wait Try.link) (b_wait Try.link) true w) ?_
    have e : (#[Operand.tmp 9].map a.eval) = #[.pointer (some ⟨Φ.Wg, 0, none⟩)] := by simp [Act.eval, h9]
    rw [e, t_wait]
    have W := @walkWait _ Try.prog Try.link Φ cs b a (opsP 12) 0 [] k Try.wgLib hCW w hw
    rw [d1] at W
    simp only [Option.bind_some, d2] at W
    exact W
  · exact ⟨fun _ => True, fun g _ => ⟨0, fun w w₁ h => absurd ⟨w₁, h⟩ hJ⟩, 0, fun w w₁ h => absurd ⟨w₁, h⟩ hJ⟩
end
end Go.Proofs.Ytmnialmphlbmaaa
