import Derived.Test.YtmnialmphlbmaaaKWgLib
import Derived.Test.YtmnialmphlbmaaaNums
import Derived.Test.YtmnialmphlbmaaaEng5
import Derived.Conc.DeferLaws
set_option linter.unusedVariables false
set_option linter.unusedSimpArgs false
namespace Go.Proofs.Ytmnialmphlbmaaa
open Go Go.Eng Go.Conc Go.RowKit Go.Conc.Lib Go.ConcR.Gen
open Go.ConcR (KK wgBlock WgAt stA smA rd wr DC0 Payload)

/-- The kit's words ask for the payload's type; it is told elsewhere. -/
instance : Payload := ⟨22⟩

/-! ### A part's worker: 'defer wg.Done(); sums[i] = sum(p)' -/
noncomputable def bodyW : Code := Try.f50.body.getD .skip
noncomputable def opsD : Array Oper := match bodyW with | .seq (.region _ ops _) _ => ops | _ => #[]
noncomputable def opsW : Array Oper := match bodyW with | .seq _ (.region _ ops _) => ops | _ => #[]
theorem bodyW_eq : bodyW = .seq (.region 0 opsD false) (.region 1 opsW true) := by kernel_rfl

def tabW : List (TypeId × TyD) := [(0, ⟨.oth, 1, 0, [], none, some []⟩), (3, ⟨(.int .i64), 1, 8, [.int .i64], some [(1, (.int .i64 0))], none⟩), (5, ⟨(.int .u8), 1, 1, [.int .u8], some [(1, (.int .u8 0))], none⟩), (22, ⟨(.int .u32), 1, 4, [.int .u32], some [(1, (.int .u32 0))], none⟩), (23, ⟨(.sl 5), 1, 24, [.slice], some [(1, .nilSl)], none⟩), (45, ⟨(.sl 22), 1, 24, [.slice], some [(1, .nilSl)], none⟩), (49, ⟨.fnk, 1, 8, [.fnv], some [(1, .nilFn)], none⟩)]
set_option maxRecDepth 100000 in
theorem tabWOk : TabOk Try.prog tabW := tabOk_of (by kernel_rfl)
theorem mixedW : Try.prog.follows .mixedOrders = true := by kernel_rfl
def cW : Cfg := ⟨tabW, [], [], []⟩
def stW : St := { tmps := [⟨[], .x (.var .addr 0)⟩, ⟨[], .x (.var .addr 1)⟩, ⟨[], .x (.var .addr 2)⟩, ⟨[], .x (.var .addr 3)⟩, ⟨[], .x (.var .addr 4)⟩] ++ List.replicate 6 ⟨[], .junk⟩, loc := [], n := 5, known := [], d := 0, dv := true }
def stW' : St := { tmps := [⟨[], .x (.var .addr 0)⟩, ⟨[], .x (.var .addr 1)⟩, ⟨[], .x (.var .addr 2)⟩, ⟨[], .x (.var .addr 3)⟩, ⟨[], .x (.var .addr 4)⟩, ⟨[], .x (.var .slice 5)⟩, ⟨[], .x (.var (.int .i64) 6)⟩, ⟨[], .x (.var .fnv 7)⟩, ⟨[], .x (.var .slice 8)⟩, ⟨[], .x (.var (.int .u32) 9)⟩, ⟨[], .x (.ix 1 (.var .slice 5) (.var (.int .i64) 6))⟩], loc := [], n := 10, known := [], d := 0, dv := true }
def tW : Tr :=
(.load (.var (.addr) 3) [.slice]
(.load (.var (.addr) 4) [.int .i64]
(.load (.var (.addr) 1) [.fnv]
(.load (.var (.addr) 2) [.slice]
(.callv (.var (.fnv) 7) [(.x (.var (.slice) 8))] false [(false, [.int .u32])]
(.still [((.var (.addr) 4), (.var (.int .i64) 6)), ((.var (.addr) 3), (.var (.slice) 5))]
(.need (.nt (.nn (.var (.slice) 5)))
(.need (.cm .leq (.cst (.int .i64 0)) (.var (.int .i64) 6))
(.need (.cm .lss (.var (.int .i64) 6) (.ln (.var (.slice) 5)))
(.leaf (.norm stW')))))))))))
def listedW : Array Bool := (Array.replicate 7 false).setIfInBounds 6 true
set_option maxRecDepth 100000 in
theorem sW : sxA cW opsW 6 listedW [] stW = some tW := by kernel_rfl
theorem lastW : lastOk opsW 6 = true := by kernel_rfl
theorem selW : Region.noSelect opsW = true := by kernel_rfl
theorem sizeW : opsW.size = 7 := by kernel_rfl
theorem putW : opsW[6]? = some { dst := none, op := .store 22 (.tmp 10) (.tmp 9), type := 0, pos := (opsW[6]?.map (·.pos)).getD "", after := (opsW[6]?.map (·.after)).getD #[], guard := none } := by kernel_rfl
theorem loud50 : (Try.prog.funcs[(baseD 50).fn]?).any (·.norace) = false := by kernel_rfl

noncomputable def bot : Frame := { (default : Frame) with fn := Try.prog.funcs.size, defers := [], mode := .panicking [goexitEntry] }
/-- The call that a go statement holds. -/
def callW5 (wg fb pb sb ib : Nat) : Deferred := { target := .fn (.func 50) #[.pointer (some ⟨wg, 0, none⟩), .pointer (some ⟨fb, 0, none⟩), .pointer (some ⟨pb, 0, none⟩), .pointer (some ⟨sb, 0, none⟩), .pointer (some ⟨ib, 0, none⟩)], args := #[] }
noncomputable def bornW (d : Deferred) : Frame := { (default : Frame) with fn := Try.prog.funcs.size, defers := [d], mode := .panicking [goexitEntry] }
theorem bornW_eq (d : Deferred) : gor (bornW d) [] = born Try.prog d := rfl

def capsW (wg fb pb sb ib : Nat) : Array Value := #[.pointer (some ⟨wg, 0, none⟩), .pointer (some ⟨fb, 0, none⟩), .pointer (some ⟨pb, 0, none⟩), .pointer (some ⟨sb, 0, none⟩), .pointer (some ⟨ib, 0, none⟩)]
theorem born_step (wg fb pb sb ib : Nat) (m : Bool) (w : World) : stepG Try.prog m (gor (bornW (callW5 wg fb pb sb ib)) []) w =
    .go (gor ((baseD 50).at ⟨capsW wg fb pb sb ib ++ #[undef, undef, undef, undef, undef, undef], []⟩ [.code bodyW]) [bot]) w #[] := by
  simp [gor, bornW, capsW, callW5, stepG, unwind, callDeferred, invoke, callFunc, Try.func50, Try.f50, seen, GStep.after, G, Frame.enter, Frame.at, baseD, bot, bodyW]

section
variable {Φ : Ph} {i : Nat}

theorem atPut_up : Up Φ.S (AtPut Try.prog Φ i) := fun fr cs h1 h2 H hs _ w hw hJ => H w (fun b o hb => hw b o (hs b o hb)) hJ

/-- The closure's own way out, once Done has left. -/
theorem quitsW (T : Array Value) (td : List Item) : QuitsD Try.prog 2 0 (G { (baseD 50).at ⟨T, []⟩ td with mode := .returning } [bot]) := by
  refine QuitsD.ctl (g' := G bot []) rfl (fun w => ?_) ?_
  · simp [G, stepG, unwind, doReturn, results, Frame.at, baseD, bot, Try.func50, Try.f50, seen, GStep.after, goexitEntry]
  refine QuitsD.ctl (g' := { G bot [] with status := .finished }) rfl (fun w => ?_) ⟨rfl, rfl⟩
  simp [G, stepG, unwind, bot, goexitEntry, Frame.catches]
  rfl

set_option maxRecDepth 100000 in
/-- At the put: the store into the cell, and all that comes behind it. -/
theorem atPut (hty : Φ.ty = Try.link.tWg) (hCW : Φ.C ≠ Φ.Wg) (hi : i < Φ.n) {x : Int} (hval : Φ.val i = .int .u32 x) {a : Act} (hd : a.defers = [dcall 51 #[.pointer (some ⟨Φ.Wg, 0, none⟩)]])
    (h9 : a.tmps.getD 9 undef = .int .u32 x) (h10 : a.tmps.getD 10 undef = .pointer (some ⟨Φ.C, i, none⟩)) (h : Eng.Heap) :
    AtPut Try.prog Φ i ((baseD 50).at a [.inRegion opsW [6]]) [bot] h := by
  intro w hw hJ
  obtain ⟨arr, p1, p2⟩ := hJ.2
  have hc : w.cell? ⟨Φ.C, i, none⟩ = some (arr[i]'(by omega)) := by simp [World.cell?, p1, p2, hi]
  have hz : w.frozen? ⟨Φ.C, i, none⟩ = false := by simp [World.frozen?, p1]
  have hr : (execOp a.eval { dst := none, op := .store 22 (.tmp 10) (.tmp 9), type := 0, pos := (opsW[6]?.map (·.pos)).getD "", after := (opsW[6]?.map (·.after)).getD #[], guard := none }).run Try.prog w = .ok .skip (w.setCell ⟨Φ.C, i, none⟩ (.int .u32 x)) := by
    unfold execOp
    simp only [Act.eval, h9, h10]
    simp [go_sem, stored, hc, hz]
  have he : (execOp a.eval { dst := none, op := .store 22 (.tmp 10) (.tmp 9), type := 0, pos := (opsW[6]?.map (·.pos)).getD "", after := (opsW[6]?.map (·.after)).getD #[], guard := none }).events Try.prog w #[] = #[⟨.cell ⟨Φ.C, i, none⟩, true, false⟩] := by
    unfold execOp
    simp only [Act.eval, h9, h10]
    simp [go_sem, storedEv, hc, hz]
  have st := stepG_none (P := Try.prog) (main := false) (b := baseD 50) (a := a) (k := []) (cs := [bot]) (w := w) (rest := []) putW rfl (by decide) hr
  unfold listed at st
  rw [he, seen_eq loud50 (by simp)] at st
  rw [hval]
  refine ⟨_, st, 200, ?_⟩
  have hK : Φ.J (w.setCell ⟨Φ.C, i, none⟩ (.int .u32 x)) := by
    refine ⟨let ⟨st, sm, y⟩ := hJ.1; ⟨st, sm, y.of_block ((aside_setCell _ ⟨Φ.C, i, none⟩ _).block _ (Ne.symm hCW))⟩, arr.setIfInBounds i (.int .u32 x), ?_, by simpa using p2⟩
    rw [setCell_eq_setRow w Φ.C i arr _ (0, 0) _ p1, setRow_heap w Φ.C _ _ _ _ p1]
  generalize w.setCell ⟨Φ.C, i, none⟩ (.int .u32 x) = w₁ at hK
  clear st he hr hc hz p1 hw hJ
  refine Sil.of (w := w₁) ?_
  obtain ⟨T, D⟩ := a
  simp only at hd
  subst hd
  simp only [Act.put]
  u_c stepG_region_end jl hK
  u_c stepG_end jl hK
  u_in jl hK
  rw [stepG_unwind_enter rfl Try.func51 (nm_done Try.link) rfl]
  simp only [goes_go]
  refine ⟨by u_nil, ?_⟩
  walk_nrmf Try.f51
  have hA := @walkDone _ Try.prog Try.link Φ [bot] 2 Try.wgLib hCW _ rfl (quitsW T []) _ hK
  simp only [body_done, doneFn, Option.getD_some] at hA
  exact Goes.mono hA (by omega)

theorem deferW1 : (opsD[0]?.map fun o => (o.dst, o.guard)) = some (none, none) := by kernel_rfl
theorem deferW2 : (opsD[0]?.map fun o => o.op) = some (.defer { callee := .value (.func 51), args := #[.tmp 0], argTypes := ((opsD[0]?.map fun o => match o.op with | .defer c => c.argTypes | _ => #[]).getD #[]) }) := by kernel_rfl
theorem deferW : ∃ o ats, opsD[0]? = some o ∧ o.dst = none ∧ o.guard = none ∧ o.op = .defer { callee := .value (.func 51), args := #[.tmp 0], argTypes := ats } := by
  have h1 := deferW1
  have h2 := deferW2
  cases h : opsD[0]? with
  | none => rw [h] at h1; cases h1
  | some o =>
    rw [h] at h1 h2
    simp only [Option.map_some, Option.some.injEq, Prod.mk.injEq] at h1 h2
    exact ⟨o, _, rfl, h1.1, h1.2, h2⟩
theorem sizeD : opsD.size = 1 := by kernel_rfl

def lW : List (Option (Sh × Nat)) := [some (.addr, 0), some (.addr, 1), some (.addr, 2), some (.addr, 3), some (.addr, 4), none, none, none, none, none, none]
theorem stW_eq : stW = { tmps := gvOf lW, loc := [], n := 5, known := [], d := 0, dv := true } := rfl

/-- What the worker's tree ends with. -/
def endW (C : Nat) (i : Nat) (x : Int) : Hand := fun l env _ _ => l = .norm stW' ∧ (∃ n c, env[5]? = some (.slice (some ⟨C, 0, none⟩) n c)) ∧ env[6]? = some (.int .i64 i) ∧ env[9]? = some (.int .u32 x)

set_option maxRecDepth 100000 in
theorem works (hnb : ∀ fr cs h Q, ¬ Φ.S.big fr cs h Q) (hty : Φ.ty = Try.link.tWg) (hCW : Φ.C ≠ Φ.Wg) (hi : i < Φ.n) {x : Int} (hval : Φ.val i = .int .u32 x) {hc : Eng.Heap} (hin : Inv Φ.S hc)
    {fb pb sb ib : Nat} {g : FuncId} {pa : Option Addr} {pl pc : Nat}
    (hf : hcell hc ⟨fb, 0, none⟩ = some (.func (.func g) #[] #[])) (hp : hcell hc ⟨pb, 0, none⟩ = some (.slice pa pl pc)) (hs : hcell hc ⟨sb, 0, none⟩ = some (.slice (some ⟨Φ.C, 0, none⟩) Φ.n Φ.n))
    (hib : hcell hc ⟨ib, 0, none⟩ = some (.int .i64 i)) (hsum : CallsH Try.prog Φ.S g #[.slice pa pl pc] hc (fun v h' => v = .int .u32 x ∧ Eng.Sub hc h')) :
    Works Try.prog Φ i (bornW (callW5 Φ.Wg fb pb sb ib)) [] hc := by
  refine Safe.rank hnb false Φ.J ?_
  refine Safe.silent (fun w m => born_step _ _ _ _ _ m w) ?_
  rw [bodyW_eq]
  refine .seq (.region ?_)
  rw [sizeD]
  obtain ⟨oD, ats, d1, d2, d3, d4⟩ := deferW
  refine Safe.silent (fun w m => stepG_defer (rest := []) d1 (by simp [Region.wanted, d3]) (by decide) d4) ?_
  rw [d2]
  refine .regionEnd (.regionDraw fun t' => ?_)
  have e : Region.schedule (Try.prog.follows .mixedOrders) opsW t' = Region.linearise.go .any opsW 6 t' listedW [] ++ [6] := by
    simp only [Region.schedule, mixedW, Region.linearise, sizeW, Bool.true_or, if_true]
    exact linearise_last' lastW t'
  rw [e, ← plus_none_right hc]
  have ha : Ok Φ.S hc (fun _ => none) := ⟨fun b hb => absurd rfl hb, hin⟩
  have env : List Value := []
  have H : Rel stW [.pointer (some ⟨Φ.Wg, 0, none⟩), .pointer (some ⟨fb, 0, none⟩), .pointer (some ⟨pb, 0, none⟩), .pointer (some ⟨sb, 0, none⟩), .pointer (some ⟨ib, 0, none⟩)] []
      (Act.put ⟨capsW Φ.Wg fb pb sb ib ++ #[undef, undef, undef, undef, undef, undef], [dcall 51 (#[.tmp 0].map (Act.eval ⟨capsW Φ.Wg fb pb sb ib ++ #[undef, undef, undef, undef, undef, undef], []⟩))]⟩ none undef) (fun _ => none) := by
    rw [stW_eq]
    refine Rel.init rfl rfl (fun h => by cases h) fun i s j h => ?_
    match i, h with
    | 0, h => cases h; exact ⟨_, rfl, rfl, rfl⟩
    | 1, h => cases h; exact ⟨_, rfl, rfl, rfl⟩
    | 2, h => cases h; exact ⟨_, rfl, rfl, rfl⟩
    | 3, h => cases h; exact ⟨_, rfl, rfl, rfl⟩
    | 4, h => cases h; exact ⟨_, rfl, rfl, rfl⟩
    | 5, h => cases h
    | 6, h => cases h
    | 7, h => cases h
    | 8, h => cases h
    | 9, h => cases h
    | 10, h => cases h
    | _ + 11, h => cases h
  refine seqW_app atPut_up [6] _ _ _ _ ha (seqW_defers _ _ _ _ (anyW_sound 6 t' [] listedW _ _ _ ha (sxA_ok tabWOk selW (R := fun a' _ _ => a'.tmps.getD 9 undef = .int .u32 x ∧ a'.tmps.getD 10 undef = .pointer (some ⟨Φ.C, i, none⟩))
    (Λ := endW Φ.C i x) (Q := fun _ _ => True) (Ks := []) 6 listedW [] stW tW _ [] _ _ hc [] sW ?_ H ha (fun q hq => by cases hq) (.nil _) ?_))) ?_
  · have hn : ∀ {a : Addr} {v : Value} {h' : Eng.Heap}, Eng.Sub hc h' → hcell hc a = some v → hcell h' a = some v := fun s hv => by
      unfold hcell at hv ⊢
      cases e : hc _ with
      | none => rw [e] at hv; cases hv
      | some o => rw [e] at hv; rw [s _ o e]; exact hv
    simp only [tW, Tr.wp, mksW, callW, Ex.ev, coerce, toInt_int, toBool_bool, slL_sl, slC_sl, slA_sl, toAddr_ptr, ptrOf_ptr, isNil_sl, isNil_ptr, it_and, it_or, it_int, optN_int, optN_nl, cmpI, arith, Cst.val, SV.den, resShs, resV, resSV, resVals, newVars, runCells, exSh, allSh, cellsAre, storeW, List.flatMap_cons, List.flatMap_nil, List.replicate_one, List.getD_cons_zero, List.getD_cons_succ, List.getElem?_cons_zero, List.getElem?_cons_succ, decide_eq_true_eq, decide_eq_false_iff_not, List.map_cons, List.map_nil, List.cons_append, List.nil_append, List.append_nil, List.length_cons, List.length_nil, Nat.zero_add, Nat.add_zero, and_true, true_and, if_true, if_false, Bool.false_eq_true, endW]
    refine ⟨_, _, _, hs, _, hib, _, rfl, hf, _, _, _, hp, g, #[], #[], rfl, ?_⟩
    refine hsum.mono ?_
    rintro _ h' ⟨rfl, sub⟩
    refine ⟨x, rfl, fun p hp => ?_, rfl, by omega, by omega, ⟨_, _, rfl⟩, rfl, rfl⟩
    rcases List.mem_cons.1 hp with rfl | hp
    · exact hn sub hib
    · cases List.mem_singleton.1 hp
      exact hn sub hs
  · rintro st' vs ms a' L' h' ⟨e1, ⟨n5, c5, e5⟩, e6, e9⟩ H' _ _
    cases e1
    have v9 := H'.vl 9 [] _ rfl (by simp)
    have v10 := H'.vl 10 [] _ rfl (by simp)
    generalize ([.pointer (some ⟨Φ.Wg, 0, none⟩), .pointer (some ⟨fb, 0, none⟩), .pointer (some ⟨pb, 0, none⟩), .pointer (some ⟨sb, 0, none⟩), .pointer (some ⟨ib, 0, none⟩)] ++ vs : List Value) = en at e5 e6 e9 v9 v10
    have w9 := Good.at v9
    have w10 := Good.at v10
    simp only [Ex.ev, List.getD_eq_getElem?_getD, e5, e6, e9, Option.getD_some, coerce, toInt_int, slA_sl, slL_sl, slC_sl] at w9 w10
    refine ⟨w9.symm, w10.symm.trans ?_⟩
    simp [Addr.add]; omega
  · rintro a' L' h' _ ⟨hd, h9, h10⟩
    exact .done (atPut hty hCW hi hval (hd.trans (by simp [Act.put, Act.eval, capsW])) h9 h10 _)
end
end Go.Proofs.Ytmnialmphlbmaaa
