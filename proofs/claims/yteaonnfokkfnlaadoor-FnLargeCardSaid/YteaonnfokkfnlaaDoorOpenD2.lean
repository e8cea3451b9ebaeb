import Derived.Test.YteaonnfokkfnlaaDoorOpen
import Derived.Test.YteaonnfokkfnlaaDoorKLensM
import Derived.OpenVars
import Derived.LaidLaws
import Derived.LaidHandle
import Derived.ChangeVars
import Derived.OpenShut
set_option linter.unusedVariables false
set_option linter.unusedSimpArgs false
namespace Go.Proofs.YteaonnfokkfnlaaDoor
open Go Go.Eng Go.ChangeShapes Go.WideShapes Go.ChangeAt Go.RowKit

/-! ### What the rows' listed variables give -/
theorem d_et : Tryd.prog.globalNamed "errors.errorType" = some 2 := by kernel_rfl
theorem d_rt : (Tryd.prog.cutTypes.find? (·.1 == "internal/reflectlite.rtype")).map (·.2) = some tRt := by kernel_rfl
theorem d_oneRow : ((List.range Tryd.prog.types.size).filter fun t => Tryd.prog.rowNamed t [101, 114, 114, 111, 114]) = [tEr] := by kernel_rfl
theorem d_es : Tryd.prog.globalNamed "loop.example/s02972/impl.errShort" = some 1 := by kernel_rfl
theorem d_eb : Tryd.prog.globalNamed "loop.example/s02972/impl.errBad" = some 0 := by kernel_rfl
theorem d_el : Tryd.prog.globalNamed "loop.example/s02972/impl.errLarge" = some 3 := by kernel_rfl
theorem d_tes : (Tryd.prog.globals[(1 : Nat)]?).map (·.type) = some tCl := by kernel_rfl
theorem d_teb : (Tryd.prog.globals[(0 : Nat)]?).map (·.type) = some tCl := by kernel_rfl
theorem d_tel : (Tryd.prog.globals[(3 : Nat)]?).map (·.type) = some tCl := by kernel_rfl
/-- The variable's cell, out of a handle's condition. -/
theorem handle_cell {W : World} {hs : List (String × DataW Unit)} (h : handlesMet Tryd.prog (("errors.errorType", Rows.laid_errors_errorType) :: hs) W) : ErrT (wheap W) := by
  obtain ⟨name, u, ty, e1, e2, e3, e4, e5⟩ := h _ List.mem_cons_self
  have en : name = [101, 114, 114, 111, 114] := (Option.some.inj e1).symm
  subst en
  obtain rfl := Option.some.inj (d_rt.symm.trans e2)
  have hm : ty ∈ (List.range Tryd.prog.types.size).filter fun t => Tryd.prog.rowNamed t [101, 114, 114, 111, 114] := List.mem_filter.2 ⟨List.mem_range.2 e3, e4⟩
  rw [d_oneRow] at hm
  obtain rfl := List.mem_singleton.1 hm
  have hh : typeHandle Tryd.prog tEr = hdl tEr := by kernel_rfl
  rw [hh] at e5
  have := World.var?_cell d_et e5 0
  exact this

theorem d_cl : Tryd.prog.cellsOf tCl = 1 := by kernel_rfl
theorem d_i64 : Tryd.prog.cellsOf 2 = 1 := by kernel_rfl
set_option maxRecDepth 100000 in
/-- A listed variable of the class of errors: its cell. -/
theorem data_cell {W : World} {n : String} {g : Nat} {k : Int} (hg : Tryd.prog.globalNamed n = some g) (ht : (Tryd.prog.globals[g]?).map (·.type) = some tCl) {l : List (String × DataW Unit)} {ps : List MemPlace}
    (h : DataW.LaidVars Tryd.prog W ((n, .agg [.lit (.int .i64 k)]) :: l) ps) : hcell (wheap W) ⟨g, 0, none⟩ = some (.int .i64 k) ∧ ∃ q, DataW.LaidVars Tryd.prog W l q := by
  obtain ⟨g', t, cs, fuel, p, q, h1, h2, h3, h4, h5, _⟩ := h
  obtain rfl := Option.some.inj (hg.symm.trans h1)
  obtain rfl := Option.some.inj (ht.symm.trans h2)
  obtain ⟨y0, m, hx, hl, hy⟩ := trod_struct1 Tryd.underlying73 h4
  rw [d_cl] at hl
  obtain ⟨cs⟩ := cs
  match cs, hl with
  | [c0], _ =>
    have hy' : DataW.trod (fun _ => ()) Tryd.prog W 0 (fun _ => true) false m 2 [c0] = some y0 := by
      simpa [d_i64] using hy
    obtain ⟨z, e1, e2, _⟩ := DataW.trod_int Tryd.underlying2 hy'
    have e1 : c0 = .int .i64 z := by simpa using e1
    subst e1
    subst e2
    simp only [Prod.mk.injEq, DataW.agg.injEq, List.cons.injEq, DataW.lit.injEq, Lit.int.injEq, true_and, and_true] at hx
    refine ⟨?_, q, h5⟩
    have := World.var?_cell hg h3 0
    rw [hx.1]
    exact this

/-- A world that meets the rows' conditions: the settled one, the variables' cells laid. -/
noncomputable def laidWorld (os : Os) : World :=
  let w0 := World.holding Tryd.prog os ⟨#[], #[], []⟩
  let put (g : Nat) (v : Value) (hp : Array Obj) : Array Obj := hp.modify g fun
      | .cells _ t frozen => .cells #[v] t frozen
      | o => o
  { w0 with heap := put 2 (rty tEr) (put 1 (.int .i64 2) (put 0 (.int .i64 3) (put 3 (.int .i64 6) w0.heap))) }

theorem trodVars_len {H : Type} {enc : TypeId × Value → H} {P : Program} {w : World} {spare : Nat → Bool} : ∀ {ns : List String} {gs : List (DataW H)} {ps : List MemPlace}, DataW.TrodVars enc P w spare ns gs ps → gs.length = ns.length
  | [], [], _, _ => rfl
  | [], _ :: _, _, h => h.elim
  | _ :: _, [], _, h => h.elim
  | n :: ns, d :: ds, ps, h => by
    obtain ⟨g, t, cs, fuel, p, q, h1, h2, h3, h4, hs, e⟩ := h
    rw [List.length_cons, List.length_cons, trodVars_len hs]
end Go.Proofs.YteaonnfokkfnlaaDoor
