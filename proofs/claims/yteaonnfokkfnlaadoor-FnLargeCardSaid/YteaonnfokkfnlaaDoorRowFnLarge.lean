import Derived.Test.YteaonnfokkfnlaaDoorOpenD2
import Derived.Test.YteaonnfokkfnlaaDoorTie
import Derived.Test.YteaonnfokkfnlaaDoorCards
import Derived.JoinedOf
import Derived.SevenTiedAt
import Derived.Test.YteaonnfokkfnlaaDoorKLargM
set_option linter.unusedVariables false
set_option linter.unusedSimpArgs false
namespace Go.Proofs.YteaonnfokkfnlaaDoor
open Go Go.Eng Go.ChangeShapes Go.WideShapes Go.ChangeAt Go.RowKit

theorem fnLarge_cells_u8 : Tryd.prog.cellsOf 5 = 1 := by kernel_rfl
theorem fnLarge_met {W : World} (h : laidMetH Tryd.prog Rows.fnLargeRow.laid W) : ErrT (wheap W) ∧ ErrL (wheap W) := by
  have h' : laidMet Tryd.prog [("loop.example/s02972/impl.errShort", Rows.laid_loop_example_s02972_impl_errShort), ("loop.example/s02972/impl.errBad", Rows.laid_loop_example_s02972_impl_errBad), ("loop.example/s02972/impl.errLarge", Rows.laid_loop_example_s02972_impl_errLarge)] W ∧ handlesMet Tryd.prog [("errors.errorType", Rows.laid_errors_errorType)] W := h
  obtain ⟨⟨ps, hl, _, _⟩, hh⟩ := h'
  obtain ⟨c_errShort, q_errShort, hl⟩ := data_cell d_es d_tes hl
  obtain ⟨c_errBad, q_errBad, hl⟩ := data_cell d_eb d_teb hl
  obtain ⟨c_errLarge, q_errLarge, hl⟩ := data_cell d_el d_tel hl
  exact ⟨handle_cell hh, ⟨⟨c_errShort, c_errBad⟩, c_errLarge⟩⟩
set_option maxRecDepth 100000 in
theorem fnLarge_laid (os : Os) (args : Array Value) : laidMetH Tryd.prog Rows.fnLargeRow.laid ((laidWorld os).forCall (fun _ _ => 0) ⟨#[], args, []⟩).memory :=
  laidMetH_of_parts (laidMet_of_run' 8 (by kernel_rfl) (by kernel_rfl)) (by kernel_rfl)
set_option maxRecDepth 100000 in
theorem fnLarge_lifted (os : Os) (started : os.Started) (H : Type) (enc : TypeId × Value → H) :
    ReturnsInHanded {} Tryd.checked os 3 .any (fun w args => (Rows.fnLargeSpec.pre enc Tryd.prog Tryd.f3 [] false w args ∧ laidMetH Tryd.prog Rows.fnLargeRow.laid w) ∧ sizedMet enc Tryd.prog Tryd.f3 (OpenSpec.ofChange Rows.fnLargeSpec) false w args) (Rows.fnLargeSpec.post enc Tryd.prog Tryd.f3 false true false false) := by
  refine returnsInHanded_of_change_and (C := Tryd.checked) (X := fun w _ => laidMetH Tryd.prog Rows.fnLargeRow.laid w) (fun _ _ _ hh h => h.of_heap hh) Try_own started (by kernel_rfl) Tryd.func3
    (ChangeSpec.witness_at (enc := enc) (C := Tryd.checked) (os := os) (X := fun w _ => laidMetH Tryd.prog Rows.fnLargeRow.laid w) false (laidWorld os) #[.slice none 0 0] 8 rfl (by kernel_rfl) (by kernel_rfl) (by kernel_rfl) (by kernel_rfl) (by kernel_rfl) (fnLarge_laid os _)) ?_
  intro W base args ds gs before hval0 hW hcnd hsz0 hLaid _
  have hval : ∀ (j : Nat) t v, Tryd.f3.params[j]? = some t → args[j]? = some v → Value.okWide Tryd.prog W .any base t v := hval0
  have hW' := hW
  obtain ⟨p, q, hA0, hV, rfl, hfz, hnd⟩ := hW
  have hA : DataW.TrodAll enc Tryd.prog W 0 (fun _ => true) true Tryd.f3.params.toList args.toList ds p := hA0
  have hlt := DataW.TrodAll.lt hA
  rw [Tryd.params3] at hA hval
  obtain ⟨v0, d0, rfl, rfl, h0⟩ := trodAll_one hA
  have k0 := h0
  obtain ⟨et, ge⟩ := fnLarge_met hLaid
  have hV1 : DataW.TrodVars enc Tryd.prog W (fun _ => true) ["loop.example/s02972/impl.errBad", "loop.example/s02972/impl.errShort", "loop.example/s02972/impl.errLarge"] gs q := hV
  obtain ⟨dv0, dv1, dv2, rfl⟩ : ∃ dv0 dv1 dv2, gs = [dv0, dv1, dv2] := by
    have hn : gs.length = 3 := trodVars_len hV1
    match gs, hn with
    | [dv0, dv1, dv2], _ => exact ⟨_, _, _, rfl⟩
  obtain ⟨a0, c0, xs0, rfl, hx0, hl0, hw0⟩ := openIntsArg Tryd.underlying22 Tryd.underlying5 fnLarge_cells_u8 (hval 0 22 v0 rfl rfl) h0
  refine (calls_of (k_FnLarge (old_inv W) ge et a0 c0 xs0 hx0 hl0 hw0) (by kernel_rfl)).mono fun e W' ⟨he, bel⟩ => ?_
  subst he
  exact ⟨_, rfl, _, _, _, [], _, _, hW', trodAll_mk1 (shut_bool Tryd.underlying4 _), trodAll_mk1 (Below.trod Try_laidOut (by kernel_rfl) (of_decide_eq_true (by kernel_rfl)) k0 bel (fun x hx => hlt x hx)), Below.trodVars Try_laidOut bel (by kernel_rfl) hV1, bel.frame _, fun h => by cases h⟩
theorem fnLarge_over : Rows.fnLargeRow.holds Tryd.pinned (OpenSpec.ofChange Rows.fnLargeSpec) :=
  OpenClaim.holds_of_wide 3 Tryd.f3 rfl rfl rfl rfl rfl rfl rfl ⟨rfl, rfl, rfl, rfl, rfl⟩ rfl rfl rfl rfl rfl (by kernel_rfl) Tryd.func3 (by kernel_rfl)
    (of_decide_eq_true (by kernel_rfl)) (by unfold Func.isWrapper; first | (rw [if_pos (by decide +kernel)]; kernel_rfl) | (rw [if_neg (by decide +kernel)]; exact ⟨rfl, rfl⟩))
    (fun os started H enc _ => fnLarge_lifted os started H enc)
theorem fnLarge_holds : Rows.FnLargeCardSaid :=
  Claim7.holds_tied_plain_at .later [] [.handle, .data, .data, .data] true Rows.fnLargeCard.stood.harness true
    fnLarge_over (fun _ h => by cases h) (by kernel_rfl) (fun _ h => by cases h) fnLarge_row_tie rfl ⟨rfl, rfl⟩ (by kernel_rfl) rfl
    (fun f fn hf hfn => by
      obtain rfl : f = 3 := Option.some.inj ((show Tryd.prog.funcNamed "loop.example/s02972/laws.FnLarge" = some 3 by kernel_rfl).symm.trans hf) |>.symm
      obtain rfl : fn = Tryd.f3 := (Option.some.inj (Tryd.func3.symm.trans hfn)).symm
      exact ⟨by kernel_rfl, fun j t ht => by
        rw [Tryd.params3] at ht
        match j, ht with
        | 0, ht => exact Option.some.inj ht ▸ (show Tryd.prog.wantsStandIn 22 = false by kernel_rfl)
        | j + 1, ht => simp at ht⟩)
    (by kernel_rfl)
#print axioms fnLarge_holds
end Go.Proofs.YteaonnfokkfnlaaDoor
