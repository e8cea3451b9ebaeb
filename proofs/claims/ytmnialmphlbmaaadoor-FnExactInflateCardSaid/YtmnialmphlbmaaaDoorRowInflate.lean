import Derived.Test.YtmnialmphlbmaaaDoorOpenD2
import Derived.Test.YtmnialmphlbmaaaDoorTie
import Derived.Test.YtmnialmphlbmaaaDoorCards
import Derived.JoinedOf
import Derived.SevenTiedAt
import Derived.Test.YtmnialmphlbmaaaDoorKLawInflate
set_option linter.unusedVariables false
set_option linter.unusedSimpArgs false
namespace Go.Proofs.YtmnialmphlbmaaaDoor
open Go Go.Eng Go.ChangeShapes Go.WideShapes Go.ChangeAt Go.RowKit

theorem inflate_cells_u8 : Tryd.prog.cellsOf 5 = 1 := by kernel_rfl
theorem inflate_met {W : World} (h : laidMetH Tryd.prog Rows.fnExactInflateRow.laid W) : ErrT (wheap W) ∧ ErrL (wheap W) := by
  have h' : laidMet Tryd.prog [("loop.example/s02972/impl.errShort", Rows.laid_loop_example_s02972_impl_errShort), ("loop.example/s02972/impl.errBad", Rows.laid_loop_example_s02972_impl_errBad), ("loop.example/s02972/impl.errLarge", Rows.laid_loop_example_s02972_impl_errLarge)] W ∧ handlesMet Tryd.prog [("errors.errorType", Rows.laid_errors_errorType)] W := h
  obtain ⟨⟨ps, hl, _, _⟩, hh⟩ := h'
  obtain ⟨c_errShort, q_errShort, hl⟩ := data_cell d_es d_tes hl
  obtain ⟨c_errBad, q_errBad, hl⟩ := data_cell d_eb d_teb hl
  obtain ⟨c_errLarge, q_errLarge, hl⟩ := data_cell d_el d_tel hl
  exact ⟨handle_cell hh, ⟨⟨c_errShort, c_errBad⟩, c_errLarge⟩⟩
set_option maxRecDepth 100000 in
theorem inflate_laid (os : Os) (args : Array Value) : laidMetH Tryd.prog Rows.fnExactInflateRow.laid ((laidWorld os).forCall (fun _ _ => 0) ⟨#[], args, []⟩).memory :=
  laidMetH_of_parts (laidMet_of_run' 8 (by kernel_rfl) (by kernel_rfl)) (by kernel_rfl)
set_option maxRecDepth 100000 in
theorem inflate_lifted (os : Os) (started : os.Started) (H : Type) (enc : TypeId × Value → H) :
    ReturnsInHanded {} Tryd.checked os 6 .any (fun w args => (Rows.fnExactInflateSpec.pre enc Tryd.prog Tryd.f6 [] false w args ∧ laidMetH Tryd.prog Rows.fnExactInflateRow.laid w) ∧ sizedMet enc Tryd.prog Tryd.f6 (OpenSpec.ofChange Rows.fnExactInflateSpec) false w args) (Rows.fnExactInflateSpec.post enc Tryd.prog Tryd.f6 false true false false) := by
  refine returnsInHanded_of_change_and (C := Tryd.checked) (X := fun w _ => laidMetH Tryd.prog Rows.fnExactInflateRow.laid w) (fun _ _ _ hh h => h.of_heap hh) Try_own started (by kernel_rfl) Tryd.func6
    (ChangeSpec.witness_at (enc := enc) (C := Tryd.checked) (os := os) (X := fun w _ => laidMetH Tryd.prog Rows.fnExactInflateRow.laid w) false (laidWorld os) #[.slice none 0 0, .int .i64 0, .slice none 0 0] 8 rfl (by kernel_rfl) (by kernel_rfl) (by kernel_rfl) (by kernel_rfl) (by kernel_rfl) (inflate_laid os _)) ?_
  intro W base args ds gs before hval0 hW hcnd hsz0 hLaid _
  have hval : ∀ (j : Nat) t v, Tryd.f6.params[j]? = some t → args[j]? = some v → Value.okWide Tryd.prog W .any base t v := hval0
  have hW' := hW
  obtain ⟨p, q, hA0, hV, rfl, hfz, hnd⟩ := hW
  have hA : DataW.TrodAll enc Tryd.prog W 0 (fun _ => true) true Tryd.f6.params.toList args.toList ds p := hA0
  have hlt := DataW.TrodAll.lt hA
  rw [Tryd.params6] at hA hval
  obtain ⟨v0, vs0, d0, ds0, p0, q0, hargs, rfl, rfl, h0, r0⟩ := trodAll_cons hA
  obtain ⟨v1, vs1, d1, ds1, p1, q1, rfl, rfl, rfl, h1, r1⟩ := trodAll_cons r0
  obtain ⟨v2, vs2, d2, ds2, p2, q2, rfl, rfl, rfl, h2, r2⟩ := trodAll_cons r1
  obtain ⟨rfl, rfl, rfl⟩ := trodAll_nil r2
  obtain rfl : args = #[v0, v1, v2] := by cases args; simp_all
  have k0 := h0
  have k1 := h1
  have k2 := h2
  obtain ⟨et, ge⟩ := inflate_met hLaid
  have hV1 : DataW.TrodVars enc Tryd.prog W (fun _ => true) ["loop.example/s02972/impl.errBad", "loop.example/s02972/impl.errShort", "loop.example/s02972/impl.errLarge"] gs q := hV
  obtain ⟨dv0, dv1, dv2, rfl⟩ : ∃ dv0 dv1 dv2, gs = [dv0, dv1, dv2] := by
    have hn : gs.length = 3 := trodVars_len hV1
    match gs, hn with
    | [dv0, dv1, dv2], _ => exact ⟨_, _, _, rfl⟩
  obtain ⟨a0, c0, xs0, rfl, hx0, hl0, hw0⟩ := openIntsArg Tryd.underlying22 Tryd.underlying5 inflate_cells_u8 (hval 0 22 v0 rfl rfl) h0
  obtain ⟨n1, rfl, rfl, rfl, w1⟩ := open_int Tryd.underlying2 (hval 1 2 v1 rfl rfl) h1
  obtain ⟨a2, c2, xs2, rfl, hx2, hl2, hw2⟩ := openIntsArg Tryd.underlying22 Tryd.underlying5 inflate_cells_u8 (hval 2 22 v2 rfl rfl) h2
  refine (calls_of (k_Inflate (old_inv W) ge et a0 c0 xs0 hx0 hl0 hw0 n1 w1 a2 c2 xs2 hx2 hl2 hw2) (by kernel_rfl)).mono fun e W' ⟨he, bel⟩ => ?_
  subst he
  exact ⟨_, rfl, _, _, _, [], _, _, hW', trodAll_mk1 (shut_bool Tryd.underlying4 _), (trodAll_cons_mk (Below.trod Try_laidOut (by kernel_rfl) (of_decide_eq_true (by kernel_rfl)) k0 bel (fun x hx => hlt x (List.mem_append_left _ hx))) (trodAll_cons_mk (shut_int Tryd.underlying2 w1) (trodAll_cons_mk (Below.trod Try_laidOut (by kernel_rfl) (of_decide_eq_true (by kernel_rfl)) k2 bel (fun x hx => hlt x (List.mem_append_right _ (List.mem_append_right _ (List.mem_append_left _ hx))))) trodAll_mk0))), Below.trodVars Try_laidOut bel (by kernel_rfl) hV1, bel.frame _, fun h => by cases h⟩
theorem inflate_over : Rows.fnExactInflateRow.holds Tryd.pinned (OpenSpec.ofChange Rows.fnExactInflateSpec) :=
  OpenClaim.holds_of_wide 6 Tryd.f6 rfl rfl rfl rfl rfl rfl rfl ⟨rfl, rfl, rfl, rfl, rfl⟩ rfl rfl rfl rfl rfl (by kernel_rfl) Tryd.func6 (by kernel_rfl)
    (of_decide_eq_true (by kernel_rfl)) (by unfold Func.isWrapper; first | (rw [if_pos (by decide +kernel)]; kernel_rfl) | (rw [if_neg (by decide +kernel)]; exact ⟨rfl, rfl⟩))
    (fun os started H enc _ => inflate_lifted os started H enc)
theorem inflate_holds : Rows.FnExactInflateCardSaid :=
  Claim7.holds_tied_plain_at .later [] [.handle, .data, .data, .data] true Rows.fnExactInflateCard.stood.harness true
    inflate_over (fun _ h => by cases h) (by kernel_rfl) (fun _ h => by cases h) fnExactInflate_row_tie rfl ⟨rfl, rfl⟩ (by kernel_rfl) rfl
    (fun f fn hf hfn => by
      obtain rfl : f = 6 := Option.some.inj ((show Tryd.prog.funcNamed "loop.example/s02972/laws.FnExactInflate" = some 6 by kernel_rfl).symm.trans hf) |>.symm
      obtain rfl : fn = Tryd.f6 := (Option.some.inj (Tryd.func6.symm.trans hfn)).symm
      exact ⟨by kernel_rfl, fun j t ht => by
        rw [Tryd.params6] at ht
        match j, ht with
        | 0, ht => exact Option.some.inj ht ▸ (show Tryd.prog.wantsStandIn 22 = false by kernel_rfl)
        | 1, ht => exact Option.some.inj ht ▸ (show Tryd.prog.wantsStandIn 2 = false by kernel_rfl)
        | 2, ht => exact Option.some.inj ht ▸ (show Tryd.prog.wantsStandIn 22 = false by kernel_rfl)
        | j + 3, ht => simp at ht⟩)
    (by kernel_rfl)
#print axioms inflate_holds
end Go.Proofs.YtmnialmphlbmaaaDoor
