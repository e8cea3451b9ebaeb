import Derived.Test.YtmnialmphlbmaaaDoorOpenD
import Derived.Test.YtmnialmphlbmaaaDoorTie
import Derived.Test.YtmnialmphlbmaaaDoorCards
import Derived.JoinedOf
import Derived.SevenTiedAt
import Derived.Test.YtmnialmphlbmaaaDoorKLawReadLens
set_option linter.unusedVariables false
set_option linter.unusedSimpArgs false
namespace Go.Proofs.YtmnialmphlbmaaaDoor
open Go Go.Eng Go.ChangeShapes Go.WideShapes Go.ChangeAt Go.RowKit

theorem readLens_cells_u8 : Tryd.prog.cellsOf 5 = 1 := by kernel_rfl
theorem readLens_met {W : World} (h : laidMetH Tryd.prog Rows.fnExactReadLensRow.laid W) : ErrT (wheap W) ∧ Errs (wheap W) := by
  have h' : laidMet Tryd.prog [("loop.example/s02972/impl.errShort", Rows.laid_loop_example_s02972_impl_errShort), ("loop.example/s02972/impl.errBad", Rows.laid_loop_example_s02972_impl_errBad)] W ∧ handlesMet Tryd.prog [("errors.errorType", Rows.laid_errors_errorType)] W := h
  obtain ⟨⟨ps, hl, _, _⟩, hh⟩ := h'
  obtain ⟨c_errShort, q_errShort, hl⟩ := data_cell d_es d_tes hl
  obtain ⟨c_errBad, q_errBad, hl⟩ := data_cell d_eb d_teb hl
  exact ⟨handle_cell hh, ⟨c_errShort, c_errBad⟩⟩
set_option maxRecDepth 100000 in
theorem readLens_laid (os : Os) (args : Array Value) : laidMetH Tryd.prog Rows.fnExactReadLensRow.laid ((laidWorld os).forCall (fun _ _ => 0) ⟨#[], args, []⟩).memory :=
  laidMetH_of_parts (laidMet_of_run' 8 (by kernel_rfl) (by kernel_rfl)) (by kernel_rfl)
set_option maxRecDepth 100000 in
theorem readLens_lifted (os : Os) (started : os.Started) (H : Type) (enc : TypeId × Value → H) :
    ReturnsInHanded {} Tryd.checked os 5 .any (fun w args => (Rows.fnExactReadLensSpec.pre enc Tryd.prog Tryd.f5 [] false w args ∧ laidMetH Tryd.prog Rows.fnExactReadLensRow.laid w) ∧ sizedMet enc Tryd.prog Tryd.f5 (OpenSpec.ofChange Rows.fnExactReadLensSpec) false w args) (Rows.fnExactReadLensSpec.post enc Tryd.prog Tryd.f5 false true false false) := by
  refine returnsInHanded_of_change_and (C := Tryd.checked) (X := fun w _ => laidMetH Tryd.prog Rows.fnExactReadLensRow.laid w) (fun _ _ _ hh h => h.of_heap hh) Try_own started (by kernel_rfl) Tryd.func5
    (ChangeSpec.witness_at (enc := enc) (C := Tryd.checked) (os := os) (X := fun w _ => laidMetH Tryd.prog Rows.fnExactReadLensRow.laid w) false (laidWorld os) #[.slice none 0 0, .int .i64 0] 8 rfl (by kernel_rfl) (by kernel_rfl) (by kernel_rfl) (by kernel_rfl) (by kernel_rfl) (readLens_laid os _)) ?_
  intro W base args ds gs before hval0 hW hcnd hsz0 hLaid _
  have hval : ∀ (j : Nat) t v, Tryd.f5.params[j]? = some t → args[j]? = some v → Value.okWide Tryd.prog W .any base t v := hval0
  have hW' := hW
  obtain ⟨p, q, hA0, hV, rfl, hfz, hnd⟩ := hW
  have hA : DataW.TrodAll enc Tryd.prog W 0 (fun _ => true) true Tryd.f5.params.toList args.toList ds p := hA0
  have hlt := DataW.TrodAll.lt hA
  rw [Tryd.params5] at hA hval
  obtain ⟨v0, vs0, d0, ds0, p0, q0, hargs, rfl, rfl, h0, r0⟩ := trodAll_cons hA
  obtain ⟨v1, vs1, d1, ds1, p1, q1, rfl, rfl, rfl, h1, r1⟩ := trodAll_cons r0
  obtain ⟨rfl, rfl, rfl⟩ := trodAll_nil r1
  obtain rfl : args = #[v0, v1] := by cases args; simp_all
  have k0 := h0
  have k1 := h1
  obtain ⟨et, ge⟩ := readLens_met hLaid
  have hV1 : DataW.TrodVars enc Tryd.prog W (fun _ => true) ["loop.example/s02972/impl.errBad", "loop.example/s02972/impl.errShort"] gs q := hV
  obtain ⟨dv0, dv1, rfl⟩ : ∃ dv0 dv1, gs = [dv0, dv1] := by
    have hn : gs.length = 2 := trodVars_len hV1
    match gs, hn with
    | [dv0, dv1], _ => exact ⟨_, _, rfl⟩
  obtain ⟨a0, c0, xs0, rfl, hx0, hl0, hw0⟩ := openIntsArg Tryd.underlying22 Tryd.underlying5 readLens_cells_u8 (hval 0 22 v0 rfl rfl) h0
  obtain ⟨n1, rfl, rfl, rfl, w1⟩ := open_int Tryd.underlying2 (hval 1 2 v1 rfl rfl) h1
  refine (calls_of (k_ReadLens (old_inv W) ge et a0 c0 xs0 hx0 hl0 hw0 n1 w1) (by kernel_rfl)).mono fun e W' ⟨he, bel⟩ => ?_
  subst he
  exact ⟨_, rfl, _, _, _, [], _, _, hW', trodAll_mk1 (shut_bool Tryd.underlying4 _), (trodAll_cons_mk (Below.trod Try_laidOut (by kernel_rfl) (of_decide_eq_true (by kernel_rfl)) k0 bel (fun x hx => hlt x (List.mem_append_left _ hx))) (trodAll_cons_mk (shut_int Tryd.underlying2 w1) trodAll_mk0)), Below.trodVars Try_laidOut bel (by kernel_rfl) hV1, bel.frame _, fun h => by cases h⟩
theorem readLens_over : Rows.fnExactReadLensRow.holds Tryd.pinned (OpenSpec.ofChange Rows.fnExactReadLensSpec) :=
  OpenClaim.holds_of_wide 5 Tryd.f5 rfl rfl rfl rfl rfl rfl rfl ⟨rfl, rfl, rfl, rfl, rfl⟩ rfl rfl rfl rfl rfl (by kernel_rfl) Tryd.func5 (by kernel_rfl)
    (of_decide_eq_true (by kernel_rfl)) (by unfold Func.isWrapper; first | (rw [if_pos (by decide +kernel)]; kernel_rfl) | (rw [if_neg (by decide +kernel)]; exact ⟨rfl, rfl⟩))
    (fun os started H enc _ => readLens_lifted os started H enc)
theorem readLens_holds : Rows.FnExactReadLensCardSaid :=
  Claim7.holds_tied_plain_at .later [] [.handle, .data, .data] true Rows.fnExactReadLensCard.stood.harness true
    readLens_over (fun _ h => by cases h) (by kernel_rfl) (fun _ h => by cases h) fnExactReadLens_row_tie rfl ⟨rfl, rfl⟩ (by kernel_rfl) rfl
    (fun f fn hf hfn => by
      obtain rfl : f = 5 := Option.some.inj ((show Tryd.prog.funcNamed "loop.example/s02972/laws.FnExactReadLens" = some 5 by kernel_rfl).symm.trans hf) |>.symm
      obtain rfl : fn = Tryd.f5 := (Option.some.inj (Tryd.func5.symm.trans hfn)).symm
      exact ⟨by kernel_rfl, fun j t ht => by
        rw [Tryd.params5] at ht
        match j, ht with
        | 0, ht => exact Option.some.inj ht ▸ (show Tryd.prog.wantsStandIn 22 = false by kernel_rfl)
        | 1, ht => exact Option.some.inj ht ▸ (show Tryd.prog.wantsStandIn 2 = false by kernel_rfl)
        | j + 2, ht => simp at ht⟩)
    (by kernel_rfl)
#print axioms readLens_holds
end Go.Proofs.YtmnialmphlbmaaaDoor
