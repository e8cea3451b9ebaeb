import Derived.Test.YteaonnfokkfnlaaGreatDoorTie
import Derived.Test.YteaonnfokkfnlaaGreatDoorCards
import Derived.JoinedOf
import Derived.SevenTiedAt
import Derived.Conc.LeavingOf
import Derived.Test.YteaonnfokkfnlaaGreatDoorPf10
import Derived.Test.YteaonnfokkfnlaaGreatDoorPf11
/- The statement fnZlib_holds, out of texts packed by program. -/
set_option maxRecDepth 100000
set_option maxHeartbeats 8000000
set_option linter.unusedVariables false
set_option linter.unusedSimpArgs false
set_option linter.unusedSectionVars false
namespace Go.Proofs.YteaonnfokkfnlaaGreatDoor
open Go Go.Eng Go.ChangeShapes Go.WideShapes Go.ChangeAt Go.RowKit Go.Conc
theorem GD : Tryz.prog.cellsOf 5 = 1 := by kernel_rfl
theorem LV {W : World} (h : laidMetH Tryz.prog Rows.fnZlibRow.laid W) : CL (jE W) ∧ ErrZ (jE W) := by
 have h' : laidMet Tryz.prog [("loop.example/s02972/impl.errShort", Rows.laid_loop_example_s02972_impl_errShort), ("loop.example/s02972/impl.errBad", Rows.laid_loop_example_s02972_impl_errBad), ("loop.example/s02972/impl.errLarge", Rows.laid_loop_example_s02972_impl_errLarge), ("loop.example/s02972/impl.errSum", Rows.laid_loop_example_s02972_impl_errSum), ("loop.example/s02972/impl.errDict", Rows.laid_loop_example_s02972_impl_errDict)] W ∧ handlesMet Tryz.prog [("errors.errorType", Rows.laid_errors_errorType)] W := h
 obtain ⟨⟨ps, hl, _, _⟩, hh⟩ := h'
 obtain ⟨c_errShort, q_errShort, hl⟩ := Ao Uc Tw hl
 obtain ⟨c_errBad, q_errBad, hl⟩ := Ao Ud Tx hl
 obtain ⟨c_errLarge, q_errLarge, hl⟩ := Ao Ue Tz hl
 obtain ⟨c_errSum, q_errSum, hl⟩ := Ao TQ SW hl
 obtain ⟨c_errDict, q_errDict, hl⟩ := Ao SU RE hl
 exact ⟨JO hh, ⟨⟨⟨c_errShort, c_errBad⟩, c_errLarge⟩, c_errSum, c_errDict⟩⟩
theorem JU (os : Os) (args : Array Value) : laidMetH Tryz.prog Rows.fnZlibRow.laid ((GB os).forCall (fun _ _ => 0) ⟨#[], args, []⟩).memory :=
 laidMetH_of_parts (laidMet_of_run' 8 (by kernel_rfl) (by kernel_rfl)) (by kernel_rfl)
theorem Ij (os : Os) (started : os.Started) (H : Type) (enc : TypeId × Value → H) :
  ReturnsInLeavingWide {} Tryz.checked os 5 .any (fun w args => (Rows.fnZlibSpec.pre enc Tryz.prog Tryz.f5 [] false w args ∧ laidMetH Tryz.prog Rows.fnZlibRow.laid w) ∧ sizedMet enc Tryz.prog Tryz.f5 (OpenSpec.ofChange Rows.fnZlibSpec) false w args) (Rows.fnZlibSpec.post enc Tryz.prog Tryz.f5 false true false false) := by
 refine Cy (C := Tryz.checked) (X := fun w _ => laidMetH Tryz.prog Rows.fnZlibRow.laid w) (fun _ _ _ hh h => h.of_heap hh) QG started Tryz.func5
  (ChangeSpec.witness_at (enc := enc) (C := Tryz.checked) (os := os) (X := fun w _ => laidMetH Tryz.prog Rows.fnZlibRow.laid w) false (GB os) #[.slice none 0 0] 8 rfl (by kernel_rfl) (by kernel_rfl) (by kernel_rfl) (by kernel_rfl) (by kernel_rfl) (JU os _)) ?_
 intro W base args ds gs before hval0 hW hcnd hsz0 hLaid _
 have hval : ∀ (j : Nat) t v, Tryz.f5.params[j]? = some t → args[j]? = some v → Value.okWide Tryz.prog W .any base t v := hval0
 have hW' := hW
 obtain ⟨p, q, hA0, hV, rfl, hfz, hnd⟩ := hW
 have hA : DataW.TrodAll enc Tryz.prog W 0 (fun _ => true) true Tryz.f5.params.toList args.toList ds p := hA0
 have hlt := DataW.TrodAll.lt hA
 rw [Tryz.params5] at hA hval
 obtain ⟨v0, d0, rfl, rfl, h0⟩ := trodAll_one hA
 have k0 := h0
 obtain ⟨et, ge⟩ := LV hLaid
 have hV1 : DataW.TrodVars enc Tryz.prog W (fun _ => true) ["loop.example/s02972/impl.errBad", "loop.example/s02972/impl.errDict", "loop.example/s02972/impl.errSum", "loop.example/s02972/impl.errShort", "loop.example/s02972/impl.errLarge"] gs q := hV
 obtain ⟨dv0, dv1, dv2, dv3, dv4, rfl⟩ : ∃ dv0 dv1 dv2 dv3 dv4, gs = [dv0, dv1, dv2, dv3, dv4] := by
  have hn : gs.length = 5 := DR hV1
  match gs, hn with
  | [dv0, dv1, dv2, dv3, dv4], _ => exact ⟨_, _, _, _, _, rfl⟩
 obtain ⟨a0, c0, xs0, rfl, hx0, hl0, hw0⟩ := JL Tryz.underlying22 Tryz.underlying5 GD (hval 0 22 v0 rfl rfl) h0
 have L := Qb (s := fun b => b < W.heap.size) (h := jE W) (fun b hb => Q8 W b hb) ge et a0 c0 xs0 hx0 hl0 hw0
 obtain ⟨M, last, o, w', t', e1, e2, e3, e4⟩ := Ps L (by kernel_rfl) (by kernel_rfl)
 refine ⟨M, last, o, w', t', e1, e2, e3, e4.mono fun v hv => ?_⟩
 obtain ⟨rfl, bel⟩ := hv
 exact ⟨_, _, _, [], _, _, hW', trodAll_mk1 (shut_bool Tryz.underlying4 _), trodAll_mk1 (Below.trod EU (by kernel_rfl) (of_decide_eq_true (by kernel_rfl)) k0 bel (fun x hx => hlt x hx)), Below.trodVars EU bel (by kernel_rfl) hV1, bel.frame _, fun h => by cases h⟩
theorem JV : Rows.fnZlibRow.holds Tryz.pinned (OpenSpec.ofChange Rows.fnZlibSpec) :=
 OpenClaim.holds_of_wide_leaving 5 Tryz.f5 rfl rfl rfl rfl rfl rfl rfl ⟨rfl, rfl, rfl, rfl, rfl⟩ rfl rfl rfl rfl rfl (by kernel_rfl) Tryz.func5 (by kernel_rfl)
  (of_decide_eq_true (by kernel_rfl)) (by unfold Func.isWrapper; first | (rw [if_pos (by decide +kernel)]; kernel_rfl) | (rw [if_neg (by decide +kernel)]; exact ⟨rfl, rfl⟩))
  (fun os started H enc _ => Ij os started H enc)
theorem fnZlib_holds : Rows.FnZlibCardSaid :=
 GC .later [.handle, .data, .data, .data, .data, .data] true Rows.fnZlibCard.stood.harness true
  JV (by kernel_rfl) fnZlib_row_tie rfl ⟨rfl, rfl⟩ (by kernel_rfl) rfl
  (fun f fn hf hfn => by
   obtain rfl : f = 5 := Option.some.inj ((show Tryz.prog.funcNamed "loop.example/s02972/laws.FnZlib" = some 5 by kernel_rfl).symm.trans hf) |>.symm
   obtain rfl : fn = Tryz.f5 := (Option.some.inj (Tryz.func5.symm.trans hfn)).symm
   exact ⟨by kernel_rfl, fun j t ht => by
    rw [Tryz.params5] at ht
    match j, ht with
    | 0, ht => exact Option.some.inj ht ▸ (show Tryz.prog.wantsStandIn 22 = false by kernel_rfl)
    | j + 1, ht => simp at ht⟩)
  (by kernel_rfl)
#print axioms fnZlib_holds
end Go.Proofs.YteaonnfokkfnlaaGreatDoor
