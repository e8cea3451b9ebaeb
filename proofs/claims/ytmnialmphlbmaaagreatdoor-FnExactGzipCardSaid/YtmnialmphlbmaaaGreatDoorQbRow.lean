import Derived.Test.YtmnialmphlbmaaaGreatDoorTie
import Derived.Test.YtmnialmphlbmaaaGreatDoorCards
import Derived.JoinedOf
import Derived.SevenTiedAt
import Derived.Conc.LeavingOf
import Derived.Test.YtmnialmphlbmaaaGreatDoorQb10
import Derived.Test.YtmnialmphlbmaaaGreatDoorQb11
/- The statement gzip_holds, out of texts packed by program. -/
set_option maxRecDepth 100000
set_option maxHeartbeats 8000000
set_option linter.unusedVariables false
set_option linter.unusedSimpArgs false
set_option linter.unusedSectionVars false
namespace Go.Proofs.YtmnialmphlbmaaaGreatDoor
open Go Go.Eng Go.ChangeShapes Go.WideShapes Go.ChangeAt Go.RowKit Go.Conc
theorem Lp : Tryz.prog.cellsOf 5 = 1 := by kernel_rfl
theorem Uy {W : World} (h : laidMetH Tryz.prog Rows.fnExactGzipRow.laid W) : E9 (jV W) /\ ErrS (jV W) := by
 have h' : laidMet Tryz.prog [("loop.example/s02972/impl.errShort", Rows.laid_loop_example_s02972_impl_errShort), ("loop.example/s02972/impl.errBad", Rows.laid_loop_example_s02972_impl_errBad), ("loop.example/s02972/impl.errLarge", Rows.laid_loop_example_s02972_impl_errLarge), ("loop.example/s02972/impl.errSum", Rows.laid_loop_example_s02972_impl_errSum)] W /\ handlesMet Tryz.prog [("errors.errorType", Rows.laid_errors_errorType)] W := h
 obtain ⟨⟨ps, hl, _, _⟩, hh⟩ := h'
 obtain ⟨c_errShort, q_errShort, hl⟩ := Da XV Xz hl
 obtain ⟨c_errBad, q_errBad, hl⟩ := Da XW X0 hl
 obtain ⟨c_errLarge, q_errLarge, hl⟩ := Da XX X1 hl
 obtain ⟨c_errSum, q_errSum, hl⟩ := Da XH WZ hl
 exact ⟨NS hh, ⟨⟨⟨c_errShort, c_errBad⟩, c_errLarge⟩, c_errSum⟩⟩
theorem Sv (os : Os) (args : Array Value) : laidMetH Tryz.prog Rows.fnExactGzipRow.laid ((Jy os).forCall (fun _ _ => 0) ⟨#[], args, []⟩).memory :=
 laidMetH_of_parts (laidMet_of_run' 8 (by kernel_rfl) (by kernel_rfl)) (by kernel_rfl)
theorem Oc (os : Os) (started : os.Started) (H : Type) (enc : TypeId × Value -> H) :
  ReturnsInLeavingWide {} Tryz.checked os 4 .any (fun w args => (Rows.fnExactGzipSpec.pre enc Tryz.prog Tryz.f4 [] false w args /\ laidMetH Tryz.prog Rows.fnExactGzipRow.laid w) /\ sizedMet enc Tryz.prog Tryz.f4 (OpenSpec.ofChange Rows.fnExactGzipSpec) false w args) (Rows.fnExactGzipSpec.post enc Tryz.prog Tryz.f4 false true false false) := by
 refine Ef (C := Tryz.checked) (X := fun w _ => laidMetH Tryz.prog Rows.fnExactGzipRow.laid w) (fun _ _ _ hh h => h.of_heap hh) UU started Tryz.func4
  (ChangeSpec.witness_at (enc := enc) (C := Tryz.checked) (os := os) (X := fun w _ => laidMetH Tryz.prog Rows.fnExactGzipRow.laid w) false (Jy os) #[.slice none 0 0] 8 rfl (by kernel_rfl) (by kernel_rfl) (by kernel_rfl) (by kernel_rfl) (by kernel_rfl) (Sv os _)) ?_
 intro W base args ds gs before hval0 hW hcnd hsz0 hLaid _
 have hval : ∀ (j : Nat) t v, Tryz.f4.params[j]? = some t -> args[j]? = some v -> Value.okWide Tryz.prog W .any base t v := hval0
 have hW' := hW
 obtain ⟨p, q, hA0, hV, rfl, hfz, hnd⟩ := hW
 have hA : DataW.TrodAll enc Tryz.prog W 0 (fun _ => true) true Tryz.f4.params.toList args.toList ds p := hA0
 have hlt := DataW.TrodAll.lt hA
 rw [Tryz.params4] at hA hval
 obtain ⟨v0, d0, rfl, rfl, h0⟩ := trodAll_one hA
 have k0 := h0
 obtain ⟨et, ge⟩ := Uy hLaid
 have hV1 : DataW.TrodVars enc Tryz.prog W (fun _ => true) ["loop.example/s02972/impl.errSum", "loop.example/s02972/impl.errShort", "loop.example/s02972/impl.errBad", "loop.example/s02972/impl.errLarge"] gs q := hV
 obtain ⟨dv0, dv1, dv2, dv3, rfl⟩ : ∃ dv0 dv1 dv2 dv3, gs = [dv0, dv1, dv2, dv3] := by
  have hn : gs.length = 4 := FX hV1
  match gs, hn with
  | [dv0, dv1, dv2, dv3], _ => exact ⟨_, _, _, _, rfl⟩
 obtain ⟨a0, c0, xs0, rfl, hx0, hl0, hw0⟩ := NO Tryz.underlying22 Tryz.underlying5 Lp (hval 0 22 v0 rfl rfl) h0
 have L := Xg (s := fun b => b < W.heap.size) (h := jV W) (fun b hb => UR W b hb) ge et a0 c0 xs0 hx0 hl0 hw0
 obtain ⟨M, last, o, w', t', e1, e2, e3, e4⟩ := TR L (by kernel_rfl) (by kernel_rfl)
 refine ⟨M, last, o, w', t', e1, e2, e3, e4.mono fun v hv => ?_⟩
 obtain ⟨rfl, bel⟩ := hv
 exact ⟨_, _, _, [], _, _, hW', trodAll_mk1 (shut_bool Tryz.underlying4 _), trodAll_mk1 (Below.trod Hl (by kernel_rfl) (of_decide_eq_true (by kernel_rfl)) k0 bel (fun x hx => hlt x hx)), Below.trodVars Hl bel (by kernel_rfl) hV1, bel.frame _, fun h => by cases h⟩
theorem Sw : Rows.fnExactGzipRow.holds Tryz.pinned (OpenSpec.ofChange Rows.fnExactGzipSpec) :=
 OpenClaim.holds_of_wide_leaving 4 Tryz.f4 rfl rfl rfl rfl rfl rfl rfl ⟨rfl, rfl, rfl, rfl, rfl⟩ rfl rfl rfl rfl rfl (by kernel_rfl) Tryz.func4 (by kernel_rfl)
  (of_decide_eq_true (by kernel_rfl)) (by unfold Func.isWrapper; first | (rw [if_pos (by decide +kernel)]; kernel_rfl) | (rw [if_neg (by decide +kernel)]; exact ⟨rfl, rfl⟩))
  (fun os started H enc _ => Oc os started H enc)
theorem gzip_holds : Rows.FnExactGzipCardSaid :=
 Jt .later [.handle, .data, .data, .data, .data] true Rows.fnExactGzipCard.stood.harness true
  Sw (by kernel_rfl) fnExactGzip_row_tie rfl ⟨rfl, rfl⟩ (by kernel_rfl) rfl
  (fun f fn hf hfn => by
   obtain rfl : f = 4 := Option.some.inj ((show Tryz.prog.funcNamed "loop.example/s02972/laws.FnExactGzip" = some 4 by kernel_rfl).symm.trans hf) |>.symm
   obtain rfl : fn = Tryz.f4 := (Option.some.inj (Tryz.func4.symm.trans hfn)).symm
   exact ⟨by kernel_rfl, fun j t ht => by
    rw [Tryz.params4] at ht
    match j, ht with
    | 0, ht => exact Option.some.inj ht ▸ (show Tryz.prog.wantsStandIn 22 = false by kernel_rfl)
    | j + 1, ht => simp at ht⟩)
  (by kernel_rfl)
#print axioms gzip_holds
end Go.Proofs.YtmnialmphlbmaaaGreatDoor
