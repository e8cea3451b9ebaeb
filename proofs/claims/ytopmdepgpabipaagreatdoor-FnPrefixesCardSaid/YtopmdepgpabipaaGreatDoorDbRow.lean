import Derived.Test.YtopmdepgpabipaaGreatDoorTie
import Derived.Test.YtopmdepgpabipaaGreatDoorCards
import Derived.JoinedOf
import Derived.SevenTiedAt
import Derived.Conc.LeavingOf
import Derived.Test.YtopmdepgpabipaaGreatDoorDb9
import Derived.Test.YtopmdepgpabipaaGreatDoorDb10
/- The statement fnPrefixes_holds, out of texts packed by program. -/
set_option maxRecDepth 100000
set_option maxHeartbeats 8000000
set_option linter.unusedVariables false
set_option linter.unusedSimpArgs false
set_option linter.unusedSectionVars false
namespace Go.Proofs.YtopmdepgpabipaaGreatDoor
open Go Go.Eng Go.ChangeShapes Go.WideShapes Go.ChangeAt Go.RowKit Go.Conc
theorem Bp : Tryz.prog.cellsOf 5 = 1 := by kernel_rfl
theorem M9 {W : World} (h : laidMetH Tryz.prog Rows.fnPrefixesRow.laid W) : Cv (kF W) /\ ErrZ (kF W) := by
 have h' : laidMet Tryz.prog [("loop.example/s02972/impl.errShort", Rows.laid_loop_example_s02972_impl_errShort), ("loop.example/s02972/impl.errBad", Rows.laid_loop_example_s02972_impl_errBad), ("loop.example/s02972/impl.errLarge", Rows.laid_loop_example_s02972_impl_errLarge), ("loop.example/s02972/impl.errSum", Rows.laid_loop_example_s02972_impl_errSum), ("loop.example/s02972/impl.errDict", Rows.laid_loop_example_s02972_impl_errDict)] W /\ handlesMet Tryz.prog [("errors.errorType", Rows.laid_errors_errorType)] W := h
 obtain ⟨⟨ps, hl, _, _⟩, hh⟩ := h'
 obtain ⟨c_errShort, q_errShort, hl⟩ := Ce zaP zau hl
 obtain ⟨c_errBad, q_errBad, hl⟩ := Ce zaQ zav hl
 obtain ⟨c_errLarge, q_errLarge, hl⟩ := Ce zaR zaw hl
 obtain ⟨c_errSum, q_errSum, hl⟩ := Ce zaB ZS hl
 obtain ⟨c_errDict, q_errDict, hl⟩ := Ce ZR Yz hl
 exact ⟨Qz hh, ⟨⟨⟨c_errShort, c_errBad⟩, c_errLarge⟩, c_errSum, c_errDict⟩⟩
theorem Ls (os : Os) (args : Array Value) : laidMetH Tryz.prog Rows.fnPrefixesRow.laid ((Ld os).forCall (fun _ _ => 0) ⟨#[], args, []⟩).memory :=
 laidMetH_of_parts (laidMet_of_run' 8 (by kernel_rfl) (by kernel_rfl)) (by kernel_rfl)
theorem I6 (os : Os) (started : os.Started) (H : Type) (enc : TypeId × Value -> H) :
  ReturnsInLeavingWide {} Tryz.checked os 3 .any (fun w args => (Rows.fnPrefixesSpec.pre enc Tryz.prog Tryz.f3 [] false w args /\ laidMetH Tryz.prog Rows.fnPrefixesRow.laid w) /\ sizedMet enc Tryz.prog Tryz.f3 (OpenSpec.ofChange Rows.fnPrefixesSpec) false w args) (Rows.fnPrefixesSpec.post enc Tryz.prog Tryz.f3 false true false false) := by
 refine Fs (C := Tryz.checked) (X := fun w _ => laidMetH Tryz.prog Rows.fnPrefixesRow.laid w) (fun _ _ _ hh h => h.of_heap hh) XG started Tryz.func3
  (ChangeSpec.witness_at (enc := enc) (C := Tryz.checked) (os := os) (X := fun w _ => laidMetH Tryz.prog Rows.fnPrefixesRow.laid w) false (Ld os) #[.slice none 0 0, .slice none 0 0] 8 rfl (by kernel_rfl) (by kernel_rfl) (by kernel_rfl) (by kernel_rfl) (by kernel_rfl) (Ls os _)) ?_
 intro W base args ds gs before hval0 hW hcnd hsz0 hLaid _
 have hval : ∀ (j : Nat) t v, Tryz.f3.params[j]? = some t -> args[j]? = some v -> Value.okWide Tryz.prog W .any base t v := hval0
 have hW' := hW
 obtain ⟨p, q, hA0, hV, rfl, hfz, hnd⟩ := hW
 have hA : DataW.TrodAll enc Tryz.prog W 0 (fun _ => true) true Tryz.f3.params.toList args.toList ds p := hA0
 have hlt := DataW.TrodAll.lt hA
 rw [Tryz.params3] at hA hval
 obtain ⟨v0, vs0, d0, ds0, p0, q0, hargs, rfl, rfl, h0, r0⟩ := trodAll_cons hA
 obtain ⟨v1, vs1, d1, ds1, p1, q1, rfl, rfl, rfl, h1, r1⟩ := trodAll_cons r0
 obtain ⟨rfl, rfl, rfl⟩ := trodAll_nil r1
 obtain rfl : args = #[v0, v1] := by cases args; simp_all
 have k0 := h0
 have k1 := h1
 obtain ⟨et, ge⟩ := M9 hLaid
 have hV1 : DataW.TrodVars enc Tryz.prog W (fun _ => true) ["loop.example/s02972/impl.errBad", "loop.example/s02972/impl.errShort", "loop.example/s02972/impl.errLarge", "loop.example/s02972/impl.errDict", "loop.example/s02972/impl.errSum"] gs q := hV
 obtain ⟨dv0, dv1, dv2, dv3, dv4, rfl⟩ : ∃ dv0 dv1 dv2 dv3 dv4, gs = [dv0, dv1, dv2, dv3, dv4] := by
  have hn : gs.length = 5 := Hs hV1
  match gs, hn with
  | [dv0, dv1, dv2, dv3, dv4], _ => exact ⟨_, _, _, _, _, rfl⟩
 obtain ⟨a0, c0, xs0, rfl, hx0, hl0, hw0⟩ := IE Tryz.underlying22 Tryz.underlying5 Bp (hval 0 22 v0 rfl rfl) h0
 obtain ⟨a1, c1, xs1, rfl, hx1, hl1, hw1⟩ := IE Tryz.underlying22 Tryz.underlying5 Bp (hval 1 22 v1 rfl rfl) h1
 have L := Qe (s := fun b => b < W.heap.size) (h := kF W) (fun b hb => XD W b hb) ge et a0 c0 xs0 hx0 hl0 hw0 a1 c1 xs1 hx1 hl1 hw1
 obtain ⟨M, last, o, w', t', e1, e2, e3, e4⟩ := Wr L (by kernel_rfl) (by kernel_rfl)
 refine ⟨M, last, o, w', t', e1, e2, e3, e4.mono fun v hv => ?_⟩
 obtain ⟨rfl, bel⟩ := hv
 exact ⟨_, _, _, [], _, _, hW', trodAll_mk1 (shut_bool Tryz.underlying4 _), (trodAll_cons_mk (Below.trod Ev (by kernel_rfl) (of_decide_eq_true (by kernel_rfl)) k0 bel (fun x hx => hlt x (List.mem_append_left _ hx))) (trodAll_cons_mk (Below.trod Ev (by kernel_rfl) (of_decide_eq_true (by kernel_rfl)) k1 bel (fun x hx => hlt x (List.mem_append_right _ (List.mem_append_left _ hx)))) trodAll_mk0)), Below.trodVars Ev bel (by kernel_rfl) hV1, bel.frame _, fun h => by cases h⟩
theorem Lt : Rows.fnPrefixesRow.holds Tryz.pinned (OpenSpec.ofChange Rows.fnPrefixesSpec) :=
 OpenClaim.holds_of_wide_leaving 3 Tryz.f3 rfl rfl rfl rfl rfl rfl rfl ⟨rfl, rfl, rfl, rfl, rfl⟩ rfl rfl rfl rfl rfl (by kernel_rfl) Tryz.func3 (by kernel_rfl)
  (of_decide_eq_true (by kernel_rfl)) (by unfold Func.isWrapper; first | (rw [if_pos (by decide +kernel)]; kernel_rfl) | (rw [if_neg (by decide +kernel)]; exact ⟨rfl, rfl⟩))
  (fun os started H enc _ => I6 os started H enc)
theorem fnPrefixes_holds : Rows.FnPrefixesCardSaid :=
 Lg .later [.handle, .data, .data, .data, .data, .data] true Rows.fnPrefixesCard.stood.harness true
  Lt (by kernel_rfl) fnPrefixes_row_tie rfl ⟨rfl, rfl⟩ (by kernel_rfl) rfl
  (fun f fn hf hfn => by
   obtain rfl : f = 3 := Option.some.inj ((show Tryz.prog.funcNamed "loop.example/s02972/laws.FnPrefixes" = some 3 by kernel_rfl).symm.trans hf) |>.symm
   obtain rfl : fn = Tryz.f3 := (Option.some.inj (Tryz.func3.symm.trans hfn)).symm
   exact ⟨by kernel_rfl, fun j t ht => by
    rw [Tryz.params3] at ht
    match j, ht with
    | 0, ht => exact Option.some.inj ht ▸ (show Tryz.prog.wantsStandIn 22 = false by kernel_rfl)
    | 1, ht => exact Option.some.inj ht ▸ (show Tryz.prog.wantsStandIn 22 = false by kernel_rfl)
    | j + 2, ht => simp at ht⟩)
  (by kernel_rfl)
#print axioms fnPrefixes_holds
end Go.Proofs.YtopmdepgpabipaaGreatDoor
