import Derived.Test.YtmnialmphlbmaaaOpen
import Derived.Test.YtmnialmphlbmaaaKLong
import Derived.Conc.LeavingOf
set_option linter.unusedVariables false
set_option linter.unusedSimpArgs false
namespace Go.Proofs.Ytmnialmphlbmaaa
open Go Go.Eng Go.ChangeShapes Go.WideShapes Go.ChangeAt Go.RowKit Go.Conc

theorem fnLongSums_cells_u8 : Try.prog.cellsOf 5 = 1 := by kernel_rfl
set_option maxRecDepth 100000 in
theorem fnLongSums_lifted (os : Os) (started : os.Started) (H : Type) (enc : TypeId × Value → H) :
    ReturnsInLeavingWide {} Try.checked os 5 .any (Rows.fnLongSumsSpec.pre6 enc Try.prog Try.f5 Rows.fnLongSumsRow.domain false) (Rows.fnLongSumsSpec.post enc Try.prog Try.f5 false true false false) := by
  refine returnsInLeavingWide_of_change_sized (C := Try.checked) Try_own started Try.func5
    (ChangeSpec.witness6 (enc := enc) (C := Try.checked) false ⟨#[], #[.slice none 0 0], []⟩ 8 (by kernel_rfl) (by kernel_rfl) (by kernel_rfl) (by kernel_rfl)) ?_
  intro W base args ds gs before hval0 hW hcnd hsz0 _
  have hval : ∀ (j : Nat) t v, Try.f5.params[j]? = some t → args[j]? = some v → Value.okWide Try.prog W .any base t v := hval0
  have hW' := hW
  obtain ⟨p, q, hA0, hV, rfl, hfz, hnd⟩ := hW
  have hA : DataW.TrodAll enc Try.prog W 0 (fun _ => true) true Try.f5.params.toList args.toList ds p := hA0
  have hlt := DataW.TrodAll.lt hA
  rw [Try.params5] at hA hval
  obtain ⟨v0, d0, rfl, rfl, h0⟩ := trodAll_one hA
  have k0 := h0
  obtain ⟨rfl, rfl⟩ := trodVars_none hV
  obtain ⟨a0, c0, xs0, rfl, hx0, hl0, hw0⟩ := openIntsArg Try.underlying23 Try.underlying5 fnLongSums_cells_u8 (hval 0 23 v0 rfl rfl) h0
  have L := k_LongSums (s := fun b => b < W.heap.size) (h := wheap W) (fun b hb => old_inv W b hb) a0 c0 xs0 hx0 hl0 hw0
  obtain ⟨M, last, o, w', t', e1, e2, e3, e4⟩ := team_run L (by kernel_rfl) (by kernel_rfl)
  refine ⟨M, last, o, w', t', e1, e2, e3, e4.mono fun v hv => ?_⟩
  obtain ⟨rfl, bel⟩ := hv
  exact ⟨_, _, _, [], _, [], hW', trodAll_mk1 (shut_bool Try.underlying4 _), trodAll_mk1 (Below.trod Try_laidOut (by kernel_rfl) (of_decide_eq_true (by kernel_rfl)) k0 bel (fun x hx => hlt x hx)), rfl, bel.frame _, fun h => by cases h⟩
theorem fnLongSums_over : Rows.fnLongSumsRow.holds Try.pinned (OpenSpec.ofChange Rows.fnLongSumsSpec) :=
  OpenClaim.holds_of_wide_leaving 5 Try.f5 rfl rfl rfl rfl rfl rfl rfl ⟨rfl, rfl, rfl, rfl, rfl⟩ rfl rfl rfl rfl rfl (by kernel_rfl) Try.func5 (by kernel_rfl)
    (of_decide_eq_true (by kernel_rfl)) (by unfold Func.isWrapper; first | (rw [if_pos (by decide +kernel)]; kernel_rfl) | (rw [if_neg (by decide +kernel)]; exact ⟨rfl, rfl⟩))
    (fun os started H enc _ => fnLongSums_lifted os started H enc)
theorem fnLongSums_holds : Rows.FnLongSumsSaid := fnLongSums_over
#print axioms fnLongSums_holds
end Go.Proofs.Ytmnialmphlbmaaa
