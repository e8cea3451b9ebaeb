import Derived.Test.YtmnialmphlbmaaaOpen
import Derived.Test.YtmnialmphlbmaaaKLawCrcUpdate
import Derived.Conc.LeavingOf
set_option linter.unusedVariables false
set_option linter.unusedSimpArgs false
namespace Go.Proofs.Ytmnialmphlbmaaa
open Go Go.Eng Go.ChangeShapes Go.WideShapes Go.ChangeAt Go.RowKit Go.Conc

theorem crcUpdate_cells_u8 : Try.prog.cellsOf 5 = 1 := by kernel_rfl
set_option maxRecDepth 100000 in
theorem crcUpdate_lifted (os : Os) (started : os.Started) (H : Type) (enc : TypeId × Value → H) :
    ReturnsInLeavingWide {} Try.checked os 4 .any (Rows.fnExactCrcUpdateSpec.pre6 enc Try.prog Try.f4 Rows.fnExactCrcUpdateRow.domain false) (Rows.fnExactCrcUpdateSpec.post enc Try.prog Try.f4 false true false false) := by
  refine returnsInLeavingWide_of_change_sized (C := Try.checked) Try_own started Try.func4
    (ChangeSpec.witness6 (enc := enc) (C := Try.checked) false ⟨#[], #[.int .u32 0, .slice none 0 0], []⟩ 8 (by kernel_rfl) (by kernel_rfl) (by kernel_rfl) (by kernel_rfl)) ?_
  intro W base args ds gs before hval0 hW hcnd hsz0 _
  have hval : ∀ (j : Nat) t v, Try.f4.params[j]? = some t → args[j]? = some v → Value.okWide Try.prog W .any base t v := hval0
  have hW' := hW
  obtain ⟨p, q, hA0, hV, rfl, hfz, hnd⟩ := hW
  have hA : DataW.TrodAll enc Try.prog W 0 (fun _ => true) true Try.f4.params.toList args.toList ds p := hA0
  have hlt := DataW.TrodAll.lt hA
  rw [Try.params4] at hA hval
  obtain ⟨v0, vs0, d0, ds0, p0, q0, hargs, rfl, rfl, h0, r0⟩ := trodAll_cons hA
  obtain ⟨v1, vs1, d1, ds1, p1, q1, rfl, rfl, rfl, h1, r1⟩ := trodAll_cons r0
  obtain ⟨rfl, rfl, rfl⟩ := trodAll_nil r1
  obtain rfl : args = #[v0, v1] := by cases args; simp_all
  have k0 := h0
  have k1 := h1
  obtain ⟨rfl, rfl⟩ := trodVars_none hV
  obtain ⟨n0, rfl, rfl, rfl, w0⟩ := open_int Try.underlying22 (hval 0 22 v0 rfl rfl) h0
  obtain ⟨a1, c1, xs1, rfl, hx1, hl1, hw1⟩ := openIntsArg Try.underlying23 Try.underlying5 crcUpdate_cells_u8 (hval 1 23 v1 rfl rfl) h1
  have hb : okB xs1 := fun x hx => by
    have H := hw1 x hx
    have e1 : IntKind.u8.min = 0 := by rfl
    have e2 : IntKind.u8.max = 255 := by rfl
    simp [Lit.wf, e1, e2] at H
    omega
  have hc : 0 ≤ n0 ∧ n0 < 4294967296 := by
    have H := w0
    have e1 : IntKind.u32.min = 0 := by rfl
    have e2 : IntKind.u32.max = 4294967295 := by rfl
    simp [Lit.wf, e1, e2] at H
    omega
  have L := k_CrcUpdate (s := fun b => b < W.heap.size) (h := wheap W) (fun b hb => old_inv W b hb) (BitVec.ofNat 32 n0.toNat) a1 c1 xs1 hx1 hb
  have e0 : bvI (BitVec.ofNat 32 n0.toNat) = .int .u32 n0 := by unfold bvI; rw [BitVec.toNat_ofNat, Nat.mod_eq_of_lt (by omega)]; congr 1; omega
  rw [e0] at L
  obtain ⟨M, last, o, w', t', e1, e2, e3, e4⟩ := team_run L (by kernel_rfl) (by kernel_rfl)
  refine ⟨M, last, o, w', t', e1, e2, e3, e4.mono fun v hv => ?_⟩
  obtain ⟨rfl, bel⟩ := hv
  exact ⟨_, _, _, [], _, [], hW', trodAll_mk1 (shut_bool Try.underlying4 _), (trodAll_cons_mk (shut_int Try.underlying22 w0) (trodAll_cons_mk (Below.trod Try_laidOut (by kernel_rfl) (of_decide_eq_true (by kernel_rfl)) k1 bel (fun x hx => hlt x (List.mem_append_right _ (List.mem_append_left _ hx)))) trodAll_mk0)), rfl, bel.frame _, fun h => by cases h⟩
theorem crcUpdate_over : Rows.fnExactCrcUpdateRow.holds Try.pinned (OpenSpec.ofChange Rows.fnExactCrcUpdateSpec) :=
  OpenClaim.holds_of_wide_leaving 4 Try.f4 rfl rfl rfl rfl rfl rfl rfl ⟨rfl, rfl, rfl, rfl, rfl⟩ rfl rfl rfl rfl rfl (by kernel_rfl) Try.func4 (by kernel_rfl)
    (of_decide_eq_true (by kernel_rfl)) (by unfold Func.isWrapper; first | (rw [if_pos (by decide +kernel)]; kernel_rfl) | (rw [if_neg (by decide +kernel)]; exact ⟨rfl, rfl⟩))
    (fun os started H enc _ => crcUpdate_lifted os started H enc)
theorem crcUpdate_holds : Rows.FnExactCrcUpdateSaid := crcUpdate_over
#print axioms crcUpdate_holds
end Go.Proofs.Ytmnialmphlbmaaa
