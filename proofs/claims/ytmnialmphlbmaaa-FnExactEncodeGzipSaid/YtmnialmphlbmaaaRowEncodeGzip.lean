import Derived.Test.YtmnialmphlbmaaaOpen8
import Derived.Test.YtmnialmphlbmaaaKLawEncodeGzip
import Derived.Conc.LeavingOf
set_option linter.unusedVariables false
set_option linter.unusedSimpArgs false
namespace Go.Proofs.Ytmnialmphlbmaaa
open Go Go.Eng Go.ChangeShapes Go.WideShapes Go.ChangeAt Go.RowKit Go.Conc

theorem encodeGzip_cells_u8 : Try.prog.cellsOf 5 = 1 := by kernel_rfl
set_option maxRecDepth 100000 in
theorem encodeGzip_lifted (os : Os) (started : os.Started) (H : Type) (enc : TypeId × Value → H) :
    ReturnsInLeavingWide {} Try.checked os 8 .any (Rows.fnExactEncodeGzipSpec.pre6 enc Try.prog Try.f8 Rows.fnExactEncodeGzipRow.domain false) (Rows.fnExactEncodeGzipSpec.post enc Try.prog Try.f8 false true false false) := by
  refine returnsInLeavingWide_of_change_sized (C := Try.checked) Try_own started Try.func8
    (ChangeSpec.witness6 (enc := enc) (C := Try.checked) false ⟨#[], #[.agg #[.int .i64 0, .int .i64 0, .int .i64 0, .int .i64 0, .slice none 0 0, .slice none 0 0, .slice none 0 0, .int .i64 0], .slice none 0 0], []⟩ 8 (by kernel_rfl) (by kernel_rfl) (by kernel_rfl) (by kernel_rfl)) ?_
  intro W base args ds gs before hval0 hW hcnd hsz0 _
  have hval : ∀ (j : Nat) t v, Try.f8.params[j]? = some t → args[j]? = some v → Value.okWide Try.prog W .any base t v := hval0
  have hW' := hW
  obtain ⟨p, q, hA0, hV, rfl, hfz, hnd⟩ := hW
  have hA : DataW.TrodAll enc Try.prog W 0 (fun _ => true) true Try.f8.params.toList args.toList ds p := hA0
  have hlt := DataW.TrodAll.lt hA
  rw [Try.params8] at hA hval
  obtain ⟨v0, vs0, d0, ds0, p0, q0, hargs, rfl, rfl, h0, r0⟩ := trodAll_cons hA
  obtain ⟨v1, vs1, d1, ds1, p1, q1, rfl, rfl, rfl, h1, r1⟩ := trodAll_cons r0
  obtain ⟨rfl, rfl, rfl⟩ := trodAll_nil r1
  obtain rfl : args = #[v0, v1] := by cases args; simp_all
  have k0 := h0
  have k1 := h1
  obtain ⟨rfl, rfl⟩ := trodVars_none hV
  obtain ⟨u00, u01, u02, u03, u04, u05, u06, u07, n, rfl, ⟨y00, t00⟩, ⟨y01, t01⟩, ⟨y02, t02⟩, ⟨y03, t03⟩, ⟨y04, t04⟩, ⟨y05, t05⟩, ⟨y06, t06⟩, ⟨y07, t07⟩⟩ := openAgg8 Try.underlying37 (by kernel_rfl) (by kernel_rfl) (hval 0 37 v0 rfl rfl) h0
  obtain ⟨m00, e00, _, w00⟩ := DataW.trod_int Try.underlying2 t00
  obtain rfl : u00 = .int .i64 m00 := by simpa using e00
  obtain ⟨m01, e01, _, w01⟩ := DataW.trod_int Try.underlying2 t01
  obtain rfl : u01 = .int .i64 m01 := by simpa using e01
  obtain ⟨m02, e02, _, w02⟩ := DataW.trod_int Try.underlying2 t02
  obtain rfl : u02 = .int .i64 m02 := by simpa using e02
  obtain ⟨m03, e03, _, w03⟩ := DataW.trod_int Try.underlying2 t03
  obtain rfl : u03 = .int .i64 m03 := by simpa using e03
  obtain ⟨a04, c04, xs04, rfl, hx04, hl04, hw04⟩ := openInts Try.underlying23 Try.underlying5 encodeGzip_cells_u8 t04
  obtain ⟨a05, c05, xs05, rfl, hx05, hl05, hw05⟩ := openInts Try.underlying23 Try.underlying5 encodeGzip_cells_u8 t05
  obtain ⟨a06, c06, xs06, rfl, hx06, hl06, hw06⟩ := openInts Try.underlying23 Try.underlying5 encodeGzip_cells_u8 t06
  obtain ⟨m07, e07, _, w07⟩ := DataW.trod_int Try.underlying2 t07
  obtain rfl : u07 = .int .i64 m07 := by simpa using e07
  obtain ⟨a1, c1, xs1, rfl, hx1, hl1, hw1⟩ := openIntsArg Try.underlying23 Try.underlying5 encodeGzip_cells_u8 (hval 1 23 v1 rfl rfl) h1
  have L := k_EncodeGzip (s := fun b => b < W.heap.size) (h := wheap W) (fun b hb => old_inv W b hb) m00 w00 m01 w01 m02 w02 m03 w03 a04 c04 xs04 hx04 hl04 hw04 a05 c05 xs05 hx05 hl05 hw05 a06 c06 xs06 hx06 hl06 hw06 m07 w07 a1 c1 xs1 hx1 hl1 hw1
  obtain ⟨M, last, o, w', t', e1, e2, e3, e4⟩ := team_run L (by kernel_rfl) (by kernel_rfl)
  refine ⟨M, last, o, w', t', e1, e2, e3, e4.mono fun v hv => ?_⟩
  obtain ⟨rfl, bel⟩ := hv
  exact ⟨_, _, _, [], _, [], hW', trodAll_mk1 (shut_bool Try.underlying4 _), (trodAll_cons_mk (Below.trod Try_laidOut (by kernel_rfl) (of_decide_eq_true (by kernel_rfl)) k0 bel (fun x hx => hlt x (List.mem_append_left _ hx))) (trodAll_cons_mk (Below.trod Try_laidOut (by kernel_rfl) (of_decide_eq_true (by kernel_rfl)) k1 bel (fun x hx => hlt x (List.mem_append_right _ (List.mem_append_left _ hx)))) trodAll_mk0)), rfl, bel.frame _, fun h => by cases h⟩
theorem encodeGzip_over : Rows.fnExactEncodeGzipRow.holds Try.pinned (OpenSpec.ofChange Rows.fnExactEncodeGzipSpec) :=
  OpenClaim.holds_of_wide_leaving 8 Try.f8 rfl rfl rfl rfl rfl rfl rfl ⟨rfl, rfl, rfl, rfl, rfl⟩ rfl rfl rfl rfl rfl (by kernel_rfl) Try.func8 (by kernel_rfl)
    (of_decide_eq_true (by kernel_rfl)) (by unfold Func.isWrapper; first | (rw [if_pos (by decide +kernel)]; kernel_rfl) | (rw [if_neg (by decide +kernel)]; exact ⟨rfl, rfl⟩))
    (fun os started H enc _ => encodeGzip_lifted os started H enc)
theorem encodeGzip_holds : Rows.FnExactEncodeGzipSaid := encodeGzip_over
#print axioms encodeGzip_holds
end Go.Proofs.Ytmnialmphlbmaaa
