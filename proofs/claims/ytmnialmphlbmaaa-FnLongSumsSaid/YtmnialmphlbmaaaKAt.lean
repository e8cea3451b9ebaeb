import Derived.Test.YtmnialmphlbmaaaTrAt
import Derived.Test.YtmnialmphlbmaaaEng8
set_option linter.unusedVariables false
set_option linter.unusedSimpArgs false
namespace Go.Proofs.Ytmnialmphlbmaaa
open Go Go.Eng Go.IntWalk
variable {S : Shared} {h h0 : Eng.Heap}

theorem k_lwAt (hi : Eng.Inv S h) {a : Option Addr} {c : Nat} {more : List Int} (hx : HInts h .u8 a more) (hl : more.length ≤ 1048576) (hw : ∀ x ∈ more, 0 ≤ x ∧ x ≤ 255) (i : Nat) (h1 : i ≤ 100000) :
    CallsH Try.prog S F_laws_lwAt #[.slice a more.length c, .int .i64 i] h (fun v h' => (∃ x, v = .int .i64 x ∧ 0 ≤ x ∧ x ≤ 255) ∧ h' = h) := by
  refine run_laws_lwAt (vs := [.slice a more.length c, .int .i64 i]) ⟨rfl, rfl, trivial⟩ hi ?_
  simp only [t_laws_lwAt, Tr.wp, mksW, callW, Ex.ev, coerce, toInt_int, toBool_bool, slL_sl, slC_sl, slA_sl, toAddr_ptr, ptrOf_ptr, isNil_sl, isNil_ptr, it_and, it_or, it_int, optN_int, optN_nl, cmpI, arith, Cst.val, SV.den, resShs, resV, resSV, resVals, newVars, runCells, exSh, allSh, cellsAre, storeW, List.flatMap_cons, List.flatMap_nil, List.replicate_one, List.getD_cons_zero, List.getD_cons_succ, List.getElem?_cons_zero, List.getElem?_cons_succ, decide_eq_true_eq, decide_eq_false_iff_not, List.map_cons, List.map_nil, List.cons_append, List.nil_append, List.append_nil, List.length_cons, List.length_nil, Nat.zero_add, Nat.add_zero, and_true, true_and, if_true, if_false, Bool.false_eq_true]
  refine ⟨fun hlt => ?_, fun hge => ?_⟩
  · have hi3 : i < more.length := by omega
    obtain ⟨g1, g2⟩ := hx.cell (List.getElem?_eq_getElem hi3)
    have hb := hw _ (List.getElem_mem hi3)
    refine ⟨by simpa using g2, by omega, hlt, more[i], by simpa [add_add] using g1, ?_⟩
    rw [i64_in _ (by omega)]
    exact ⟨_, rfl, hb.1, hb.2⟩
  · rw [i64_in ((i : Int) * 47) (by omega), i64_in _ (by omega), Int.tmod_eq_emod_of_nonneg (by omega)]
    exact ⟨_, rfl, by omega, by omega⟩

end Go.Proofs.Ytmnialmphlbmaaa
