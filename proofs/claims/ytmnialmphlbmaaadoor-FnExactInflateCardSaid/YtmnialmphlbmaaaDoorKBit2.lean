import Derived.Test.YtmnialmphlbmaaaDoorTrRd
import Derived.Test.YtmnialmphlbmaaaDoorEng3
import Derived.IntWalk
set_option linter.unusedVariables false
set_option linter.unusedSimpArgs false
namespace Go.Proofs.YtmnialmphlbmaaaDoor
open Go Go.Eng Go.IntWalk
variable {S : Shared} {h : Eng.Heap}

theorem i64_of_wf {n : Int} (H : (Lit.int .i64 n).wf = true) : -9223372036854775808 ≤ n ∧ n ≤ 9223372036854775807 := by
  have e1 : IntKind.i64.min = -9223372036854775808 := by rfl
  have e2 : IntKind.i64.max = 9223372036854775807 := by rfl
  simp [Lit.wf, e1, e2] at H; exact H

theorem k_l2Bit (hi : Eng.Inv S h) (a : Option Addr) (c : Nat) (xs : List Int) (i : Nat) (hx : HInts h .u8 a xs) (hl : xs.length ≤ 1048576) (hlt : i / 8 < xs.length) :
    CallsH Tryd.prog S F_spec_l2Bit #[.slice a xs.length c, .int .i64 i] h (fun v h' => v = .int .u64 (bitAt xs i) ∧ h' = h) := by
  refine run_spec_l2Bit (vs := [.slice a xs.length c, .int .i64 i]) ⟨rfl, rfl, trivial⟩ hi ?_
  simp only [t_spec_l2Bit, Tr.wp, mksW, callW, Ex.ev, coerce, toInt_int, toBool_bool, slL_sl, slC_sl, slA_sl, toAddr_ptr, ptrOf_ptr, isNil_sl, isNil_ptr, it_and, it_or, it_int, optN_int, optN_nl, cmpI, arith, Cst.val, SV.den, resShs, resV, resSV, resVals, newVars, runCells, exSh, allSh, cellsAre, storeW, List.flatMap_cons, List.flatMap_nil, List.replicate_one, List.getD_cons_zero, List.getD_cons_succ, List.getElem?_cons_zero, List.getElem?_cons_succ, decide_eq_true_eq, decide_eq_false_iff_not, List.map_cons, List.map_nil, List.cons_append, List.nil_append, List.append_nil, List.length_cons, List.length_nil, Nat.zero_add, Nat.add_zero, and_true, true_and, if_true, if_false, Bool.false_eq_true]
  have w1 : IntKind.i64.wrap ((i : Int).tdiv 8) = ((i / 8 : Nat) : Int) := by rw [Int.tdiv_eq_ediv_of_nonneg (by omega)]; exact i64_in _ (by omega)
  have w2 : (i : Int).tmod 8 = ((i % 8 : Nat) : Int) := by rw [Int.tmod_eq_emod_of_nonneg (by omega)]; omega
  have w3 : IntKind.u64.wrap ((i % 8 : Nat) : Int) = ((i % 8 : Nat) : Int) := u64_in _ (by omega)
  rw [w1, w2, w3]
  obtain ⟨g1, g2⟩ := hx.cell (List.getElem?_eq_getElem hlt)
  refine ⟨by simpa using g2, by omega, by omega, xs[i / 8], by simp only [Int.toNat_natCast, Nat.mul_one, add_add, Nat.add_zero]; exact g1, by simp; omega, ?_⟩
  have e : min ((i % 8 : Nat) : Int).toNat IntKind.u8.bits = i % 8 := by
    have : IntKind.u8.bits = 8 := rfl
    rw [this]; omega
  rw [e]
  congr 1
  have e2 : xs.getD (i / 8) 0 = xs[i / 8] := by simp [List.getD, List.getElem?_eq_getElem hlt]
  rw [bitAt, e2, IntKind.wrap_u64, Int.tmod_eq_emod_of_nonneg (by omega)]
  omega
end Go.Proofs.YtmnialmphlbmaaaDoor
