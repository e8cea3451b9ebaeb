import Derived.Test.YtmnialmphlbmaaaTrCr
import Derived.Test.YtmnialmphlbmaaaKAdler
import Derived.Test.YtmnialmphlbmaaaKCrcLaw
set_option linter.unusedVariables false
set_option linter.unusedSimpArgs false
namespace Go.Proofs.Ytmnialmphlbmaaa
open Go Go.Eng Go.IntWalk
variable {S : Shared} {h : Eng.Heap}

/-! ### The sum of CRC-32: contracts -/
def bvI (b : BitVec 32) : Value := .int .u32 b.toNat

theorem g_impl_step (hi : Eng.Inv S h) (b : BitVec 32) : CallsH Try.prog S F_impl_step #[bvI b] h (fun v h' => v = bvI (stB b) ∧ h' = h) := by
  refine run_impl_step (vs := [bvI b]) ⟨rfl, trivial⟩ hi ?_
  simp only [t_impl_step, bvI, Tr.wp, mksW, callW, Ex.ev, coerce, toInt_int, toBool_bool, slL_sl, slC_sl, slA_sl, toAddr_ptr, ptrOf_ptr, isNil_sl, isNil_ptr, it_and, it_or, it_int, optN_int, optN_nl, cmpI, arith, Cst.val, SV.den, resShs, resV, resSV, resVals, newVars, runCells, exSh, allSh, cellsAre, storeW, List.flatMap_cons, List.flatMap_nil, List.replicate_one, List.getD_cons_zero, List.getD_cons_succ, List.getElem?_cons_zero, List.getElem?_cons_succ, decide_eq_true_eq, decide_eq_false_iff_not, List.map_cons, List.map_nil, List.cons_append, List.nil_append, List.append_nil, List.length_cons, List.length_nil, Nat.zero_add, Nat.add_zero, and_true, true_and, if_true, if_false, Bool.false_eq_true]
  have e1 : ∀ x : Int, Int.fdiv x (2 ^ (min (1 : Int).toNat IntKind.u32.bits)) = Int.fdiv x (2 ^ 1) := fun x => rfl
  rw [and1_bv]
  refine ⟨fun c => ?_, fun c => ?_⟩
  · have hb : b.getLsbD 0 = true := by rw [lsb_bv]; simp at c ⊢; omega
    rw [e1, shr_bv, show (3988292384 : Int) = ((3988292384#32).toNat : Int) by decide, xor_bv]
    unfold stB; rw [hb]; rfl
  · have hb : b.getLsbD 0 = false := by rw [lsb_bv]; simp at c ⊢; omega
    rw [e1, shr_bv]
    unfold stB; rw [hb]; rfl

theorem g_spec_l1Half (hi : Eng.Inv S h) (b : BitVec 32) : CallsH Try.prog S F_spec_l1Half #[bvI b] h (fun v h' => v = bvI (stB b) ∧ h' = h) := by
  refine run_spec_l1Half (vs := [bvI b]) ⟨rfl, trivial⟩ hi ?_
  simp only [t_spec_l1Half, bvI, Tr.wp, mksW, callW, Ex.ev, coerce, toInt_int, toBool_bool, slL_sl, slC_sl, slA_sl, toAddr_ptr, ptrOf_ptr, isNil_sl, isNil_ptr, it_and, it_or, it_int, optN_int, optN_nl, cmpI, arith, Cst.val, SV.den, resShs, resV, resSV, resVals, newVars, runCells, exSh, allSh, cellsAre, storeW, List.flatMap_cons, List.flatMap_nil, List.replicate_one, List.getD_cons_zero, List.getD_cons_succ, List.getElem?_cons_zero, List.getElem?_cons_succ, decide_eq_true_eq, decide_eq_false_iff_not, List.map_cons, List.map_nil, List.cons_append, List.nil_append, List.append_nil, List.length_cons, List.length_nil, Nat.zero_add, Nat.add_zero, and_true, true_and, if_true, if_false, Bool.false_eq_true]
  have hlt := bv_lt b
  have e1 : (b.toNat : Int).tmod 2 = (b.toNat : Int) % 2 := Int.tmod_eq_emod_of_nonneg (by omega)
  have e2 : IntKind.u32.wrap ((b.toNat : Int).tdiv 2) = ((b >>> 1).toNat : Int) := by
    rw [Int.tdiv_eq_ediv_of_nonneg (by omega), IntKind.wrap_u32, BitVec.toNat_ushiftRight, Nat.shiftRight_eq_div_pow]; omega
  rw [e1, e2]
  refine ⟨fun c => ?_, fun c => ?_⟩
  · have hb : b.getLsbD 0 = true := by rw [lsb_bv]; simp at c ⊢; omega
    rw [show (3988292384 : Int) = ((3988292384#32).toNat : Int) by decide, xor_bv]
    unfold stB; rw [hb]; rfl
  · have hb : b.getLsbD 0 = false := by rw [lsb_bv]; simp at c ⊢; omega
    unfold stB; rw [hb]; rfl

/-- A sum goes on with a byte, by 8 steps: what a loop of 8 says. -/
theorem crc_take (c : BitVec 32) {xs : List Int} {i : Nat} (hi : i < xs.length) : (xs.take (i + 1)).foldl byB c = itB 8 ((xs.take i).foldl byB c ^^^ BitVec.ofInt 32 xs[i]) := fold_next byB c hi

theorem wrap_byte {x : Int} (hx : 0 ≤ x ∧ x < 256) : IntKind.u32.wrap x = x := by rw [IntKind.wrap_u32]; omega

theorem g_spec_CrcUpdate (hi : Eng.Inv S h) (b : BitVec 32) (a : Option Addr) (c : Nat) (xs : List Int) (hx : HInts h .u8 a xs) (hb : ∀ x ∈ xs, 0 ≤ x ∧ x < 256) (hl : xs.length ≤ 2 ^ 48) :
    CallsH Try.prog S F_spec_CrcUpdate #[bvI b, .slice a xs.length c] h (fun v h' => v = bvI (crcB b xs) ∧ h' = h) := by
  refine run_spec_CrcUpdate (vs := [bvI b, .slice a xs.length c]) ⟨rfl, rfl, trivial⟩ hi ?_
  simp only [t_spec_CrcUpdate, bvI, Tr.wp, mksW, callW, Ex.ev, coerce, toInt_int, toBool_bool, slL_sl, slC_sl, slA_sl, toAddr_ptr, ptrOf_ptr, isNil_sl, isNil_ptr, it_and, it_or, it_int, optN_int, optN_nl, cmpI, arith, Cst.val, SV.den, resShs, resV, resSV, resVals, newVars, runCells, exSh, allSh, cellsAre, storeW, List.flatMap_cons, List.flatMap_nil, List.replicate_one, List.getD_cons_zero, List.getD_cons_succ, List.getElem?_cons_zero, List.getElem?_cons_succ, decide_eq_true_eq, decide_eq_false_iff_not, List.map_cons, List.map_nil, List.cons_append, List.nil_append, List.append_nil, List.length_cons, List.length_nil, Nat.zero_add, Nat.add_zero, and_true, true_and, if_true, if_false, Bool.false_eq_true, not_bv]
  refine ⟨fun us h' => ∃ i : Nat, us = [bvI ((xs.take i).foldl byB (~~~ b)), .int .i64 i] ∧ i ≤ xs.length ∧ h' = h,
    fun us _ => xs.length - (toInt (us.getD 1 undef)).toNat, ⟨0, rfl, by omega, rfl⟩, ?_⟩
  rintro x y h' ⟨i, hx1, hi2, rfl⟩
  simp only [bvI, List.cons.injEq, Value.int.injEq, true_and, and_true] at hx1
  obtain ⟨rfl, rfl⟩ := hx1
  refine ⟨fun hlt => ?_, fun hge => ?_⟩
  · have hi3 : i < xs.length := by omega
    have hbi := hb _ (List.getElem_mem hi3)
    obtain ⟨g1, g2⟩ := hx.cell (List.getElem?_eq_getElem hi3)
    have w2 : IntKind.i64.wrap ((i : Int) + 1) = ((i + 1 : Nat) : Int) := by rw [i64_in _ (by omega)]; omega
    refine ⟨by simpa using g2, by omega, by omega, xs[i], by simpa [add_add] using g1, ?_⟩
    rw [wrap_byte hbi, xor_bv']
    refine ⟨fun us h2 => ∃ k : Nat, us = [bvI (itB k ((xs.take i).foldl byB (~~~ b) ^^^ BitVec.ofInt 32 xs[i])), .int .i64 k] ∧ k ≤ 8 ∧ h2 = h',
      fun us _ => 8 - (toInt (us.getD 1 undef)).toNat, ⟨0, rfl, by omega, rfl⟩, ?_⟩
    rintro x y h2 ⟨k, hx1, hk, rfl⟩
    simp only [bvI, List.cons.injEq, Value.int.injEq, true_and, and_true] at hx1
    obtain ⟨rfl, rfl⟩ := hx1
    refine ⟨fun hlt2 => ?_, fun hge => ?_⟩
    · refine (g_spec_l1Half hi _).mono ?_
      rintro _ h3 ⟨rfl, rfl⟩
      have w3 : IntKind.i64.wrap ((k : Int) + 1) = ((k + 1 : Nat) : Int) := by rw [i64_in _ (by omega)]; omega
      refine ⟨_, rfl, ⟨k + 1, ?_, by omega, rfl⟩, ?_⟩
      · rw [w3, itB_succ]; rfl
      · simp only [w3, List.getD_cons_succ, List.getD_cons_zero, toInt_int, Int.toNat_natCast]; omega
    · obtain rfl : k = 8 := by omega
      refine ⟨⟨i + 1, ?_, by omega, rfl⟩, ?_⟩
      · rw [w2, crc_take _ hi3]; rfl
      · simp only [w2, List.getD_cons_succ, List.getD_cons_zero, toInt_int, Int.toNat_natCast]; omega
  · obtain rfl : i = xs.length := by omega
    refine ⟨?_, rfl⟩
    rw [List.take_length, not_bv]; rfl
end Go.Proofs.Ytmnialmphlbmaaa
