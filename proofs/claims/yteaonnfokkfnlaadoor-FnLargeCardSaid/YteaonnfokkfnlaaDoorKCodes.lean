import Derived.Test.YteaonnfokkfnlaaDoorKHuff
import Derived.Test.YteaonnfokkfnlaaDoorTyCodes
set_option linter.unusedVariables false
set_option linter.unusedSimpArgs false
namespace Go.Proofs.YteaonnfokkfnlaaDoor
open Go Go.Eng Go.IntWalk
variable {S : Shared} {h : Eng.Heap}

/-- The n lowest bits turned round. -/
def tl (x : Int) : Nat → Int
  | 0 => 0
  | i + 1 => 2 * tl x i + (x / 2 ^ i) % 2

theorem tl_lt {x : Int} {n : Nat} : 0 ≤ tl x n ∧ tl x n < 2 ^ n := by
  induction n with
  | zero => simp [tl]
  | succ n ih =>
    rw [tl, show (2 : Int) ^ (n + 1) = 2 * 2 ^ n by rw [Int.pow_succ]; omega]
    omega

theorem pow2_le {n m : Nat} (h : n ≤ m) : (2 : Int) ^ n ≤ 2 ^ m := by
  rw [pow_cast, pow_cast]; exact_mod_cast Nat.pow_le_pow_right (by decide) h

theorem div_pow_succ (x : Int) (i : Nat) : x / 2 ^ i / 2 = x / 2 ^ (i + 1) := by
  rw [Int.pow_succ, Int.ediv_ediv_of_nonneg (Int.le_of_lt (Int.pow_pos (by decide)))]

theorem k_l3Turn (hi : Eng.Inv S h) (x : Int) (n : Nat) (h0 : 0 ≤ x) (h1 : x ≤ 1099511627776) (hn : n ≤ 32) :
    CallsH Tryd.prog S F_spec_l3Turn #[.int .i64 x, .int .i64 n] h (fun v h' => v = .int .u64 (tl x n) ∧ h' = h) := by
  refine run_spec_l3Turn (vs := [.int .i64 x, .int .i64 n]) ⟨rfl, rfl, trivial⟩ hi ?_
  simp only [t_spec_l3Turn, Tr.wp, mksW, callW, Ex.ev, coerce, toInt_int, toBool_bool, slL_sl, slC_sl, slA_sl, toAddr_ptr, ptrOf_ptr, isNil_sl, isNil_ptr, it_and, it_or, it_int, optN_int, optN_nl, cmpI, arith, Cst.val, SV.den, resShs, resV, resSV, resVals, newVars, runCells, exSh, allSh, cellsAre, storeW, List.flatMap_cons, List.flatMap_nil, List.replicate_one, List.getD_cons_zero, List.getD_cons_succ, List.getElem?_cons_zero, List.getElem?_cons_succ, decide_eq_true_eq, decide_eq_false_iff_not, List.map_cons, List.map_nil, List.cons_append, List.nil_append, List.append_nil, List.length_cons, List.length_nil, Nat.zero_add, Nat.add_zero, and_true, true_and, if_true, if_false, Bool.false_eq_true]
  refine ⟨fun us h' => ∃ i : Nat, us = [.int .i64 (x / 2 ^ i), .int .u64 (tl x i), .int .i64 i] ∧ i ≤ n ∧ h' = h, fun us _ => n - (toInt (us.getD 2 undef)).toNat, ⟨0, by simp [tl], by omega, rfl⟩, ?_⟩
  rintro a b c h' ⟨i, hx1, hi2, rfl⟩
  obtain ⟨rfl, rfl, rfl⟩ : a = x / 2 ^ i ∧ b = tl x i ∧ c = i := by simpa using hx1
  refine ⟨fun hlt => ?_, fun hge => ?_⟩
  · have hp : (0 : Int) < 2 ^ i := Int.pow_pos (by decide)
    have hx0 : 0 ≤ x / 2 ^ i := Int.ediv_nonneg h0 (Int.le_of_lt hp)
    have hxl : x / 2 ^ i ≤ x := Int.ediv_le_self _ h0
    have ht := tl_lt (x := x) (n := i)
    have hp32 : (2 : Int) ^ i ≤ 2 ^ 32 := pow2_le (by omega)
    have e32 : (2 : Int) ^ 32 = 4294967296 := by decide
    have w1 : IntKind.i64.wrap ((x / 2 ^ i).tdiv 2) = x / 2 ^ (i + 1) := by
      rw [i64_quo _ _ ⟨hx0, by omega, by omega⟩, div_pow_succ]
    have w2 : IntKind.u64.wrap (IntKind.u64.wrap (2 * tl x i) + IntKind.u64.wrap ((x / 2 ^ i).tmod 2)) = tl x (i + 1) := by
      rw [Int.tmod_eq_emod_of_nonneg hx0, u64_in (2 * tl x i) (by omega), u64_in (x / 2 ^ i % 2) (by omega), u64_in _ (by omega)]
      rfl
    have w3 : IntKind.i64.wrap ((i : Int) + 1) = ((i + 1 : Nat) : Int) := by rw [i64_in _ (by omega)]; omega
    rw [w1, w2, w3]
    exact ⟨⟨i + 1, rfl, by omega, rfl⟩, by simp only [List.getD_cons_succ, List.getD_cons_zero, toInt_int]; omega⟩
  · obtain rfl : i = n := by omega
    exact ⟨rfl, rfl⟩

theorem k_turned (hi : Eng.Inv S h) (x : Int) (n : Nat) (h0 : 0 ≤ x) (h1 : x ≤ 1099511627776) (hn : n ≤ 32) :
    CallsH Tryd.prog S F_impl_turned #[.int .u64 x, .int .i64 n] h (fun v h' => v = .int .u64 (tl x n) ∧ h' = h) := by
  refine run_impl_turned (vs := [.int .u64 x, .int .i64 n]) ⟨rfl, rfl, trivial⟩ hi ?_
  simp only [t_impl_turned, Tr.wp, mksW, callW, Ex.ev, coerce, toInt_int, toBool_bool, slL_sl, slC_sl, slA_sl, toAddr_ptr, ptrOf_ptr, isNil_sl, isNil_ptr, it_and, it_or, it_int, optN_int, optN_nl, cmpI, arith, Cst.val, SV.den, resShs, resV, resSV, resVals, newVars, runCells, exSh, allSh, cellsAre, storeW, List.flatMap_cons, List.flatMap_nil, List.replicate_one, List.getD_cons_zero, List.getD_cons_succ, List.getElem?_cons_zero, List.getElem?_cons_succ, decide_eq_true_eq, decide_eq_false_iff_not, List.map_cons, List.map_nil, List.cons_append, List.nil_append, List.append_nil, List.length_cons, List.length_nil, Nat.zero_add, Nat.add_zero, and_true, true_and, if_true, if_false, Bool.false_eq_true]
  refine ⟨fun us h' => ∃ i : Nat, us = [.int .u64 (tl x i * 2 ^ (n - i)), .int .i64 i] ∧ i ≤ n ∧ h' = h, fun us _ => n - (toInt (us.getD 1 undef)).toNat, ⟨0, by simp [tl], by omega, rfl⟩, ?_⟩
  rintro b c h' ⟨i, hx1, hi2, rfl⟩
  obtain ⟨rfl, rfl⟩ : b = tl x i * 2 ^ (n - i) ∧ c = i := by simpa using hx1
  refine ⟨fun hlt => ?_, fun hge => ?_⟩
  · obtain ⟨k, hk⟩ : ∃ k, n - i = k + 1 := ⟨n - i - 1, by omega⟩
    have hp : (0 : Int) < 2 ^ i := Int.pow_pos (by decide)
    have hpk : (0 : Int) < 2 ^ k := Int.pow_pos (by decide)
    have hx0 : 0 ≤ x / 2 ^ i := Int.ediv_nonneg h0 (Int.le_of_lt hp)
    have ht := tl_lt (x := x) (n := i)
    have hb : 0 ≤ x / 2 ^ i % 2 ∧ x / 2 ^ i % 2 ≤ 1 := by omega
    have m1 : min (i : Int).toNat IntKind.u64.bits = i := by
      have : IntKind.u64.bits = 64 := rfl
      rw [this]; omega
    have w1 : IntKind.i64.wrap (IntKind.i64.wrap ((n : Int) - 1) - (i : Int)) = (k : Int) := by
      rw [i64_in ((n : Int) - 1) (by omega), i64_in _ (by omega)]; omega
    have m2 : min ((k : Int)).toNat IntKind.u64.bits = k := by
      have : IntKind.u64.bits = 64 := rfl
      rw [this]; omega
    have e1 : Go.bits .and .u64 (x.fdiv (2 ^ i)) 1 = x / 2 ^ i % 2 := by
      rw [and1_u64, Int.fdiv_eq_ediv_of_nonneg _ (Int.le_of_lt hp)]
    have hp32 : (2 : Int) ^ k ≤ 2 ^ 32 := pow2_le (by omega)
    have e32 : (2 : Int) ^ 32 = 4294967296 := by decide
    have hbk : 0 ≤ x / 2 ^ i % 2 * 2 ^ k ∧ x / 2 ^ i % 2 * 2 ^ k ≤ 2 ^ k := by
      rcases (show x / 2 ^ i % 2 = 0 ∨ x / 2 ^ i % 2 = 1 by omega) with h | h <;> rw [h] <;> omega
    have e2 : IntKind.u64.wrap (x / 2 ^ i % 2 * 2 ^ k) = x / 2 ^ i % 2 * 2 ^ k := u64_in _ (by omega)
    have w3 : IntKind.i64.wrap ((i : Int) + 1) = ((i + 1 : Nat) : Int) := by rw [i64_in _ (by omega)]; omega
    have e3 : Go.bits .or .u64 (tl x i * 2 ^ (n - i)) (x / 2 ^ i % 2 * 2 ^ k) = tl x (i + 1) * 2 ^ (n - (i + 1)) := by
      have hk2 : n - (i + 1) = k := by omega
      rw [hk, hk2]
      obtain ⟨t, ht2⟩ := Int.eq_ofNat_of_zero_le ht.1
      obtain ⟨β, hβ⟩ := Int.eq_ofNat_of_zero_le hb.1
      have hβ1 : β ≤ 1 := by omega
      rw [ht2] at ht
      have htl : t < 2 ^ i := by have := ht.2; rw [pow_cast] at this; exact_mod_cast this
      have hsum : i + (k + 1) ≤ 32 := by omega
      have hA : t * 2 ^ (k + 1) < 2 ^ 32 := by
        calc t * 2 ^ (k + 1) < 2 ^ i * 2 ^ (k + 1) := Nat.mul_lt_mul_of_pos_right htl (Nat.two_pow_pos _)
          _ = 2 ^ (i + (k + 1)) := (Nat.pow_add 2 i (k + 1)).symm
          _ ≤ 2 ^ 32 := Nat.pow_le_pow_right (by decide) hsum
      have hB : β * 2 ^ k < 2 ^ (k + 1) := by
        have : β * 2 ^ k ≤ 1 * 2 ^ k := Nat.mul_le_mul_right _ hβ1
        have hpp := Nat.two_pow_pos k
        rw [Nat.pow_succ]; omega
      have hB2 : 2 ^ (k + 1) ≤ 2 ^ 32 := Nat.pow_le_pow_right (by decide) (by omega)
      rw [tl, ht2, hβ, pow_cast, pow_cast]
      have c1 : ((t : Int) * ((2 ^ (k + 1) : Nat) : Int)) = ((t * 2 ^ (k + 1) : Nat) : Int) := by push_cast; rfl
      have c2 : ((β : Int) * ((2 ^ k : Nat) : Int)) = ((β * 2 ^ k : Nat) : Int) := by push_cast; rfl
      rw [c1, c2, Go.bits_or_u64_nat _ _ (by omega) (by omega)]
      have hor := Nat.two_pow_add_eq_or_of_lt hB t
      rw [Nat.mul_comm t, ← hor]
      have : (2 * (t : Int) + β) * ((2 ^ k : Nat) : Int) = ((2 ^ (k + 1) * t + β * 2 ^ k : Nat) : Int) := by
        rw [Nat.pow_succ]; push_cast; rw [Int.add_mul, Int.mul_comm (2 : Int), Int.mul_assoc, Int.mul_comm (t : Int), Int.mul_comm (2 : Int)]
      rw [this]
    refine ⟨by omega, ?_⟩
    rw [w1, m1, m2, e1, e2, w3, e3]
    exact ⟨by omega, ⟨i + 1, rfl, by omega, rfl⟩, by simp only [List.getD_cons_succ, List.getD_cons_zero, toInt_int]; omega⟩
  · obtain rfl : i = n := by omega
    rw [Nat.sub_self, Int.pow_zero, Int.mul_one]
    exact ⟨rfl, rfl⟩
end Go.Proofs.YteaonnfokkfnlaaDoor
