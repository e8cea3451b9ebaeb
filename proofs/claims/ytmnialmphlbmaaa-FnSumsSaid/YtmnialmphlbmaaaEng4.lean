import Derived.IntWalk
import Derived.Laws.Bits64b
import Derived.Test.YtmnialmphlbmaaaEng3
set_option linter.unusedVariables false
set_option linter.unusedSimpArgs false
/- Bits of bytes, numbers of bits. -/
namespace Go.Eng
open Go

theorem and1_toNat (w : Nat) (hw : 0 < w) (y : Int) : (BitVec.ofInt w y &&& BitVec.ofInt w 1).toNat = (y % 2).toNat := by
  have e1 : BitVec.ofInt w (1 : Int) = 1#w := by rw [show (1 : Int) = ((1 : Nat) : Int) by rfl, BitVec.ofInt_natCast]
  rw [e1, BitVec.toNat_and, BitVec.toNat_ofInt]
  have e2 : (1#w).toNat = 1 := by
    rw [BitVec.toNat_ofNat]; exact Nat.mod_eq_of_lt (Nat.one_lt_two_pow (by omega))
  rw [e2, Nat.and_one_is_mod]
  have h2 : ((2 ^ w : Nat) : Int) = 2 * ((2 ^ (w - 1) : Nat) : Int) := by
    have : 2 ^ w = 2 * 2 ^ (w - 1) := by rw [← Nat.pow_succ', Nat.succ_eq_add_one, Nat.sub_add_cancel hw]
    rw [this]; push_cast; rfl
  rw [h2]
  have h3 : y % (2 * ((2 ^ (w - 1) : Nat) : Int)) % 2 = y % 2 := Int.emod_emod_of_dvd _ ⟨_, rfl⟩
  have h4 : 0 ≤ y % (2 * ((2 ^ (w - 1) : Nat) : Int)) := Int.emod_nonneg _ (by have : 0 < 2 ^ (w - 1) := Nat.two_pow_pos _; omega)
  omega

theorem and1_u8 (y : Int) : Go.bits .and .u8 y 1 = y % 2 := by
  show IntKind.u8.wrap ((BitVec.ofInt 8 y &&& BitVec.ofInt 8 1).toNat : Int) = _
  rw [and1_toNat 8 (by decide), IntKind.wrap_u8]; omega
theorem and1_u64 (y : Int) : Go.bits .and .u64 y 1 = y % 2 := by
  show IntKind.u64.wrap ((BitVec.ofInt 64 y &&& BitVec.ofInt 64 1).toNat : Int) = _
  rw [and1_toNat 64 (by decide), IntKind.wrap_u64]; omega

theorem pow_cast (n : Nat) : (2 : Int) ^ n = ((2 ^ n : Nat) : Int) := by push_cast; rfl

theorem or_u64 {v : Int} {i : Nat} (b : Int) (h0 : 0 ≤ v) (h1 : v < 2 ^ i) (hb : 0 ≤ b ∧ b ≤ 1) (hi : i < 64) : Go.bits .or .u64 v (b * 2 ^ i) = v + b * 2 ^ i := by
  obtain ⟨n, rfl⟩ := Int.eq_ofNat_of_zero_le h0
  obtain ⟨m, rfl⟩ := Int.eq_ofNat_of_zero_le hb.1
  rw [pow_cast] at h1 ⊢
  have hn : n < 2 ^ i := by exact_mod_cast h1
  have hm : m ≤ 1 := by omega
  have hp : 2 ^ i ≤ 2 ^ 63 := Nat.pow_le_pow_right (by decide) (by omega)
  have hle : m * 2 ^ i ≤ 2 ^ i := by have := Nat.mul_le_mul_right (2 ^ i) hm; omega
  have e : ((m : Int) * ((2 ^ i : Nat) : Int)) = ((m * 2 ^ i : Nat) : Int) := by push_cast; rfl
  rw [e, Go.bits_or_u64_nat n (m * 2 ^ i) (by omega) (by omega)]
  have e2 := Nat.two_pow_add_eq_or_of_lt hn m
  rw [Nat.or_comm, Nat.mul_comm m, ← e2]
  push_cast
  omega

/-- Bit i of bytes. -/
def bitAt (xs : List Int) (i : Nat) : Int := (xs.getD (i / 8) 0).fdiv (2 ^ (i % 8)) % 2
/-- The number of the n bits from at on. -/
def numAt (xs : List Int) (at_ : Nat) : Nat → Int
  | 0 => 0
  | n + 1 => numAt xs at_ n + bitAt xs (at_ + n) * 2 ^ n

theorem bitAt_le {xs : List Int} {i : Nat} : 0 ≤ bitAt xs i ∧ bitAt xs i ≤ 1 := by unfold bitAt; omega

theorem numAt_low {xs : List Int} {n : Nat} : ∀ {a : Nat}, numAt xs a (n + 1) = 2 * numAt xs (a + 1) n + bitAt xs a := by
  induction n with
  | zero => intro a; simp [numAt]
  | succ n ih =>
    intro a
    rw [numAt, ih, numAt, show a + (n + 1) = a + 1 + n by omega, show (2 : Int) ^ (n + 1) = 2 * 2 ^ n by rw [Int.pow_succ]; omega]
    generalize bitAt xs (a + 1 + n) = b
    generalize (2 : Int) ^ n = p
    have : b * (2 * p) = 2 * (b * p) := by rw [Int.mul_left_comm]
    omega

theorem numAt_lt {xs : List Int} {a n : Nat} : 0 ≤ numAt xs a n ∧ numAt xs a n < 2 ^ n := by
  induction n with
  | zero => simp [numAt]
  | succ n ih =>
    rw [numAt, show (2 : Int) ^ (n + 1) = 2 * 2 ^ n by rw [Int.pow_succ]; omega]
    have hb := bitAt_le (xs := xs) (i := a + n)
    have hp : (0 : Int) < 2 ^ n := Int.pow_pos (by decide)
    have : bitAt xs (a + n) = 0 ∨ bitAt xs (a + n) = 1 := by omega
    rcases this with h | h <;> rw [h] <;> omega
end Go.Eng
