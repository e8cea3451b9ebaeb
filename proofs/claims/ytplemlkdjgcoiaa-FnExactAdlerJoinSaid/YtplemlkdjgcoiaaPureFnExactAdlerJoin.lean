/- Proved: for all a, b, n the program's AdlerJoin and the reference's AdlerJoin give one number; there is no condition. -/
import Derived.Test.YtplemlkdjgcoiaaPFnExactAdlerJoinx1
namespace Go.Proofs.Ytplemlkdjgcoiaa.Pure
open Go.RowKit Go.Proofs.Ytplemlkdjgcoiaa.PFnExactAdlerJoin Go.Proofs.YtplemlkdjgcoiaaW.PrintWords Go.Proofs.YtplemlkdjgcoiaaW.PrintLast


theorem wrap_in {x : Int} (h0 : -9223372036854775808 ≤ x) (h1 : x ≤ 9223372036854775807) : wrap64 x = x := by
  unfold wrap64
  omega

theorem mod_mul_mod (n p x : Int) : (n % p * (x % p)) % p = (n * x) % p := by
  rw [Int.mul_emod n x p]

theorem high_eq (s n a1 : Int) : (((s + n * (a1 - 1)) % 65521) + 65521) % 65521 = (s + n % 65521 * ((a1 + 65521 - 1) % 65521)) % 65521 := by
  have e1 : (a1 + 65521 - 1) % 65521 = (a1 - 1) % 65521 := by omega
  rw [e1, Int.add_emod s (n % 65521 * ((a1 - 1) % 65521)), mod_mul_mod, ← Int.add_emod]
  omega

/-- YOURS: ∀ (a0 : Int) (a1 : Int) (a2 : Int), (Lit.int .u32 a0).wf = true → (Lit.int .u32 a1).wf = true → (Lit.int .i64 a2).wf = true → laws_FnExactAdlerJoin.f a0 a1 a2 = some true
What it reaches (each with k first where it has rounds; `.mono`: more rounds tell the same; `.l0`, ..: its loops, with `.mono_l`): spec_AdlerJoin.f, impl_AdlerJoin.f, laws_FnExactAdlerJoin.f -/
theorem FnExactAdlerJoin : laws_FnExactAdlerJoin.Pure := by
  intro a b n wa wb wn
  have ha : 0 ≤ a ∧ a < 4294967296 := by have := wa; simp [Lit.wf, IntKind.min, IntKind.max, IntKind.signed, IntKind.bits] at this; omega
  have hb : 0 ≤ b ∧ b < 4294967296 := by have := wb; simp [Lit.wf, IntKind.min, IntKind.max, IntKind.signed, IntKind.bits] at this; omega
  unfold laws_FnExactAdlerJoin.f spec_AdlerJoin.f impl_AdlerJoin.f
  by_cases h0 : n < 0
  · rw [if_pos h0, if_pos h0]; rfl
  rw [if_neg h0, if_neg h0]
  by_cases h1 : n > 1000000
  · rw [if_pos h1, if_pos h1]; rfl
  rw [if_neg h1, if_neg h1]
  simp only [Option.bind_some]
  simp only [Int.tmod_eq_emod_of_nonneg ha.1, Int.tmod_eq_emod_of_nonneg hb.1, Int.tdiv_eq_ediv_of_nonneg ha.1, Int.tdiv_eq_ediv_of_nonneg hb.1]
  have e1 : a % 65536 % 65521 = (a % 65536) % 65521 := rfl
  have pa : 0 ≤ a % 65536 := by omega
  have pb : 0 ≤ b % 65536 := by omega
  have wpa : wrap64 (a % 65536) = a % 65536 := wrap_in (by omega) (by omega)
  have wpb : wrap64 (b % 65536) = b % 65536 := wrap_in (by omega) (by omega)
  rw [wpa, wpb]
  simp only [Int.tmod_eq_emod_of_nonneg pa, Int.tmod_eq_emod_of_nonneg pb]
  have q0 : 0 ≤ a % 65536 % 65521 ∧ a % 65536 % 65521 < 65521 := by omega
  have q1 : 0 ≤ b % 65536 % 65521 ∧ b % 65536 % 65521 < 65521 := by omega
  have q2 : 0 ≤ a / 65536 % 4294967296 % 65521 ∧ a / 65536 % 4294967296 % 65521 < 65521 := by omega
  have q3 : 0 ≤ b / 65536 % 4294967296 % 65521 ∧ b / 65536 % 4294967296 % 65521 < 65521 := by omega
  generalize a % 65536 % 65521 = a1 at *
  generalize b % 65536 % 65521 = b1 at *
  generalize a / 65536 % 4294967296 % 65521 = a2 at *
  generalize b / 65536 % 4294967296 % 65521 = b2 at *
  have m0 : -1000000 ≤ n * (a1 - 1) ∧ n * (a1 - 1) ≤ 65520000000 := by
    constructor
    · have : n * (a1 - 1) ≥ n * (-1) := Int.mul_le_mul_of_nonneg_left (by omega) (by omega)
      omega
    · have : n * (a1 - 1) ≤ n * 65520 := Int.mul_le_mul_of_nonneg_left (by omega) (by omega)
      omega
  have hn0 : 0 ≤ n := by omega
  rw [Int.tmod_eq_emod_of_nonneg hn0]
  rw [wrap_in (x := a1 + 65521) (by omega) (by omega), wrap_in (x := a1 + 65521 - 1) (by omega) (by omega), wrap_in (x := a1 + b1) (by omega) (by omega), wrap_in (x := a1 + b1 + 65521) (by omega) (by omega), wrap_in (x := a1 + b1 + 65521 - 1) (by omega) (by omega), wrap_in (x := a1) (by omega) (by omega), wrap_in (x := b1) (by omega) (by omega), wrap_in (x := a1 - 1) (by omega) (by omega), wrap_in (x := a1 + b1) (by omega) (by omega), wrap_in (x := a1 + b1 - 1) (by omega) (by omega), wrap_in (x := a1 + b1 - 1 + 65521) (by omega) (by omega), wrap_in (x := n * (a1 - 1)) (by omega) (by omega), wrap_in (x := a2 + b2 + n * (a1 - 1)) (by omega) (by omega)]
  rw [Int.tmod_eq_emod_of_nonneg (a := a1 + 65521 - 1) (by omega), Int.tmod_eq_emod_of_nonneg (a := a1 + b1 + 65521 - 1) (by omega), Int.tmod_eq_emod_of_nonneg (a := a1 + b1 - 1 + 65521) (by omega)]
  have p0 : 0 ≤ n % 65521 * ((a1 + 65521 - 1) % 65521) := Int.mul_nonneg (by omega) (by omega)
  have p1 : n % 65521 * ((a1 + 65521 - 1) % 65521) ≤ 65521 * 65521 := Int.mul_le_mul (by omega) (by omega) (by omega) (by omega)
  rw [wrap_in (x := n % 65521 * ((a1 + 65521 - 1) % 65521)) (by omega) (by omega), wrap_in (x := a2 + b2 + n % 65521 * ((a1 + 65521 - 1) % 65521)) (by omega) (by omega), Int.tmod_eq_emod_of_nonneg (a := a2 + b2 + n % 65521 * ((a1 + 65521 - 1) % 65521)) (by omega)]
  have hr : 0 ≤ ((a2 + b2 + n * (a1 - 1)).tmod 65521) + 65521 ∧ ((a2 + b2 + n * (a1 - 1)).tmod 65521) + 65521 ≤ 131042 := by
    have h1 := Int.tmod_lt_of_pos (a2 + b2 + n * (a1 - 1)) (b := 65521) (by omega)
    have h2 := Int.lt_tmod_of_pos (a2 + b2 + n * (a1 - 1)) (b := 65521) (by omega)
    omega
  rw [wrap_in (x := (a2 + b2 + n * (a1 - 1)).tmod 65521 + 65521) (by omega) (by omega), Int.tmod_eq_emod_of_nonneg (a := (a2 + b2 + n * (a1 - 1)).tmod 65521 + 65521) (by omega)]
  have key : ((a2 + b2 + n * (a1 - 1)).tmod 65521 + 65521) % 65521 = (a2 + b2 + n % 65521 * ((a1 + 65521 - 1) % 65521)) % 65521 := by
    rw [← high_eq]
    have ht : ((a2 + b2 + n * (a1 - 1)).tmod 65521) % 65521 = (a2 + b2 + n * (a1 - 1)) % 65521 := by
      rw [Int.tmod_eq_emod]
      split <;> omega
    omega
  rw [key]
  have k2 : a1 + b1 - 1 + 65521 = a1 + b1 + 65521 - 1 := by omega
  rw [k2, if_pos rfl]

end Go.Proofs.Ytplemlkdjgcoiaa.Pure
