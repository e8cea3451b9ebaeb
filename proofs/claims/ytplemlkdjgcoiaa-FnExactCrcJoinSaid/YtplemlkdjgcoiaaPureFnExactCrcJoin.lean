/- Proved: for all a, b, n the program's CrcJoin and the reference's CrcJoin give one number; there is no condition. -/
import Derived.Laws.BitsAllLaws
import Derived.Test.YtplemlkdjgcoiaaPFnExactCrcJoinx1
namespace Go.Proofs.Ytplemlkdjgcoiaa.Pure
open Go.RowKit Go.Proofs.Ytplemlkdjgcoiaa.PFnExactCrcJoin Go.Proofs.YtplemlkdjgcoiaaW.PrintWords Go.Proofs.YtplemlkdjgcoiaaW.PrintLast

theorem wrap_in {x : Int} (h0 : -9223372036854775808 ≤ x) (h1 : x ≤ 9223372036854775807) : wrap64 x = x := by
  unfold wrap64
  omega

theorem xor_range (x y : Int) (h0 : 0 ≤ x) (h1 : x < 4294967296) (h2 : 0 ≤ y) (h3 : y < 4294967296) : 0 ≤ Go.bits .xor .u32 x y ∧ Go.bits .xor .u32 x y < 4294967296 := by
  rw [u32_xor x y h0 h1 h2 h3]
  have := Nat.xor_lt_two_pow (n := 32) (x := x.toNat) (y := y.toNat) (by omega) (by omega)
  omega

theorem and_one (x : Int) (h0 : 0 ≤ x) (h1 : x < 4294967296) : Go.bits .and .u32 x 1 = x % 2 := by
  rw [u32_and x 1 h0 h1 (by omega) (by omega)]
  rw [show (1 : Int).toNat = 1 from rfl, Nat.and_one_is_mod]
  omega

def stp (x : Int) : Int := if x % 2 = 1 then Go.bits .xor .u32 (x / 2) 3988292384 else x / 2

theorem stp_range (x : Int) (h0 : 0 ≤ x) (h1 : x < 4294967296) : 0 ≤ stp x ∧ stp x < 4294967296 := by
  unfold stp
  split
  · exact xor_range _ _ (by omega) (by omega) (by omega) (by omega)
  · omega

theorem impl_stp (x : Int) (h0 : 0 ≤ x) (h1 : x < 4294967296) : impl_step.f x = some (stp x) := by
  unfold impl_step.f stp
  rw [and_one x h0 h1]
  split <;> rfl

theorem spec_stp (x : Int) (h0 : 0 ≤ x) (h1 : x < 4294967296) : spec_l1Half.f x = some (stp x) := by
  unfold spec_l1Half.f stp
  rw [Int.tmod_eq_emod_of_nonneg h0, Int.tdiv_eq_ediv_of_nonneg h0, show x / 2 % 4294967296 = x / 2 by omega]
  split <;> rfl

def run : Nat → Int → Int
  | 0, x => x
  | n + 1, x => run n (stp x)

theorem impl_loop (b m : Int) (hm : m ≤ 8000000) (d : Nat) : ∀ (k : Nat) (x i : Int), 0 ≤ x → x < 4294967296 → 0 ≤ i → m - i = d → d < k →
    impl_CrcJoin.l0 k x b m i = some (Go.bits .xor .u32 (run d x) b) := by
  induction d with
  | zero =>
    intro k x i h0 h1 hi hd hk
    obtain ⟨k, rfl⟩ : ∃ m, k = m + 1 := ⟨k - 1, by omega⟩
    simp only [impl_CrcJoin.l0]; rw [if_neg (by omega)]; rfl
  | succ d ih =>
    intro k x i h0 h1 hi hd hk
    obtain ⟨k, rfl⟩ : ∃ m, k = m + 1 := ⟨k - 1, by omega⟩
    have r := stp_range x h0 h1
    simp only [impl_CrcJoin.l0]; rw [if_pos (by omega), impl_stp x h0 h1]; simp only [Option.bind_some]
    rw [wrap_in (by omega) (by omega)]
    exact ih k (stp x) (i + 1) r.1 r.2 (by omega) (by omega) (by omega)

theorem spec_loop (b n : Int) (hn : 0 ≤ n) (hm : n ≤ 1000000) (d : Nat) : ∀ (k : Nat) (x i : Int), 0 ≤ x → x < 4294967296 → 0 ≤ i → 8 * n - i = d → d < k →
    spec_CrcJoin.l0 k x b n i = some (Go.bits .xor .u32 (run d x) b) := by
  induction d with
  | zero =>
    intro k x i h0 h1 hi hd hk
    obtain ⟨k, rfl⟩ : ∃ m, k = m + 1 := ⟨k - 1, by omega⟩
    simp only [spec_CrcJoin.l0]; rw [wrap_in (x := 8 * n) (by omega) (by omega), if_neg (by omega)]; rfl
  | succ d ih =>
    intro k x i h0 h1 hi hd hk
    obtain ⟨k, rfl⟩ : ∃ m, k = m + 1 := ⟨k - 1, by omega⟩
    have r := stp_range x h0 h1
    simp only [spec_CrcJoin.l0]; rw [wrap_in (x := 8 * n) (by omega) (by omega), if_pos (by omega), spec_stp x h0 h1]; simp only [Option.bind_some]
    rw [wrap_in (x := i + 1) (by omega) (by omega)]
    exact ih k (stp x) (i + 1) r.1 r.2 (by omega) (by omega) (by omega)

theorem FnExactCrcJoin : laws_FnExactCrcJoin.Pure := by
  intro a b n wa wb wn
  have ha : 0 ≤ a ∧ a < 4294967296 := by have := wa; simp [Lit.wf, IntKind.min, IntKind.max, IntKind.signed, IntKind.bits] at this; omega
  refine ⟨8000002, ?_⟩
  unfold laws_FnExactCrcJoin.f spec_CrcJoin.f impl_CrcJoin.f
  rw [show (8000002 : Nat) = 8000001 + 1 from rfl]
  simp only [spec_CrcJoin.j0, impl_CrcJoin.j0]
  by_cases h0 : n < 0
  · rw [if_pos h0, if_pos h0]; rfl
  rw [if_neg h0, if_neg h0]
  by_cases h1 : n > 1000000
  · rw [if_pos (decide_eq_true h1), if_pos (decide_eq_true h1)]; rfl
  have h1' : ¬ (decide (n > 1000000) = true) := by simpa using h1
  rw [if_neg h1', if_neg h1']
  rw [wrap_in (x := 8 * n) (by omega) (by omega)]
  rw [spec_loop b n (by omega) (by omega) (8 * n).toNat 8000001 a 0 ha.1 ha.2 (by omega) (by omega) (by omega)]
  rw [impl_loop b (8 * n) (by omega) (8 * n).toNat 8000001 a 0 ha.1 ha.2 (by omega) (by omega) (by omega)]
  simp

end Go.Proofs.Ytplemlkdjgcoiaa.Pure
