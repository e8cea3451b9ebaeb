import Derived.Test.YtmnialmphlbmaaaEng3
import Derived.IntWalk
set_option linter.unusedVariables false
set_option linter.unusedSimpArgs false
namespace Go.Proofs.Ytmnialmphlbmaaa
open Go Go.Eng Go.IntWalk

/-- A number after one bit of division. -/
def stB (c : BitVec 32) : BitVec 32 := if c.getLsbD 0 then (c >>> 1) ^^^ 0xedb88320#32 else c >>> 1
def itB : Nat → BitVec 32 → BitVec 32
  | 0, c => c
  | n + 1, c => itB n (stB c)
/-- A byte taken in. -/
def byB (c : BitVec 32) (x : Int) : BitVec 32 := itB 8 (c ^^^ BitVec.ofInt 32 x)
def crcB (c : BitVec 32) (xs : List Int) : BitVec 32 := ~~~ (xs.foldl byB (~~~ c))

theorem stB_lin (a b : BitVec 32) : stB (a ^^^ b) = stB a ^^^ stB b := by
  unfold stB
  rw [BitVec.getLsbD_xor, BitVec.ushiftRight_xor_distrib]
  generalize a >>> 1 = u
  generalize b >>> 1 = v
  generalize 3988292384#32 = k
  cases a.getLsbD 0 <;> cases b.getLsbD 0 <;> simp only [Bool.xor_false, Bool.false_xor, Bool.xor_true, Bool.not_true, Bool.not_false, if_true, if_false, Bool.false_eq_true]
  · rw [BitVec.xor_assoc]
  · rw [BitVec.xor_assoc, BitVec.xor_assoc, BitVec.xor_comm v]
  · rw [BitVec.xor_assoc u k, ← BitVec.xor_assoc k v k, BitVec.xor_comm k v, BitVec.xor_assoc v k k, BitVec.xor_self, BitVec.xor_zero]

theorem itB_lin : ∀ (n : Nat) (a b : BitVec 32), itB n (a ^^^ b) = itB n a ^^^ itB n b
  | 0, _, _ => rfl
  | n + 1, a, b => by simp only [itB]; rw [stB_lin, itB_lin n]
theorem itB_add : ∀ (n m : Nat) (a : BitVec 32), itB (n + m) a = itB m (itB n a)
  | 0, m, a => by simp [itB]
  | n + 1, m, a => by rw [show n + 1 + m = (n + m) + 1 by omega]; simp only [itB]; rw [itB_add n m]
theorem itB_succ (n : Nat) (a : BitVec 32) : itB (n + 1) a = stB (itB n a) := by rw [itB_add n 1]; rfl

theorem itB_hi : ∀ (n : Nat) (a : BitVec 32), (∀ i, i < n → a.getLsbD i = false) → itB n a = a >>> n
  | 0, a, _ => by simp [itB]
  | n + 1, a, h => by
    have h0 := h 0 (by omega)
    simp only [itB]
    have e : stB a = a >>> 1 := by unfold stB; rw [h0]; rfl
    rw [e, itB_hi n _ (fun i hi => by rw [BitVec.getLsbD_ushiftRight]; exact h (1 + i) (by omega)), ← BitVec.shiftRight_add]
    congr 1; omega

/-- The table's way. -/
theorem byB_table (c : BitVec 32) (x : Int) (hx : 0 ≤ x ∧ x < 256) : (c >>> 8) ^^^ itB 8 ((c &&& 255#32) ^^^ BitVec.ofInt 32 x) = byB c x := by
  unfold byB
  have e : c = ((c >>> 8) <<< 8) ^^^ (c &&& 255#32) := by
    refine BitVec.eq_of_getLsbD_eq fun i hi => ?_
    rw [BitVec.getLsbD_xor, BitVec.getLsbD_shiftLeft, BitVec.getLsbD_ushiftRight, BitVec.getLsbD_and]
    have h255 : (255#32).getLsbD i = decide (i < 8) := by
      have : ∀ i : Fin 32, (255#32).getLsbD i.1 = decide (i.1 < 8) := by decide
      exact this ⟨i, hi⟩
    rw [h255]
    by_cases h8 : i < 8
    · simp [h8, hi]
    · simp [h8, hi, show 8 + (i - 8) = i by omega]
  have e2 : itB 8 (c ^^^ BitVec.ofInt 32 x) = itB 8 (((c >>> 8) <<< 8) ^^^ ((c &&& 255#32) ^^^ BitVec.ofInt 32 x)) := by
    rw [← BitVec.xor_assoc, ← e]
  rw [e2, itB_lin 8 ((c >>> 8) <<< 8), itB_hi 8 ((c >>> 8) <<< 8) (fun i hi => by rw [BitVec.getLsbD_shiftLeft]; simp [hi])]
  congr 1
  refine BitVec.eq_of_getLsbD_eq fun i hi => ?_
  rw [BitVec.getLsbD_ushiftRight, BitVec.getLsbD_ushiftRight, BitVec.getLsbD_shiftLeft, BitVec.getLsbD_ushiftRight]
  by_cases h : 8 + i < 32
  · simp [h]
  · simp [h]; exact BitVec.getLsbD_of_ge _ _ (by omega)

theorem byB_lin (a d : BitVec 32) (x : Int) : byB (a ^^^ d) x = byB a x ^^^ itB 8 d := by
  unfold byB
  rw [BitVec.xor_assoc, BitVec.xor_comm d, ← BitVec.xor_assoc, itB_lin]
theorem fold_lin : ∀ (ys : List Int) (a d : BitVec 32), ys.foldl byB (a ^^^ d) = ys.foldl byB a ^^^ itB (8 * ys.length) d
  | [], a, d => rfl
  | y :: ys, a, d => by
    rw [List.foldl_cons, byB_lin, fold_lin ys, List.foldl_cons, List.length_cons, show 8 * (ys.length + 1) = 8 + 8 * ys.length by omega, itB_add]

theorem crcB_app (c : BitVec 32) (xs ys : List Int) : crcB (crcB c xs) ys = crcB c (xs ++ ys) := by
  unfold crcB; rw [List.foldl_append, BitVec.not_not]
/-- A sum joined with a part's is the sum of both. -/
theorem crcJoin_law (c : BitVec 32) (ys : List Int) : itB (8 * ys.length) c ^^^ crcB 0#32 ys = crcB c ys := by
  unfold crcB
  have e : ~~~ c = ~~~ (0#32) ^^^ c := by
    rw [show ~~~ (0#32) = BitVec.allOnes 32 by decide, BitVec.allOnes_xor]
  rw [e, fold_lin]
  refine BitVec.eq_of_getLsbD_eq fun i hi => ?_
  simp only [BitVec.getLsbD_xor, BitVec.getLsbD_not, hi, decide_true, Bool.true_and]
  cases (itB (8 * ys.length) c).getLsbD i <;> cases ((ys.foldl byB (~~~ 0#32)).getLsbD i) <;> rfl

/-! ### As the code reckons it -/
theorem bv_int (b : BitVec 32) : BitVec.ofInt 32 (b.toNat : Int) = b := by
  rw [BitVec.ofInt_natCast, BitVec.ofNat_toNat, BitVec.setWidth_eq]
theorem bv_lt (b : BitVec 32) : (0 : Int) ≤ b.toNat ∧ (b.toNat : Int) < 4294967296 := by have := b.isLt; omega
theorem wrap_bv (b : BitVec 32) : IntKind.u32.wrap (b.toNat : Int) = b.toNat := by have := b.isLt; rw [IntKind.wrap_u32]; omega
theorem xor_bv (a b : BitVec 32) : Go.bits .xor .u32 (a.toNat : Int) (b.toNat : Int) = ((a ^^^ b).toNat : Int) := by
  show IntKind.u32.wrap ((BitVec.ofInt 32 (a.toNat : Int) ^^^ BitVec.ofInt 32 (b.toNat : Int)).toNat : Int) = _
  rw [bv_int, bv_int, wrap_bv]
theorem xor_bv' (a : BitVec 32) (x : Int) : Go.bits .xor .u32 (a.toNat : Int) x = ((a ^^^ BitVec.ofInt 32 x).toNat : Int) := by
  show IntKind.u32.wrap ((BitVec.ofInt 32 (a.toNat : Int) ^^^ BitVec.ofInt 32 x).toNat : Int) = _
  rw [bv_int, wrap_bv]
theorem not_bv (a : BitVec 32) : Go.bits .xor .u32 (4294967295 : Int) (a.toNat : Int) = ((~~~ a).toNat : Int) := by
  show IntKind.u32.wrap ((BitVec.ofInt 32 (4294967295 : Int) ^^^ BitVec.ofInt 32 (a.toNat : Int)).toNat : Int) = _
  rw [bv_int, wrap_bv, show BitVec.ofInt 32 (4294967295 : Int) = BitVec.allOnes 32 by decide, BitVec.allOnes_xor]
theorem shr_bv (a : BitVec 32) (k : Nat) : Int.fdiv (a.toNat : Int) (2 ^ k) = ((a >>> k).toNat : Int) := by
  rw [Int.fdiv_eq_ediv_of_nonneg _ (by exact_mod_cast Nat.zero_le _), BitVec.toNat_ushiftRight, Nat.shiftRight_eq_div_pow]
  push_cast; rfl
theorem lsb_bv (a : BitVec 32) : a.getLsbD 0 = decide (a.toNat % 2 = 1) := by
  rw [BitVec.getLsbD, Nat.testBit_zero]
theorem and1_bv (a : BitVec 32) : Go.bits .and .u32 (a.toNat : Int) 1 = ((a.toNat % 2 : Nat) : Int) := by
  show IntKind.u32.wrap ((BitVec.ofInt 32 (a.toNat : Int) &&& BitVec.ofInt 32 1).toNat : Int) = _
  rw [bv_int, wrap_bv, BitVec.toNat_and, show (BitVec.ofInt 32 1).toNat = 1 by decide, Nat.and_one_is_mod]
/-- The entry of a table for a byte. -/
theorem low_bv (c : BitVec 32) {x : Int} (hx : 0 ≤ x ∧ x < 256) : Go.bits .xor .u8 (IntKind.u8.wrap (c.toNat : Int)) x = (((c &&& 255#32) ^^^ BitVec.ofInt 32 x).toNat : Int) ∧ ((c &&& 255#32) ^^^ BitVec.ofInt 32 x).toNat < 256 := by
  obtain ⟨n, rfl⟩ := Int.eq_ofNat_of_zero_le hx.1
  have hn : n < 256 := by omega
  have h1 : (c &&& 255#32).toNat = c.toNat % 256 := by
    rw [BitVec.toNat_and, show (255#32).toNat = 2 ^ 8 - 1 by decide, Nat.and_two_pow_sub_one_eq_mod]
  have h2 : (BitVec.ofInt 32 (n : Int)).toNat = n := by rw [BitVec.ofInt_natCast, BitVec.toNat_ofNat, Nat.mod_eq_of_lt (by omega)]
  have h3 : ((c &&& 255#32) ^^^ BitVec.ofInt 32 (n : Int)).toNat < 256 := by
    rw [BitVec.toNat_xor, h1, h2]; exact Nat.xor_lt_two_pow (n := 8) (by omega) hn
  refine ⟨?_, h3⟩
  have w1 : IntKind.u8.wrap (c.toNat : Int) = ((c.toNat % 256 : Nat) : Int) := by rw [IntKind.wrap_u8]; omega
  show IntKind.u8.wrap ((BitVec.ofInt 8 (IntKind.u8.wrap (c.toNat : Int)) ^^^ BitVec.ofInt 8 (n : Int)).toNat : Int) = _
  rw [w1, BitVec.ofInt_natCast, BitVec.ofInt_natCast, BitVec.toNat_xor, BitVec.toNat_ofNat, BitVec.toNat_ofNat, BitVec.toNat_xor, h1, h2, Nat.mod_eq_of_lt (show c.toNat % 256 < 2 ^ 8 by omega), Nat.mod_eq_of_lt (show n < 2 ^ 8 by omega)]
  rw [BitVec.toNat_xor, h1, h2] at h3
  rw [IntKind.wrap_u8]; omega
end Go.Proofs.Ytmnialmphlbmaaa
