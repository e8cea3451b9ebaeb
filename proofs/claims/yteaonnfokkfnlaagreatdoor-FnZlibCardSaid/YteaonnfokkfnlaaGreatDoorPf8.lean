import Derived.Test.YteaonnfokkfnlaaGreatDoorChecked
import Derived.KernelRfl
import Derived.OpenVars
import Derived.LaidLaws
import Derived.LaidHandle
import Derived.ChangeVars
import Derived.OpenShut
import Derived.Test.YteaonnfokkfnlaaGreatDoorPf2
import Derived.Test.YteaonnfokkfnlaaGreatDoorPf3
import Derived.Test.YteaonnfokkfnlaaGreatDoorPf4
import Derived.Test.YteaonnfokkfnlaaGreatDoorPf5
import Derived.Test.YteaonnfokkfnlaaGreatDoorPf6
import Derived.Test.YteaonnfokkfnlaaGreatDoorPf7
set_option maxRecDepth 100000
set_option maxHeartbeats 8000000
set_option linter.unusedVariables false
set_option linter.unusedSimpArgs false
set_option linter.unusedSectionVars false
section
namespace Go.Proofs.YteaonnfokkfnlaaGreatDoor
open Go Go.Eng Go.IntWalk
variable {S : Shared} {h : Eng.Heap}
theorem O0 (i : Nat) : 0 ≤ ((2 ^ i : Nat) : Int) := Int.natCast_nonneg _
def jm (x : Int) : Int := if 0 < x then ((2 ^ (15 - x).toNat : Nat) : Int) else 0
def kr (xs : List Int) : Int := (xs.map jm).sum
def cn (xs : List Int) : Int := (xs.map fun x => if 0 < x then 1 else 0).sum
def hok (xs : List Int) : Prop := ∀ x ∈ xs, 0 ≤ x ∧ x ≤ 15
instance (xs : List Int) : Decidable (hok xs) := by unfold hok; infer_instance
def zp (xs : List Int) : Int :=
 if xs.length > 320 then 0 else if ¬ hok xs then 0 else if cn xs = 0 then 5 else if kr xs > 32768 then 2 else if kr xs = 32768 then 1 else if cn xs = 1 ∧ kr xs = 16384 then 4 else 3
theorem Fx (x : Int) (h : 0 ≤ x) : 0 ≤ jm x ∧ jm x ≤ 32768 := by
 unfold jm
 split
 ·have h1 : 2 ^ (15 - x).toNat ≤ 2 ^ 15 := Nat.pow_le_pow_right (by omega) (by omega)
  have e : (2 : Nat) ^ 15 = 32768 := by decide
  have h2 := O0 (15 - x).toNat
  exact ⟨h2, by rw [e] at h1; exact Int.ofNat_le.2 h1⟩
 ·omega
theorem Qc : ∀ (xs : List Int), hok xs → 0 ≤ kr xs ∧ kr xs ≤ 32768 * xs.length
 | [], _ => by simp [kr]
 | x :: r, h => by
  have h1 := Fx x (h x (by simp)).1
  have h2 := Qc r fun y hy => h y (by simp [hy])
  simp only [kr, List.map_cons, List.sum_cons, List.length_cons] at h2 ⊢
  omega
theorem Lu : ∀ (xs : List Int), 0 ≤ cn xs ∧ cn xs ≤ xs.length
 | [] => by simp [cn]
 | x :: r => by
  have h2 := Lu r
  simp only [cn, List.map_cons, List.sum_cons, List.length_cons] at h2 ⊢
  split <;> omega
theorem DM {xs : List Int} {i : Nat} (hi : i < xs.length) : xs.take (i + 1) = xs.take i ++ [xs[i]] := by
 rw [List.take_add_one, List.getElem?_eq_getElem hi]; rfl
theorem Eu {xs : List Int} {i : Nat} (hi : i < xs.length) : kr (xs.take (i + 1)) = kr (xs.take i) + jm xs[i] := by
 unfold kr; rw [DM hi, List.map_append, List.sum_append]; simp
theorem Ev {xs : List Int} {i : Nat} (hi : i < xs.length) : cn (xs.take (i + 1)) = cn (xs.take i) + (if 0 < xs[i] then 1 else 0) := by
 unfold cn; rw [DM hi, List.map_append, List.sum_append]; simp
theorem O8 {xs : List Int} {i : Nat} (hi : i < xs.length) (h : hok (xs.take i)) (hx : 0 ≤ xs[i] ∧ xs[i] ≤ 15) : hok (xs.take (i + 1)) := by
 rw [DM hi]
 intro x hm
 rcases List.mem_append.1 hm with h1 | h1
 ·exact h x h1
 ·simp at h1; subst h1; exact hx
theorem QH {xs : List Int} {i : Nat} (hi : i < xs.length) (hx : ¬ (0 ≤ xs[i] ∧ xs[i] ≤ 15)) : ¬ hok xs := fun h => hx (h _ (List.getElem_mem hi))
theorem GX : ∀ {xs : List Int}, cn xs = 0 → kr xs = 0
 | [], _ => rfl
 | x :: r, h => by
  have h2 := Lu r
  simp only [cn, List.map_cons, List.sum_cons] at h h2
  split at h
  ·omega
  ·rename_i hx
   have ih : kr r = 0 := GX (by simp only [cn]; omega)
   simp only [kr, List.map_cons, List.sum_cons] at ih ⊢
   rw [ih]; simp [jm, hx]
theorem OA {x : Int} (h0 : x > 0) (h1 : x ≤ 15) : IntKind.i64.wrap (1 * 2 ^ min (15 - x).toNat IntKind.i64.bits) = jm x := by
 have e : min (15 - x).toNat IntKind.i64.bits = (15 - x).toNat := Nat.min_eq_left (by show _ ≤ 64; omega)
 have hk := Fx x (by omega)
 have e2 : (1 : Int) * 2 ^ (15 - x).toNat = jm x := by simp [jm, h0]
 rw [e, e2]
 exact i64_in _ (by omega)
theorem MD {x : Int} (h0 : 1 ≤ x) (h1 : x ≤ 15) : jm x = 16384 ↔ x = 1 := by
 have : x = 1 ∨ x = 2 ∨ x = 3 ∨ x = 4 ∨ x = 5 ∨ x = 6 ∨ x = 7 ∨ x = 8 ∨ x = 9 ∨ x = 10 ∨ x = 11 ∨ x = 12 ∨ x = 13 ∨ x = 14 ∨ x = 15 := by omega
 rcases this with rfl | rfl | rfl | rfl | rfl | rfl | rfl | rfl | rfl | rfl | rfl | rfl | rfl | rfl | rfl <;> decide
theorem kK (hi : Eng.Inv S h) (a : Option Addr) (c : Nat) (xs : List Int) (hx : zq h .i64 a xs) :
  zc Tryz.prog S xG #[.slice a xs.length c] h (fun v h' => v = .int .i64 (zp xs) ∧ h' = h) := by
 refine EJ (vs := [.slice a xs.length c]) ⟨rfl, trivial⟩ hi ?_
 simp only [B5, Tr.wp, Ex.ev, coerce, toInt_int, zf, zn, zu, zo, zg, yF, DC, B0, ya, arith, Cst.val, SV.den, zG, ym, zy, List.getD_cons_zero, List.getD_cons_succ, List.getElem?_cons_zero, List.getElem?_cons_succ, decide_eq_true_eq, decide_eq_false_iff_not, List.map_cons, List.map_nil, List.cons_append, List.nil_append, and_true]
 refine ⟨fun hbig => ?_, fun hsm => ?_⟩
 ·have : xs.length > 320 := by omega
  simp [zp, this]
 have hlen : xs.length ≤ 320 := by omega
 refine ⟨fun us h' => ∃ (i : Nat) (l : Int), us = [.int .i64 (kr (xs.take i)), .int .i64 (cn (xs.take i)), .int .i64 l, .int .i64 i] ∧ i ≤ xs.length ∧ h' = h ∧ hok (xs.take i) ∧ (cn (xs.take i) = 1 → 1 ≤ l ∧ l ≤ 15 ∧ kr (xs.take i) = jm l),
  fun us _ => xs.length - (toInt (us.getD 3 undef)).toNat, ⟨0, 0, rfl, by omega, rfl, by simp [hok], by simp [cn]⟩, ?_⟩
 rintro x y z u h' ⟨i, l, hx1, hi2, rfl, hk, hone⟩
 obtain ⟨rfl, rfl, rfl, rfl⟩ : x = kr (xs.take i) ∧ y = cn (xs.take i) ∧ z = l ∧ u = i := by simpa using hx1
 simp only [toInt_int, List.getD_cons_zero, List.getD_cons_succ, and_true, true_and]
 have b1 := Qc _ hk
 have b2 := Lu (xs.take i)
 have b3 : (xs.take i).length ≤ 320 := by rw [List.length_take]; omega
 refine ⟨fun hlt => ?_, fun hge => ?_⟩
 ·have hi3 : i < xs.length := by omega
  obtain ⟨g1, g2⟩ := hx.cell (List.getElem?_eq_getElem hi3)
  refine ⟨by simpa using g2, by omega, by omega, xs[i], by simpa [add_add] using g1, fun hbad => ?_, fun hgood => ?_⟩
  ·have : ¬ hok xs := QH hi3 (by simp at hbad; omega)
   simp [zp, this]
  ·have hr : 0 ≤ xs[i] ∧ xs[i] ≤ 15 := by simp at hgood; omega
   have w2 : IntKind.i64.wrap ((i : Int) + 1) = ((i + 1 : Nat) : Int) := by rw [i64_in _ (by omega)]; omega
   have w4 : IntKind.i64.wrap (15 - xs[i]) = 15 - xs[i] := i64_in _ (by omega)
   have hk2 := O8 hi3 hk hr
   have kt := Fx xs[i] hr.1
   rw [w2, w4]
   refine ⟨fun hpos => ⟨by omega, fun _ => ⟨⟨i + 1, xs[i], ?_, by omega, hk2, fun h1 => ?_⟩, by omega⟩⟩, fun hneg _ => ⟨⟨i + 1, z, ?_, by omega, hk2, fun h1 => ?_⟩, by omega⟩⟩
   ·rw [OA hpos hr.2, Eu hi3, Ev hi3, if_pos (by omega), i64_in (kr _ + _) (by omega), i64_in (cn _ + 1) (by omega)]
   ·rw [Ev hi3, if_pos (by omega)] at h1
    rw [Eu hi3, GX (show cn (xs.take i) = 0 by omega)]
    omega
   ·rw [Eu hi3, Ev hi3, if_neg hneg, show jm xs[i] = 0 from if_neg hneg, Int.add_zero, Int.add_zero]
   ·rw [Ev hi3, if_neg hneg, Int.add_zero] at h1
    rw [Eu hi3, show jm xs[i] = 0 from if_neg hneg, Int.add_zero]
    exact hone h1
 ·obtain rfl : i = xs.length := by omega
  rw [List.take_length] at *
  have hl : ¬ xs.length > 320 := by omega
  by_cases h1 : cn xs = 0
  ·simp [zp, hl, hk, h1]
  by_cases h2 : kr xs > 32768
  ·simp [zp, hl, hk, h1, h2]
  by_cases h3 : kr xs = 32768
  ·simp [zp, hl, hk, h1, h3]
  by_cases h4 : cn xs = 1
  ·obtain ⟨o1, o2, o3⟩ := hone h4
   have o4 := MD o1 o2
   rw [← o3] at o4
   by_cases h5 : z = 1
   ·simp [zp, hl, hk, h4, h5, o4.2 h5]
   ·have : ¬ kr xs = 16384 := fun e => h5 (o4.1 e)
    simp [zp, hl, hk, h2, h3, h4, h5, this]
  ·simp [zp, hl, hk, h1, h2, h3, h4]
end Go.Proofs.YteaonnfokkfnlaaGreatDoor
end
section
namespace Go.Proofs.YteaonnfokkfnlaaGreatDoor
open Go Go.Eng Go.IntWalk
variable {S : Shared} {h : Eng.Heap} {v w : Value} {xs : List Int}
abbrev tI : Ty Value (List Int) := Sa .i64
def OD (xs : List Int) : Prop := xs.length ≤ 1048576
end Go.Proofs.YteaonnfokkfnlaaGreatDoor
end
section
namespace Go.Proofs.YteaonnfokkfnlaaGreatDoor
open Go Go.Eng Go.IntWalk
variable {S : Shared} {h : Eng.Heap} {v w : Value} {ps : List (Int × Int)}
abbrev Gv : Ty Value (List (Int × Int)) := Ti
theorem OE (H : Gv.R h v ps) : ∃ a c, v = .slice a ps.length c := by obtain ⟨a, c, rfl, _⟩ := H; exact ⟨a, c, rfl⟩
end Go.Proofs.YteaonnfokkfnlaaGreatDoor
end
section
namespace Go.Proofs.YteaonnfokkfnlaaGreatDoor
open Go Go.Eng Go.IntWalk
variable {S : Shared} {h : Eng.Heap}
def tl (x : Int) : Nat → Int
 | 0 => 0
 | i + 1 => 2 * tl x i + (x / 2 ^ i) % 2
theorem Lv {x : Int} {n : Nat} : 0 ≤ tl x n ∧ tl x n < 2 ^ n := by
 induction n with
 | zero => simp [tl]
 | succ n ih =>
  rw [tl, show (2 : Int) ^ (n + 1) = 2 * 2 ^ n by rw [Int.pow_succ]; omega]
  omega
theorem GY {n m : Nat} (h : n ≤ m) : (2 : Int) ^ n ≤ 2 ^ m := by
 rw [y9, y9]; exact_mod_cast Nat.pow_le_pow_right (by decide) h
theorem OF (hi : Eng.Inv S h) (x : Int) (n : Nat) (h0 : 0 ≤ x) (h1 : x ≤ 1099511627776) (hn : n ≤ 32) :
    zc Tryz.prog S At #[.int .u64 x, .int .i64 n] h (fun v h' => v = .int .u64 (tl x n) ∧ h' = h) := by
  refine Gl (vs := [.int .u64 x, .int .i64 n]) ⟨rfl, rfl, trivial⟩ hi ?_
  simp only [CZ, Tr.wp, Ex.ev, coerce, toInt_int, zf, ya, arith, Cst.val, SV.den, ym, List.getD_cons_zero, List.getD_cons_succ, List.getElem?_cons_zero, decide_eq_true_eq, decide_eq_false_iff_not, List.map_cons, List.map_nil, List.cons_append, List.nil_append]
  refine ⟨fun us h' => ∃ i : Nat, us = [.int .u64 (tl x i * 2 ^ (n - i)), .int .i64 i] ∧ i ≤ n ∧ h' = h, fun us _ => n - (toInt (us.getD 1 undef)).toNat, ⟨0, by simp [tl], by omega, rfl⟩, ?_⟩
  rintro b c h' ⟨i, hx1, hi2, rfl⟩
  obtain ⟨rfl, rfl⟩ : b = tl x i * 2 ^ (n - i) ∧ c = i := by simpa using hx1
  refine ⟨fun hlt => ?_, fun hge => ?_⟩
  · obtain ⟨k, hk⟩ : ∃ k, n - i = k + 1 := ⟨n - i - 1, by omega⟩
    have hp : (0 : Int) < 2 ^ i := Int.pow_pos (by decide)
    have hpk : (0 : Int) < 2 ^ k := Int.pow_pos (by decide)
    have hx0 : 0 ≤ x / 2 ^ i := Int.ediv_nonneg h0 (Int.le_of_lt hp)
    have ht := Lv (x := x) (n := i)
    have hb : 0 ≤ x / 2 ^ i % 2 ∧ x / 2 ^ i % 2 ≤ 1 := by omega
    have m1 : min (i : Int).toNat IntKind.u64.bits = i := by
      have : IntKind.u64.bits = 64 := rfl
      rw [this]; omega
    have w1 : IntKind.i64.wrap (IntKind.i64.wrap ((n : Int) - 1) - (i : Int)) = (k : Int) := by
      rw [i64_in ((n : Int) - 1) (by omega), i64_in _ (by omega)]; omega
    have m2 : min ((k : Int)).toNat IntKind.u64.bits = k := by
      have : IntKind.u64.bits = 64 := rfl
      rw [this]; omega
    have e1 : Go.bits .and .u64 (x.fdiv (2 ^ i)) 1 = x / 2 ^ i % 2 := by
      rw [Fs, Int.fdiv_eq_ediv_of_nonneg _ (Int.le_of_lt hp)]
    have hp32 : (2 : Int) ^ k ≤ 2 ^ 32 := GY (by omega)
    have e32 : (2 : Int) ^ 32 = 4294967296 := by decide
    have hbk : 0 ≤ x / 2 ^ i % 2 * 2 ^ k ∧ x / 2 ^ i % 2 * 2 ^ k ≤ 2 ^ k := by
      rcases (show x / 2 ^ i % 2 = 0 ∨ x / 2 ^ i % 2 = 1 by omega) with h | h <;> rw [h] <;> omega
    have e2 : IntKind.u64.wrap (x / 2 ^ i % 2 * 2 ^ k) = x / 2 ^ i % 2 * 2 ^ k := u64_in _ (by omega)
    have w3 : IntKind.i64.wrap ((i : Int) + 1) = ((i + 1 : Nat) : Int) := by rw [i64_in _ (by omega)]; omega
    have e3 : Go.bits .or .u64 (tl x i * 2 ^ (n - i)) (x / 2 ^ i % 2 * 2 ^ k) = tl x (i + 1) * 2 ^ (n - (i + 1)) := by
      have hk2 : n - (i + 1) = k := by omega
      rw [hk, hk2]
      obtain ⟨t, ht2⟩ := Int.eq_ofNat_of_zero_le ht.1
      obtain ⟨β, hβ⟩ := Int.eq_ofNat_of_zero_le hb.1
      have hβ1 : β ≤ 1 := by omega
      rw [ht2] at ht
      have htl : t < 2 ^ i := by have := ht.2; rw [y9] at this; exact_mod_cast this
      have hsum : i + (k + 1) ≤ 32 := by omega
      have hA : t * 2 ^ (k + 1) < 2 ^ 32 := by
        calc t * 2 ^ (k + 1) < 2 ^ i * 2 ^ (k + 1) := Nat.mul_lt_mul_of_pos_right htl (Nat.two_pow_pos _)
          _ = 2 ^ (i + (k + 1)) := (Nat.pow_add 2 i (k + 1)).symm
          _ ≤ 2 ^ 32 := Nat.pow_le_pow_right (by decide) hsum
      have hB : β * 2 ^ k < 2 ^ (k + 1) := by
        have : β * 2 ^ k ≤ 1 * 2 ^ k := Nat.mul_le_mul_right _ hβ1
        have hpp := Nat.two_pow_pos k
        rw [Nat.pow_succ]; omega
      have hB2 : 2 ^ (k + 1) ≤ 2 ^ 32 := Nat.pow_le_pow_right (by decide) (by omega)
      rw [tl, ht2, hβ, y9, y9]
      have c1 : ((t : Int) * ((2 ^ (k + 1) : Nat) : Int)) = ((t * 2 ^ (k + 1) : Nat) : Int) := by push_cast; rfl
      have c2 : ((β : Int) * ((2 ^ k : Nat) : Int)) = ((β * 2 ^ k : Nat) : Int) := by push_cast; rfl
      rw [c1, c2, Go.bits_or_u64_nat _ _ (by omega) (by omega)]
      have hor := Nat.two_pow_add_eq_or_of_lt hB t
      rw [Nat.mul_comm t, ← hor]
      have : (2 * (t : Int) + β) * ((2 ^ k : Nat) : Int) = ((2 ^ (k + 1) * t + β * 2 ^ k : Nat) : Int) := by
        rw [Nat.pow_succ]; push_cast; rw [Int.add_mul, Int.mul_comm (2 : Int), Int.mul_assoc, Int.mul_comm (t : Int), Int.mul_comm (2 : Int)]
      rw [this]
    refine ⟨by omega, ?_⟩
    rw [w1, m1, m2, e1, e2, w3, e3]
    exact ⟨by omega, ⟨i + 1, rfl, by omega, rfl⟩, by simp only [List.getD_cons_succ, List.getD_cons_zero, toInt_int]; omega⟩
  · obtain rfl : i = n := by omega
    rw [Nat.sub_self, Int.pow_zero, Int.mul_one]
    exact ⟨rfl, rfl⟩
end Go.Proofs.YteaonnfokkfnlaaGreatDoor
end
section
namespace Go.Proofs.YteaonnfokkfnlaaGreatDoor
open Go Go.Eng Go.IntWalk
variable {S : Shared} {h : Eng.Heap}
def cst (xs : List Int) : Nat → Int
 | 0 => 0
 | l + 1 => 2 * (cst xs l + (if l = 0 then 0 else ((xs.count (l : Int) : Nat) : Int)))
def Ak (xs : List Int) (j : Nat) : Int × Int := (xs.getD j 0, tl (cst xs (xs.getD j 0).toNat + (((xs.take j).count (xs.getD j 0) : Nat) : Int)) (xs.getD j 0).toNat)
def yz (xs : List Int) : List (Int × Int) := (List.range xs.length).map fun j => if 1 ≤ xs.getD j 0 then Ak xs j else (0, 0)
def xM (xs : List Int) : List (Int × Int) := if zp xs = 0 ∨ zp xs = 2 then [] else yz xs
theorem jA {xs : List Int} (h : ¬ (zp xs = 0 ∨ zp xs = 2)) : xs.length ≤ 320 ∧ hok xs := by
 unfold zp at h
 by_cases h1 : xs.length > 320
 ·simp [h1] at h
 ·by_cases h2 : hok xs
  ·exact ⟨by omega, h2⟩
  ·simp [h1, h2] at h
theorem Sc {xs : List Int} (hl : xs.length ≤ 320) (l : Nat) : 0 ≤ cst xs l ∧ cst xs l ≤ 640 * (2 ^ l - 1) := by
 induction l with
 | zero => simp [cst]
 | succ l ih =>
  rw [cst, show (2 : Int) ^ (l + 1) = 2 * 2 ^ l by rw [Int.pow_succ]; omega]
  have hc : (if l = 0 then (0 : Int) else ((xs.count (l : Int) : Nat) : Int)) ≤ 320 ∧ 0 ≤ (if l = 0 then (0 : Int) else ((xs.count (l : Int) : Nat) : Int)) := by
   have := List.count_le_length (a := (l : Int)) (l := xs)
   split <;> omega
  omega
theorem qR {xs : List Int} (hl : xs.length ≤ 320) {l : Nat} (h : l ≤ 16) : 0 ≤ cst xs l ∧ cst xs l ≤ 41943040 := by
 have h1 := Sc hl l
 have h2 : (2 : Int) ^ l ≤ 2 ^ 16 := GY h
 have e : (2 : Int) ^ 16 = 65536 := by decide
 omega
theorem Di {xs : List Int} {a : Int} {i : Nat} (hl : xs.length ≤ 320) : (xs.take i).count a ≤ 320 := by
 have := List.count_le_length (a := a) (l := xs.take i)
 rw [List.length_take] at this
 omega
theorem qd {xs : List Int} {i : Nat} (hi : i < xs.length) (a : Int) : (xs.take (i + 1)).count a = (xs.take i).count a + (if xs[i] = a then 1 else 0) := by
 rw [List.take_add_one, List.getElem?_eq_getElem hi, List.count_append]
 simp only [Option.toList_some, List.count_cons, List.count_nil, beq_iff_eq, Nat.zero_add]
def wA (xs : List Int) (i : Nat) : List Int := (List.range 17).map fun (l : Nat) => if l = 0 then 0 else (((xs.take i).count (l : Int) : Nat) : Int)
theorem Bd {xs : List Int} {i : Nat} : (wA xs i).length = 17 := by simp [wA]
theorem Be {xs : List Int} {i l : Nat} (h : l < 17) : (wA xs i)[l]? = some (if l = 0 then 0 else (((xs.take i).count (l : Int) : Nat) : Int)) := by simp [wA, h]
theorem ME {xs : List Int} : wA xs 0 = List.replicate 17 0 := by
 apply List.ext_getElem?
 intro l
 by_cases h : l < 17
 ·rw [Be h, List.getElem?_replicate, if_pos h]; simp
 ·rw [List.getElem?_eq_none (by rw [Bd]; omega), List.getElem?_eq_none (by simp; omega)]
theorem MF {xs : List Int} {i : Nat} (hi : i < xs.length) (h0 : xs[i] ≤ 0) : wA xs (i + 1) = wA xs i := by
 unfold wA
 apply List.map_congr_left
 intro l hl
 by_cases h : l = 0
 ·simp [h]
 ·rw [if_neg h, if_neg h, qd hi, if_neg (show ¬ xs[i] = (l : Int) by omega)]; simp
theorem MG {xs : List Int} {i : Nat} (hi : i < xs.length) {x : Nat} (hx : xs[i] = (x : Int)) (h0 : 1 ≤ x) (h1 : x < 17) : wA xs (i + 1) = (wA xs i).set x ((((xs.take i).count (x : Int) : Nat) : Int) + 1) := by
 apply List.ext_getElem?
 intro l
 rw [List.getElem?_set, Bd]
 by_cases h : l < 17
 ·rw [Be h]
  by_cases he : x = l
  ·subst he
   rw [if_pos rfl, if_pos h1, if_neg (by omega), qd hi, if_pos hx]; push_cast; rfl
  ·rw [if_neg he, Be h]
   by_cases hz : l = 0
   ·simp [hz]
   ·rw [if_neg hz, if_neg hz, qd hi, if_neg (by omega)]; simp
 ·rw [List.getElem?_eq_none (by rw [Bd]; omega), if_neg (by omega), List.getElem?_eq_none (by rw [Bd]; omega)]
def nxL (xs : List Int) (l : Nat) : List Int := (List.range 17).map fun j => if j < l then cst xs j else 0
theorem Cn {xs : List Int} {i : Nat} : (nxL xs i).length = 17 := by simp [nxL]
theorem Ew {xs : List Int} {i l : Nat} (h : l < 17) : (nxL xs i)[l]? = some (if l < i then cst xs l else 0) := by simp [nxL, h]
theorem QI {xs : List Int} : nxL xs 1 = List.replicate 17 0 := by
 apply List.ext_getElem?
 intro l
 by_cases h : l < 17
 ·rw [Ew h, List.getElem?_replicate, if_pos h]
  by_cases h2 : l < 1
  ·have : l = 0 := by omega
   subst this; simp [cst]
  ·rw [if_neg h2]
 ·rw [List.getElem?_eq_none (by rw [Cn]; omega), List.getElem?_eq_none (by simp; omega)]
theorem OG {xs : List Int} {l : Nat} (h1 : l < 17) : nxL xs (l + 1) = (nxL xs l).set l (cst xs l) := by
 apply List.ext_getElem?
 intro j
 rw [List.getElem?_set, Cn]
 by_cases h : j < 17
 ·rw [Ew h]
  by_cases he : l = j
  ·subst he; rw [if_pos rfl, if_pos h1, if_pos (by omega)]
  ·rw [if_neg he, Ew h]
   by_cases hz : j < l
   ·rw [if_pos hz, if_pos (by omega)]
   ·rw [if_neg hz, if_neg (by omega)]
 ·rw [List.getElem?_eq_none (by rw [Cn]; omega), if_neg (by omega), List.getElem?_eq_none (by rw [Cn]; omega)]
def nxS (xs : List Int) (s : Nat) : List Int := (List.range 17).map fun j => if j < 16 then cst xs j + (if j = 0 then 0 else (((xs.take s).count (j : Int) : Nat) : Int)) else 0
theorem Ey {xs : List Int} {i : Nat} : (nxS xs i).length = 17 := by simp [nxS]
theorem Kj {xs : List Int} {i l : Nat} (h : l < 16) (h0 : 1 ≤ l) : (nxS xs i)[l]? = some (cst xs l + (((xs.take i).count (l : Int) : Nat) : Int)) := by
 have : l ≠ 0 := by omega
 simp [nxS, h, this, show l < 17 by omega]
theorem OH {xs : List Int} : nxL xs 16 = nxS xs 0 := by
 unfold nxL nxS
 apply List.map_congr_left
 intro j hj
 simp
theorem OI {xs : List Int} {i : Nat} (hi : i < xs.length) (h0 : xs[i] ≤ 0) : nxS xs (i + 1) = nxS xs i := by
 unfold nxS
 apply List.map_congr_left
 intro l hl
 by_cases h : l = 0
 ·simp [h]
 ·rw [qd hi, if_neg (show ¬ xs[i] = (l : Int) by omega)]; simp
theorem OJ {xs : List Int} {i : Nat} (hi : i < xs.length) {x : Nat} (hx : xs[i] = (x : Int)) (h0 : 1 ≤ x) (h1 : x < 16) : nxS xs (i + 1) = (nxS xs i).set x (cst xs x + (((xs.take i).count (x : Int) : Nat) : Int) + 1) := by
 apply List.ext_getElem?
 intro l
 rw [List.getElem?_set, Ey]
 by_cases h : l < 17
 ·by_cases he : x = l
  ·subst he
   rw [if_pos rfl, if_pos (by omega), Kj h1 h0, qd hi, if_pos hx]; push_cast; rw [Int.add_assoc]
  ·rw [if_neg he]
   simp only [nxS, List.getElem?_map, List.getElem?_range h, Option.map_some]
   by_cases hz : l = 0
   ·simp [hz]
   ·have hc : (xs.take (i + 1)).count (l : Int) = (xs.take i).count (l : Int) := by rw [qd hi, if_neg (show ¬ xs[i] = (l : Int) by omega)]; rfl
    simp only [hc]
 ·rw [List.getElem?_eq_none (by rw [Ey]; omega), if_neg (by omega), List.getElem?_eq_none (by rw [Ey]; omega)]
def wB (xs : List Int) (s : Nat) : List (Int × Int) := (List.range xs.length).map fun j => if j < s ∧ 1 ≤ xs.getD j 0 then Ak xs j else (0, 0)
theorem Bf {xs : List Int} {s : Nat} : (wB xs s).length = xs.length := by simp [wB]
theorem MH {xs : List Int} : wB xs 0 = List.replicate xs.length (0, 0) := by
 apply List.ext_getElem?
 intro l
 by_cases h : l < xs.length
 ·simp [wB, h]
 ·rw [List.getElem?_eq_none (by rw [Bf]; omega), List.getElem?_eq_none (by simp; omega)]
theorem MI {xs : List Int} : wB xs xs.length = yz xs := by
 unfold wB yz
 apply List.map_congr_left
 intro j hj
 have : j < xs.length := by simpa using hj
 simp [this]
theorem Bg {xs : List Int} {i : Nat} (hi : i < xs.length) : xs.getD i 0 = xs[i] := by simp [List.getD, List.getElem?_eq_getElem hi]
theorem MJ {xs : List Int} {i : Nat} (hi : i < xs.length) (h0 : xs[i] ≤ 0) : wB xs (i + 1) = wB xs i := by
 unfold wB
 apply List.map_congr_left
 intro j hj
 by_cases h : j = i
 ·subst h
  rw [Bg hi, if_neg (by omega), if_neg (by omega)]
 ·have : (j < i + 1 ∧ 1 ≤ xs.getD j 0) ↔ (j < i ∧ 1 ≤ xs.getD j 0) := by omega
  simp only [this]
theorem MK {xs : List Int} {i : Nat} (hi : i < xs.length) (h0 : 1 ≤ xs[i]) : wB xs (i + 1) = (wB xs i).set i (Ak xs i) := by
 apply List.ext_getElem?
 intro j
 rw [List.getElem?_set, Bf]
 by_cases h : j < xs.length
 ·by_cases he : i = j
  ·subst he
   rw [if_pos rfl, if_pos hi]
   simp only [wB, List.getElem?_map, List.getElem?_range h, Option.map_some, Bg h]
   rw [if_pos ⟨by omega, h0⟩]
  ·rw [if_neg he]
   simp only [wB, List.getElem?_map, List.getElem?_range h, Option.map_some]
   have : (j < i + 1 ∧ 1 ≤ xs.getD j 0) ↔ (j < i ∧ 1 ≤ xs.getD j 0) := by omega
   simp only [this]
 ·rw [List.getElem?_eq_none (by rw [Bf]; omega), if_neg (by omega), List.getElem?_eq_none (by rw [Bf]; omega)]
theorem QJ {a : Option Addr} {l c : Nat} {ps : List (Int × Int)} (H : jq h (.slice a l c) ps) (hs : ∀ b, zi (.slice a l c) = some b → ¬ S b) {i : Nat} (hi : i < ps.length) (x y : Int) :
  xf S h (((a.getD default).add (i * 2)).add 0) ∧ xf S (zw h (((a.getD default).add (i * 2)).add 0) (.int .i64 x)) (((a.getD default).add (i * 2)).add (0 + 1)) ∧
  jq (zw (zw h (((a.getD default).add (i * 2)).add 0) (.int .i64 x)) (((a.getD default).add (i * 2)).add (0 + 1)) (.int .u64 y)) (.slice a l c) (ps.set i (x, y)) ∧
  ∀ z, zi (.slice a l c) ≠ some z → zw (zw h (((a.getD default).add (i * 2)).add 0) (.int .i64 x)) (((a.getD default).add (i * 2)).add (0 + 1)) (.int .u64 y) z = h z := by
 obtain ⟨b, sp, T, e, hb⟩ := H
 cases e
 have hsb := hs b rfl
 have e1 : (((some (⟨b, 0, none⟩ : Addr)).getD default).add (i * 2)).add 0 = (⟨b, i * 2, none⟩ : Addr) := by
  rw [add_add, Option.getD_some, zj]; simp
 have e2 : (((some (⟨b, 0, none⟩ : Addr)).getD default).add (i * 2)).add (0 + 1) = (⟨b, i * 2 + 1, none⟩ : Addr) := by
  rw [add_add, Option.getD_some, zj]; simp
 have hlen : i < (ps ++ sp).length := by simp; omega
 have hsz : (Eng.xC (ps ++ sp)).size = (ps ++ sp).length * 2 := Lp _
 have ok : ∀ {c : Array Value} {h1 : Eng.Heap} {i : Nat}, h1 b = some (.cells c T) → i < c.size → xf S h1 ⟨b, i, none⟩ := fun {c h1 i} hc hi2 =>
  ⟨⟨c[i], by simp [zb, hc, hi2]⟩, by simp [yx, hc], hsb⟩
 rw [e1, e2, jy hb]
 refine ⟨ok hb (by omega), ok upd_same (by rw [Array.size_setIfInBounds]; omega), ?_⟩
 rw [jy upd_same, yR, M9 _ _ hlen, List.set_append_left _ _ hi]
 exact ⟨⟨b, sp, T, by simp, upd_same⟩, fun z hz => upd_ne fun e => hz (by rw [e]; rfl)⟩
end Go.Proofs.YteaonnfokkfnlaaGreatDoor
end
section
namespace Go.Proofs.YteaonnfokkfnlaaGreatDoor
open Go Go.Eng Go.IntWalk
def zr (xs : List Int) : List (Nat × Nat) := (yz xs).map fun p => (p.1.toNat, p.2.toNat)
theorem wX {xs : List Int} : (yz xs).length = xs.length := by simp [yz]
theorem xh {xs : List Int} : (zr xs).length = xs.length := by simp [zr, yz]
theorem kC {xs : List Int} {j : Nat} (hj : j < xs.length) : (yz xs)[j]? = some (if 1 ≤ xs[j] then Ak xs j else (0, 0)) := by
 simp only [yz, List.getElem?_map, List.getElem?_range hj, Option.map_some, Bg hj]
theorem Al {xs : List Int} {j l : Nat} (hj : j < xs.length) (hl : xs[j] = (l : Int)) : Ak xs j = ((l : Int), tl (cst xs l + (((xs.take j).count (l : Int) : Nat) : Int)) l) := by
 unfold Ak
 rw [Bg hj, hl, Int.toNat_natCast]
theorem jP {xs : List Int} (hok : hok xs) {j : Nat} {p : Int × Int} (h : (yz xs)[j]? = some p) : ∃ l b : Nat, p = ((l : Int), (b : Int)) ∧ (zr xs)[j]? = some (l, b) ∧ l ≤ 15 ∧ b < 2 ^ l := by
 have hj : j < xs.length := by have := (List.getElem?_eq_some_iff.1 h).1; rwa [wX] at this
 have hc : (zr xs)[j]? = some (p.1.toNat, p.2.toNat) := by simp only [zr, List.getElem?_map, h, Option.map_some]
 rw [kC hj] at h
 have hb := hok _ (List.getElem_mem hj)
 obtain ⟨l, hl⟩ := Int.eq_ofNat_of_zero_le hb.1
 by_cases h1 : 1 ≤ xs[j]
 ·rw [if_pos h1, Al hj hl] at h
  have h := (Option.some.inj h).symm
  subst h
  have ht := Lv (x := cst xs l + (((xs.take j).count (l : Int) : Nat) : Int)) (n := l)
  obtain ⟨b, hb2⟩ := Int.eq_ofNat_of_zero_le ht.1
  refine ⟨l, b, by rw [hb2], by rw [hc, hb2]; rfl, by omega, ?_⟩
  have := ht.2
  rw [hb2, y9] at this
  exact_mod_cast this
 ·rw [if_neg h1] at h
  have h := (Option.some.inj h).symm
  subst h
  exact ⟨0, 0, rfl, by rw [hc]; rfl, by omega, by decide⟩
def Em (cs : List (Nat × Nat)) (m l v : Nat) : Prop := ∃ s c, s < m ∧ cs[s]? = some c ∧ l < c.1 ∧ c.2 % 2 ^ l = v
def Ec (cs : List (Nat × Nat)) (l v : Nat) : Prop := ∃ c ∈ cs, l < c.1 ∧ c.2 % 2 ^ l = v
instance (cs : List (Nat × Nat)) (l v : Nat) : Decidable (Ec cs l v) := by unfold Ec; infer_instance
def Ym (cs : List (Nat × Nat)) : Nat → Nat → Nat → Nat
 | 0, _, _ => 0
 | m + 1, l, v => if cs[m]? = some (l, v) ∧ 0 < l then m + 1 else Ym cs m l v
theorem Kk {cs : List (Nat × Nat)} {l v : Nat} : Em cs cs.length l v ↔ Ec cs l v := by
 constructor
 ·rintro ⟨s, c, _, h, h2⟩
  exact ⟨c, List.mem_of_getElem? h, h2⟩
 ·rintro ⟨c, hc, h2⟩
  obtain ⟨s, hs⟩ := List.getElem?_of_mem hc
  exact ⟨s, c, (List.getElem?_eq_some_iff.1 hs).1, hs, h2⟩
theorem GZ {b l k : Nat} (h : l ≤ k) : b % 2 ^ k % 2 ^ l = b % 2 ^ l := Nat.mod_mod_of_dvd _ (Nat.pow_dvd_pow 2 h)
theorem Tj {cs : List (Nat × Nat)} {m l v : Nat} (h : Em cs m (l + 1) v) : Em cs m l (v % 2 ^ l) := by
 obtain ⟨s, c, h1, h2, h3, h4⟩ := h
 exact ⟨s, c, h1, h2, by omega, by rw [← h4, GZ (by omega)]⟩
theorem Co {cs : List (Nat × Nat)} {l v : Nat} : ∀ {m : Nat}, Ym cs m l v ≠ 0 → ∃ s, s < m ∧ cs[s]? = some (l, v) ∧ 0 < l ∧ Ym cs m l v = s + 1
 | 0, h => absurd rfl h
 | m + 1, h => by
  rw [Ym] at h ⊢
  by_cases h1 : cs[m]? = some (l, v) ∧ 0 < l
  ·rw [if_pos h1]; exact ⟨m, by omega, h1.1, h1.2, rfl⟩
  ·rw [if_neg h1] at h ⊢
   obtain ⟨s, a, b, c, d⟩ := Co h
   exact ⟨s, by omega, b, c, d⟩
theorem Kl {cs : List (Nat × Nat)} {l v : Nat} : ∀ {m : Nat}, (∀ s, s < m → cs[s]? = some (l, v) → ¬ 0 < l) → Ym cs m l v = 0
 | 0, _ => rfl
 | m + 1, h => by
  rw [Ym, if_neg (fun h1 => h m (by omega) h1.1 h1.2)]
  exact Kl fun s hs => h s (by omega)
theorem Tk {cs : List (Nat × Nat)} {m l v : Nat} (h : Ym cs m (l + 1) v ≠ 0) : Em cs m l (v % 2 ^ l) := by
 obtain ⟨s, a, b, _, _⟩ := Co h
 exact ⟨s, _, a, b, Nat.lt_succ_self _, rfl⟩
def uniq (cs : List (Nat × Nat)) : Prop := ∀ s t l v : Nat, 0 < l → cs[s]? = some (l, v) → cs[t]? = some (l, v) → s = t
theorem Tl {cs : List (Nat × Nat)} (U : uniq cs) {s l v : Nat} (h : cs[s]? = some (l, v)) (hl : 0 < l) {m : Nat} (hm : s < m) : Ym cs m l v = s + 1 := by
 by_cases h0 : Ym cs m l v = 0
 ·exfalso
  induction m with
  | zero => omega
  | succ m ih =>
   rw [Ym] at h0
   by_cases h1 : cs[m]? = some (l, v) ∧ 0 < l
   ·rw [if_pos h1] at h0; omega
   ·rw [if_neg h1] at h0
    by_cases h2 : s = m
    ·subst h2; exact h1 ⟨h, hl⟩
    ·exact ih (by omega) h0
 ·obtain ⟨t, _, b, _, d⟩ := Co h0
  rw [d, U s t l v hl h b]
def nxt (cs : List (Nat × Nat)) (b : Nat) : Nat → Nat → Int × Int × Int
 | 0, _ => (2, 0, 0)
 | f + 1, l => if Ym cs cs.length l (b % 2 ^ l) ≠ 0 then (1, (Ym cs cs.length l (b % 2 ^ l) : Int) - 1, (l : Int)) else if Ec cs l (b % 2 ^ l) then nxt cs b f (l + 1) else (0, 0, 0)
def BR (l : Nat) (xs : List Int) : Int := (xs.map fun x => if 0 < x ∧ x ≤ (l : Int) then jm x else 0).sum
theorem OK (x : Int) : 0 ≤ jm x := by
 unfold jm
 split
 ·exact Int.natCast_nonneg _
 ·omega
theorem Km (l : Nat) : ∀ xs : List Int, BR l xs ≤ kr xs
 | [] => by simp [BR, kr]
 | x :: r => by
  have := Km l r
  have h0 := OK x
  unfold BR kr at *
  simp only [List.map_cons, List.sum_cons]
  split <;> omega
theorem HC : ∀ xs : List Int, BR 0 xs = 0
 | [] => rfl
 | x :: r => by
  have := HC r
  unfold BR at *
  simp only [List.map_cons, List.sum_cons, this]
  rw [if_neg (by omega)]; rfl
theorem DN (l : Nat) (hl : l + 1 ≤ 15) : ∀ xs : List Int, BR (l + 1) xs = BR l xs + ((xs.count ((l + 1 : Nat) : Int) : Nat) : Int) * 2 ^ (15 - (l + 1))
 | [] => by simp [BR]
 | x :: r => by
  have ih := DN l hl r
  unfold BR at *
  simp only [List.map_cons, List.sum_cons, List.count_cons]
  by_cases h : x = ((l + 1 : Nat) : Int)
  ·have e1 : (x == ((l + 1 : Nat) : Int)) = true := by simp [h]
   rw [e1, if_pos rfl, if_pos (show 0 < x ∧ x ≤ ((l + 1 : Nat) : Int) by omega), if_neg (show ¬ (0 < x ∧ x ≤ (l : Int)) by omega), ih]
   have e2 : jm x = 2 ^ (15 - (l + 1)) := by
    unfold jm
    rw [if_pos (by omega), y9]
    congr 3; omega
   rw [e2]; push_cast; rw [Int.add_mul]; omega
  ·have e1 : (x == ((l + 1 : Nat) : Int)) = false := beq_eq_false_iff_ne.2 h
   rw [e1]
   have e3 : (0 < x ∧ x ≤ ((l + 1 : Nat) : Int)) ↔ (0 < x ∧ x ≤ (l : Int)) := by omega
   simp only [e3, Bool.false_eq_true, if_false, Nat.add_zero]
   rw [ih]; omega
theorem IU {xs : List Int} : ∀ l : Nat, l + 1 ≤ 15 → cst xs (l + 1) * 2 ^ (15 - (l + 1)) = BR l xs
 | 0, _ => by simp [cst, HC]
 | l + 1, h => by
  have ih := IU (xs := xs) l (by omega)
  rw [cst, DN l (by omega), ← ih, if_neg (by omega)]
  have e : (2 : Int) ^ (15 - (l + 1)) = 2 * 2 ^ (15 - (l + 1 + 1)) := by
   rw [show 15 - (l + 1) = (15 - (l + 1 + 1)) + 1 by omega, Int.pow_succ]; omega
  rw [e]
  generalize (2 : Int) ^ (15 - (l + 1 + 1)) = p
  generalize cst xs (l + 1) = c
  generalize ((xs.count ((l + 1 : Nat) : Int) : Nat) : Int) = k
  rw [Int.mul_comm 2 (c + k), Int.mul_assoc, Int.add_mul]
theorem Fy {xs : List Int} (hk : kr xs ≤ 32768) {l : Nat} (h1 : 1 ≤ l) (h2 : l ≤ 15) : cst xs l + ((xs.count (l : Int) : Nat) : Int) ≤ 2 ^ l := by
 obtain ⟨m, rfl⟩ : ∃ m, l = m + 1 := ⟨l - 1, by omega⟩
 have a := IU (xs := xs) m h2
 have b := DN m h2 xs
 have c := Km (m + 1) xs
 have hp : (0 : Int) < 2 ^ (15 - (m + 1)) := Int.pow_pos (by decide)
 have e : (32768 : Int) = 2 ^ (m + 1) * 2 ^ (15 - (m + 1)) := by
  rw [← Int.pow_add, show m + 1 + (15 - (m + 1)) = 15 by omega]; rfl
 refine Int.le_of_mul_le_mul_right (a := 2 ^ (15 - (m + 1))) ?_ hp
 rw [Int.add_mul, a, ← b, ← e]
 omega
theorem IV : ∀ {n : Nat} {x y : Int}, 0 ≤ x → 0 ≤ y → tl x n = tl y n → x % 2 ^ n = y % 2 ^ n
 | 0, x, y, _, _, _ => by simp
 | n + 1, x, y, hx, hy, h => by
  rw [tl, tl] at h
  have hp : (0 : Int) < 2 ^ n := Int.pow_pos (by decide)
  have h2 : x / 2 ^ n % 2 = y / 2 ^ n % 2 := by omega
  have h1 : tl x n = tl y n := by omega
  have ih := IV hx hy h1
  have key : ∀ z : Int, z % 2 ^ (n + 1) = z % 2 ^ n + 2 ^ n * (z / 2 ^ n % 2) := fun z => by
   have hd : z / (2 ^ n * 2) = z / 2 ^ n / 2 := (Int.ediv_ediv_of_nonneg (Int.le_of_lt hp)).symm
   rw [Int.pow_succ, Int.emod_def z (2 ^ n * 2), hd, Int.emod_def z (2 ^ n), Int.emod_def (z / 2 ^ n) 2, Int.mul_sub, Int.mul_assoc]
   omega
  rw [key x, key y, ih, h2]
theorem kA {xs : List Int} {j : Nat} (hj : j < xs.length) {a : Int} (h : xs[j] = a) : (xs.take j).count a < xs.count a := by
 have e : xs = xs.take j ++ xs[j] :: xs.drop (j + 1) := by rw [← List.drop_eq_getElem_cons hj, List.take_append_drop]
 conv => rhs; rw [e]
 rw [List.count_append, List.count_cons, h]
 simp
theorem B8 {xs : List Int} {i j : Nat} (hij : i < j) (hi : i < xs.length) {a : Int} (h : xs[i] = a) : (xs.take i).count a < (xs.take j).count a := by
 have hlt : i < (xs.take j).length := by rw [List.length_take]; omega
 have e2 : (xs.take j).take i = xs.take i := by rw [List.take_take]; congr 1; omega
 have := kA (xs := xs.take j) hlt (a := a) (by rw [List.getElem_take]; exact h)
 rwa [e2] at this
theorem Qd {xs : List Int} (h : ¬ (zp xs = 0 ∨ zp xs = 2)) : kr xs ≤ 32768 := by
 obtain ⟨h1, h2⟩ := jA h
 unfold zp at h
 by_cases h3 : cn xs = 0
 ·have := GX h3; omega
 ·by_cases h4 : kr xs > 32768
  ·have : ¬ xs.length > 320 := by omega
   simp [this, h2, h3, h4] at h
  ·omega
theorem Gw {xs : List Int} (h : ¬ (zp xs = 0 ∨ zp xs = 2)) : uniq (zr xs) := by
 obtain ⟨hlen, hok⟩ := jA h
 have hk := Qd h
 intro s t l v hl hs ht
 have key : ∀ {j}, (zr xs)[j]? = some (l, v) → ∃ hj : j < xs.length, xs[j] = (l : Int) ∧ (v : Int) = tl (cst xs l + (((xs.take j).count (l : Int) : Nat) : Int)) l := fun {j} hj => by
  have hj1 : j < xs.length := by have := (List.getElem?_eq_some_iff.1 hj).1; rwa [xh] at this
  have hg := kC (xs := xs) hj1
  have hb := hok _ (List.getElem_mem hj1)
  obtain ⟨k, hk⟩ := Int.eq_ofNat_of_zero_le hb.1
  obtain ⟨l', b', e, hn, _, _⟩ := jP hok hg
  rw [hj] at hn
  simp only [Option.some.injEq, Prod.mk.injEq] at hn
  obtain ⟨rfl, rfl⟩ := hn
  by_cases h1 : 1 ≤ xs[j]
  ·rw [if_pos h1, Al hj1 hk] at e
   simp only [Prod.mk.injEq] at e
   have e1 : k = l := by exact_mod_cast e.1
   subst e1
   exact ⟨hj1, hk, e.2.symm⟩
  ·rw [if_neg h1] at e
   simp only [Prod.mk.injEq] at e
   have : l = 0 := by exact_mod_cast e.1.symm
   omega
 obtain ⟨hs1, hs2, hs3⟩ := key hs
 obtain ⟨ht1, ht2, ht3⟩ := key ht
 have hl15 : l ≤ 15 := by have := hok _ (List.getElem_mem hs1); omega
 have room := Fy hk hl hl15
 have c0 := qR (xs := xs) hlen (l := l) (by omega)
 have cs := kA hs1 hs2
 have ct := kA ht1 ht2
 have inj := IV (n := l) (x := cst xs l + (((xs.take s).count (l : Int) : Nat) : Int)) (y := cst xs l + (((xs.take t).count (l : Int) : Nat) : Int)) (by omega) (by omega) (by rw [← hs3, ← ht3])
 rw [Int.emod_eq_of_lt (by omega) (by omega), Int.emod_eq_of_lt (by omega) (by omega)] at inj
 have hcc : (xs.take s).count (l : Int) = (xs.take t).count (l : Int) := by omega
 rcases Nat.lt_trichotomy s t with h | h | h
 ·have := B8 h hs1 hs2; omega
 ·exact h
 ·have := B8 h ht1 ht2; omega
end Go.Proofs.YteaonnfokkfnlaaGreatDoor
end
section
namespace Go.Proofs.YteaonnfokkfnlaaGreatDoor
open Go Go.Eng Go.IntWalk
variable {S : Shared} {h : Eng.Heap}
theorem IW {b : Nat} {T : TypeId} {K : Eng.Heap → Prop} (hs : ¬ S b) (hK : K (upd h b (.cells (ints .u64 (List.replicate 17 0)) T))) :
  zY S ⟨b, 0, none⟩ 0 [Value.int IntKind.u64 0, Value.int IntKind.u64 0, Value.int IntKind.u64 0, Value.int IntKind.u64 0, Value.int IntKind.u64 0, Value.int IntKind.u64 0, Value.int IntKind.u64 0, Value.int IntKind.u64 0, Value.int IntKind.u64 0, Value.int IntKind.u64 0, Value.int IntKind.u64 0, Value.int IntKind.u64 0, Value.int IntKind.u64 0, Value.int IntKind.u64 0, Value.int IntKind.u64 0, Value.int IntKind.u64 0, Value.int IntKind.u64 0]
   (upd h b (Obj.cells (List.replicate 17 (Value.int IntKind.u64 0)).toArray T)) K := by
 have e : (List.replicate 17 (Value.int IntKind.u64 0)).toArray = ints .u64 (List.replicate 17 0) := by unfold ints; rw [List.map_replicate]
 rw [e]
 refine qm (off := 0) hs (List.replicate 17 (0 : Int)) 0 (upd h b (.cells (ints .u64 (List.replicate 17 0)) T)) (List.replicate 17 0) upd_same (by simp) ?_
 rw [yR]
 exact hK
theorem Cp {h' : Eng.Heap} {b : Nat} {T : TypeId} {cs : List Int} (hb : h' b = some (.cells (ints .u64 cs) T)) {x : Nat} {y : Int} (hy : cs[x]? = some y) : zb h' (((⟨b, 0, none⟩ : Addr).add (x * 1)).add 0) = some (.int .u64 y) := by
 rw [Nat.mul_one, add_add, yN]
 simp only [zb, hb, ints, Nat.add_zero, List.getElem?_toArray, List.getElem?_map, hy]
 rfl
theorem Ha {h' : Eng.Heap} {b : Nat} {T : TypeId} {cs : List Int} {K : Eng.Heap → Prop} (hb : h' b = some (.cells (ints .u64 cs) T)) (hs : ¬ S b) {x : Nat} {y : Int} (hx : x < cs.length) (hK : K (upd h' b (.cells (ints .u64 (cs.set x y)) T))) :
  zY S ((⟨b, 0, none⟩ : Addr).add (x * 1)) 0 [.int .u64 y] h' K := by
 have e0 : (⟨b, 0, none⟩ : Addr).add (x * 1) = ⟨b, x, none⟩ := by rw [Nat.mul_one, yN]
 rw [e0]
 refine qm (off := x) hs [y] 0 h' cs hb (by simp; omega) ?_
 have e1 : jN cs (x + 0) [y] = cs.set x y := by
  unfold jN
  rw [List.set_eq_take_append_cons_drop, if_pos hx]
  simp
 rw [e1]
 exact hK
theorem Bh (hi : Eng.Inv S h) {v : Value} {xs : List Int} (O : tI.O h v xs) (L : OD xs) :
  zc Tryz.prog S kj #[v] h (fun v h' => Gv.O h' v (xM xs) ∧ Gv.New h v ∧ Eng.Sub h h') := by
 obtain ⟨a, c, rfl, hc, hx⟩ := Part.ints O
 refine DF (vs := [.slice a xs.length c]) ⟨rfl, trivial⟩ hi ?_
 simp only [AT, Tr.wp, Ff, zX, Ex.ev, coerce, toInt_int, zf, zn, zu, zo, zg, yF, B0, ya, arith, Cst.val, SV.den, z6, yl, zU, zt, zk, yw, zG, ym, zy, List.flatMap_cons, List.flatMap_nil, List.getD_cons_zero, List.getD_cons_succ, List.getElem?_cons_zero, List.getElem?_cons_succ, decide_eq_true_eq, decide_eq_false_iff_not, List.map_cons, List.map_nil, List.cons_append, List.nil_append, List.append_nil, and_true, if_false, Bool.false_eq_true]
 refine (kK hi a c xs hx).mono ?_
 rintro _ hq ⟨rfl, eq⟩
 rw [eq]
 refine ⟨_, rfl, fun hbad => ?_, fun hok1 => ?_⟩
 ·have hb : zp xs = 0 ∨ zp xs = 2 := by simpa using hbad
  intro b hb0
  simp only [xM, if_pos hb]
  exact ⟨⟨b, [], _, rfl, upd_same⟩, fun z hz => by cases hz; exact hb0, Sub.zL hb0⟩
 have hg : ¬ (zp xs = 0 ∨ zp xs = 2) := by simpa using hok1
 obtain ⟨hlen, hok⟩ := jA hg
 simp only [xM, if_neg hg]
 intro b1 hb1
 have hs1 : ¬ S b1 := fun hs => hi b1 hs hb1
 refine IW hs1 ?_
 refine ⟨fun us h' => ∃ i : Nat, us = [.int .i64 i] ∧ i ≤ xs.length ∧ h' = upd h b1 (.cells (ints .u64 (wA xs i)) 186), fun us _ => xs.length - (toInt (us.getD 0 undef)).toNat, ⟨0, rfl, by omega, by rw [ME]⟩, ?_⟩
 rintro x h' ⟨i, hx1, hi2, rfl⟩
 obtain rfl : x = i := by simpa using hx1
 have sub1 : Eng.Sub h (upd h b1 (.cells (ints .u64 (wA xs i)) 186)) := Sub.zL hb1
 have w2 : IntKind.i64.wrap ((i : Int) + 1) = ((i + 1 : Nat) : Int) := by rw [i64_in _ (by omega)]; omega
 refine ⟨fun hlt => ?_, fun hge => ?_⟩
 ·have hi3 : i < xs.length := by omega
  obtain ⟨g1, g2⟩ := (hx.sub sub1).cell (List.getElem?_eq_getElem hi3)
  have hb := hok _ (List.getElem_mem hi3)
  rw [w2]
  refine ⟨by simpa using g2, by omega, hlt, xs[i], by simpa [add_add] using g1, fun hpos => ?_, fun hnp _ => ?_⟩
  ·obtain ⟨k, hk⟩ := Int.eq_ofNat_of_zero_le hb.1
   have hk1 : 1 ≤ k ∧ k < 17 := by omega
   have hcl := Di (a := (k : Int)) (i := i) hlen
   have hg := Be (xs := xs) (i := i) hk1.2
   rw [if_neg (by omega)] at hg
   rw [hk, Int.toNat_natCast]
   refine ⟨by omega, by omega, _, Cp upd_same hg, by omega, by omega, ?_⟩
   refine Ha upd_same hs1 (by rw [Bd]; omega) fun _ => ?_
   rw [u64_in _ (by omega), yR, ← MG hi3 hk hk1.1 hk1.2]
   exact ⟨⟨i + 1, rfl, by omega, rfl⟩, by simp only [List.getD_cons_zero, toInt_int]; omega⟩
  ·exact ⟨⟨i + 1, rfl, by omega, by rw [MF hi3 (by omega)]⟩, by simp only [List.getD_cons_zero, toInt_int]; omega⟩
 obtain rfl : i = xs.length := by omega
 obtain ⟨h1, hh1⟩ : ∃ h1, h1 = upd h b1 (.cells (ints .u64 (wA xs xs.length)) 186) := ⟨_, rfl⟩
 rw [← hh1] at sub1 ⊢
 intro b2 hb2
 have hb20 := yg sub1 hb2
 have hs2 : ¬ S b2 := fun hs => hi b2 hs hb20
 have hne : b1 ≠ b2 := fun e => by rw [hh1, ← e, upd_same] at hb2; cases hb2
 refine IW hs2 ?_
 refine ⟨fun us h' => ∃ l : Nat, us = [.int .i64 l] ∧ 1 ≤ l ∧ l ≤ 16 ∧ h' = upd h1 b2 (.cells (ints .u64 (nxL xs l)) 186), fun us _ => 16 - (toInt (us.getD 0 undef)).toNat, ⟨1, rfl, by omega, by omega, by rw [QI]⟩, ?_⟩
 rintro x h' ⟨l, hx1, hl1, hl2, rfl⟩
 obtain rfl : x = l := by simpa using hx1
 have w2 : IntKind.i64.wrap ((l : Int) + 1) = ((l + 1 : Nat) : Int) := by rw [i64_in _ (by omega)]; omega
 refine ⟨fun hle => ?_, fun hgt => ?_⟩
 ·have w3 : IntKind.i64.wrap ((l : Int) - 1) = ((l - 1 : Nat) : Int) := by rw [i64_in _ (by omega)]; omega
  rw [w2, w3]
  have gn := Ew (xs := xs) (i := l) (l := l - 1) (by omega)
  rw [if_pos (by omega)] at gn
  have gc := Be (xs := xs) (i := xs.length) (l := l - 1) (by omega)
  rw [List.take_length] at gc
  have hc1 : upd h1 b2 (.cells (ints .u64 (nxL xs l)) 186) b1 = some (.cells (ints .u64 (wA xs xs.length)) 186) := by rw [upd_ne hne, hh1, upd_same]
  refine ⟨by omega, by omega, _, Cp upd_same gn, by omega, by omega, _, Cp hc1 gc, by omega, by omega, ?_⟩
  refine Ha upd_same hs2 (by rw [Cn]; omega) ?_
  have hs := qR (xs := xs) hlen (l := l) (by omega)
  have hs0 := qR (xs := xs) hlen (l := l - 1) (by omega)
  have hcs : cst xs l = 2 * (cst xs (l - 1) + (if l - 1 = 0 then 0 else ((xs.count ((l - 1 : Nat) : Int) : Nat) : Int))) := by
   conv => lhs; rw [show l = l - 1 + 1 by omega, cst]
  have hcc : 0 ≤ (if l - 1 = 0 then (0 : Int) else ((xs.count ((l - 1 : Nat) : Int) : Nat) : Int)) := by split <;> omega
  have m1 : min (Int.toNat 1) IntKind.u64.bits = 1 := by decide
  rw [m1, Int.pow_one, u64_in (cst xs (l - 1) + _) (by omega), u64_in _ (by omega), Int.mul_comm, ← hcs, yR, Int.toNat_natCast, ← OG (by omega)]
  exact ⟨⟨l + 1, rfl, by omega, by omega, rfl⟩, by simp only [List.getD_cons_zero, toInt_int]; omega⟩
 obtain rfl : l = 16 := by omega
 have wl : IntKind.i64.wrap (xs.length : Int) = xs.length := i64_in _ (by omega)
 have sub2 : Eng.Sub h (upd h1 b2 (.cells (ints .u64 (nxL xs 16)) 186)) := sub1.trans (Sub.zL hb2)
 obtain ⟨h2, hh2⟩ : ∃ h2, h2 = upd h1 b2 (.cells (ints .u64 (nxL xs 16)) 186) := ⟨_, rfl⟩
 rw [← hh2] at sub2 ⊢
 rw [wl]
 refine ⟨by omega, by omega, by omega, fun b3 hb3 => ?_⟩
 have hb30 := yg sub2 hb3
 have hne2 : b3 ≠ b2 := fun e => by rw [hh2, e, upd_same] at hb3; cases hb3
 rw [Int.toNat_natCast, Ie]
 have s3 : Eng.Sub h (upd h2 b3 (.cells (Eng.xC (List.replicate xs.length (0, 0))) 140)) := sub2.trans (Sub.zL hb3)
 refine ⟨fun us h' => ∃ s : Nat, us = [.int .i64 s] ∧ s ≤ xs.length ∧ jq h' (.slice (some ⟨b3, 0, none⟩) xs.length xs.length) (wB xs s) ∧ h' b2 = some (.cells (ints .u64 (nxS xs s)) 186) ∧ Eng.Sub h h', fun us _ => xs.length - (toInt (us.getD 0 undef)).toNat, ⟨0, rfl, by omega, ?_, ?_, s3⟩, ?_⟩
 ·rw [MH]
  have := jq.made (h := h2) (b := b3) (T := 140) (List.replicate xs.length ((0 : Int), (0 : Int)))
  rwa [List.length_replicate] at this
 ·rw [upd_ne hne2.symm, hh2, upd_same, OH]
 rintro x h' ⟨s, hx1, hi2, OW, hn, sb⟩
 obtain rfl : x = s := by simpa using hx1
 have w2 : IntKind.i64.wrap ((s : Int) + 1) = ((s + 1 : Nat) : Int) := by rw [i64_in _ (by omega)]; omega
 refine ⟨fun hlt => ?_, fun hge => ?_⟩
 ·have hi3 : s < xs.length := by omega
  obtain ⟨g1, g2⟩ := (hx.sub sb).cell (List.getElem?_eq_getElem hi3)
  have hb := hok _ (List.getElem_mem hi3)
  rw [w2]
  refine ⟨by simpa using g2, by omega, hlt, xs[s], by simpa [add_add] using g1, fun hpos => ?_, fun hnp _ => ?_⟩
  ·obtain ⟨k, hk⟩ := Int.eq_ofNat_of_zero_le hb.1
   have hk1 : 1 ≤ k ∧ k < 16 := by omega
   have hcl := Di (a := (k : Int)) (i := s) hlen
   have hs := qR (xs := xs) hlen (l := k) (by omega)
   have hg := Kj (xs := xs) (i := s) hk1.2 hk1.1
   rw [hk, Int.toNat_natCast]
   refine ⟨by omega, by omega, _, Cp hn hg, ?_⟩
   refine (OF (hi.sub sb) _ k (by omega) (by omega) (by omega)).mono ?_
   rintro _ hq ⟨rfl, eq⟩
   rw [eq]
   refine ⟨_, rfl, ?_⟩
   have hno : ∀ b, zi (.slice (some ⟨b3, 0, none⟩) xs.length xs.length) = some b → ¬ S b := fun z hz hs => by cases hz; exact hi b3 hs hb30
   obtain ⟨o1, o2, o3, o4⟩ := QJ OW hno (i := s) (by rw [Bf]; exact hi3) (k : Int) (tl (cst xs k + (((xs.take s).count (k : Int) : Nat) : Int)) k)
   rw [Int.toNat_natCast]
   refine ⟨by simp, by omega, hlt, o1, o2, ?_⟩
   have hn2 := (o4 b2 (fun e => hne2 (by cases e; rfl))).trans hn
   have sb2 : Eng.Sub h (zw (zw h' ((((some (⟨b3, 0, none⟩ : Addr)).getD default).add (s * 2)).add 0) (.int .i64 k)) ((((some (⟨b3, 0, none⟩ : Addr)).getD default).add (s * 2)).add (0 + 1)) (.int .u64 (tl (cst xs k + (((xs.take s).count (k : Int) : Nat) : Int)) k))) := fun y o hy => by
    rw [o4 y (fun e => by cases e; rw [hb30] at hy; cases hy)]; exact sb y o hy
   refine ⟨by omega, by omega, _, Cp hn2 hg, by omega, by omega, ?_⟩
   refine Ha hn2 hs2 (by rw [Ey]; omega) fun _ => ?_
   rw [u64_in _ (by omega), ← OJ hi3 hk hk1.1 hk1.2]
   have hcode : Ak xs s = ((k : Int), tl (cst xs k + (((xs.take s).count (k : Int) : Nat) : Int)) k) := by
    unfold Ak
    rw [Bg hi3, hk, Int.toNat_natCast]
   refine ⟨⟨s + 1, rfl, by omega, ?_, upd_same, fun y o hy => ?_⟩, by simp only [List.getD_cons_zero, toInt_int]; omega⟩
   ·rw [MK hi3 (by omega), hcode]
    exact o3.keep fun z hz => upd_ne fun e => hne2 (by cases hz; exact e)
   ·rw [upd_ne (fun e => by rw [e, hb20] at hy; cases hy)]; exact sb2 y o hy
  ·exact ⟨⟨s + 1, rfl, by omega, by rw [MJ hi3 (by omega)]; exact OW, by rw [OI hi3 (by omega)]; exact hn, sb⟩, by simp only [List.getD_cons_zero, toInt_int]; omega⟩
 obtain rfl : s = xs.length := by omega
 rw [MI] at OW
 exact ⟨OW, fun z hz => by cases hz; exact hb30, sb⟩
end Go.Proofs.YteaonnfokkfnlaaGreatDoor
end
section
namespace Go.Proofs.YteaonnfokkfnlaaGreatDoor
open Go Go.Eng Go.IntWalk
variable {S : Shared} {h : Eng.Heap}
def Sd (r : Int × Int × Int) : Value := .agg #[.int .i64 r.1, .int .i64 r.2.1, .int .i64 r.2.2]
theorem Se {cs : List (Nat × Nat)} {l v M : Nat} (hM : ∀ c ∈ cs, c.1 ≤ M) (h : Ec cs l v) : l < M := by
 obtain ⟨c, hc, h1, _⟩ := h
 have := hM c hc
 omega
theorem Kn {cs : List (Nat × Nat)} {s l v L β : Nat} (hs : cs[s]? = some (L, β)) : Em cs (s + 1) l v ↔ Em cs s l v ∨ (l < L ∧ β % 2 ^ l = v) := by
 constructor
 ·rintro ⟨t, c, h1, h2, h3⟩
  by_cases h : t = s
  ·subst h; rw [hs] at h2; have := Option.some.inj h2; subst this; exact .inr h3
  ·exact .inl ⟨t, c, by omega, h2, h3⟩
 ·rintro (⟨t, c, h1, h2, h3⟩ | h3)
  ·exact ⟨t, c, by omega, h2, h3⟩
  ·exact ⟨s, _, by omega, hs, h3⟩
end Go.Proofs.YteaonnfokkfnlaaGreatDoor
end
section
namespace Go.Proofs.YteaonnfokkfnlaaGreatDoor
open Go Go.Eng Go.IntWalk
variable {S : Shared} {h : Eng.Heap}
structure Rd where
 i : Int
 k : Int
def tk (bs : List Int) (n : Nat) (r : Rd) : Rd × Int :=
 if r.k = 0 then if r.i + n > 8 * (bs.length : Int) then (⟨r.i, 2⟩, 0) else (⟨r.i + n, 0⟩, yy bs r.i.toNat n) else (r, 0)
def bd (w : Bool) (r : Rd) : Rd := if r.k = 0 ∧ w = true then ⟨r.i, 3⟩ else r
def look (bs : List Int) (i : Nat) : Nat := min 15 (8 * bs.length - i)
def nxB (bs : List Int) (cs : List (Nat × Nat)) (i : Nat) : Int × Int × Int := nxt cs (yy bs i (look bs i)).toNat (look bs i + 1) 0
def sy (bs : List Int) (cs : List (Nat × Nat)) (r : Rd) : Rd × Int :=
 if r.k = 0 then (⟨r.i + (nxB bs cs r.i.toNat).2.2, if (nxB bs cs r.i.toNat).1 = 2 then 2 else if (nxB bs cs r.i.toNat).1 = 0 then 3 else 0⟩, (nxB bs cs r.i.toNat).2.1) else (r, 0)
def okR (bs : List Int) (r : Rd) : Prop := r.k = 0 → 0 ≤ r.i ∧ r.i ≤ 8 * (bs.length : Int)
theorem jF {bs : List Int} {n : Nat} {r : Rd} (H : okR bs r) : okR bs (tk bs n r).1 := by
 unfold tk
 by_cases h0 : r.k = 0
 ·rw [if_pos h0]
  have := H h0
  split
  ·intro h; cases h
  ·intro _; simp only; omega
 ·rw [if_neg h0]; exact H
theorem yJ {bs : List Int} {n : Nat} {r : Rd} : 0 ≤ (tk bs n r).2 ∧ (tk bs n r).2 < 2 ^ n := by
 have hp : (0 : Int) < 2 ^ n := Int.pow_pos (by decide)
 unfold tk
 split
 ·split
  ·exact ⟨by simp, hp⟩
  ·exact AQ
 ·exact ⟨by simp, hp⟩
theorem Lw {bs : List Int} {n : Nat} {r : Rd} (h : (tk bs n r).1.k = 0) : r.k = 0 := by
 unfold tk at h
 by_cases h0 : r.k = 0
 ·exact h0
 ·rw [if_neg h0] at h; exact absurd h h0
theorem Ez {bs : List Int} {w : Bool} {r : Rd} (H : okR bs r) : okR bs (bd w r) := by
 unfold bd
 split
 ·intro h; cases h
 ·exact H
theorem OL {w : Bool} {r : Rd} : (bd w r).k = 0 ↔ r.k = 0 ∧ w = false := by
 unfold bd
 split
 ·rename_i h; simp [h.2]
 ·rename_i h
  by_cases h0 : r.k = 0
  ·simp only [h0, true_and] at h ⊢; simpa using h
  ·simp [h0]
theorem Tm {cs : List (Nat × Nat)} (hM : ∀ c ∈ cs, c.1 ≤ 15) {l v : Nat} (h : Ec cs l v) : l < 15 := Se hM h
theorem HD {cs : List (Nat × Nat)} {b : Nat} : ∀ {f l : Nat}, True →
  let x := nxt cs b f l
  (x.1 = 1 ∧ 0 ≤ x.2.1 ∧ x.2.1 < cs.length ∧ (l : Int) ≤ x.2.2 ∧ x.2.2 + 1 ≤ (l : Int) + f ∧ 1 ≤ x.2.2) ∨ ((x.1 = 0 ∨ x.1 = 2) ∧ x.2.1 = 0 ∧ x.2.2 = 0)
 | 0, l, hy => .inr ⟨.inr rfl, rfl, rfl⟩
 | f + 1, l, hy => by
  simp only [nxt]
  split
  ·rename_i hne
   refine .inl ⟨rfl, ?_⟩
   obtain ⟨s, hs, _, hl, e⟩ := Co hne
   simp only [e]
   refine ⟨by omega, by omega, by omega, by push_cast; omega, by omega⟩
  ·split
   ·rcases HD (cs := cs) (b := b) (f := f) (l := l + 1) hy with ⟨h1, h2, h3, h4, h5, h6⟩ | h
    ·exact .inl ⟨h1, h2, h3, by push_cast at h4; omega, by push_cast at h5 ⊢; omega, h6⟩
    ·exact .inr h
   ·exact .inr ⟨.inl rfl, rfl, rfl⟩
theorem Am {bs : List Int} {cs : List (Nat × Nat)} {i : Nat} :
  ((nxB bs cs i).1 = 1 ∧ 0 ≤ (nxB bs cs i).2.1 ∧ (nxB bs cs i).2.1 < cs.length ∧ 1 ≤ (nxB bs cs i).2.2 ∧ (nxB bs cs i).2.2 ≤ look bs i) ∨ (((nxB bs cs i).1 = 0 ∨ (nxB bs cs i).1 = 2) ∧ (nxB bs cs i).2.1 = 0 ∧ (nxB bs cs i).2.2 = 0) := by
 rcases HD (cs := cs) (b := (yy bs i (look bs i)).toNat) (f := look bs i + 1) (l := 0) trivial with ⟨h1, h2, h3, h4, h5, h6⟩ | h
 ·exact .inl ⟨h1, h2, h3, h6, by unfold nxB; omega⟩
 ·exact .inr h
theorem It {bs : List Int} {cs : List (Nat × Nat)} {r : Rd} (H : okR bs r) : okR bs (sy bs cs r).1 := by
 unfold sy
 by_cases h0 : r.k = 0
 ·rw [if_pos h0]
  have := H h0
  intro hk
  simp only at hk ⊢
  rcases Am (bs := bs) (cs := cs) (i := r.i.toNat) with ⟨h1, h2, h3, h4, h5⟩ | ⟨_, _, h⟩
  ·unfold look at h5; omega
  ·omega
 ·rw [if_neg h0]; exact H
theorem TZ {bs : List Int} {cs : List (Nat × Nat)} {r : Rd} (h : (sy bs cs r).1.k = 0) : r.k = 0 ∧ r.i + 1 ≤ (sy bs cs r).1.i ∧ 0 ≤ (sy bs cs r).2 ∧ (sy bs cs r).2 < cs.length := by
 unfold sy at h ⊢
 by_cases h0 : r.k = 0
 ·rw [if_pos h0] at h ⊢
  simp only at h ⊢
  rcases Am (bs := bs) (cs := cs) (i := r.i.toNat) with ⟨h1, h2, h3, h4, h5⟩ | ⟨h1, _, _⟩
  ·exact ⟨h0, by omega, h2, h3⟩
  ·rcases h1 with h1 | h1 <;> simp [h1] at h
 ·rw [if_neg h0] at h; exact absurd h h0
structure CodesAt (h : Eng.Heap) (a : Option Addr) (l : Nat) (cs : List (Nat × Nat)) : Prop where
 hx : ∃ ps : List (Int × Int), kR h a ps ∧ ps.length = l ∧ cs.length = ps.length ∧ ∀ (j : Nat) p, ps[j]? = some p → ∃ l b : Nat, p = ((l : Int), (b : Int)) ∧ cs[j]? = some (l, b) ∧ l ≤ 15 ∧ b < 2 ^ l
 un : uniq cs
 ll : l ≤ 1000
theorem QK {bs : List Int} {i : Nat} : look bs i ≤ 15 := by unfold look; omega
end Go.Proofs.YteaonnfokkfnlaaGreatDoor
end
section
namespace Go.Proofs.YteaonnfokkfnlaaGreatDoor
open Go Go.Eng Go.IntWalk
variable {S : Shared} {h : Eng.Heap}
theorem IX {cs : List (Nat × Nat)} : ∀ m, Ym cs m 0 0 = 0
 | 0 => rfl
 | m + 1 => by rw [Ym, if_neg (fun h => by omega)]; exact IX m
def rp (bs : List Int) (r : Rd) (all : List Int) (x : Int) : Rd × List Int :=
 if x = 16 then ((tk bs 2 (bd (all.length == 0) r)).1, if (tk bs 2 (bd (all.length == 0) r)).1.k = 0 then all ++ List.replicate ((tk bs 2 (bd (all.length == 0) r)).2 + 3).toNat (all.getD (all.length - 1) 0) else all)
 else if x = 17 then ((tk bs 3 r).1, if (tk bs 3 r).1.k = 0 then all ++ List.replicate ((tk bs 3 r).2 + 3).toNat 0 else all)
 else if x = 18 then ((tk bs 7 r).1, if (tk bs 7 r).1.k = 0 then all ++ List.replicate ((tk bs 7 r).2 + 11).toNat 0 else all)
 else (r, if r.k = 0 then all ++ [x] else all)
theorem Tn {bs : List Int} {r : Rd} {all : List Int} {x : Int} (H : okR bs r) : okR bs (rp bs r all x).1 := by
 unfold rp
 split
 ·exact jF (Ez H)
 ·split
  ·exact jF H
  ·split
   ·exact jF H
   ·exact H
theorem Sf {bs : List Int} {r : Rd} {all : List Int} {x : Int} : all.length ≤ (rp bs r all x).2.length ∧ (rp bs r all x).2.length ≤ all.length + 138 ∧ ((rp bs r all x).1.k = 0 → all.length < (rp bs r all x).2.length) := by
 have h2 := yJ (bs := bs) (n := 2) (r := bd (all.length == 0) r)
 have h3 := yJ (bs := bs) (n := 3) (r := r)
 have h7 := yJ (bs := bs) (n := 7) (r := r)
 have e2 : (2 : Int) ^ 2 = 4 := by decide
 have e3 : (2 : Int) ^ 3 = 8 := by decide
 have e7 : (2 : Int) ^ 7 = 128 := by decide
 unfold rp
 split
 ·split
  ·simp only [List.length_append, List.length_replicate]; exact ⟨by omega, by omega, fun _ => by omega⟩
  ·rename_i hk; exact ⟨Nat.le_refl _, Nat.le_add_right _ _, fun h => absurd h hk⟩
 ·split
  ·split
   ·simp only [List.length_append, List.length_replicate]; exact ⟨by omega, by omega, fun _ => by omega⟩
   ·rename_i hk; exact ⟨Nat.le_refl _, Nat.le_add_right _ _, fun h => absurd h hk⟩
  ·split
   ·split
    ·simp only [List.length_append, List.length_replicate]; exact ⟨by omega, by omega, fun _ => by omega⟩
    ·rename_i hk; exact ⟨Nat.le_refl _, Nat.le_add_right _ _, fun h => absurd h hk⟩
   ·split
    ·simp only [List.length_append, List.length_singleton]; exact ⟨by omega, by omega, fun _ => by omega⟩
    ·rename_i hk; exact ⟨Nat.le_refl _, Nat.le_add_right _ _, fun h => absurd h hk⟩
def lg1 (bs : List Int) (cs : List (Nat × Nat)) (tot : Nat) (r : Rd) (all : List Int) : Rd × List Int :=
 if (sy bs cs r).1.k = 0 then (bd (decide (tot < (rp bs (sy bs cs r).1 all (sy bs cs r).2).2.length)) (rp bs (sy bs cs r).1 all (sy bs cs r).2).1, (rp bs (sy bs cs r).1 all (sy bs cs r).2).2) else ((sy bs cs r).1, all)
def lg (bs : List Int) (cs : List (Nat × Nat)) (tot : Nat) (r : Rd) (all : List Int) : Rd × List Int :=
 if h : r.k = 0 ∧ all.length < tot then
  if h2 : all.length < (lg1 bs cs tot r all).2.length then lg bs cs tot (lg1 bs cs tot r all).1 (lg1 bs cs tot r all).2 else lg1 bs cs tot r all
 else (r, all)
termination_by tot - all.length
theorem ML {bs : List Int} {cs : List (Nat × Nat)} {tot : Nat} {r : Rd} {all : List Int} (H : okR bs r) : okR bs (lg1 bs cs tot r all).1 := by
 unfold lg1
 split
 ·exact Ez (Tn (It H))
 ·exact It H
theorem Cq {bs : List Int} {cs : List (Nat × Nat)} {tot : Nat} {r : Rd} {all : List Int} : all.length ≤ (lg1 bs cs tot r all).2.length ∧ (lg1 bs cs tot r all).2.length ≤ all.length + 138 ∧ ((lg1 bs cs tot r all).1.k = 0 → all.length < (lg1 bs cs tot r all).2.length ∧ (lg1 bs cs tot r all).2.length ≤ tot) := by
 have R := Sf (bs := bs) (r := (sy bs cs r).1) (all := all) (x := (sy bs cs r).2)
 unfold lg1
 split
 ·refine ⟨R.1, R.2.1, fun h => ?_⟩
  obtain ⟨h1, h2⟩ := OL.1 h
  exact ⟨R.2.2 h1, by simpa using h2⟩
 ·rename_i hk; exact ⟨by simp, by simp, fun h => absurd h hk⟩
theorem E3 {bs : List Int} {cs : List (Nat × Nat)} {tot : Nat} {r : Rd} {all : List Int} (h : r.k = 0 ∧ all.length < tot) : lg bs cs tot r all = lg bs cs tot (lg1 bs cs tot r all).1 (lg1 bs cs tot r all).2 := by
 rw [lg, dif_pos h]
 split
 ·rfl
 ·rename_i h2
  have := Cq (bs := bs) (cs := cs) (tot := tot) (r := r) (all := all)
  have hk : (lg1 bs cs tot r all).1.k ≠ 0 := fun e => h2 (this.2.2 e).1
  rw [lg, dif_neg (fun e => hk e.1)]
theorem jQ {bs : List Int} {cs : List (Nat × Nat)} {tot : Nat} {r : Rd} {all : List Int} (h : ¬ (r.k = 0 ∧ all.length < tot)) : lg bs cs tot r all = (r, all) := by rw [lg, dif_neg h]
def ord : List Nat := [16, 17, 18, 0, 8, 7, 9, 6, 10, 5, 11, 4, 12, 3, 13, 2, 14, 1, 15]
def sm (bs : List Int) (r : Rd) : Nat → Rd × List Int
 | 0 => (r, List.replicate 19 0)
 | k + 1 => ((tk bs 3 (sm bs r k).1).1, (sm bs r k).2.set (ord.getD k 0) (tk bs 3 (sm bs r k).1).2)
theorem Lx {bs : List Int} {r : Rd} (H : okR bs r) : ∀ {k : Nat}, okR bs (sm bs r k).1
 | 0 => H
 | k + 1 => jF (Lx H)
theorem IY {bs : List Int} {r : Rd} : ∀ {k : Nat}, (sm bs r k).2.length = 19
 | 0 => by simp [sm]
 | k + 1 => by simp only [sm, List.length_set]; exact IY
def j0 (bs : List Int) (r : Rd) : Rd := bd (decide ((tk bs 5 r).2 + 257 > 286)) (tk bs 5 r).1
def wC (bs : List Int) (r : Rd) : Rd := bd (decide ((tk bs 5 (j0 bs r)).2 + 1 > 30)) (tk bs 5 (j0 bs r)).1
def jG (bs : List Int) (r : Rd) : Rd × List Int := sm bs (tk bs 4 (wC bs r)).1 ((tk bs 4 (wC bs r)).2.toNat + 4)
def Gx (bs : List Int) (r : Rd) : Rd := bd (zp (jG bs r).2 != 1) (jG bs r).1
def Bi (bs : List Int) (r : Rd) : Nat := ((tk bs 5 r).2 + 257).toNat
def E4 (bs : List Int) (r : Rd) : Nat := ((tk bs 5 (j0 bs r)).2 + 1).toNat
def qe (bs : List Int) (r : Rd) : Rd × List Int := lg bs (zr (jG bs r).2) (Bi bs r + E4 bs r) (Gx bs r) []
def Hb (A B : List Int) : Bool := (A.getD 256 0 == 0) || !(zp A == 1 || zp A == 4) || !(zp B == 1 || zp B == 4 || zp B == 5)
def yo (bs : List Int) (r : Rd) : Rd × List Int × List Int :=
 if (qe bs r).1.k = 0 then (bd (Hb ((qe bs r).2.take (Bi bs r)) ((qe bs r).2.drop (Bi bs r))) (qe bs r).1, (qe bs r).2.take (Bi bs r), (qe bs r).2.drop (Bi bs r))
 else ((qe bs r).1, [], [])
theorem Qe {bs : List Int} {cs : List (Nat × Nat)} {tot : Nat} : ∀ {n : Nat} {r : Rd} {all : List Int}, tot - all.length ≤ n → okR bs r → okR bs (lg bs cs tot r all).1
 | 0, r, all, hn, H => by rw [jQ (fun e => by omega)]; exact H
 | n + 1, r, all, hn, H => by
  by_cases h : r.k = 0 ∧ all.length < tot
  ·rw [E3 h]
   by_cases hk : (lg1 bs cs tot r all).1.k = 0
   ·have := (Cq (bs := bs) (cs := cs) (tot := tot) (r := r) (all := all)).2.2 hk
    exact Qe (n := n) (by omega) (ML H)
   ·rw [jQ (fun e => hk e.1)]; exact ML H
  ·rw [jQ h]; exact H
theorem Hc {bs : List Int} {r : Rd} (H : okR bs r) : okR bs (j0 bs r) ∧ okR bs (wC bs r) ∧ okR bs (jG bs r).1 ∧ okR bs (Gx bs r) ∧ okR bs (qe bs r).1 := by
 have h0 : okR bs (j0 bs r) := Ez (jF H)
 have h1 : okR bs (wC bs r) := Ez (jF h0)
 have h2 : okR bs (jG bs r).1 := Lx (jF h1)
 have h3 : okR bs (Gx bs r) := Ez h2
 exact ⟨h0, h1, h2, h3, Qe (Nat.le_refl _) h3⟩
end Go.Proofs.YteaonnfokkfnlaaGreatDoor
end
section
namespace Go.Proofs.YteaonnfokkfnlaaGreatDoor
open Go Go.Eng
abbrev tCl : TypeId := 117
abbrev tPC : TypeId := 120
abbrev tRt : TypeId := 204
abbrev tEr : TypeId := 76
def hdl (t : TypeId) : Value := .pointer (some ⟨6, t, none⟩)
def rty (t : TypeId) : Value := .iface tRt (.agg #[hdl t])
section
variable {S : Shared} {h : Eng.Heap} {B : Nat} {w : World} {K : Next → World → Prop}
theorem QL (t : Addr) : yO Tryz.prog S h B (callFunc yI #[.iface tPC (.pointer (some t))]) [] w K =
  (True ∧ K (.value (.agg #[hdl tPC, .pointer (some ⟨w.heap.size, 0, none⟩), .int .u64 150])) { w with heap := w.heap.push (.cells #[.pointer (some t)] tPC) }) := by kernel_rfl
theorem QM (k : Int) : yO Tryz.prog S h B (callFunc yI #[.iface tCl (.agg #[.int .i64 k])]) [] w K =
  (True ∧ K (.value (.agg #[hdl tCl, .pointer (some ⟨w.heap.size, 0, none⟩), .int .u64 153])) { w with heap := w.heap.push (.cells #[.int .i64 k] tCl) }) := by kernel_rfl
theorem Sg (a : Addr) : yO Tryz.prog S h B (callFunc xF #[.agg #[hdl tPC, .pointer (some a), .int .u64 150]]) [] w K = (True ∧ K (.value (rty tPC)) w) := by kernel_rfl
theorem MM (t : Nat) : ql Tryz.prog (method (Tryz.prog.types.size + Made.depth) tRt (.agg #[hdl t]) "Kind") = some (xA, hdl t) := by kernel_rfl
theorem Si (t : Nat) : ql Tryz.prog (method (Tryz.prog.types.size + Made.depth) tRt (.agg #[hdl t]) "Elem") = some (xI, .agg #[hdl t]) := by kernel_rfl
theorem Sj (t : Nat) : ql Tryz.prog (method (Tryz.prog.types.size + Made.depth) tRt (.agg #[hdl t]) "Implements") = some (xb, .agg #[hdl t]) := by kernel_rfl
theorem Sk (t : Nat) : ql Tryz.prog (method (Tryz.prog.types.size + Made.depth) tRt (.agg #[hdl t]) "AssignableTo") = some (yX, .agg #[hdl t]) := by kernel_rfl
theorem QN : yO Tryz.prog S h B (callFunc xA #[hdl tPC]) [] w K = (True ∧ K (.value (.int .u8 22)) w) := by kernel_rfl
theorem QO : yO Tryz.prog S h B (callFunc xA #[hdl tCl]) [] w K = (True ∧ K (.value (.int .u8 25)) w) := by kernel_rfl
theorem Sl : yO Tryz.prog S h B (callFunc xI #[.agg #[hdl tPC]]) [] w K = (True ∧ K (.value (rty tCl)) w) := by kernel_rfl
theorem Sm : yO Tryz.prog S h B (callFunc xb #[.agg #[hdl tCl], rty tEr]) [] w K = (True ∧ K (.value (.bool true)) w) := by kernel_rfl
theorem OM (v : Value) : yO Tryz.prog S h B (callFunc jC #[.iface tCl v]) [] w K = (True ∧ K (.value (rty tCl)) w) := by kernel_rfl
theorem Sn : yO Tryz.prog S h B (callFunc yX #[.agg #[hdl tCl], rty tCl]) [] w K = (True ∧ K (.value (.bool true)) w) := by kernel_rfl
theorem QP (a p : Addr) : yO Tryz.prog S h B (callFunc x9 #[.agg #[hdl tPC, .pointer (some a), .int .u64 150]]) [.pointer (some p)] w K =
  (True ∧ Mode.plain = .plain ∧ (h a.block ≠ none ∨ B ≤ a.block) ∧ w.cell? a = some (.pointer (some p)) ∧ K (.value (.bool false)) w) := by kernel_rfl
theorem QQ (a p : Addr) : yO Tryz.prog S h B (callFunc xH #[.agg #[hdl tPC, .pointer (some a), .int .u64 150]]) [.pointer (some p)] w K =
  (True ∧ Mode.plain = .plain ∧ (h a.block ≠ none ∨ B ≤ a.block) ∧ w.cell? a = some (.pointer (some p)) ∧ K (.value (.agg #[hdl tCl, .pointer (some p), .int .u64 409])) w) := by kernel_rfl
theorem To (t b : Addr) (k : Int) : yO Tryz.prog S h B (callFunc xO #[.agg #[hdl tCl, .pointer (some t), .int .u64 409], .agg #[hdl tCl, .pointer (some b), .int .u64 153]]) [.int .i64 k] w K =
  (True ∧ Mode.plain = .plain ∧ (h b.block ≠ none ∨ B ≤ b.block) ∧ w.cell? b = some (.int .i64 k) ∧
   Mode.plain = .plain ∧ (h t.block ≠ none ∨ B ≤ t.block) ∧ ¬ S t.block ∧ (∃ u, w.cell? t = some u) ∧ w.frozen? t = false ∧ (Value.int .i64 k).cells = #[.int .i64 k] ∧ (∀ x, Value.int .i64 k ≠ .tuple x) ∧ (∀ x, Value.int .i64 k ≠ .agg x) ∧
   K (.value (.tuple #[])) (w.setCell t (.int .i64 k))) := by kernel_rfl
end
end Go.Proofs.YteaonnfokkfnlaaGreatDoor
end
section
namespace Go.Proofs.YteaonnfokkfnlaaGreatDoor
open Go Go.Eng
section
variable {S : Shared} {h : Eng.Heap}
def CL (h : Eng.Heap) : Prop := zb h ⟨3, 0, none⟩ = some (rty tEr)
theorem CL.sub {h' : Eng.Heap} (H : CL h) (s : Eng.Sub h h') : CL h' := xX s H
theorem JM (hi : Eng.Inv S h) {k old : Int} {t a : Nat} (ht : h t = some (.cells #[.int .i64 old] tCl)) (hs : ¬ S t) (ha : zb h ⟨a, 0, none⟩ = some (.pointer (some ⟨t, 0, none⟩))) :
  zc Tryz.prog S BL #[.iface tCl (.agg #[.int .i64 k]), .iface tPC (.pointer (some ⟨t, 0, none⟩)), .agg #[hdl tPC, .pointer (some ⟨a, 0, none⟩), .int .u64 150], rty tCl] h
   (fun v h' => v = .bool true ∧ h' t = some (.cells #[.int .i64 k] tCl) ∧ ∀ y, y ≠ t → h y ≠ none → h' y = h y) := by
 refine Ih (vs := [.iface tCl (.agg #[.int .i64 k]), .iface tPC (.pointer (some ⟨t, 0, none⟩)), hdl tPC, .pointer (some ⟨a, 0, none⟩), .int .u64 150, rty tCl]) ⟨rfl, rfl, rfl, rfl, rfl, rfl, trivial⟩ hi ?_
 simp only [EW, Tr.wp, zX, Ex.ev, coerce, toInt_int, zf, zB, Cst.val, SV.den, z6, yl, zU, zt, zk, zG, ym, List.flatMap_cons, List.flatMap_nil, List.getD_cons_zero, List.getD_cons_succ, List.map_cons, List.map_nil, List.cons_append, List.nil_append, List.append_nil, Nat.zero_add, true_and, if_true, if_false, Bool.false_eq_true]
 refine ⟨fun us h' => us = [] ∧ h' = h, fun _ _ => 0, ⟨rfl, rfl⟩, ?_⟩
 rintro h' ⟨_, rfl⟩
 refine (CH hi (fun w K => OM _)).mono ?_
 rintro _ h1 ⟨rfl, rfl⟩
 refine ⟨rty tCl, rfl, rfl, _, _, _, _, rfl, Sk tCl, ?_⟩
 refine (CH hi (fun w K => Sn)).mono ?_
 rintro _ h1 ⟨rfl, rfl⟩
 refine ⟨_, rfl, fun _ => ?_, fun hne => by simp at hne⟩
 refine (HA hi ha (fun w K => QQ ⟨a, 0, none⟩ ⟨t, 0, none⟩)).mono ?_
 rintro _ h1 ⟨rfl, rfl⟩
 refine ⟨_, _, _, rfl, ?_⟩
 refine (IT hi (x := fun b => .agg #[hdl tCl, .pointer (some ⟨b, 0, none⟩), .int .u64 153]) (fun w K => QM k)).mono ?_
 rintro _ h2 ⟨b, hb, rfl, rfl⟩
 refine ⟨_, _, _, rfl, ?_⟩
 have hbt : t ≠ b := fun e => by rw [e, hb] at ht; cases ht
 refine (Ox (t := t) (b := b) (k := .i64) (n := k) hi.upd (by simp [zb, upd]) (by rw [upd_ne hbt]; exact ht) hs (fun w K => To ⟨t, 0, none⟩ ⟨b, 0, none⟩ k)).mono ?_
 rintro _ h3 ⟨rfl, rfl⟩
 refine ⟨by simp, upd_same, fun y hy hn => ?_⟩
 have hyb : y ≠ b := fun e => hn (by rw [e]; exact hb)
 rw [upd_ne hy, upd_ne hyb]
theorem JN (hi : Eng.Inv S h) {k old : Int} {t : Nat} (hE : CL h) (ht : h t = some (.cells #[.int .i64 old] tCl)) (hs : ¬ S t) :
  zc Tryz.prog S BK #[.iface tCl (.agg #[.int .i64 k]), .iface tPC (.pointer (some ⟨t, 0, none⟩))] h
   (fun v h' => v = .bool true ∧ h' t = some (.cells #[.int .i64 k] tCl) ∧ ∀ y, y ≠ t → h y ≠ none → h' y = h y) := by
 refine Ig (vs := [.iface tCl (.agg #[.int .i64 k]), .iface tPC (.pointer (some ⟨t, 0, none⟩))]) ⟨rfl, rfl, trivial⟩ hi ?_
 simp only [EV, Tr.wp, zX, Ex.ev, coerce, toInt_int, zf, zg, zB, ya, Cst.val, SV.den, z6, yl, zU, zt, zk, zG, zy, List.flatMap_cons, List.flatMap_nil, List.getD_cons_zero, List.getD_cons_succ, List.getElem?_cons_zero, List.getElem?_cons_succ, List.map_cons, List.map_nil, List.cons_append, List.nil_append, List.append_nil, Nat.zero_add, and_true, if_false, Bool.false_eq_true]
 refine ⟨fun hne => by simp [j4, yV] at hne, fun _ => ⟨fun hne => by simp [j4, yV] at hne, fun _ => ?_⟩⟩
 refine (IT hi (x := fun b => .agg #[hdl tPC, .pointer (some ⟨b, 0, none⟩), .int .u64 150]) (fun w K => QL ⟨t, 0, none⟩)).mono ?_
 rintro _ h2 ⟨a, ha, rfl, rfl⟩
 have hat : t ≠ a := fun e => by rw [e, ha] at ht; cases ht
 have i2 : Eng.Inv S (upd h a (.cells #[.pointer (some ⟨t, 0, none⟩)] tPC)) := hi.upd
 have ca : zb (upd h a (.cells #[.pointer (some ⟨t, 0, none⟩)] tPC)) ⟨a, 0, none⟩ = some (.pointer (some ⟨t, 0, none⟩)) := by simp [zb, upd]
 have sa : Eng.Sub h (upd h a (.cells #[.pointer (some ⟨t, 0, none⟩)] tPC)) := Sub.zL ha
 refine ⟨_, _, _, rfl, ?_⟩
 refine (CH i2 (fun w K => Sg ⟨a, 0, none⟩)).mono ?_
 rintro _ h3 ⟨rfl, rfl⟩
 refine ⟨rty tPC, rfl, rfl, _, _, _, _, rfl, MM tPC, ?_⟩
 refine (CH i2 (fun w K => QN)).mono ?_
 rintro _ h3 ⟨rfl, rfl⟩
 refine ⟨_, rfl, fun _ => ?_, fun hne => by simp at hne⟩
 refine (HA i2 ca (fun w K => QP ⟨a, 0, none⟩ ⟨t, 0, none⟩)).mono ?_
 rintro _ h3 ⟨rfl, rfl⟩
 refine ⟨_, rfl, fun _ => ⟨fun hne => by simp at hne, fun _ => ?_⟩⟩
 refine ⟨_, _, _, _, rfl, Si tPC, ?_⟩
 refine (CH i2 (fun w K => Sl)).mono ?_
 rintro _ h3 ⟨rfl, rfl⟩
 refine ⟨rty tCl, rfl, rfl, _, _, _, _, rfl, MM tCl, ?_⟩
 refine (CH i2 (fun w K => QO)).mono ?_
 rintro _ h3 ⟨rfl, rfl⟩
 refine ⟨_, rfl, fun _ => ?_, fun hne => by simp at hne⟩
 refine ⟨rty tEr, rfl, hE.sub sa, _, _, _, _, rfl, Sj tCl, ?_⟩
 refine (CH i2 (fun w K => Sm)).mono ?_
 rintro _ h3 ⟨rfl, rfl⟩
 refine ⟨_, rfl, fun _ => ⟨fun hne => by simp at hne, fun _ => ?_⟩⟩
 refine (JM i2 (k := k) (by rw [upd_ne hat]; exact ht) hs ca).mono ?_
 rintro _ h4 ⟨rfl, e1, e2⟩
 refine ⟨_, rfl, rfl, e1, fun y hy hn => ?_⟩
 have hya : y ≠ a := fun e => hn (by rw [e]; exact ha)
 rw [e2 y hy (by rw [upd_ne hya]; exact hn), upd_ne hya]
theorem MN (hi : Eng.Inv S h) {k : Int} (hE : CL h) :
  zc Tryz.prog S wS #[.iface tCl (.agg #[.int .i64 k])] h (fun v h' => v = .int .i64 k ∧ Eng.Sub h h') := by
 refine Fu (vs := [.iface tCl (.agg #[.int .i64 k])]) ⟨rfl, trivial⟩ hi ?_
 simp only [Ch, Tr.wp, zX, Ex.ev, coerce, toInt_int, zf, zg, Cst.val, SV.den, z6, yl, zU, zt, zk, yw, zG, zy, List.flatMap_cons, List.flatMap_nil, List.replicate_one, List.getD_cons_zero, List.getD_cons_succ, List.map_cons, List.map_nil, List.cons_append, List.nil_append, List.append_nil, and_true, if_false, Bool.false_eq_true]
 intro b hb
 have hsb := Lh hi hb
 have sb : ∀ o, Eng.Sub h (upd h b o) := fun o => Sub.zL hb
 refine sto1' (u := .int .i64 0) (T := tCl) upd_same hsb ?_
 rw [yR]
 refine (JN hi.upd (hE.sub (sb _)) upd_same hsb).mono ?_
 rintro _ h4 ⟨rfl, e1, e2⟩
 refine ⟨_, rfl, k, by rw [zj, zj]; simp [zb, e1], rfl, fun y o hy => ?_⟩
 have hyb : y ≠ b := fun e => by rw [e, hb] at hy; cases hy
 rw [e2 y hyb (by rw [upd_ne hyb, hy]; simp), upd_ne hyb]; exact hy
end
end Go.Proofs.YteaonnfokkfnlaaGreatDoor
end
section
namespace Go.Proofs.YteaonnfokkfnlaaGreatDoor
open Go Go.Eng Go.IntWalk
variable {S : Shared} {h : Eng.Heap}
def kq (T : List (Nat × Nat)) : List (Int × Int) := T.map fun e => ((e.1 : Int), (e.2 : Int))
theorem HE {T : List (Nat × Nat)} : (kq T).length = T.length := by simp [kq]
theorem DO {T : List (Nat × Nat)} {k s q : Nat} (h : T[k]? = some (s, q)) : (kq T)[k]? = some ((s : Int), (q : Int)) := by simp [kq, h]
theorem HF {T : List (Nat × Nat)} {k s q : Nat} : (kq T).set k ((s : Int), (q : Int)) = kq (T.set k (s, q)) := by simp [kq, List.map_set]
theorem MP {T : List (Nat × Nat)} : kq T ++ [(0, 0), (0, 0)] = kq (T ++ [(0, 0), (0, 0)]) := by simp [kq]
structure TabV (h0 h : Eng.Heap) (bt : Nat) (T P : List (Nat × Nat)) (a : Option Addr) (c : Nat) (E : Nat → Nat → Prop) (Y : Nat → Nat → Nat) : Prop where
 hb : ∃ TT, h bt = some (.cells #[.slice a T.length c] TT)
 ow : kT h (.slice a T.length c) (kq T)
 nw : Eng.New h0 (.slice a T.length c)
 nb : h0 bt = none
 ne : zi (.slice a T.length c) ≠ some bt
 ti : TI E Y T P
 sb : Eng.Sub h0 h
variable {h0 : Eng.Heap} {bt : Nat} {T P : List (Nat × Nat)} {a : Option Addr} {c : Nat} {E : Nat → Nat → Prop} {Y : Nat → Nat → Nat}
theorem TabV.ld (H : TabV h0 h bt T P a c E Y) : zb h ⟨bt, 0, none⟩ = some (.slice a T.length c) := by
 obtain ⟨TT, hb⟩ := H.hb
 simp [zb, hb]
theorem TabV.cell (H : TabV h0 h bt T P a c E Y) {k s q : Nat} (hk : T[k]? = some (s, q)) : zb h ((a.getD default).add (k * 2)) = some (.int .i64 s) ∧ zb h ((a.getD default).add (k * 2 + 1)) = some (.int .i64 q) ∧ a.isSome = true := by
 obtain ⟨a', c', e, _, hx⟩ := H.ow.xC
 simp only [Value.slice.injEq] at e
 rw [e.1]
 exact hx.cell (DO hk)
def wD (cs : List (Nat × Nat)) (m B i : Nat) : Nat → Nat → Prop := fun l v => Em cs m l v ∨ (l < i ∧ v = B % 2 ^ l)
theorem ON {cs : List (Nat × Nat)} {m B i : Nat} : ∀ l v, v < 2 ^ (l + 1) → wD cs m B i (l + 1) v → wD cs m B i l (v % 2 ^ l) := by
 rintro l v _ (h | ⟨h1, rfl⟩)
 ·exact .inl (Tj h)
 ·exact .inr ⟨by omega, GZ (by omega)⟩
theorem OO {cs : List (Nat × Nat)} {m B i : Nat} : ∀ l v, v < 2 ^ (l + 1) → Ym cs m (l + 1) v ≠ 0 → wD cs m B i l (v % 2 ^ l) := fun l v _ h => .inl (Tk h)
theorem IZ {B i : Nat} : B % 2 ^ (i + 1) = B % 2 ^ i + 2 ^ i * (B / 2 ^ i % 2) := by rw [Nat.pow_succ, Nat.mod_mul]
theorem An (hi : Eng.Inv S h) (a0 : Option Addr) (c0 : Nat) (xs : List Int) (O : tI.O h (.slice a0 xs.length c0) xs) (L : OD xs) (hg : ¬ (zp xs = 0 ∨ zp xs = 2)) :
  zc Tryz.prog S xx #[.slice a0 xs.length c0] h (fun v h' => ∃ bt T P a c, v = .pointer (some ⟨bt, 0, none⟩) ∧ TabV h h' bt T P a c (Em (zr xs) xs.length) (Ym (zr xs) xs.length) ∧ T.length ≤ 20000) := by
 obtain ⟨hlen, hok⟩ := jA hg
 refine Ft (vs := [.slice a0 xs.length c0]) ⟨rfl, trivial⟩ hi ?_
 simp only [Cg, Tr.wp, Ff, zX, Ex.ev, coerce, toInt_int, zf, zn, zu, zo, zg, yF, ya, arith, Cst.val, SV.den, z6, yl, zU, zt, zk, yw, zG, ym, zy, List.flatMap_cons, List.flatMap_nil, List.replicate_one, List.getD_cons_zero, List.getD_cons_succ, List.getElem?_cons_zero, List.getElem?_cons_succ, decide_eq_true_eq, decide_eq_false_iff_not, List.map_cons, List.map_nil, List.cons_append, List.nil_append, List.append_nil, Nat.zero_add, and_true, if_false, Bool.false_eq_true]
 have w1 : IntKind.i64.wrap 1 = 1 := i64_in _ (by omega)
 have e0 : yd ((1 : Int).toNat * 2) #[Value.int IntKind.i64 0, Value.int IntKind.i64 0] = yK [(0, 0)] := H9 1
 have e1 : (1 : Int).toNat = 1 := rfl
 rw [w1, e0, e1]
 refine ⟨by omega, by omega, by omega, fun b0 hb0 bt hbt => ?_⟩
 obtain ⟨h1, hh1⟩ : ∃ h1, h1 = upd h b0 (.cells (yK [(0, 0)]) 238) := ⟨_, rfl⟩
 rw [← hh1] at hbt ⊢
 have s1 : Eng.Sub h h1 := by rw [hh1]; exact Sub.zL hb0
 have hbt0 := yg s1 hbt
 have hne0 : b0 ≠ bt := fun e => by rw [hh1, ← e, upd_same] at hbt; cases hbt
 obtain ⟨h2, hh2⟩ : ∃ h2, h2 = upd h1 bt (.cells #[.slice (some ⟨b0, 0, none⟩) 1 1] 236) := ⟨_, rfl⟩
 rw [← hh2]
 have s2 : Eng.Sub h h2 := by rw [hh2]; exact s1.trans (Sub.zL hbt)
 have hb2t : h2 bt = some (.cells #[.slice (some ⟨b0, 0, none⟩) 1 1] 236) := by rw [hh2, upd_same]
 have hb20 : h2 b0 = some (.cells (yK [(0, 0)]) 238) := by rw [hh2, upd_ne hne0, hh1, upd_same]
 obtain ⟨cs, hcs⟩ : ∃ cs, cs = zr xs := ⟨_, rfl⟩
 have hcl : cs.length = xs.length := by rw [hcs, xh]
 rw [← hcs]
 refine (Bh (hi.sub s2) (Ty.Oo O s2) L).mono ?_
 rintro cv h3 ⟨OC, NC, s3⟩
 simp only [xM, if_neg hg] at OC
 obtain ⟨ac, cc, rfl⟩ := OE (Gv.OR OC)
 rw [wX] at OC NC ⊢
 have OC : jq h3 (.slice ac xs.length cc) (yz xs) := OC
 have NC : ∀ y, zi (.slice ac xs.length cc) = some y → h2 y = none := NC
 have hcbt : zi (.slice ac xs.length cc) ≠ some bt := fun e => by have := NC bt e; rw [hb2t] at this; cases this
 refine ⟨_, _, _, rfl, ?_⟩
 refine ⟨fun us h' => ∃ (m : Nat) (T P : List (Nat × Nat)) (a : Option Addr) (c : Nat), us = [.int .i64 m] ∧ m ≤ xs.length ∧ TabV h h' bt T P a c (Em cs m) (Ym cs m) ∧ T.length ≤ 1 + 30 * m ∧ jq h' (.slice ac xs.length cc) (yz xs) ∧ (∀ y, zi (.slice ac xs.length cc) = some y → zi (.slice a T.length c) ≠ some y),
  fun us _ => xs.length - (toInt (us.getD 0 undef)).toNat, ⟨0, [(0, 0)], [(0, 0)], some ⟨b0, 0, none⟩, 1, rfl, by omega, ?_, by simp, OC, ?_⟩, ?_⟩
 ·refine ⟨⟨_, s3 bt _ hb2t⟩, ⟨b0, [], _, rfl, s3 b0 _ hb20⟩, New.of hb0, hbt0, fun e => hne0 (by cases e; rfl), ?_, s2.trans s3⟩
  exact TI.start.congr (fun l v _ => ⟨fun h => h.elim, fun ⟨s, _, h, _⟩ => by omega⟩) (fun _ _ _ => rfl)
 ·intro y hy e
  cases e
  have := NC b0 hy
  rw [hb20] at this; cases this
 rintro x h' ⟨m, T, P, a, c, hx1, hm, TV, hTl, OC1, dis⟩
 obtain rfl : x = m := by simpa using hx1
 refine ⟨fun hlt => ?_, fun hge => ?_⟩
 ·have hm3 : m < xs.length := by omega
  have hp := kC (xs := xs) hm3
  obtain ⟨Lm, B, hpe, hcm, hL15, hBl⟩ := jP hok hp
  rw [← hcs] at hcm
  rw [hpe] at hp
  obtain ⟨a9, c9, e9, _, hx9⟩ := OC1.xC
  simp only [Value.slice.injEq] at e9
  obtain ⟨rfl, _, rfl⟩ := e9
  obtain ⟨g1, g2, g3⟩ := hx9.cell hp
  have w2 : IntKind.i64.wrap ((m : Int) + 1) = ((m + 1 : Nat) : Int) := by rw [i64_in _ (by omega)]; omega
  refine ⟨by simpa using g3, by omega, hlt, (Lm : Int), (B : Int), ⟨by simpa [add_add] using g1, by simpa [add_add] using g2⟩, fun hz => ?_, fun hnz => ?_⟩
  ·have hz : Lm = 0 := by have : (Lm : Int) = 0 := beq_iff_eq.1 hz; omega
   subst hz
   rw [w2]
   refine ⟨⟨m + 1, T, P, a, c, rfl, by omega, ⟨TV.hb, TV.ow, TV.nw, TV.nb, TV.ne, ?_, TV.sb⟩, by omega, OC1, dis⟩, by simp only [List.getD_cons_zero, toInt_int]; omega⟩
   refine TV.ti.congr (fun l v _ => ?_) (fun l v _ => ?_)
   ·rw [Kn hcm]; exact ⟨.inl, fun h => h.elim id fun h => by omega⟩
   ·rw [Ym, if_neg (fun h => ?_)]
    rw [hcm] at h
    simp only [Option.some.injEq, Prod.mk.injEq] at h
    omega
  have hLm : 0 < Lm := by
   rcases Nat.eq_zero_or_pos Lm with h | h
   ·subst h; simp at hnz
   ·exact h
  refine ⟨fun us h' => ∃ (at_ i : Nat) (T P : List (Nat × Nat)) (a : Option Addr) (c : Nat), us = [.int .i64 at_, .int .i64 i] ∧ i ≤ Lm ∧ P[at_]? = some (i, B % 2 ^ i) ∧ TabV h h' bt T P a c (wD cs m B i) (Ym cs m) ∧ T.length ≤ 1 + 30 * m + 2 * i ∧ jq h' (.slice ac xs.length cc) (yz xs) ∧ (∀ y, zi (.slice ac xs.length cc) = some y → zi (.slice a T.length c) ≠ some y),
   fun us _ => Lm - (toInt (us.getD 1 undef)).toNat, ⟨0, 0, T, P, a, c, rfl, by omega, by rw [TV.ti.root]; simp [Nat.mod_one], ⟨TV.hb, TV.ow, TV.nw, TV.nb, TV.ne, TV.ti.congr (fun l v _ => ⟨.inl, fun h => h.elim id fun h => by omega⟩) (fun _ _ _ => rfl), TV.sb⟩, by omega, OC1, dis⟩, ?_⟩
  clear TV hTl OC1 dis hx9 g1 g2 g3
  rintro x y h' ⟨at_, i, T, P, a, c, hx2, hi2, hP, TV, hTl, OC1, dis⟩
  obtain ⟨rfl, rfl⟩ : x = at_ ∧ y = i := by simpa using hx2
  obtain ⟨s, q, hT⟩ := TV.ti.get hP
  have hkT := (List.getElem?_eq_some_iff.1 hT).1
  obtain ⟨g1, g2, g3⟩ := TV.cell hT
  refine ⟨fun hlt => ?_, fun hge => ?_⟩
  ·refine ⟨_, _, _, by simpa [zj] using TV.ld, by simpa using g3, by omega, by omega, (q : Int), by simpa [add_add] using g2, ?_⟩
   have wi : IntKind.i64.wrap ((i : Int) + 1) = ((i + 1 : Nat) : Int) := by rw [i64_in _ (by omega)]; omega
   have hbit : IntKind.i64.wrap (Go.bits .and .u64 ((B : Int).fdiv (2 ^ min (i : Int).toNat IntKind.u64.bits)) 1) = ((B / 2 ^ i % 2 : Nat) : Int) := by
    have m1 : min (i : Int).toNat IntKind.u64.bits = i := by
     have : IntKind.u64.bits = 64 := rfl
     rw [this]; omega
    have hp : (0 : Int) < 2 ^ i := Int.pow_pos (by decide)
    have e : (B : Int).fdiv (2 ^ i) % 2 = ((B / 2 ^ i % 2 : Nat) : Int) := by
     rw [Int.fdiv_eq_ediv_of_nonneg _ (Int.le_of_lt hp)]; push_cast; rfl
    rw [m1, Fs, e]; exact i64_in _ (by omega)
   rw [wi, hbit]
   have adv : ∀ {h' : Eng.Heap} {T P : List (Nat × Nat)} {a : Option Addr} {c s q : Nat}, T[at_]? = some (s, q) → P[at_]? = some (i, B % 2 ^ i) → TabV h h' bt T P a c (wD cs m B (i + 1)) (Ym cs m) → T.length ≤ 1 + 30 * m + 2 * (i + 1) → jq h' (.slice ac xs.length cc) (yz xs) → (∀ y, zi (.slice ac xs.length cc) = some y → zi (.slice a T.length c) ≠ some y) →
     ∃ (at' i' : Nat) (T P : List (Nat × Nat)) (a : Option Addr) (c : Nat), ([Value.int .i64 (IntKind.i64.wrap ((q : Int) + ((B / 2 ^ i % 2 : Nat) : Int))), Value.int .i64 ((i + 1 : Nat) : Int)] : List Value) = [.int .i64 at', .int .i64 i'] ∧ i' ≤ Lm ∧ P[at']? = some (i', B % 2 ^ i') ∧ TabV h h' bt T P a c (wD cs m B i') (Ym cs m) ∧ T.length ≤ 1 + 30 * m + 2 * i' ∧ jq h' (.slice ac xs.length cc) (yz xs) ∧ (∀ y, zi (.slice ac xs.length cc) = some y → zi (.slice a T.length c) ≠ some y) := by
    intro h' T P a c s q hT hP TV hl OC dis
    have hq : q ≠ 0 := (TV.ti.ext hT hP).2 (.inr ⟨by omega, rfl⟩)
    obtain ⟨k0, k1⟩ := TV.ti.kid hT hP hq
    have hk0 := (List.getElem?_eq_some_iff.1 k0).1
    rw [TV.ti.len] at hk0
    have hbb : B / 2 ^ i % 2 = 0 ∨ B / 2 ^ i % 2 = 1 := by omega
    refine ⟨q + B / 2 ^ i % 2, i + 1, T, P, a, c, by rw [i64_in _ (by omega)]; rfl, by omega, ?_, TV, hl, OC, dis⟩
    rw [IZ]
    rcases hbb with h | h <;> rw [h]
    ·simpa using k0
    ·simpa using k1
   have hnb : ∀ b, zi (.slice a T.length c) = some b → ¬ S b := fun b hb hs => hi b hs (TV.nw b hb)
   refine ⟨fun hq0 => ?_, fun hqn _ => ?_⟩
   ·have hq0 : q = 0 := by have : (q : Int) = 0 := beq_iff_eq.1 hq0; omega
    subst hq0
    have hT' : (kq T)[at_]? = some ((s : Int), (((0 : Nat) : Int))) := DO hT
    obtain ⟨ok4, ow4, fr4⟩ := TV.ow.Ow hnb hT' (T.length : Int)
    rw [HF] at ow4
    refine ⟨_, _, _, by simpa [zj] using TV.ld, _, _, _, by simpa [zj] using TV.ld, by simpa using g3, by omega, by omega, ?_⟩
    simp only [zY, Int.toNat_natCast]
    refine ⟨ok4, ?_⟩
    obtain ⟨h4, hh4⟩ : ∃ h4, h4 = zw h' ((((a.getD default).add (at_ * 2)).add 1).add 0) (.int .i64 T.length) := ⟨_, rfl⟩
    obtain ⟨TT, hbt'⟩ := TV.hb
    have f4 : ∀ w, zi (.slice a T.length c) ≠ some w → h4 w = h' w := fun w hw => by rw [hh4]; exact fr4 w hw
    rw [← hh4] at ow4 ⊢
    have hb4 : h4 bt = some (.cells #[.slice a T.length c] TT) := by rw [f4 bt TV.ne]; exact hbt'
    have sb4 : Eng.Sub h h4 := fun y o hy => by rw [f4 y (fun e => by rw [TV.nw y e] at hy; cases hy)]; exact TV.sb y o hy
    have OC4 : jq h4 (.slice ac xs.length cc) (yz xs) := OC1.keep fun y hy => f4 y (dis y hy)
    refine ⟨a, T.length, c, by simp [zj, zb, hb4], fun b hb => ?_⟩
    have eb : (Obj.cells #[Value.int IntKind.i64 0, Value.int IntKind.i64 0, Value.int IntKind.i64 0, Value.int IntKind.i64 0] 238) = .cells (yK [(0, 0), (0, 0)]) 238 := rfl
    rw [eb]
    have s5 : Eng.Sub h4 (upd h4 b (.cells (yK [(0, 0), (0, 0)]) 238)) := Sub.zL hb
    have hnT : (kq (T.set at_ (s, T.length))).length = T.length := by rw [HE, List.length_set]
    have ow5 : kT (upd h4 b (.cells (yK [(0, 0), (0, 0)]) 238)) (.slice a T.length c) (kq (T.set at_ (s, T.length))) := ow4.keep fun z hz => upd_ne fun e => ow4.held z hz (e ▸ hb)
    refine MB hi (sb4.trans s5) ow5 TV.nw (qs := [(0, 0), (0, 0)]) (kS.of (sp := []) upd_same) (by rw [hnT]; simp only [List.length_cons, List.length_nil]; omega) fun v' h6 o6 n6 s6 keep hblk => ?_
    rw [MP] at o6
    obtain ⟨a6, c6, rfl, _, _⟩ := o6.xC
    rw [HE] at o6 n6 hblk ⊢
    have hb5 : (upd h4 b (.cells (yK [(0, 0), (0, 0)]) 238)) bt = some (.cells #[.slice a T.length c] TT) := s5 bt _ hb4
    have hb6 : h6 bt = some (.cells #[.slice a T.length c] TT) := by rw [keep bt (by rw [hb5]; simp) TV.ne]; exact hb5
    have hsbt : ¬ S bt := fun hs => hi bt hs TV.nb
    have ezz : ((⟨bt, 0, none⟩ : Addr).add 0).add 0 = ⟨bt, 0, none⟩ := by rw [zj, zj]
    have ne6 : zi (.slice a6 (T.set at_ (s, T.length) ++ [(0, 0), (0, 0)]).length c6) ≠ some bt := by
     rcases hblk with e | e
     ·rw [e]; exact TV.ne
     ·intro e2
      have := e bt e2
      rw [hb5] at this; cases this
    have dis6 : ∀ y, zi (.slice ac xs.length cc) = some y → zi (.slice a6 (T.set at_ (s, T.length) ++ [(0, 0), (0, 0)]).length c6) ≠ some y := fun y hy => by
     rcases hblk with e | e
     ·rw [e]; exact dis y hy
     ·intro e2
      have h7 := e y e2
      exact OC4.held y hy (yg s5 h7)
    have OC6 : jq h6 (.slice ac xs.length cc) (yz xs) := OC4.keep fun y hy => by
     have hh := OC4.held y hy
     have e5 : (upd h4 b (.cells (yK [(0, 0), (0, 0)]) 238)) y = h4 y := upd_ne fun e => hh (e ▸ hb)
     rw [keep y (by rw [e5]; exact hh) (dis y hy), e5]
    have eset : zw h6 (((⟨bt, 0, none⟩ : Addr).add 0).add 0) (.slice a6 (T.set at_ (s, T.length) ++ [(0, 0), (0, 0)]).length c6) = upd h6 bt (.cells #[.slice a6 (T.set at_ (s, T.length) ++ [(0, 0), (0, 0)]).length c6] TT) := by
     rw [ezz, hset_cells' hb6]; rfl
    refine ⟨by rw [ezz]; exact ⟨⟨.slice a T.length c, by simp [zb, hb6]⟩, by simp [yx, hb6], hsbt⟩, ?_⟩
    simp only [zo, zn, zu]
    rw [eset]
    intro _
    have TV6 : TabV h (upd h6 bt (.cells #[.slice a6 (T.set at_ (s, T.length) ++ [(0, 0), (0, 0)]).length c6] TT)) bt (T.set at_ (s, T.length) ++ [(0, 0), (0, 0)]) (P ++ [(i + 1, B % 2 ^ i), (i + 1, B % 2 ^ i + 2 ^ i)]) a6 c6 (wD cs m B (i + 1)) (Ym cs m) := by
     refine ⟨⟨TT, upd_same⟩, o6.keep fun z hz => upd_ne fun e => ne6 (e ▸ hz), n6, TV.nb, ne6, ?_, fun y o hy => ?_⟩
     ·refine (TV.ti.grow hT hP ON OO).congr (fun l v _ => ?_) (fun _ _ _ => rfl)
      unfold wD
      constructor
      ·rintro ((h | h) | ⟨rfl, rfl⟩)
       ·exact .inl h
       ·exact .inr ⟨by omega, h.2⟩
       ·exact .inr ⟨by omega, rfl⟩
      ·rintro (h | ⟨h1, h2⟩)
       ·exact .inl (.inl h)
       ·rcases (show l < i ∨ l = i by omega) with h | h
        ·exact .inl (.inr ⟨h, h2⟩)
        ·subst h; exact .inr ⟨rfl, h2⟩
     ·rw [upd_ne (fun e => by rw [e, TV.nb] at hy; cases hy)]; exact s6 y o hy
    have hT6 : (T.set at_ (s, T.length) ++ [(0, 0), (0, 0)])[at_]? = some (s, T.length) := by
     rw [List.getElem?_append_left (by rw [List.length_set]; exact hkT), List.getElem?_set_self hkT]
    have hP6 : (P ++ [(i + 1, B % 2 ^ i), (i + 1, B % 2 ^ i + 2 ^ i)])[at_]? = some (i, B % 2 ^ i) := by
     rw [List.getElem?_append_left (List.getElem?_eq_some_iff.1 hP).1]; exact hP
    obtain ⟨_, g5, g6⟩ := TV6.cell hT6
    refine ⟨_, _, _, by simpa [zj] using TV6.ld, by simpa using g6, by omega, by simp; omega, (T.length : Int), by simpa [add_add] using g5, by omega, ?_, by simp only [List.getD_cons_succ, List.getD_cons_zero, toInt_int]; omega⟩
    exact adv hT6 hP6 TV6 (by simp; omega) (OC6.keep fun z hz => upd_ne fun e => hcbt (e ▸ hz)) dis6
   ·have hqn : q ≠ 0 := fun e => by subst e; simp at hqn
    have TV6 : TabV h h' bt T P a c (wD cs m B (i + 1)) (Ym cs m) := ⟨TV.hb, TV.ow, TV.nw, TV.nb, TV.ne, TV.ti.congr (fun l v hv => by
     have hE := (TV.ti.ext hT hP).1 hqn
     unfold wD at hE ⊢
     constructor
     ·rintro (h | ⟨h1, h2⟩)
      ·exact .inl h
      ·exact .inr ⟨by omega, h2⟩
     ·rintro (h | ⟨h1, h2⟩)
      ·exact .inl h
      ·rcases (show l < i ∨ l = i by omega) with h | h
       ·exact .inr ⟨h, h2⟩
       ·subst h; subst h2; exact hE) (fun _ _ _ => rfl), TV.sb⟩
    refine ⟨_, _, _, by simpa [zj] using TV.ld, by simpa using g3, by omega, by omega, (q : Int), by simpa [add_add] using g2, by omega, ?_, by simp only [List.getD_cons_succ, List.getD_cons_zero, toInt_int]; omega⟩
    exact adv hT hP TV6 (by omega) OC1 dis
  ·refine ⟨_, _, _, by simpa [zj] using TV.ld, by simpa using g3, by omega, by omega, ?_⟩
   obtain rfl : i = Lm := by omega
   have hnb : ∀ b, zi (.slice a T.length c) = some b → ¬ S b := fun b hb hs => hi b hs (TV.nw b hb)
   have hT' : (kq T)[at_]? = some ((s : Int), ((q : Int))) := DO hT
   obtain ⟨ok4, ow4, fr4⟩ := TV.ow.Ov hnb hT' ((m + 1 : Nat) : Int)
   rw [HF] at ow4
   simp only [zY, Int.toNat_natCast, w2]
   refine ⟨ok4, ?_⟩
   obtain ⟨h4, hh4⟩ : ∃ h4, h4 = zw h' ((((a.getD default).add (at_ * 2)).add 0).add 0) (.int .i64 ((m + 1 : Nat) : Int)) := ⟨_, rfl⟩
   obtain ⟨TT, hbt'⟩ := TV.hb
   have f4 : ∀ w, zi (.slice a T.length c) ≠ some w → h4 w = h' w := fun w hw => by rw [hh4]; exact fr4 w hw
   rw [← hh4] at ow4 ⊢
   rw [Cf hBl] at hP
   have hlT : (T.set at_ (m + 1, q)).length = T.length := List.length_set ..
   have TV4 : TabV h h4 bt (T.set at_ (m + 1, q)) P a c (Em cs (m + 1)) (Ym cs (m + 1)) := by
    refine ⟨⟨TT, by rw [f4 bt TV.ne, hlT]; exact hbt'⟩, by rw [hlT]; exact ow4, by rw [hlT]; exact TV.nw, TV.nb, by rw [hlT]; exact TV.ne, ?_, fun y o hy => by rw [f4 y (fun e => by rw [TV.nw y e] at hy; cases hy)]; exact TV.sb y o hy⟩
    refine (TV.ti.put hT hP (m + 1)).congr (fun l v _ => ?_) (fun l v _ => ?_)
    ·rw [Kn hcm]; unfold wD
     constructor
     ·rintro (h | ⟨h1, h2⟩)
      ·exact .inl h
      ·exact .inr ⟨h1, h2.symm⟩
     ·rintro (h | ⟨h1, h2⟩)
      ·exact .inl h
      ·exact .inr ⟨h1, h2.symm⟩
    ·rw [Ym, hcm]
     by_cases h : l = i ∧ v = B
     ·obtain ⟨rfl, rfl⟩ := h
      rw [if_pos ⟨rfl, rfl⟩, if_pos ⟨rfl, hLm⟩]
     ·rw [if_neg h, if_neg]
      intro h2
      simp only [Option.some.injEq, Prod.mk.injEq] at h2
      exact h ⟨h2.1.1.symm, h2.1.2.symm⟩
   exact ⟨⟨m + 1, _, P, a, c, rfl, by omega, TV4, by rw [hlT]; omega, OC1.keep fun y hy => f4 y (dis y hy), by rw [hlT]; exact dis⟩, by simp only [List.getD_cons_zero, toInt_int]; omega⟩
 ·obtain rfl : m = xs.length := by omega
  exact ⟨bt, T, P, a, c, rfl, TV, by omega⟩
end Go.Proofs.YteaonnfokkfnlaaGreatDoor
end
section
namespace Go.Proofs.YteaonnfokkfnlaaGreatDoor
open Go Go.Eng Go.IntWalk
variable {S : Shared} {h : Eng.Heap}
theorem So : ∀ k, k < 19 → ord.getD k 0 < 19 := by decide
theorem QR {k : Nat} (h : k < 19) : (ord.map Int.ofNat)[k]? = some ((ord.getD k 0 : Nat) : Int) := by
 have hl : ord.length = 19 := rfl
 rw [List.getElem?_map, List.getElem?_eq_getElem (by omega)]
 simp [List.getD, List.getElem?_eq_getElem (show k < ord.length by omega)]
def DQ (nl : Nat) (r : Rd) (all : List Int) : Rd × List Int × List Int := if r.k = 0 then (bd (Hb (all.take nl) (all.drop nl)) r, all.take nl, all.drop nl) else (r, [], [])
end Go.Proofs.YteaonnfokkfnlaaGreatDoor
end
section
namespace Go.Proofs.YteaonnfokkfnlaaGreatDoor
open Go Go.Eng Go.IntWalk
section
variable {S : Shared} {h h0 : Eng.Heap}
structure MC where
 w : Value
 out : Value
 rm : Int
 last : Bool
 l : Value
 d : Value
def z5 (a : Option Addr) (c : Nat) (bs : List Int) (p : Int) (m : MC) (T : TypeId) : Obj :=
 .cells #[.slice a bs.length c, .int .i64 p, m.w, m.out, .int .i64 m.rm, .bool m.last, m.l, m.d] T
structure MAt (h0 h : Eng.Heap) (bm : Nat) (a : Option Addr) (c : Nat) (bs : List Int) (p : Int) (m : MC) (T : TypeId) : Prop where
 hb : h bm = some (z5 a c bs p m T)
 nb : h0 bm = none
 sb : Eng.Sub h0 h
structure Errs (h : Eng.Heap) : Prop where
 e2 : zb h ⟨4, 0, none⟩ = some (.int .i64 2)
 e3 : zb h ⟨0, 0, none⟩ = some (.int .i64 3)
theorem Errs.sub {h' : Eng.Heap} (H : Errs h) (s : Eng.Sub h h') : Errs h' := ⟨xX s H.e2, xX s H.e3⟩
def zP (k : Int) : Value := if k = 0 then .nilIface else .iface tCl (.agg #[.int .i64 k])
theorem zx {k : Int} : yV (zP k) = decide (k = 0) := by
 unfold zP; split
 ·rename_i h; simp [yV, h]
 ·rename_i h; simp [yV, h]
theorem za {k : Int} : j4 (zP k) = zP k := by unfold zP; split <;> rfl
theorem MQ : zP 0 = .nilIface := rfl
theorem QS {k : Int} (h : k ≠ 0) : zP k = .iface tCl (.agg #[.int .i64 k]) := if_neg h
theorem MAt.keep {h' : Eng.Heap} {bm : Nat} {a : Option Addr} {c : Nat} {bs : List Int} {p q : Int} {m : MC} {T : TypeId} (H : MAt h0 h bm a c bs p m T) (e : h' = upd h bm (z5 a c bs q m T)) : MAt h0 h' bm a c bs q m T := by
 subst e
 exact ⟨upd_same, H.nb, fun y o hy => by rw [upd_ne (fun e => by rw [e, H.nb] at hy; cases hy)]; exact H.sb y o hy⟩
section
variable {bm : Nat} {a : Option Addr} {c : Nat} {bs : List Int} {m : MC} {T : TypeId}
theorem y8 {h : Eng.Heap} {p : Int} (hb : h bm = some (z5 a c bs p m T)) : zb h ⟨bm, 0, none⟩ = some (.slice a bs.length c) ∧ zb h ⟨bm, 1, none⟩ = some (.int .i64 p) ∧ zb h ⟨bm, 2, none⟩ = some m.w ∧ zb h ⟨bm, 3, none⟩ = some m.out ∧ zb h ⟨bm, 4, none⟩ = some (.int .i64 m.rm) ∧ zb h ⟨bm, 5, none⟩ = some (.bool m.last) ∧ zb h ⟨bm, 6, none⟩ = some m.l ∧ zb h ⟨bm, 7, none⟩ = some m.d := by
 simp [zb, hb, z5]
theorem HG {h : Eng.Heap} {p q : Int} (hb : h bm = some (z5 a c bs p m T)) : zw h ⟨bm, 1, none⟩ (.int .i64 q) = upd h bm (z5 a c bs q m T) := by
 rw [hset_cells' hb]; rfl
theorem jR {h : Eng.Heap} {p : Int} (hb : h bm = some (z5 a c bs p m T)) (hs : ¬ S bm) {i : Nat} {v : Value} (hc : zb h ⟨bm, i, none⟩ = some v) : xf S h ⟨bm, i, none⟩ := ⟨⟨_, hc⟩, by simp [yx, hb, z5], hs⟩
theorem MS (hi : Eng.Inv S h0) (hx : zq h0 .u8 a bs) (L : bs.length ≤ 1048576) (p : Nat) (hp : p ≤ 8 * bs.length) (M : MAt h0 h bm a c bs p m T) :
  zc Tryz.prog S xv #[.pointer (some ⟨bm, 0, none⟩)] h (fun v h' => (p = 8 * bs.length ∧ v = .int .i64 (-1) ∧ h' = h) ∨ (p < 8 * bs.length ∧ v = .int .i64 (xg bs p) ∧ h' = upd h bm (z5 a c bs ((p + 1 : Nat) : Int) m T))) := by
 have hsb : ¬ S bm := fun hs => hi bm hs M.nb
 refine Ci (vs := [.pointer (some ⟨bm, 0, none⟩)]) ⟨rfl, trivial⟩ (hi.sub M.sb) ?_
 simp only [wJ, Tr.wp, Ex.ev, coerce, toInt_int, zf, zn, zu, zo, zg, zB, yF, yD, ya, arith, Cst.val, SV.den, zG, zy, zY, List.getD_cons_zero, List.getD_cons_succ, decide_eq_true_eq, decide_eq_false_iff_not, List.map_cons, List.map_nil, List.cons_append, List.nil_append, Nat.zero_add, Nat.add_zero, and_true, zj]
 obtain ⟨g0, g1, _⟩ := y8 M.hb
 have w8 : IntKind.i64.wrap (8 * (bs.length : Int)) = 8 * (bs.length : Int) := i64_in _ (by omega)
 have w1 : IntKind.i64.wrap ((p : Int) + 1) = ((p + 1 : Nat) : Int) := by rw [i64_in _ (by omega)]; omega
 have wd : IntKind.i64.wrap ((p : Int).tdiv 8) = ((p / 8 : Nat) : Int) := by rw [Int.tdiv_eq_ediv_of_nonneg (by omega)]; exact i64_in _ (by omega)
 have wm : (p : Int).tmod 8 = ((p % 8 : Nat) : Int) := by rw [Int.tmod_eq_emod_of_nonneg (by omega)]; omega
 refine ⟨by simp, p, g1, by simp, _, _, _, g0, fun hge => ?_, fun hlt => ?_⟩
 ·rw [w8] at hge
  exact .inl (by omega)
 ·rw [w8] at hlt
  have hlt : p < 8 * bs.length := by omega
  have hpl : p / 8 < bs.length := by omega
  refine ⟨by simp, p, g1, by simp, p, g1, by simp, jR M.hb hsb g1, ?_⟩
  rw [w1, HG M.hb]
  have M' := M.keep (q := ((p + 1 : Nat) : Int)) rfl
  obtain ⟨k0, _⟩ := y8 M'.hb
  obtain ⟨x1, x2⟩ := (hx.sub M'.sb).cell (List.getElem?_eq_getElem hpl)
  rw [wd, wm]
  refine ⟨by simp, _, _, _, k0, by simpa using x2, by omega, by omega, bs[p / 8], by simp only [Int.toNat_natCast, Nat.mul_one, add_add, Nat.add_zero]; exact x1, by omega, .inr ⟨hlt, ?_, rfl⟩⟩
  rw [Int.toNat_natCast]
  have e : bs.getD (p / 8) 0 = bs[p / 8] := by simp [List.getD, List.getElem?_eq_getElem hpl]
  have e2 : min (p % 8) IntKind.u8.bits = p % 8 := by
   have : IntKind.u8.bits = 8 := rfl
   rw [this]; omega
  rw [e2, QF, i64_in _ (by omega), xg, e]
theorem Sq {v : Int} {i : Nat} (b : Int) (h0 : 0 ≤ v) (h1 : v < 2 ^ i) (hb : 0 ≤ b ∧ b ≤ 1) (hi : i < 62) : Go.bits .or .i64 v (IntKind.i64.wrap (b * 2 ^ i)) = v + b * 2 ^ i := by
 have hp : (2 : Int) ^ i ≤ 2 ^ 61 := by
  rw [y9, y9]
  exact_mod_cast Nat.pow_le_pow_right (by decide) (show i ≤ 61 by omega)
 have hp0 : (0 : Int) < 2 ^ i := Int.pow_pos (by decide)
 have hb1 : 0 ≤ b * 2 ^ i ∧ b * 2 ^ i ≤ 2 ^ 61 := by
  obtain rfl | rfl : b = 0 ∨ b = 1 := by omega
  ·rw [Int.zero_mul]; omega
  ·rw [Int.one_mul]; omega
 have hw : IntKind.i64.wrap (b * 2 ^ i) = b * 2 ^ i := i64_in _ (by omega)
 have h := Sb b h0 h1 hb (show i < 64 by omega)
 have hX : IntKind.u64.wrap ((BitVec.ofInt 64 v ||| BitVec.ofInt 64 (b * 2 ^ i)).toNat : Int) = v + b * 2 ^ i := h
 rw [hw]
 show IntKind.i64.wrap ((BitVec.ofInt 64 v ||| BitVec.ofInt 64 (b * 2 ^ i)).toNat : Int) = _
 have hl := (BitVec.ofInt 64 v ||| BitVec.ofInt 64 (b * 2 ^ i)).isLt
 generalize (BitVec.ofInt 64 v ||| BitVec.ofInt 64 (b * 2 ^ i)).toNat = X at hX hl ⊢
 rw [u64_in _ (by omega)] at hX
 rw [hX]; exact i64_in _ (by omega)
theorem Fz (hi : Eng.Inv S h0) (G : Errs h0) (hx : zq h0 .u8 a bs) (L : bs.length ≤ 1048576) (p : Nat) (hp : p ≤ 8 * bs.length) (n : Nat) (hn : n ≤ 32) (M : MAt h0 h bm a c bs p m T) :
  zc Tryz.prog S zJ #[.pointer (some ⟨bm, 0, none⟩), .int .i64 n] h (fun v h' => v = .tuple #[.int .i64 (tk bs n ⟨p, 0⟩).2, zP (tk bs n ⟨p, 0⟩).1.k] ∧ h' = upd h bm (z5 a c bs (tk bs n ⟨p, 0⟩).1.i m T)) := by
 refine AV (vs := [.pointer (some ⟨bm, 0, none⟩), .int .i64 n]) ⟨rfl, rfl, trivial⟩ (hi.sub M.sb) ?_
 simp only [qp, Tr.wp, zX, Ex.ev, coerce, toInt_int, zf, zn, zu, zo, zg, zB, yD, ya, arith, Cst.val, SV.den, z6, yl, zU, zt, zk, zG, ym, zy, List.flatMap_cons, List.flatMap_nil, List.getD_cons_zero, List.getD_cons_succ, List.getElem?_cons_zero, List.getElem?_cons_succ, decide_eq_true_eq, decide_eq_false_iff_not, List.map_cons, List.map_nil, List.cons_append, List.nil_append, List.append_nil, Nat.zero_add, Nat.add_zero, and_true, if_false, Bool.false_eq_true, zj]
 obtain ⟨g0, g1, _⟩ := y8 M.hb
 have w8 : IntKind.i64.wrap (8 * (bs.length : Int)) = 8 * (bs.length : Int) := i64_in _ (by omega)
 have ws : IntKind.i64.wrap (8 * (bs.length : Int) - (p : Int)) = 8 * (bs.length : Int) - (p : Int) := i64_in _ (by omega)
 refine ⟨by simp, _, _, _, g0, by simp, p, g1, fun hgt => ?_, fun hle => ?_⟩
 ·rw [w8, ws] at hgt
  have e : tk bs n ⟨(p : Int), 0⟩ = (⟨(p : Int), 2⟩, 0) := by unfold tk; rw [if_pos rfl, if_pos (by simp only; omega)]
  rw [e]
  exact ⟨2, (G.sub M.sb).e2, rfl, (kQ M.hb).symm⟩
 ·rw [w8, ws] at hle
  have e : tk bs n ⟨(p : Int), 0⟩ = (⟨(p : Int) + n, 0⟩, yy bs p n) := by unfold tk; rw [if_pos rfl, if_neg (by simp only; omega)]; rfl
  rw [e]
  refine ⟨fun us h' => ∃ j : Nat, us = [.int .i64 (yy bs p j), .int .i64 j] ∧ j ≤ n ∧ h' = upd h bm (z5 a c bs ((p + j : Nat) : Int) m T), fun us _ => n - (toInt (us.getD 1 undef)).toNat, ⟨0, rfl, by omega, (kQ M.hb).symm⟩, ?_⟩
  rintro x y h' ⟨j, hx1, hj, rfl⟩
  obtain ⟨rfl, rfl⟩ : x = yy bs p j ∧ y = j := by simpa using hx1
  refine ⟨fun hlt => ?_, fun hge => ?_⟩
  ·have hjn : j < n := by omega
   refine (MS hi hx L (p + j) (by omega) (M.keep rfl)).mono ?_
   rintro _ h2 (⟨e1, _, _⟩ | ⟨_, rfl, rfl⟩)
   ·omega
   ·rw [yR]
    have lt := AQ (xs := bs) (a := p) (n := j)
    have m64 : min (j : Int).toNat IntKind.i64.bits = j := by
     have : IntKind.i64.bits = 64 := rfl
     rw [this]; omega
    have w2 : IntKind.i64.wrap ((j : Int) + 1) = ((j + 1 : Nat) : Int) := by rw [i64_in _ (by omega)]; omega
    refine ⟨_, rfl, by omega, ?_⟩
    rw [m64, Sq _ lt.1 lt.2 CG (by omega), w2]
    exact ⟨⟨j + 1, rfl, by omega, rfl⟩, by simp only [List.getD_cons_succ, List.getD_cons_zero, toInt_int, Int.toNat_natCast]; omega⟩
  ·obtain rfl : j = n := by omega
   refine ⟨rfl, ?_⟩
   rw [show ((p + j : Nat) : Int) = (p : Int) + (j : Int) by omega]
end
end
section
variable {S : Shared} {h h0 : Eng.Heap}
theorem Ko {bs : List Int} {p : Nat} : ∀ {n l : Nat}, l < n → (((yy bs p n).toNat / 2 ^ l % 2 : Nat) : Int) = xg bs (p + l)
 | 0, l, h => by omega
 | n + 1, l, h => by
  have lt := AQ (xs := bs) (a := p) (n := n)
  have hb := CG (xs := bs) (i := p + n)
  obtain ⟨B, hB⟩ := Int.eq_ofNat_of_zero_le hb.1
  obtain ⟨N, hN⟩ := Int.eq_ofNat_of_zero_le lt.1
  have e : (yy bs p (n + 1)).toNat = N + 2 ^ n * B := by
   have e1 : yy bs p (n + 1) = ((N + 2 ^ n * B : Nat) : Int) := by
    rw [yy, hN, hB]; push_cast; rw [Int.mul_comm]
   rw [e1, Int.toNat_natCast]
  have hN2 : N < 2 ^ n := by
   have := lt.2; rw [hN, y9] at this; exact_mod_cast this
  have hp : 0 < 2 ^ n := Nat.two_pow_pos n
  rw [e]
  by_cases hl : l = n
  ·subst hl
   rw [Nat.add_mul_div_left _ _ hp, Nat.div_eq_of_lt hN2, hB]; omega
  ·have ih := Ko (bs := bs) (p := p) (n := n) (l := l) (by omega)
   rw [hN, Int.toNat_natCast] at ih
   rw [← ih]
   obtain ⟨d, rfl⟩ : ∃ d, n = l + (d + 1) := ⟨n - l - 1, by omega⟩
   rw [Nat.pow_add, Nat.mul_assoc, Nat.add_mul_div_left _ _ (Nat.two_pow_pos l), Nat.pow_succ]
   have : 2 ^ d * 2 * B = 2 * (2 ^ d * B) := by rw [Nat.mul_comm (2 ^ d) 2, Nat.mul_assoc]
   rw [this]; omega
section
variable {bm : Nat} {a : Option Addr} {c : Nat} {bs : List Int} {m : MC} {T : TypeId}
theorem QT {bt : Nat} {TT PP : List (Nat × Nat)} {a2 : Option Addr} {c2 : Nat} {cs : List (Nat × Nat)} (hi : Eng.Inv S h0) (hx : zq h0 .u8 a bs) (L : bs.length ≤ 1048576) (p : Nat) (hp : p ≤ 8 * bs.length) (M : MAt h0 h bm a c bs p m T)
  (TV : TabV h0 h bt TT PP a2 c2 (Em cs cs.length) (Ym cs cs.length)) (hTl : TT.length ≤ 20000) (hM : ∀ c ∈ cs, c.1 ≤ 15) (hbt : bt ≠ bm) (hbl : zi (.slice a2 TT.length c2) ≠ some bm) (hsl : Ym cs cs.length 0 0 = 0) (hcl : cs.length ≤ 1000) :
  zc Tryz.prog S j9 #[.pointer (some ⟨bt, 0, none⟩), .func (.func xv) #[.pointer (some ⟨bm, 0, none⟩)] #[]] h (fun v h' => v = Sd (nxB bs cs p) ∧ ∃ p' : Nat, p' ≤ 8 * bs.length ∧ h' = upd h bm (z5 a c bs p' m T) ∧ ((nxB bs cs p).1 = 1 → (p' : Int) = p + (nxB bs cs p).2.2)) := by
 refine AU (vs := [.pointer (some ⟨bt, 0, none⟩), .func (.func xv) #[.pointer (some ⟨bm, 0, none⟩)] #[]]) ⟨rfl, rfl, trivial⟩ (hi.sub TV.sb) ?_
 simp only [qo, Tr.wp, zX, Ex.ev, coerce, toInt_int, zf, zn, zu, zo, zg, zB, yF, yD, ya, arith, Cst.val, SV.den, z6, yl, zU, zt, zk, zG, ym, zy, List.flatMap_cons, List.flatMap_nil, List.getD_cons_zero, List.getD_cons_succ, List.getElem?_cons_zero, decide_eq_true_eq, decide_eq_false_iff_not, List.map_cons, List.map_nil, List.cons_append, List.nil_append, List.append_nil, Nat.zero_add, and_true, if_false, Bool.false_eq_true]
 obtain ⟨s0, q0, hT0⟩ := TV.ti.get TV.ti.root
 have hk0 := (List.getElem?_eq_some_iff.1 hT0).1
 obtain ⟨g1, g2, g3⟩ := TV.cell hT0
 obtain ⟨n, hn⟩ : ∃ n, n = look bs p := ⟨_, rfl⟩
 obtain ⟨b, hb⟩ : ∃ b, b = (yy bs p n).toNat := ⟨_, rfl⟩
 have hn15 : n ≤ 15 := hn ▸ QK
 have enx : nxB bs cs p = nxt cs b (n + 1) 0 := by unfold nxB; rw [← hn, ← hb]
 rw [enx]
 refine ⟨by simp, _, _, _, by simpa [zj] using TV.ld, by simpa using g3, by simp, by omega, (s0 : Int), (q0 : Int), ⟨by simpa [add_add] using g1, by simpa [add_add] using g2⟩, ?_⟩
 have tv : ∀ q : Int, TabV h0 (upd h bm (z5 a c bs q m T)) bt TT PP a2 c2 (Em cs cs.length) (Ym cs cs.length) := fun q =>
  ⟨by obtain ⟨TY, hb⟩ := TV.hb; exact ⟨TY, (upd_ne hbt).trans hb⟩, TV.ow.keep fun z hz => upd_ne fun e => hbl (e ▸ hz), TV.nw, TV.nb, TV.ne, TV.ti, (M.keep (q := q) rfl).sb⟩
 refine ⟨fun us h' => ∃ (l k s q : Nat), us = [.int .i64 l, .int .i64 s, .int .i64 q] ∧ TT[k]? = some (s, q) ∧ PP[k]? = some (l, b % 2 ^ l) ∧ l ≤ n ∧ h' = upd h bm (z5 a c bs ((p + l : Nat) : Int) m T) ∧ nxt cs b (n + 1) 0 = nxt cs b (n + 1 - l) l, fun us _ => n - (toInt (us.getD 0 undef)).toNat, ⟨0, 0, s0, q0, rfl, hT0, by rw [TV.ti.root]; simp [Nat.mod_one], by omega, (kQ M.hb).symm, rfl⟩, ?_⟩
 rintro x y z h' ⟨l, k, s, q, hx1, hT, hP, hl, rfl, hnx⟩
 obtain ⟨rfl, rfl, rfl⟩ : x = l ∧ y = s ∧ z = q := by simpa using hx1
 obtain ⟨f, hf⟩ : ∃ f, n + 1 - l = f + 1 := ⟨n - l, by omega⟩
 have hnx2 : nxt cs b (n + 1) 0 = (if s ≠ 0 then (1, (s : Int) - 1, (l : Int)) else if Ec cs l (b % 2 ^ l) then nxt cs b f (l + 1) else (0, 0, 0)) := by rw [hnx, hf, nxt, ← TV.ti.sym hT hP]
 have hsub := (tv ((p + l : Nat) : Int)).sb
 have hsy : s ≤ cs.length := by
  rw [TV.ti.sym hT hP]
  by_cases h0 : Ym cs cs.length l (b % 2 ^ l) = 0
  ·omega
  ·obtain ⟨t, ht, _, _, e⟩ := Co h0; omega
 have hpl : p + l ≤ 8 * bs.length := by unfold look at hn; omega
 refine ⟨fun hs => ?_, fun hs => ⟨fun hq => ?_, fun hq => ?_⟩⟩
 ·rw [hnx2, if_pos (by omega)]
  refine ⟨?_, p + l, hpl, rfl, fun _ => by simp only; omega⟩
  unfold Sd
  simp only
  rw [i64_in _ (by omega)]
 ·have hs0 : s = 0 := by omega
  have hq0 : q = 0 := by have : (q : Int) = 0 := beq_iff_eq.1 hq; omega
  have hE : ¬ Ec cs l (b % 2 ^ l) := fun h => by
   have := (TV.ti.ext hT hP).2 (Kk.2 h)
   exact this hq0
  rw [hnx2, if_neg (by omega), if_neg hE]
  exact ⟨rfl, p + l, hpl, rfl, fun h => by cases h⟩
 ·have hs0 : s = 0 := by omega
  have hqn : q ≠ 0 := fun e => by subst e; simp at hq
  have hE : Ec cs l (b % 2 ^ l) := Kk.1 ((TV.ti.ext hT hP).1 hqn)
  rw [if_neg (by omega), if_pos hE] at hnx2
  obtain ⟨k0, k1⟩ := TV.ti.kid hT hP hqn
  have hkk := (List.getElem?_eq_some_iff.1 k1).1
  rw [TV.ti.len] at hkk
  have hl15 : l < 15 := Tm hM hE
  refine ⟨_, _, _, rfl, ?_⟩
  refine (MS hi hx L (p + l) hpl (M.keep (q := ((p + l : Nat) : Int)) rfl)).mono ?_
  rintro _ h4 (⟨e8, rfl, rfl⟩ | ⟨hln, rfl, rfl⟩)
  ·refine ⟨_, rfl, fun _ => ?_, fun h => by omega⟩
   have : f = 0 := by unfold look at hn; omega
   rw [hnx2, this]
   exact ⟨rfl, p + l, hpl, rfl, fun h => by cases h⟩
  ·rw [yR]
   have hb01 := CG (xs := bs) (i := p + l)
   have hlt : l < n := by unfold look at hn; omega
   have hbit : xg bs (p + l) = ((b / 2 ^ l % 2 : Nat) : Int) := by rw [hb, Ko hlt]
   rw [hbit] at hb01 ⊢
   refine ⟨_, rfl, fun h => by omega, fun _ => ?_⟩
   have w1 : IntKind.i64.wrap ((q : Int) + ((b / 2 ^ l % 2 : Nat) : Int)) = ((q + b / 2 ^ l % 2 : Nat) : Int) := by rw [i64_in _ (by omega)]; omega
   have w2 : IntKind.i64.wrap ((l : Int) + 1) = ((l + 1 : Nat) : Int) := by rw [i64_in _ (by omega)]; omega
   have hP' : PP[q + b / 2 ^ l % 2]? = some (l + 1, b % 2 ^ (l + 1)) := by
    rw [IZ]
    rcases (show b / 2 ^ l % 2 = 0 ∨ b / 2 ^ l % 2 = 1 by omega) with h | h <;> rw [h]
    ·simpa using k0
    ·simpa using k1
   obtain ⟨s', q', hT'⟩ := TV.ti.get hP'
   have TV' := tv ((p + l + 1 : Nat) : Int)
   obtain ⟨g4, g5, g6⟩ := TV'.cell hT'
   rw [w1, w2]
   refine ⟨by simp, _, _, _, by simpa [zj] using TV'.ld, by simpa using g6, by omega, by omega, (s' : Int), (q' : Int), ⟨by simp only [Int.toNat_natCast, add_add, Nat.add_zero]; exact g4, by simp only [Int.toNat_natCast, add_add]; exact g5⟩, ⟨l + 1, _, s', q', rfl, hT', hP', by omega, rfl, ?_⟩, by simp only [List.getD_cons_zero, toInt_int]; omega⟩
   rw [hnx2]
   congr 1
   omega
theorem HH {bt : Nat} {TT PP : List (Nat × Nat)} {a2 : Option Addr} {c2 : Nat} {cs : List (Nat × Nat)} (hi : Eng.Inv S h0) (G : Errs h0) (hx : zq h0 .u8 a bs) (L : bs.length ≤ 1048576) (p : Nat) (hp : p ≤ 8 * bs.length) (M : MAt h0 h bm a c bs p m T)
  (TV : TabV h0 h bt TT PP a2 c2 (Em cs cs.length) (Ym cs cs.length)) (hTl : TT.length ≤ 20000) (hM : ∀ c ∈ cs, c.1 ≤ 15) (hbt : bt ≠ bm) (hbl : zi (.slice a2 TT.length c2) ≠ some bm) (hsl : Ym cs cs.length 0 0 = 0) (hcl : cs.length ≤ 1000) :
  zc Tryz.prog S yC #[.pointer (some ⟨bm, 0, none⟩), .pointer (some ⟨bt, 0, none⟩)] h (fun v h' => v = .tuple #[.int .i64 (sy bs cs ⟨p, 0⟩).2, zP (sy bs cs ⟨p, 0⟩).1.k] ∧ ∃ p' : Nat, p' ≤ 8 * bs.length ∧ h' = upd h bm (z5 a c bs p' m T) ∧ ((sy bs cs ⟨p, 0⟩).1.k = 0 → (p' : Int) = (sy bs cs ⟨p, 0⟩).1.i)) := by
 refine AW (vs := [.pointer (some ⟨bm, 0, none⟩), .pointer (some ⟨bt, 0, none⟩)]) ⟨rfl, rfl, trivial⟩ (hi.sub M.sb) ?_
 simp only [qu, Tr.wp, zX, Ex.ev, coerce, toInt_int, zf, zg, zB, ya, Cst.val, SV.den, z6, yl, zU, zt, zk, zG, zy, List.flatMap_cons, List.flatMap_nil, List.getD_cons_zero, List.getD_cons_succ, List.map_cons, List.map_nil, List.cons_append, List.nil_append, List.append_nil, Nat.zero_add, and_true, if_false, Bool.false_eq_true]
 refine (QT hi hx L p hp M TV hTl hM hbt hbl hsl hcl).mono ?_
 rintro _ h1 ⟨rfl, p', hp', rfl, hpe⟩
 have hf := Am (bs := bs) (cs := cs) (i := p)
 have M' := M.keep (q := (p' : Int)) rfl
 have es : sy bs cs ⟨(p : Int), 0⟩ = (⟨(p : Int) + (nxB bs cs p).2.2, if (nxB bs cs p).1 = 2 then 2 else if (nxB bs cs p).1 = 0 then 3 else 0⟩, (nxB bs cs p).2.1) := by unfold sy; rw [if_pos rfl]; rfl
 rw [es]
 obtain ⟨⟨x1, x2, x3⟩, hxx⟩ : ∃ x, nxB bs cs p = x := ⟨_, rfl⟩
 rw [hxx] at hf hpe ⊢
 simp only at hf hpe ⊢
 have ge := G.sub M'.sb
 refine ⟨_, _, _, rfl, fun h1 => ?_, fun h1 => ⟨fun h2 => ?_, fun h2 => ?_⟩⟩
 ·obtain rfl : x1 = 0 := beq_iff_eq.1 h1
  obtain ⟨rfl, rfl⟩ : x2 = 0 ∧ x3 = 0 := by rcases hf with hf | hf <;> omega
  exact ⟨3, ge.e3, rfl, p', hp', rfl, fun h => by cases h⟩
 ·obtain rfl : x1 = 2 := beq_iff_eq.1 h2
  obtain ⟨rfl, rfl⟩ : x2 = 0 ∧ x3 = 0 := by rcases hf with hf | hf <;> omega
  exact ⟨2, ge.e2, rfl, p', hp', rfl, fun h => by cases h⟩
 ·have n0 : x1 ≠ 0 := by simpa using h1
  have n2 : x1 ≠ 2 := by simpa using h2
  obtain rfl : x1 = 1 := by rcases hf with hf | hf <;> omega
  exact ⟨rfl, p', hp', rfl, fun _ => hpe rfl⟩
end
end
section
variable {S : Shared} {h h0 : Eng.Heap}
def cel (v : Value) (T : TypeId) : Obj := .cells #[v] T
theorem xP {b : Nat} {v : Value} {T : TypeId} (hb : h b = some (cel v T)) : zb h ⟨b, 0, none⟩ = some v := by simp [zb, hb, cel]
theorem Bj {b : Nat} {v : Value} {T : TypeId} (hb : h b = some (cel v T)) (hs : ¬ S b) : xf S h ⟨b, 0, none⟩ := ⟨⟨_, xP hb⟩, by simp [yx, hb, cel], hs⟩
theorem jc {b : Nat} {v w : Value} {T : TypeId} (hb : h b = some (cel v T)) : zw h ⟨b, 0, none⟩ w = upd h b (cel w T) := by
 rw [hset_cells' hb]; rfl
structure LS (h0 h : Eng.Heap) (b1 b2 bm : Nat) (a : Option Addr) (c : Nat) (bs : List Int) (m : MC) (T T1 T2 : TypeId) (r : Rd) : Prop where
 c1 : h b1 = some (cel (.pointer (some ⟨bm, 0, none⟩)) T1)
 c2 : h b2 = some (cel (zP r.k) T2)
 mt : ∃ p' : Nat, p' ≤ 8 * bs.length ∧ h bm = some (z5 a c bs p' m T) ∧ (r.k = 0 → r.i = p')
 n1 : h0 b1 = none
 n2 : h0 b2 = none
 nm : h0 bm = none
 d12 : b1 ≠ b2
 d1m : b1 ≠ bm
 d2m : b2 ≠ bm
 sb : Eng.Sub h0 h
section
variable {b1 b2 bm : Nat} {a : Option Addr} {c : Nat} {bs : List Int} {m : MC} {T T1 T2 : TypeId} {r : Rd}
theorem LS.sub {h' : Eng.Heap} (H : LS h0 h b1 b2 bm a c bs m T T1 T2 r) (s : Eng.Sub h h') : LS h0 h' b1 b2 bm a c bs m T T1 T2 r := by
 obtain ⟨p', h1, h2, h3⟩ := H.mt
 exact ⟨s _ _ H.c1, s _ _ H.c2, ⟨p', h1, s _ _ h2, h3⟩, H.n1, H.n2, H.nm, H.d12, H.d1m, H.d2m, H.sb.trans s⟩
theorem LS.err (H : LS h0 h b1 b2 bm a c bs m T T1 T2 r) {r' : Rd} (hr : r'.k = 0 → r.k = 0 ∧ r'.i = r.i) : LS h0 (upd h b2 (cel (zP r'.k) T2)) b1 b2 bm a c bs m T T1 T2 r' := by
 obtain ⟨p', h1, h2, h3⟩ := H.mt
 exact ⟨(upd_ne H.d12).trans H.c1, upd_same, ⟨p', h1, (upd_ne (Ne.symm H.d2m)).trans h2, fun h => (hr h).2.trans (h3 (hr h).1)⟩, H.n1, H.n2, H.nm, H.d12, H.d1m, H.d2m, fun y o hy => by rw [upd_ne (fun e => by rw [e, H.n2] at hy; cases hy)]; exact H.sb y o hy⟩
def Oth (b2 bm : Nat) (h h' : Eng.Heap) : Prop := ∀ b, b ≠ bm → b ≠ b2 → h' b = h b
theorem Oth.OP {v : Obj} : Oth b2 bm h (upd h b2 v) := fun b _ h2 => upd_ne h2
theorem Oth.OQ {v : Obj} : Oth b2 bm h (upd h bm v) := fun b h1 _ => upd_ne h1
theorem Oth.trans {h1 h2 : Eng.Heap} (H : Oth b2 bm h h1) (G : Oth b2 bm h1 h2) : Oth b2 bm h h2 := fun b x y => (G b x y).trans (H b x y)
theorem B9 (hi : Eng.Inv S h0) (G : Errs h0) (hx : zq h0 .u8 a bs) (L : bs.length ≤ 1048576) (ok : okR bs r) (H : LS h0 h b1 b2 bm a c bs m T T1 T2 r) (n : Nat) (hn : n ≤ 32) :
  zc Tryz.prog S yb #[.int .i64 n, .pointer (some ⟨b2, 0, none⟩), .pointer (some ⟨b1, 0, none⟩)] h (fun v h' => v = .int .i64 (tk bs n r).2 ∧ LS h0 h' b1 b2 bm a c bs m T T1 T2 (tk bs n r).1 ∧ Oth b2 bm h h') := by
 refine AX (vs := [.int .i64 n, .pointer (some ⟨b2, 0, none⟩), .pointer (some ⟨b1, 0, none⟩)]) ⟨rfl, rfl, rfl, trivial⟩ (hi.sub H.sb) ?_
 simp only [qw, Tr.wp, zX, Ex.ev, coerce, toInt_int, zf, zg, zB, Cst.val, SV.den, z6, yl, zU, zt, zk, zG, zy, zY, List.flatMap_cons, List.flatMap_nil, List.getD_cons_zero, List.getD_cons_succ, List.getElem?_cons_zero, List.map_cons, List.map_nil, List.cons_append, List.nil_append, List.append_nil, List.length_cons, List.length_nil, Nat.zero_add, Nat.add_zero, and_true, if_true, if_false, Bool.false_eq_true, zj]
 refine ⟨zP r.k, za, xP H.c2, fun hz => ?_, fun hz _ => ?_⟩
 ·rw [za, zx] at hz
  have hk : r.k = 0 := of_decide_eq_true hz
  obtain ⟨p', hp, hm, he⟩ := H.mt
  obtain ⟨i, k⟩ := r
  obtain rfl : k = 0 := hk
  obtain rfl : i = (p' : Int) := he rfl
  have hp2 : ∃ p2 : Nat, p2 ≤ 8 * bs.length ∧ (tk bs n ⟨(p' : Int), 0⟩).1.i = p2 := by
   unfold tk
   rw [if_pos rfl]
   split
   ·exact ⟨p', hp, rfl⟩
   ·rename_i h; simp only at h; exact ⟨p' + n, by omega, by simp only; omega⟩
  obtain ⟨p2, hp2, e2⟩ := hp2
  refine ⟨_, xP H.c1, (Fz hi G hx L p' hp n hn ⟨hm, H.nm, H.sb⟩).mono ?_⟩
  rintro _ h1 ⟨rfl, rfl⟩
  have hc2 := (upd_ne (o := z5 a c bs (tk bs n ⟨(p' : Int), 0⟩).1.i m T) H.d2m).trans H.c2
  refine ⟨_, zP _, za, by rw [za], Bj hc2 (fun hs => hi b2 hs H.n2), fun _ => ⟨rfl, ?_, ?_⟩⟩
  ·rw [za, jc hc2]
   refine ⟨(upd_ne H.d12).trans ((upd_ne H.d1m).trans H.c1), upd_same, ⟨p2, hp2, by rw [← e2]; exact (upd_ne (Ne.symm H.d2m)).trans upd_same, fun _ => e2⟩, H.n1, H.n2, H.nm, H.d12, H.d1m, H.d2m, fun y o hy => ?_⟩
   rw [upd_ne (fun e => by rw [e, H.n2] at hy; cases hy), upd_ne (fun e => by rw [e, H.nm] at hy; cases hy)]; exact H.sb y o hy
  ·rw [za, jc hc2]
   exact Oth.trans Oth.OQ Oth.OP
 ·rw [za, zx] at hz
  have hk : r.k ≠ 0 := of_decide_eq_false hz
  have e : tk bs n r = (r, 0) := by unfold tk; rw [if_neg hk]
  rw [e]
  exact ⟨rfl, H, fun _ _ _ => rfl⟩
def mkL (h0 : Eng.Heap) (l : List Nat) : Eng.Heap := fun z => if z ∈ l then some (cel .nilIface 0) else h0 z
theorem qJ {l : List Nat} {z : Nat} : mkL h0 l z = none ↔ z ∉ l ∧ h0 z = none := by
 unfold mkL
 by_cases h : z ∈ l
 ·rw [if_pos h]; simp [h]
 ·rw [if_neg h]; simp [h]
abbrev mk2 (h0 : Eng.Heap) (b1 b2 bm : Nat) : Eng.Heap := mkL h0 [b1, b2, bm]
theorem ks {z : Nat} (H : mk2 h0 b1 b2 bm z = none) : z ≠ bm ∧ z ≠ b2 ∧ z ≠ b1 ∧ h0 z = none := by
 obtain ⟨h1, h2⟩ := qJ.1 H
 simp only [List.mem_cons, List.not_mem_nil, or_false, not_or] at h1
 exact ⟨h1.2.2, h1.2.1, h1.1, h2⟩
theorem MT {z : Nat} (h1 : z ≠ bm) (h2 : z ≠ b2) (h3 : z ≠ b1) (H : h0 z = none) : mk2 h0 b1 b2 bm z = none := qJ.2 ⟨by simp [h1, h2, h3], H⟩
theorem NM.base {v : Value} (N : Eng.New (mk2 h0 b1 b2 bm) v) : Eng.New h0 v := fun z hz => (ks (N z hz)).2.2.2
theorem LS.free (H : LS h0 h b1 b2 bm a c bs m T T1 T2 r) {z : Nat} (hz : h z = none) : mk2 h0 b1 b2 bm z = none := by
 obtain ⟨p', _, h2, _⟩ := H.mt
 exact MT (fun e => by rw [e, h2] at hz; cases hz) (fun e => by rw [e, H.c2] at hz; cases hz) (fun e => by rw [e, H.c1] at hz; cases hz) (yg H.sb hz)
theorem LS.new (H : LS h0 h b1 b2 bm a c bs m T T1 T2 r) {z l k : Nat} (hz : h z = none) : Eng.New (mk2 h0 b1 b2 bm) (.slice (some ⟨z, 0, none⟩) l k) := New.of (H.free hz)
theorem LS.kept (H : LS h0 h b1 b2 bm a c bs m T T1 T2 r) {h' : Eng.Heap} {v : Value} (N : Eng.New (mk2 h0 b1 b2 bm) v) (hk : ∀ b, h b ≠ none → zi v ≠ some b → h' b = h b) (s : Eng.Sub h0 h') : LS h0 h' b1 b2 bm a c bs m T T1 T2 r := by
 obtain ⟨p', h1, h2, h3⟩ := H.mt
 have e1 := hk b1 (by rw [H.c1]; simp) fun e => (ks (N b1 e)).2.2.1 rfl
 have e2 := hk b2 (by rw [H.c2]; simp) fun e => (ks (N b2 e)).2.1 rfl
 have e3 := hk bm (by rw [h2]; simp) fun e => (ks (N bm e)).1 rfl
 exact ⟨e1.trans H.c1, e2.trans H.c2, ⟨p', h1, e3.trans h2, h3⟩, H.n1, H.n2, H.nm, H.d12, H.d1m, H.d2m, s⟩
theorem NM.keep {h' : Eng.Heap} {k : IntKind} {v : Value} {xs : List Int} (N : Eng.New (mk2 h0 b1 b2 bm) v) (P : Part k h v xs) (O : Oth b2 bm h h') : Part k h' v xs := P.keep fun z hz => O z (ks (N z hz)).1 (ks (N z hz)).2.1
def qB (h0 : Eng.Heap) (bm : Nat) (a : Option Addr) (c : Nat) (bs : List Int) (m : MC) (T : TypeId) (F : Rd × List Int × List Int) (v : Value) (h' : Eng.Heap) : Prop :=
 ∃ u w, v = .tuple #[u, w, zP F.1.k] ∧ (∃ p' : Nat, p' ≤ 8 * bs.length ∧ MAt h0 h' bm a c bs p' m T ∧ (F.1.k = 0 → F.1.i = p')) ∧ (F.1.k = 0 → Part .i64 h' u F.2.1 ∧ Part .i64 h' w F.2.2 ∧ Eng.New h0 u ∧ Eng.New h0 w) ∧ (∃ a1 l1 c1 a2 l2 c2, u = .slice a1 l1 c1 ∧ w = .slice a2 l2 c2)
theorem LS.bad (H : LS h0 h b1 b2 bm a c bs m T T1 T2 r) {F : Rd × List Int × List Int} (hF : F.1.k ≠ 0) {e : Value} (he : e = zP F.1.k) : qB h0 bm a c bs m T F (.tuple #[.slice none 0 0, .slice none 0 0, e]) h := by
 subst he
 obtain ⟨p', h1, h2, h3⟩ := H.mt
 exact ⟨_, _, rfl, ⟨p', h1, ⟨h2, H.nm, H.sb⟩, fun h => absurd h hF⟩, fun h => absurd h hF, ⟨_, _, _, _, _, _, rfl, rfl⟩⟩
theorem LS.fail (hi : Eng.Inv S h0) (G : Errs h0) (H : LS h0 h b1 b2 bm a c bs m T T1 T2 r) {F : Rd × List Int × List Int} (hF : F.1.k = 3) :
  ∃ x, zb h ⟨0, 0, none⟩ = some (Value.int .i64 x) ∧ xf S h ⟨b2, 0, none⟩ ∧ ∃ v, j4 v = v ∧ zb (zw h ⟨b2, 0, none⟩ (.iface tCl (.agg (xq (.tuple (#[.int .i64 x] ++ xq (.tuple #[]))))))) ⟨b2, 0, none⟩ = some v ∧
   qB h0 bm a c bs m T F (.tuple #[.slice none 0 0, .slice none 0 0, j4 v]) (zw h ⟨b2, 0, none⟩ (.iface tCl (.agg (xq (.tuple (#[.int .i64 x] ++ xq (.tuple #[]))))))) := by
 have e3 : (.iface tCl (.agg (xq (.tuple (#[.int .i64 3] ++ xq (.tuple #[]))))) : Value) = zP (3 : Int) := rfl
 have H' := H.err (r' := ⟨0, 3⟩) (fun h => by cases h)
 refine ⟨3, (G.sub H.sb).e3, Bj H.c2 (fun hs => hi b2 hs H.n2), zP 3, za, ?_, ?_⟩
 ·rw [e3, jc H.c2]; exact xP upd_same
 ·rw [e3, jc H.c2, za]
  exact H'.bad (by omega) (by rw [hF])
theorem Tp (hi : Eng.Inv S h0) (G : Errs h0) (H : LS h0 h b1 b2 bm a c bs m T T1 T2 r) (hk : r.k = 0) {all : List Int} {aa : Option Addr} {ca : Nat} (P : Part .i64 h (.slice aa all.length ca) all) (N : Eng.New (mk2 h0 b1 b2 bm) (.slice aa all.length ca)) {x3 : Int} (hx3 : 0 ≤ x3 ∧ x3 < 32)
  (hlen : (x3 + 257).toNat + 1 ≤ all.length ∧ all.length ≤ 1000) (K0 K1 K2 K3 K4 K5 : Kt) (e0 e1 e4 e5 e6 e7 e8 e9 e10 e11 e12 e13 e14 : Value) :
  mlE.wp Tryz.prog S jf (qB h0 bm a c bs m T (DQ (x3 + 257).toNat r all)) [e0, e1, .pointer (some ⟨b2, 0, none⟩), .int .i64 x3, e4, e5, e6, e7, e8, e9, e10, e11, e12, e13, e14, .slice aa all.length ca] h [K0, K1, K2, K3, K4, K5] := by
 obtain ⟨n6, rfl⟩ := Int.eq_ofNat_of_zero_le hx3.1
 have w6 : IntKind.i64.wrap ((n6 : Int) + 257) = ((n6 + 257 : Nat) : Int) := by rw [i64_in _ (by omega)]; omega
 have e6 : ((n6 : Int) + 257).toNat = n6 + 257 := by omega
 rw [e6] at hlen ⊢
 simp only [mlE, Tr.wp, zX, Ex.ev, coerce, toInt_int, zf, zn, zu, zo, zg, DC, B0, Fq, GQ, ya, arith, Cst.val, SV.den, z6, yl, zU, zt, zk, zG, zy, zY, List.flatMap_cons, List.flatMap_nil, List.getD_cons_zero, List.getD_cons_succ, decide_eq_true_eq, List.map_cons, List.map_nil, List.cons_append, List.nil_append, List.append_nil, Nat.add_zero, and_true, if_false, Bool.false_eq_true, zj, w6]
 obtain ⟨l1, l2⟩ := hlen
 have e : DQ (n6 + 257) r all = (bd (Hb (all.take (n6 + 257)) (all.drop (n6 + 257))) r, all.take (n6 + 257), all.drop (n6 + 257)) := if_pos hk
 rw [e]
 obtain ⟨_, _, ei, hca, gi⟩ := P.ints
 cases ei
 obtain ⟨aL, cL, eL, PL, NL, nL⟩ := P.TX N (n := n6 + 257) (m := n6 + 257) (by omega) (by omega) (by omega)
 obtain ⟨aR, cR, eR, PR, NR⟩ := P.from N (n := n6 + 257) (by omega) hca
 rw [Int.toNat_natCast, eL, eR]
 have lL : (all.take (n6 + 257)).length = n6 + 257 := by rw [List.length_take]; omega
 obtain ⟨_, _, ei, _, gL⟩ := PL.ints
 cases ei
 obtain ⟨_, _, ei, _, gR⟩ := PR.ints
 cases ei
 refine ⟨by omega, by omega, by omega, by omega, by omega, by omega, ?_⟩
 refine (kK (hi.sub H.sb) aL cL _ gL).mono ?_
 rintro _ hq ⟨rfl, rfl⟩
 refine ⟨_, rfl, ?_⟩
 refine (kK (hi.sub H.sb) aR cR _ gR).mono ?_
 rintro _ hq ⟨rfl, rfl⟩
 refine ⟨_, rfl, ?_⟩
 have g256 : (all.take (n6 + 257))[256]? = some ((all.take (n6 + 257)).getD 256 0) := by simp [List.getD, show 256 < all.length by omega]
 obtain ⟨g1, g2⟩ := gL.cell g256
 have hbad : Hb (all.take (n6 + 257)) (all.drop (n6 + 257)) = ((all.take (n6 + 257)).getD 256 0 == 0 || (!(zp (all.take (n6 + 257)) == 1 || zp (all.take (n6 + 257)) == 4)) || !(zp (all.drop (n6 + 257)) == 1 || zp (all.drop (n6 + 257)) == 4 || zp (all.drop (n6 + 257)) == 5)) := rfl
 generalize Hb (all.take (n6 + 257)) (all.drop (n6 + 257)) = B at hbad ⊢
 generalize (all.take (n6 + 257)).getD 256 0 = y at g1 hbad
 refine ⟨by rw [yF, nL (by omega)]; rfl, by simp, by simp only [zn, lL]; omega, y, by simp only [zo, add_add]; exact g1, ?_⟩
 clear gi g1 g256
 refine ⟨fun hb => ?_, fun hb => ?_⟩
 ·have hB : B = true := by
   rw [hbad]
   simp only [bne, Bool.decide_eq_true] at hb
   revert hb
   cases (y == 0) <;> cases (zp (all.take (n6 + 257)) == 1) <;> cases (zp (all.take (n6 + 257)) == 4) <;> cases (zp (all.drop (n6 + 257)) == 1) <;> cases (zp (all.drop (n6 + 257)) == 4) <;> cases (zp (all.drop (n6 + 257)) == 5) <;> simp
  subst hB
  exact H.fail hi G (by simp [bd, hk])
 ·have hB : B = false := by
   rw [hbad]
   simp only [bne, Bool.decide_eq_true] at hb
   revert hb
   cases (y == 0) <;> cases (zp (all.take (n6 + 257)) == 1) <;> cases (zp (all.take (n6 + 257)) == 4) <;> cases (zp (all.drop (n6 + 257)) == 1) <;> cases (zp (all.drop (n6 + 257)) == 4) <;> cases (zp (all.drop (n6 + 257)) == 5) <;> simp
  subst hB
  have H' := H.err (r' := r) (fun h => ⟨hk, rfl⟩)
  rw [hk, MQ] at H'
  refine ⟨Bj H.c2 (fun hs => hi b2 hs H.n2), .nilIface, rfl, ?_, ?_⟩
  ·rw [jc H.c2]; exact xP upd_same
  ·rw [jc H.c2]
   obtain ⟨p', q1, q2, q3⟩ := H'.mt
   have eb : bd false r = r := by unfold bd; rw [if_neg (by simp)]
   rw [eb]
   refine ⟨_, _, by rw [hk]; rfl, ⟨p', q1, ⟨q2, H.nm, H'.sb⟩, q3⟩, fun _ => ⟨NM.keep NL PL Oth.OP, NM.keep NR PR Oth.OP, NM.base NL, NM.base NR⟩, ⟨_, _, _, _, _, _, rfl, rfl⟩⟩
end
end
section
variable {S : Shared} {h h0 : Eng.Heap}
section
variable {b1 b2 bm bt : Nat} {a : Option Addr} {c : Nat} {bs : List Int} {m : MC} {T T1 T2 : TypeId} {r : Rd} {TT PP : List (Nat × Nat)} {a2 : Option Addr} {c2 : Nat} {cs : List (Nat × Nat)}
structure Tb (h0 h : Eng.Heap) (b1 b2 bm bt : Nat) (TT PP : List (Nat × Nat)) (a2 : Option Addr) (c2 : Nat) (cs : List (Nat × Nat)) : Prop where
 tv : TabV h0 h bt TT PP a2 c2 (Em cs cs.length) (Ym cs cs.length)
 dt : bt ≠ b1 ∧ bt ≠ b2 ∧ bt ≠ bm
 ds : ∀ z, zi (.slice a2 TT.length c2) = some z → z ≠ b1 ∧ z ≠ b2 ∧ z ≠ bm
abbrev mkT (h0 : Eng.Heap) (b1 b2 bm bt : Nat) (a2 : Option Addr) (n c2 : Nat) : Eng.Heap := mkL h0 ([b1, b2, bm, bt] ++ (zi (.slice a2 n c2)).toList)
theorem Bl {z n : Nat} : mkT h0 b1 b2 bm bt a2 n c2 z = none ↔ z ≠ b1 ∧ z ≠ b2 ∧ z ≠ bm ∧ z ≠ bt ∧ zi (.slice a2 n c2) ≠ some z ∧ h0 z = none := by
 rw [qJ]
 cases zi (.slice a2 n c2) with
 | none => simp [and_assoc]
 | some y => simp [and_assoc, eq_comm]
theorem OS {v : Value} {n : Nat} (N : Eng.New (mkT h0 b1 b2 bm bt a2 n c2) v) : Eng.New h0 v := fun z hz => (Bl.1 (N z hz)).2.2.2.2.2
theorem AB {v : Value} {n : Nat} (N : Eng.New (mkT h0 b1 b2 bm bt a2 n c2) v) : Eng.New (mk2 h0 b1 b2 bm) v := fun z hz => by
 have := Bl.1 (N z hz)
 exact MT this.2.2.1 this.2.1 this.1 this.2.2.2.2.2
theorem Tb.free (B : Tb h0 h b1 b2 bm bt TT PP a2 c2 cs) (H : LS h0 h b1 b2 bm a c bs m T T1 T2 r) {z : Nat} (hz : h z = none) : mkT h0 b1 b2 bm bt a2 TT.length c2 z = none := by
 obtain ⟨h1, h2, h3, h4⟩ := ks (H.free hz)
 refine Bl.2 ⟨h3, h2, h1, fun e => ?_, fun e => B.tv.ow.held z e hz, h4⟩
 obtain ⟨TY, hb⟩ := B.tv.hb
 rw [e, hb] at hz; cases hz
theorem Tb.new (B : Tb h0 h b1 b2 bm bt TT PP a2 c2 cs) (H : LS h0 h b1 b2 bm a c bs m T T1 T2 r) {z l k : Nat} (hz : h z = none) : Eng.New (mkT h0 b1 b2 bm bt a2 TT.length c2) (.slice (some ⟨z, 0, none⟩) l k) := New.of (B.free H hz)
theorem Tb.app (B : Tb h0 h b1 b2 bm bt TT PP a2 c2 cs) (H : LS h0 h b1 b2 bm a c bs m T T1 T2 r) {v v' : Value} (N : Eng.New (mkT h0 b1 b2 bm bt a2 TT.length c2) v) (hr : zi v' = zi v ∨ Eng.New h v') : Eng.New (mkT h0 b1 b2 bm bt a2 TT.length c2) v' := fun z hz => by
 rcases hr with hr | hr
 ·exact N z (hr ▸ hz)
 ·exact B.free H (hr z hz)
theorem Tb.same (B : Tb h0 h b1 b2 bm bt TT PP a2 c2 cs) {h' : Eng.Heap} (h1 : h' bt = h bt) (h2 : ∀ z, zi (.slice a2 TT.length c2) = some z → h' z = h z) (s : Eng.Sub h0 h') : Tb h0 h' b1 b2 bm bt TT PP a2 c2 cs :=
 ⟨⟨by obtain ⟨TY, hb⟩ := B.tv.hb; exact ⟨TY, h1.trans hb⟩, B.tv.ow.keep h2, B.tv.nw, B.tv.nb, B.tv.ne, B.tv.ti, s⟩, B.dt, B.ds⟩
theorem Tb.sub (B : Tb h0 h b1 b2 bm bt TT PP a2 c2 cs) {h' : Eng.Heap} (s : Eng.Sub h h') : Tb h0 h' b1 b2 bm bt TT PP a2 c2 cs := by
 refine B.same ?_ (fun z hz => ?_) (B.tv.sb.trans s)
 ·obtain ⟨TY, hb⟩ := B.tv.hb
  rw [hb]; exact s _ _ hb
 ·have := B.tv.ow.held z hz
  cases e : h z with
  | none => exact absurd e this
  | some o => exact s _ _ e
theorem Tb.oth (B : Tb h0 h b1 b2 bm bt TT PP a2 c2 cs) {h' : Eng.Heap} (O : Oth b2 bm h h') (s : Eng.Sub h0 h') : Tb h0 h' b1 b2 bm bt TT PP a2 c2 cs :=
 B.same (O bt B.dt.2.2 B.dt.2.1) (fun z hz => O z (B.ds z hz).2.2 (B.ds z hz).2.1) s
theorem Tb.kept (B : Tb h0 h b1 b2 bm bt TT PP a2 c2 cs) {h' : Eng.Heap} {v : Value} (N : Eng.New (mkT h0 b1 b2 bm bt a2 TT.length c2) v) (hk : ∀ b, h b ≠ none → zi v ≠ some b → h' b = h b) (s : Eng.Sub h0 h') : Tb h0 h' b1 b2 bm bt TT PP a2 c2 cs := by
 refine B.same (hk bt ?_ fun e => (Bl.1 (N bt e)).2.2.2.1 rfl) (fun z hz => hk z (B.tv.ow.held z hz) fun e => (Bl.1 (N z e)).2.2.2.2.1 hz) s
 obtain ⟨TY, hb⟩ := B.tv.hb
 rw [hb]; simp
theorem Tq (hi : Eng.Inv S h0) (G : Errs h0) (H : LS h0 h b1 b2 bm a c bs m T T1 T2 r) (B : Tb h0 h b1 b2 bm bt TT PP a2 c2 cs) {all : List Int} {aa : Option Addr} {ca : Nat} (P : Part .i64 h (.slice aa all.length ca) all) (N : Eng.New (mkT h0 b1 b2 bm bt a2 TT.length c2) (.slice aa all.length ca)) (hl : all.length ≤ 1000) {n3 n5 : Nat} (h3 : n3 < 32) (h5 : n5 < 32) (t : Nat) (ht : t ≤ 1000) (w : Int) {F : Rd × List Int × List Int}
  (hF : r.k ≠ 0 → F.1.k = r.k) (hover : r.k = 0 → n3 + 257 + (n5 + 1) < all.length + t → F.1.k = 3) (K0 K1 K2 K3 K4 K5 K6 : Kt)
  (hgo : r.k = 0 → all.length + t ≤ n3 + 257 + (n5 + 1) → ∀ a' c' h', LS h0 h' b1 b2 bm a c bs m T T1 T2 r → Tb h0 h' b1 b2 bm bt TT PP a2 c2 cs → Part .i64 h' (.slice a' (all ++ List.replicate t w).length c') (all ++ List.replicate t w) → Eng.New (mkT h0 b1 b2 bm bt a2 TT.length c2) (.slice a' (all ++ List.replicate t w).length c') → K4 [.slice a' (all ++ List.replicate t w).length c'] h')
  (e0 e1 e4 e6 e7 e8 e9 e10 e11 e12 e13 e14 e16 e17 e18 : Value) :
  mlR.wp Tryz.prog S jf (qB h0 bm a c bs m T F) [e0, e1, .pointer (some ⟨b2, 0, none⟩), .int .i64 n3, e4, .int .i64 n5, e6, e7, e8, e9, e10, e11, e12, e13, e14, .slice aa all.length ca, e16, e17, e18, .int .i64 w, .int .i64 t] h [K0, K1, K2, K3, K4, K5, K6] := by
 have w3 : IntKind.i64.wrap ((n3 : Int) + 257) = ((n3 + 257 : Nat) : Int) := by rw [i64_in _ (by omega)]; omega
 have w5 : IntKind.i64.wrap ((n5 : Int) + 1) = ((n5 + 1 : Nat) : Int) := by rw [i64_in _ (by omega)]; omega
 have wt : IntKind.i64.wrap (((n3 + 257 : Nat) : Int) + ((n5 + 1 : Nat) : Int)) = ((n3 + 257 + (n5 + 1) : Nat) : Int) := by rw [i64_in _ (by omega)]; omega
 have ws : IntKind.i64.wrap (((n3 + 257 + (n5 + 1) : Nat) : Int) - (all.length : Int)) = ((n3 + 257 + (n5 + 1) : Nat) : Int) - (all.length : Int) := i64_in _ (by omega)
 simp only [mlR, Tr.wp, Ex.ev, coerce, toInt_int, zf, zn, zu, zo, zg, ya, arith, Cst.val, SV.den, zG, ym, zy, zY, List.getD_cons_zero, List.getD_cons_succ, List.getElem?_cons_zero, List.getElem?_cons_succ, decide_eq_true_eq, decide_eq_false_iff_not, List.map_cons, List.map_nil, List.cons_append, List.nil_append, Nat.add_zero, and_true, if_false, Bool.false_eq_true, zj, w3, w5, wt, ws]
 refine ⟨zP r.k, za, xP H.c2, fun hz => ?_, fun hz => ⟨fun hgt => ?_, fun hle => ?_⟩⟩
 ·rw [za, zx] at hz
  have hk : r.k ≠ 0 := by simpa using hz
  refine ⟨zP r.k, za, xP H.c2, Bj H.c2 (fun hs => hi b2 hs H.n2), zP r.k, za, ?_, ?_⟩
  ·rw [za, jc H.c2]; exact xP upd_same
  ·rw [za, jc H.c2]
   have H' := H.err (r' := r) (fun h => ⟨h, rfl⟩)
   exact H'.bad (by rw [hF hk]; exact hk) (by rw [hF hk])
 ·rw [za, zx] at hz
  have hk : r.k = 0 := by simpa using hz
  exact H.fail hi G (hover hk (by omega))
 ·rw [za, zx] at hz
  have hk : r.k = 0 := by simpa using hz
  have hle2 : all.length + t ≤ n3 + 257 + (n5 + 1) := by omega
  refine ⟨fun us h' => ∃ (i : Nat) (a' : Option Addr) (c' : Nat), us = [.slice a' (all ++ List.replicate i w).length c', .int .i64 i] ∧ i ≤ t ∧ Part .i64 h' (.slice a' (all ++ List.replicate i w).length c') (all ++ List.replicate i w) ∧ Eng.New (mkT h0 b1 b2 bm bt a2 TT.length c2) (.slice a' (all ++ List.replicate i w).length c') ∧ LS h0 h' b1 b2 bm a c bs m T T1 T2 r ∧ Tb h0 h' b1 b2 bm bt TT PP a2 c2 cs,
   fun us _ => t - (toInt (us.getD 1 undef)).toNat, ⟨0, aa, ca, by simp, by omega, by simpa using P, by simpa using N, H, B⟩, ?_⟩
  rintro a1 l1 c1 y h' ⟨i, a2', c2', hx1, hi2, P2, N2, H2, B2⟩
  simp only [List.cons.injEq, Value.int.injEq, Value.slice.injEq, true_and, and_true] at hx1
  obtain ⟨⟨rfl, rfl, rfl⟩, rfl⟩ := hx1
  refine ⟨fun hlt b hnb => ?_, fun hge => ?_⟩
  ·have w2 : IntKind.i64.wrap ((i : Int) + 1) = ((i + 1 : Nat) : Int) := by rw [i64_in _ (by omega)]; omega
   have sb : Eng.Sub h' (upd h' b (.cells (ints .i64 [w]) 2)) := Sub.zL hnb
   have H3 := H2.sub sb
   have B3 := B2.sub sb
   have hlen : (all ++ List.replicate i w).length = all.length + i := by simp
   refine xo (xs := all ++ List.replicate i w) (a := some ⟨b, 0, none⟩) (c := 1) hi H3.sb (P2.sub sb) (OS N2) (ys := [w]) zq.new (by rw [hlen]; simp only [List.length_singleton]; omega) fun v' h3 o n3 s4 hk4 hr4 => ?_
   have el : (all ++ List.replicate i w) ++ [w] = all ++ List.replicate (i + 1) w := by rw [List.append_assoc, List.replicate_succ']
   rw [el] at o
   have N4 := B3.app H3 N2 hr4
   have H4 := H3.kept (AB N2) hk4 s4
   have B4 := B3.kept N2 hk4 s4
   obtain ⟨a4, c4, rfl, _, _⟩ := o.ints
   simp only [zo, zn, zu, w2]
   exact ⟨⟨i + 1, a4, c4, rfl, by omega, o, N4, H4, B4⟩, by simp only [List.getD_cons_succ, List.getD_cons_zero, toInt_int, Int.toNat_natCast]; omega⟩
  ·obtain rfl : i = t := by omega
   exact hgo hk hle2 _ _ _ H2 B2 P2 N2
theorem Ts (hi : Eng.Inv S h0) (G : Errs h0) (hx : zq h0 .u8 a bs) (L : bs.length ≤ 1048576) (H : LS h0 h b1 b2 bm a c bs m T T1 T2 r) (hk : r.k = 0) (B : Tb h0 h b1 b2 bm bt TT PP a2 c2 cs) (hM : ∀ c ∈ cs, c.1 ≤ 15) (hTl : TT.length ≤ 20000) (hcl : cs.length ≤ 1000)
  {all : List Int} {aa : Option Addr} {ca : Nat} (P : Part .i64 h (.slice aa all.length ca) all) (N : Eng.New (mkT h0 b1 b2 bm bt a2 TT.length c2) (.slice aa all.length ca)) {n3 n5 : Nat} (h3 : n3 < 32) (h5 : n5 < 32) (hl : all.length < n3 + 257 + (n5 + 1)) {F : Rd × List Int × List Int}
  (hF : (lg1 bs cs (n3 + 257 + (n5 + 1)) r all).1.k ≠ 0 → F.1.k = (lg1 bs cs (n3 + 257 + (n5 + 1)) r all).1.k) (K0 K1 K2 K3 K4 K5 : Kt)
  (hgo : (lg1 bs cs (n3 + 257 + (n5 + 1)) r all).1.k = 0 → ∀ a' c' h', LS h0 h' b1 b2 bm a c bs m T T1 T2 (lg1 bs cs (n3 + 257 + (n5 + 1)) r all).1 → Tb h0 h' b1 b2 bm bt TT PP a2 c2 cs → Part .i64 h' (.slice a' (lg1 bs cs (n3 + 257 + (n5 + 1)) r all).2.length c') (lg1 bs cs (n3 + 257 + (n5 + 1)) r all).2 → Eng.New (mkT h0 b1 b2 bm bt a2 TT.length c2) (.slice a' (lg1 bs cs (n3 + 257 + (n5 + 1)) r all).2.length c') → K4 [.slice a' (lg1 bs cs (n3 + 257 + (n5 + 1)) r all).2.length c'] h')
  (e0 e4 e6 e7 e8 e9 e10 e11 e12 e14 : Value) :
  mlB.wp Tryz.prog S jf (qB h0 bm a c bs m T F) [e0, .pointer (some ⟨b1, 0, none⟩), .pointer (some ⟨b2, 0, none⟩), .int .i64 n3, e4, .int .i64 n5, e6, e7, e8, e9, e10, e11, e12, .pointer (some ⟨bt, 0, none⟩), e14, .slice aa all.length ca] h [K0, K1, K2, K3, K4, K5] := by
 simp only [mlB, Tr.wp, zX, Ex.ev, coerce, toInt_int, zf, zn, zu, zo, zg, zB, yF, ya, arith, Cst.val, SV.den, z6, yl, zU, zt, zk, zG, zy, zY, List.flatMap_cons, List.flatMap_nil, List.getD_cons_zero, List.getD_cons_succ, List.getElem?_cons_zero, List.getElem?_cons_succ, decide_eq_true_eq, List.map_cons, List.map_nil, List.cons_append, List.nil_append, List.append_nil, List.length_cons, List.length_nil, Nat.zero_add, Nat.add_zero, and_true, if_true, if_false, Bool.false_eq_true, zj]
 obtain ⟨p', hp, hm, he⟩ := H.mt
 obtain ⟨i, k⟩ := r
 obtain rfl : k = 0 := hk
 obtain rfl : i = (p' : Int) := he rfl
 refine ⟨_, xP H.c1, ?_⟩
 refine (HH hi G hx L p' hp ⟨hm, H.nm, H.sb⟩ B.tv hTl hM B.dt.2.2 (fun e => (B.ds bm e).2.2 rfl) (IX _) hcl).mono ?_
 rintro _ h1 ⟨rfl, p2, hp2, rfl, hpe⟩
 have H1 : ∀ r' : Rd, r'.k = 0 → r'.i = (p2 : Int) → LS h0 (upd h bm (z5 a c bs p2 m T)) b1 b2 bm a c bs m T T1 T2 r' := fun r' q1 q2 =>
  ⟨(upd_ne H.d1m).trans H.c1, by rw [q1]; exact (upd_ne H.d2m).trans H.c2, ⟨p2, hp2, upd_same, fun _ => q2⟩, H.n1, H.n2, H.nm, H.d12, H.d1m, H.d2m, fun y o hy => by rw [upd_ne (fun e => by rw [e, H.nm] at hy; cases hy)]; exact H.sb y o hy⟩
 have B1 : Tb h0 (upd h bm (z5 a c bs p2 m T)) b1 b2 bm bt TT PP a2 c2 cs := B.oth Oth.OQ (H1 ⟨p2, 0⟩ rfl rfl).sb
 have P1 : Part .i64 (upd h bm (z5 a c bs p2 m T)) (.slice aa all.length ca) all := NM.keep (AB N) P Oth.OQ
 generalize upd h bm (z5 a c bs p2 m T) = h1 at H1 B1 P1 ⊢
 obtain ⟨tot, htot⟩ : ∃ tot, tot = n3 + 257 + (n5 + 1) := ⟨_, rfl⟩
 rw [← htot] at hF hgo hl
 have elg : lg1 bs cs tot ⟨(p' : Int), 0⟩ all = if (sy bs cs ⟨(p' : Int), 0⟩).1.k = 0 then (bd (decide (tot < (rp bs (sy bs cs ⟨(p' : Int), 0⟩).1 all (sy bs cs ⟨(p' : Int), 0⟩).2).2.length)) (rp bs (sy bs cs ⟨(p' : Int), 0⟩).1 all (sy bs cs ⟨(p' : Int), 0⟩).2).1, (rp bs (sy bs cs ⟨(p' : Int), 0⟩).1 all (sy bs cs ⟨(p' : Int), 0⟩).2).2) else ((sy bs cs ⟨(p' : Int), 0⟩).1, all) := rfl
 obtain ⟨⟨r1, x⟩, hs⟩ : ∃ q, sy bs cs ⟨(p' : Int), 0⟩ = q := ⟨_, rfl⟩
 rw [hs] at elg hpe ⊢
 simp only at elg hpe ⊢
 refine ⟨x, zP r1.k, za, by rw [za], fun hz => ?_, fun hz => ?_⟩
 ·rw [za, zx] at hz
  have hk1 : r1.k ≠ 0 := by simpa using hz
  rw [if_neg hk1] at elg
  rw [elg] at hF
  have H2 := H1 ⟨p2, 0⟩ rfl rfl
  refine ⟨Bj H2.c2 (fun hs => hi b2 hs H.n2), zP r1.k, za, ?_, ?_⟩
  ·rw [za, jc H2.c2]; exact xP upd_same
  ·rw [za, jc H2.c2]
   have H' := H2.err (r' := r1) (fun h => absurd h hk1)
   exact H'.bad (by rw [hF hk1]; exact hk1) (by rw [hF hk1])
 ·rw [za, zx] at hz
  have hk1 : r1.k = 0 := by simpa using hz
  rw [if_pos hk1] at elg
  have H2 := H1 r1 hk1 (hpe hk1).symm
  have ok1 : okR bs r1 := fun _ => by rw [← hpe hk1]; omega
  have fin : ∀ (r2 : Rd) (t : Nat) (w : Int) (h' : Eng.Heap), rp bs r1 all x = (r2, if r2.k = 0 then all ++ List.replicate t w else all) → t ≤ 1000 → LS h0 h' b1 b2 bm a c bs m T T1 T2 r2 → Tb h0 h' b1 b2 bm bt TT PP a2 c2 cs → Part .i64 h' (.slice aa all.length ca) all → ∀ e16 e17 e18,
    mlR.wp Tryz.prog S jf (qB h0 bm a c bs m T F) [e0, .pointer (some ⟨b1, 0, none⟩), .pointer (some ⟨b2, 0, none⟩), .int .i64 n3, e4, .int .i64 n5, e6, e7, e8, e9, e10, e11, e12, .pointer (some ⟨bt, 0, none⟩), e14, .slice aa all.length ca, e16, e17, e18, .int .i64 w, .int .i64 t] h' [K0, K1, K2, K3, K4, K5, fun _ _ => False] := by
   intro r2 t w h' erp ht H3 B3 P3 e16 e17 e18
   rw [erp] at elg
   simp only at elg
   refine Tq hi G H3 B3 P3 N (by omega) h3 h5 t ht w (fun hk2 => ?_) (fun hk2 hov => ?_) K0 K1 K2 K3 K4 K5 _ (fun hk2 hle a' c' h'' H4 B4 P4 N4 => ?_) _ _ _ _ _ _ _ _ _ _ _ _ _ _ _
   ·have e : bd (decide (tot < (if r2.k = 0 then all ++ List.replicate t w else all).length)) r2 = r2 := by unfold bd; rw [if_neg (fun h => hk2 h.1)]
    rw [e] at elg
    rw [elg] at hF
    exact hF hk2
   ·have e : (bd (decide (tot < (if r2.k = 0 then all ++ List.replicate t w else all).length)) r2).k = 3 := by
     rw [if_pos hk2, decide_eq_true (by rw [List.length_append, List.length_replicate]; omega)]; unfold bd; rw [if_pos ⟨hk2, rfl⟩]
    rw [elg] at hF
    rw [hF (by rw [e]; decide), e]
   ·have e : lg1 bs cs tot ⟨(p' : Int), 0⟩ all = (r2, all ++ List.replicate t w) := by
     rw [elg, if_pos hk2, decide_eq_false (by rw [List.length_append, List.length_replicate]; omega)]; unfold bd; rw [if_neg (fun h => by cases h.2)]
    rw [e] at hgo
    exact hgo hk2 a' c' h'' H4 B4 P4 N4
  have n2 := yJ (bs := bs) (n := 2) (r := r1)
  have nn3 := yJ (bs := bs) (n := 3) (r := r1)
  have n7 := yJ (bs := bs) (n := 7) (r := r1)
  have q2 : (2 : Int) ^ 2 = 4 := by decide
  have q3 : (2 : Int) ^ 3 = 8 := by decide
  have q7 : (2 : Int) ^ 7 = 128 := by decide
  refine ⟨fun h16 => ⟨fun h0 => ?_, fun h0 => ?_⟩, fun h16 => ⟨fun h17 => ?_, fun h17 => ⟨fun h18 => ?_, fun h18 _ _ _ => ?_⟩⟩⟩
  ·obtain rfl : x = 16 := beq_iff_eq.1 h16
   have hall : all.length = 0 := by have : (all.length : Int) = 0 := beq_iff_eq.1 h0; omega
   refine H2.fail hi G ?_
   have e1 : (rp bs r1 all 16).1.k = 3 := by
    unfold rp
    rw [if_pos rfl]
    have eb : bd (all.length == 0) r1 = ⟨r1.i, 3⟩ := by unfold bd; rw [if_pos ⟨hk1, by rw [hall]; rfl⟩]
    rw [eb]; unfold tk; rw [if_neg (by simp)]
   have e2 : (lg1 bs cs tot ⟨(p' : Int), 0⟩ all).1.k = 3 := by
    rw [elg]; simp only; unfold bd; rw [if_neg (fun h => by rw [e1] at h; cases h.1)]; exact e1
   rw [hF (by rw [e2]; decide), e2]
  ·obtain rfl : x = 16 := beq_iff_eq.1 h16
   have hall : all.length ≠ 0 := fun e => by rw [e] at h0; cases h0
   have wl : IntKind.i64.wrap ((all.length : Int) - 1) = ((all.length - 1 : Nat) : Int) := by rw [i64_in _ (by omega)]; omega
   have wt : IntKind.i64.wrap ((tk bs 2 r1).2 + 3) = (((tk bs 2 r1).2 + 3).toNat : Int) := by rw [i64_in _ (by omega)]; omega
   obtain ⟨_, _, ei, _, gi⟩ := P1.ints
   cases ei
   have g? : all[all.length - 1]? = some (all.getD (all.length - 1) 0) := by simp [List.getD, List.getElem?_eq_getElem (show all.length - 1 < all.length by omega)]
   obtain ⟨g1, g2⟩ := gi.cell g?
   have eb : bd (all.length == 0) r1 = r1 := by unfold bd; rw [if_neg (fun h => hall (by simpa using h.2))]
   rw [wl]
   refine ⟨by simpa using g2, by omega, by omega, _, by simp only [Int.toNat_natCast, Nat.mul_one, add_add, Nat.add_zero]; exact g1, ?_⟩
   refine (B9 hi G hx L ok1 H2 2 (by omega)).mono ?_
   rintro _ h2 ⟨rfl, H3, O3⟩
   have P3 := NM.keep (AB N) P1 O3
   have B3 := B1.oth O3 H3.sb
   refine ⟨_, rfl, fun p hp => ?_, fun _ => ?_⟩
   ·obtain rfl := List.mem_singleton.1 hp
    obtain ⟨_, _, ei, _, gi3⟩ := P3.ints
    cases ei
    obtain ⟨g3, _⟩ := gi3.cell g?
    simp only [Ex.ev, coerce, toInt_int, zn, zu, zo, zg, arith, Cst.val, List.getD_cons_zero, List.getD_cons_succ, wl, Int.toNat_natCast, Nat.mul_one]
    exact g3
   ·rw [wt]
    refine fin (tk bs 2 r1).1 _ _ h2 ?_ (by omega) H3 B3 P3 _ _ _
    unfold rp
    rw [if_pos rfl, eb]
  ·obtain rfl : x = 17 := beq_iff_eq.1 h17
   have wt : IntKind.i64.wrap ((tk bs 3 r1).2 + 3) = (((tk bs 3 r1).2 + 3).toNat : Int) := by rw [i64_in _ (by omega)]; omega
   refine (B9 hi G hx L ok1 H2 3 (by omega)).mono ?_
   rintro _ h2 ⟨rfl, H3, O3⟩
   refine ⟨_, rfl, fun _ _ => ?_⟩
   rw [wt]
   refine fin (tk bs 3 r1).1 _ _ h2 ?_ (by omega) H3 (B1.oth O3 H3.sb) (NM.keep (AB N) P1 O3) _ _ _
   unfold rp
   rw [if_neg (by decide), if_pos rfl]
  ·obtain rfl : x = 18 := beq_iff_eq.1 h18
   have wt : IntKind.i64.wrap ((tk bs 7 r1).2 + 11) = (((tk bs 7 r1).2 + 11).toNat : Int) := by rw [i64_in _ (by omega)]; omega
   refine (B9 hi G hx L ok1 H2 7 (by omega)).mono ?_
   rintro _ h2 ⟨rfl, H3, O3⟩
   refine ⟨_, rfl, fun _ _ _ => ?_⟩
   rw [wt]
   refine fin (tk bs 7 r1).1 _ _ h2 ?_ (by omega) H3 (B1.oth O3 H3.sb) (NM.keep (AB N) P1 O3) _ _ _
   unfold rp
   rw [if_neg (by decide), if_neg (by decide), if_pos rfl]
  ·refine fin r1 1 x h1 ?_ (by omega) H2 B1 P1 _ _ _
   unfold rp
   rw [if_neg (by simpa using h16), if_neg (by simpa using h17), if_neg (by simpa using h18)]
   rfl
end
end
section
variable {S : Shared} {h h0 : Eng.Heap}
section
variable {b1 b2 bm : Nat} {a : Option Addr} {c : Nat} {bs : List Int} {m : MC} {T T1 T2 : TypeId} {r : Rd}
theorem HI {xs : List Int} (hok : hok xs) : ∀ c ∈ zr xs, c.1 ≤ 15 := fun c hc => by
 obtain ⟨j, hj⟩ := List.getElem?_of_mem hc
 have hj2 : j < (yz xs).length := by rw [wX, ← xh]; exact (List.getElem?_eq_some_iff.1 hj).1
 obtain ⟨l, b, _, h2, h3, _⟩ := jP hok (List.getElem?_eq_getElem hj2)
 rw [hj] at h2
 have := Option.some.inj h2
 rw [this]; exact h3
theorem Tt (hi : Eng.Inv S h0) (G : Errs h0) (hx : zq h0 .u8 a bs) (L : bs.length ≤ 1048576) (H : LS h0 h b1 b2 bm a c bs m T T1 T2 r) {xs : List Int} {bc : Nat} {Tc : TypeId} (hbc : h bc = some (.cells (ints .i64 xs) Tc)) (hxl : xs.length = 19) {n3 n5 : Nat} (h3 : n3 < 32) (h5 : n5 < 32)
  (K0 K1 : Kt) (e0 e4 e6 e7 e8 e10 : Value) :
  mlC.wp Tryz.prog S jf (qB h0 bm a c bs m T (DQ (n3 + 257) (lg bs (zr xs) (n3 + 257 + (n5 + 1)) (bd (zp xs != 1) r) []).1 (lg bs (zr xs) (n3 + 257 + (n5 + 1)) (bd (zp xs != 1) r) []).2)) [e0, .pointer (some ⟨b1, 0, none⟩), .pointer (some ⟨b2, 0, none⟩), .int .i64 n3, e4, .int .i64 n5, e6, e7, e8, .slice (some ⟨bc, 0, none⟩) 19 19, e10] h [K0, K1] := by
 have w3 : IntKind.i64.wrap ((n3 : Int) + 257) = ((n3 + 257 : Nat) : Int) := by rw [i64_in _ (by omega)]; omega
 have w5 : IntKind.i64.wrap ((n5 : Int) + 1) = ((n5 + 1 : Nat) : Int) := by rw [i64_in _ (by omega)]; omega
 have wt : IntKind.i64.wrap (((n3 + 257 : Nat) : Int) + ((n5 + 1 : Nat) : Int)) = ((n3 + 257 + (n5 + 1) : Nat) : Int) := by rw [i64_in _ (by omega)]; omega
 simp only [mlC, Tr.wp, zX, Ex.ev, coerce, toInt_int, zf, zn, zu, zo, zg, zB, ya, arith, Cst.val, SV.den, z6, yl, zU, zt, zk, zG, ym, zy, zY, List.flatMap_cons, List.flatMap_nil, List.getD_cons_zero, List.getD_cons_succ, decide_eq_true_eq, decide_eq_false_iff_not, List.map_cons, List.map_nil, List.cons_append, List.nil_append, List.append_nil, Nat.add_zero, and_true, if_false, Bool.false_eq_true, zj, w3, w5, wt]
 obtain ⟨tot, htot⟩ : ∃ tot, tot = n3 + 257 + (n5 + 1) := ⟨_, rfl⟩
 rw [← htot]
 have gi : zq h .i64 (some ⟨bc, 0, none⟩) xs := Lt hbc
 refine ⟨zP r.k, za, xP H.c2, fun hz => ?_, fun hz => ?_⟩
 ·rw [za, zx] at hz
  have hk : r.k ≠ 0 := by simpa using hz
  have e1 : bd (zp xs != 1) r = r := by unfold bd; rw [if_neg (fun h => hk h.1)]
  have e2 : DQ (n3 + 257) (lg bs (zr xs) tot (bd (zp xs != 1) r) []).1 (lg bs (zr xs) tot (bd (zp xs != 1) r) []).2 = (r, [], []) := by
   rw [e1, jQ (fun h => hk h.1)]; exact if_neg hk
  rw [e2]
  refine ⟨zP r.k, za, xP H.c2, Bj H.c2 (fun hs => hi b2 hs H.n2), zP r.k, za, ?_, ?_⟩
  ·rw [za, jc H.c2]; exact xP upd_same
  ·rw [za, jc H.c2]
   have H' := H.err (r' := r) (fun h => ⟨h, rfl⟩)
   exact H'.bad hk rfl
 ·rw [za, zx] at hz
  have hk : r.k = 0 := by simpa using hz
  have kh := kK (S := S) (hi.sub H.sb) (some ⟨bc, 0, none⟩) 19 xs gi
  rw [hxl] at kh
  refine kh.mono ?_
  rintro _ hq ⟨rfl, rfl⟩
  refine ⟨_, rfl, fun hne => ?_, fun heq => ?_⟩
  ·have hne : (zp xs != 1) = true := hne
   have e1 : bd (zp xs != 1) r = ⟨r.i, 3⟩ := by unfold bd; rw [if_pos ⟨hk, hne⟩]
   have e2 : DQ (n3 + 257) (lg bs (zr xs) tot (bd (zp xs != 1) r) []).1 (lg bs (zr xs) tot (bd (zp xs != 1) r) []).2 = (⟨r.i, 3⟩, [], []) := by
    rw [e1, jQ (fun h => by cases h.1)]; exact if_neg (by simp)
   rw [e2]
   exact H.fail hi G rfl
  ·have hk1 : zp xs = 1 := by simpa using heq
   have e1 : bd (zp xs != 1) r = r := by unfold bd; rw [if_neg (fun h => by rw [hk1] at h; cases h.2)]
   rw [e1]
   obtain ⟨_, hok⟩ := jA (xs := xs) (by rw [hk1]; decide)
   have O : tI.O hq (.slice (some ⟨bc, 0, none⟩) 19 19) xs := Ls hbc hxl
   have kt := An (S := S) (hi.sub H.sb) (some ⟨bc, 0, none⟩) 19 xs (by rw [hxl]; exact O) (by show List.length _ ≤ _; omega) (by rw [hk1]; decide)
   rw [hxl] at kt
   refine kt.mono ?_
   rintro _ h6 ⟨bt, TT, PP, a2, c2, rfl, TV, hTl⟩
   have hcl : (zr xs).length = 19 := by rw [xh, hxl]
   rw [← hcl] at TV
   have H6 := H.sub TV.sb
   obtain ⟨p', hp, hm, _⟩ := H.mt
   have B6 : Tb h0 h6 b1 b2 bm bt TT PP a2 c2 (zr xs) := ⟨⟨TV.hb, TV.ow, fun y hy => yg H.sb (TV.nw y hy), yg H.sb TV.nb, TV.ne, TV.ti, H.sb.trans TV.sb⟩,
    ⟨fun e => (by have := TV.nb; rw [e, H.c1] at this; cases this), fun e => (by have := TV.nb; rw [e, H.c2] at this; cases this), fun e => (by have := TV.nb; rw [e, hm] at this; cases this)⟩,
    fun z hz => ⟨fun e => (by have := TV.nw z hz; rw [e, H.c1] at this; cases this), fun e => (by have := TV.nw z hz; rw [e, H.c2] at this; cases this), fun e => (by have := TV.nw z hz; rw [e, hm] at this; cases this)⟩⟩
   refine ⟨_, rfl, ?_⟩
   intro b hb
   have sb : Eng.Sub h6 (upd h6 b (.cells (ints .i64 []) 2)) := Sub.zL hb
   refine ⟨fun us h' => ∃ (r' : Rd) (all' : List Int) (a' : Option Addr) (c' : Nat), us = [.slice a' all'.length c'] ∧ r'.k = 0 ∧ LS h0 h' b1 b2 bm a c bs m T T1 T2 r' ∧ Tb h0 h' b1 b2 bm bt TT PP a2 c2 (zr xs) ∧ Part .i64 h' (.slice a' all'.length c') all' ∧ Eng.New (mkT h0 b1 b2 bm bt a2 TT.length c2) (.slice a' all'.length c') ∧ all'.length ≤ tot ∧ lg bs (zr xs) tot r [] = lg bs (zr xs) tot r' all',
    fun us _ => tot - slL (us.getD 0 undef), ⟨r, [], _, _, rfl, hk, H6.sub sb, B6.sub sb, (Own.made (k := .i64) (h := h6) (b := b) (T := 2) []).part, B6.new H6 hb, by simp, rfl⟩, ?_⟩
   rintro a1 l1 c1 h' ⟨r', all', a', c', hx1, hk', H', B', P', N', hl', hlg⟩
   simp only [List.cons.injEq, Value.slice.injEq, and_true] at hx1
   obtain ⟨rfl, rfl, rfl⟩ := hx1
   rw [hlg]
   refine ⟨fun hlt => ?_, fun hge => ?_⟩
   ·have hlt : all'.length < n3 + 257 + (n5 + 1) := by omega
    have len := Cq (bs := bs) (cs := zr xs) (tot := tot) (r := r') (all := all')
    have st := E3 (bs := bs) (cs := zr xs) (tot := tot) (r := r') (all := all') ⟨hk', by omega⟩
    rw [st]
    refine Ts hi G hx L H' hk' B' (HI hok) hTl (by omega) P' N' h3 h5 hlt (fun hk2 => ?_) K0 K1 _ _ _ _ (fun hk2 a' c' h'' H2 B2 P2 N2 => ?_) _ _ _ _ _ _ _ _ _ _
    ·rw [← htot] at hk2 ⊢
     rw [jQ (fun h => hk2 h.1)]
     have e3 : DQ (n3 + 257) (lg1 bs (zr xs) tot r' all').1 (lg1 bs (zr xs) tot r' all').2 = ((lg1 bs (zr xs) tot r' all').1, [], []) := if_neg hk2
     rw [e3]
    ·rw [← htot] at hk2 H2 P2 N2 ⊢
     exact ⟨⟨_, _, a', c', rfl, hk2, H2, B2, P2, N2, (len.2.2 hk2).2, rfl⟩, by simp only [List.getD_cons_zero, zn]; have := len.2.2 hk2; omega⟩
   ·have hnl : ¬ (r'.k = 0 ∧ all'.length < tot) := fun h => hge (by omega)
    rw [jQ hnl]
    have e6 : ((n3 : Int) + 257).toNat = n3 + 257 := by omega
    have K := Tp hi G H' hk' P' (AB N') (x3 := (n3 : Int)) ⟨by omega, by omega⟩ (by omega) K0 K1
    rw [e6] at K
    exact K _ _ _ _ _ _ _ _ _ _ _ _ _ _ _ _ _
theorem Sr {r0 : Rd} {n3 n5 : Nat} (e3 : (tk bs 5 r0).2 = (n3 : Int)) (e5 : (tk bs 5 (j0 bs r0)).2 = (n5 : Int)) :
  DQ (n3 + 257) (lg bs (zr (jG bs r0).2) (n3 + 257 + (n5 + 1)) (bd (zp (jG bs r0).2 != 1) (jG bs r0).1) []).1 (lg bs (zr (jG bs r0).2) (n3 + 257 + (n5 + 1)) (bd (zp (jG bs r0).2 != 1) (jG bs r0).1) []).2 = yo bs r0 := by
 have h1 : Bi bs r0 = n3 + 257 := by unfold Bi; rw [e3]; omega
 have h2 : E4 bs r0 = n5 + 1 := by unfold E4; rw [e5]; omega
 have : yo bs r0 = DQ (Bi bs r0) (qe bs r0).1 (qe bs r0).2 := rfl
 rw [this]; unfold qe Gx; rw [h1, h2]
theorem Tu (hi : Eng.Inv S h0) (G : Errs h0) (hx : zq h0 .u8 a bs) (L : bs.length ≤ 1048576) {r0 : Rd} (ok : okR bs r0) (H : LS h0 h b1 b2 bm a c bs m T T1 T2 (wC bs r0)) {n3 n5 : Nat} (e3 : (tk bs 5 r0).2 = (n3 : Int)) (e5 : (tk bs 5 (j0 bs r0)).2 = (n5 : Int))
  (e0 e4 e6 : Value) :
  ml3.wp Tryz.prog S jf (qB h0 bm a c bs m T (yo bs r0)) [e0, .pointer (some ⟨b1, 0, none⟩), .pointer (some ⟨b2, 0, none⟩), .int .i64 n3, e4, .int .i64 n5, e6] h [] := by
 obtain ⟨ok0, ok1, ok2, ok3, ok4⟩ := Hc ok
 have n1 := yJ (bs := bs) (n := 5) (r := r0)
 have n2 := yJ (bs := bs) (n := 5) (r := j0 bs r0)
 have nn := yJ (bs := bs) (n := 4) (r := wC bs r0)
 have q5 : (2 : Int) ^ 5 = 32 := by decide
 have q4 : (2 : Int) ^ 4 = 16 := by decide
 have w3 : IntKind.i64.wrap ((tk bs 4 (wC bs r0)).2 + 4) = (((tk bs 4 (wC bs r0)).2.toNat + 4 : Nat) : Int) := by rw [i64_in _ (by omega)]; omega
 simp only [ml3, Tr.wp, Ff, zX, Ex.ev, coerce, toInt_int, zf, zn, zo, zg, yF, ya, arith, Cst.val, SV.den, z6, yl, zU, zt, zk, yw, zG, ym, zy, List.flatMap_cons, List.flatMap_nil, List.getD_cons_zero, List.getD_cons_succ, List.getElem?_cons_zero, decide_eq_true_eq, decide_eq_false_iff_not, List.map_cons, List.map_nil, List.cons_append, List.nil_append, List.append_nil, Nat.zero_add, Nat.add_zero, and_true, if_false, Bool.false_eq_true, zj]
 refine (B9 hi G hx L ok1 H 4 (by omega)).mono ?_
 rintro _ h1 ⟨rfl, H1, O1⟩
 refine ⟨_, rfl, ?_⟩
 rw [w3]
 intro b8 hb8
 have w19 : IntKind.i64.wrap 19 = 19 := i64_in _ (by omega)
 have t19 : (19 : Int).toNat = 19 := rfl
 have hs8 : ¬ S b8 := fun hs => hi b8 hs (yg H1.sb hb8)
 refine ES hs8 _ 0 _ _ upd_same (by simp) ?_
 rw [yR, w19, t19]
 obtain ⟨T8, hT8⟩ : ∃ T8 : TypeId, T8 = 241 := ⟨_, rfl⟩
 obtain ⟨h2, hh2⟩ : ∃ h2, h2 = upd h1 b8 (.cells (ints .i64 (ord.map Int.ofNat)) 241) := ⟨_, rfl⟩
 have eo : upd h1 b8 (.cells (qb (List.replicate 19 (Value.int .i64 0)) (0 + 0) [Value.int .i64 16, Value.int .i64 17, Value.int .i64 18, Value.int .i64 0, Value.int .i64 8, Value.int .i64 7, Value.int .i64 9, Value.int .i64 6, Value.int .i64 10, Value.int .i64 5, Value.int .i64 11, Value.int .i64 4, Value.int .i64 12, Value.int .i64 3, Value.int .i64 13, Value.int .i64 2, Value.int .i64 14, Value.int .i64 1, Value.int .i64 15]).toArray 241) = h2 := by rw [hh2]; rfl
 rw [eo]
 have s2 : Eng.Sub h1 h2 := by rw [hh2]; exact Sub.zL hb8
 have h28 : h2 b8 = some (.cells (ints .i64 (ord.map Int.ofNat)) 241) := by rw [hh2, upd_same]
 have H2 := H1.sub s2
 clear eo hh2 hT8
 refine ⟨by omega, by omega, by decide, fun b hb => ?_⟩
 rw [Nat.mul_one, qZ]
 have sb : Eng.Sub h2 (upd h2 b (.cells (ints .i64 (List.replicate 19 0)) 2)) := Sub.zL hb
 have hne8 : b8 ≠ b := fun e => by rw [← e, h28] at hb; cases hb
 have N : Eng.New (mk2 h0 b1 b2 bm) (.slice (some ⟨b, 0, none⟩) 19 19) := H2.new hb
 obtain ⟨nb1, nb2, nb3, nb4⟩ := ks (N b rfl)
 have N8 := H1.free hb8
 obtain ⟨n81, n82, n83, _⟩ := ks N8
 have hsb : ¬ S b := fun hs => hi b hs nb4
 generalize hr2 : (tk bs 4 (wC bs r0)).1 = r2 at H1 H2
 generalize hn : (tk bs 4 (wC bs r0)).2.toNat + 4 = n
 have hn19 : n ≤ 19 := by omega
 have okr2 : okR bs r2 := hr2 ▸ jF ok1
 refine ⟨fun us h' => ∃ (j : Nat), us = [.int .i64 j] ∧ j ≤ n ∧ h' b = some (.cells (ints .i64 (sm bs r2 j).2) 2) ∧ h' b8 = some (.cells (ints .i64 (ord.map Int.ofNat)) 241) ∧ LS h0 h' b1 b2 bm a c bs m T T1 T2 (sm bs r2 j).1, fun us _ => n - (toInt (us.getD 0 undef)).toNat, ⟨0, rfl, by omega, upd_same, (upd_ne hne8).trans h28, H2.sub sb⟩, ?_⟩
 rintro y h' ⟨j, hx1, hj, hbj, h8j, HJ⟩
 simp only [List.cons.injEq, Value.int.injEq, true_and, and_true] at hx1
 subst hx1
 have okj : okR bs (sm bs r2 j).1 := Lx okr2
 refine ⟨fun hlt => ?_, fun hge => ?_⟩
 ·have hjn : j < n := by omega
  have hol := So j (by omega)
  have hc8 : ∀ {g : Eng.Heap}, g b8 = some (.cells (ints .i64 (ord.map Int.ofNat)) 241) → Eng.zb g ⟨b8, (j : Int).toNat * 1, none⟩ = some (.int .i64 ((ord.getD j 0 : Nat) : Int)) := fun hg => by
   simp only [Eng.zb, hg, Int.toNat_natCast, Nat.mul_one]
   simp [Eng.ints, -List.map_map, QR (show j < 19 by omega)]
  refine ⟨by omega, by omega, _, hc8 h8j, ?_⟩
  refine (B9 hi G hx L okj HJ 3 (by omega)).mono ?_
  rintro _ h3 ⟨rfl, H3, O3⟩
  have h83 := (O3 b8 n81 n82).trans h8j
  have hb3 := (O3 b nb1 nb2).trans hbj
  refine ⟨_, rfl, fun p hp => ?_, rfl, by omega, by omega, ?_⟩
  ·obtain rfl := List.mem_singleton.1 hp
   simp only [Ex.ev, coerce, toInt_int, zg, List.getD_cons_zero, List.getD_cons_succ, yN]
   exact hc8 h83
  ·rw [Int.toNat_natCast]
   refine Oy (i := ord.getD j 0) hb3 hsb (by rw [IY]; exact hol) ?_
   rw [show IntKind.i64.wrap ((j : Int) + 1) = ((j + 1 : Nat) : Int) by rw [i64_in _ (by omega)]; omega]
   refine ⟨⟨j + 1, rfl, by omega, upd_same, (upd_ne hne8).trans h83, ?_⟩, by simp only [List.getD_cons_zero, toInt_int, Int.toNat_natCast]; omega⟩
   refine H3.kept N (fun y hy hn => upd_ne fun e => hn (by rw [e]; rfl)) fun y o hy => ?_
   rw [upd_ne (fun e => by rw [e, nb4] at hy; cases hy)]
   exact H3.sb y o hy
 ·obtain rfl : j = n := by omega
  have e2 : sm bs r2 j = jG bs r0 := by unfold jG; rw [hr2, hn]
  rw [e2] at hbj HJ
  have hsl : (jG bs r0).2.length = 19 := by unfold jG; exact IY
  rw [← Sr e3 e5]
  exact Tt hi G hx L HJ hbj hsl (by omega) (by omega) _ _ _ _ _ _ _ _
theorem LS.Ss (hi : Eng.Inv S h0) (G : Errs h0) (H : LS h0 h b1 b2 bm a c bs m T T1 T2 r) {w : Bool} {K : Eng.Heap → Prop}
  (hK : ∀ h', LS h0 h' b1 b2 bm a c bs m T T1 T2 (bd w r) → K h') :
  ((yV (j4 (zP r.k)) && w) = true → ∃ x, zb h ⟨0, 0, none⟩ = some (Value.int .i64 x) ∧ xf S h ⟨b2, 0, none⟩ ∧ K (zw h ⟨b2, 0, none⟩ (.iface tCl (.agg (xq (.tuple (#[.int .i64 x] ++ xq (.tuple #[])))))))) ∧
  ((yV (j4 (zP r.k)) && w) = false → K h) := by
 rw [za, zx]
 refine ⟨fun hy => ?_, fun hn => ?_⟩
 ·simp only [Bool.and_eq_true, decide_eq_true_eq] at hy
  have e : bd w r = ⟨r.i, 3⟩ := by unfold bd; rw [if_pos hy]
  have e3 : (.iface tCl (.agg (xq (.tuple (#[.int .i64 3] ++ xq (.tuple #[]))))) : Value) = zP (3 : Int) := rfl
  refine ⟨3, (G.sub H.sb).e3, Bj H.c2 (fun hs => hi b2 hs H.n2), ?_⟩
  rw [e3, jc H.c2]
  rw [e] at hK
  exact hK _ (H.err (r' := ⟨r.i, 3⟩) (fun h => by cases h))
 ·have e : bd w r = r := by
   unfold bd; rw [if_neg (fun h => by rw [decide_eq_true h.1, h.2] at hn; cases hn)]
  rw [e] at hK
  exact hK _ H
theorem Qf (hi : Eng.Inv S h0) (G : Errs h0) (hx : zq h0 .u8 a bs) (L : bs.length ≤ 1048576) {r0 : Rd} (ok : okR bs r0) (H : LS h0 h b1 b2 bm a c bs m T T1 T2 (tk bs 5 (j0 bs r0)).1) {n3 n5 : Nat} (e3 : (tk bs 5 r0).2 = (n3 : Int)) (e5 : (tk bs 5 (j0 bs r0)).2 = (n5 : Int))
  (e0 e4 : Value) :
  ml2.wp Tryz.prog S jf (qB h0 bm a c bs m T (yo bs r0)) [e0, .pointer (some ⟨b1, 0, none⟩), .pointer (some ⟨b2, 0, none⟩), .int .i64 n3, e4, .int .i64 n5, zP (tk bs 5 (j0 bs r0)).1.k] h [] := by
 have n2 := yJ (bs := bs) (n := 5) (r := j0 bs r0)
 have q5 : (2 : Int) ^ 5 = 32 := by decide
 have w5 : IntKind.i64.wrap ((n5 : Int) + 1) = (n5 : Int) + 1 := i64_in _ (by omega)
 simp only [ml2, Tr.wp, Ex.ev, coerce, toInt_int, zf, zg, DC, ya, arith, Cst.val, zG, zy, zY, List.getD_cons_zero, List.getD_cons_succ, List.getElem?_cons_zero, List.map_cons, List.map_nil, List.cons_append, List.nil_append, Nat.add_zero, and_true, zj, w5]
 have := LS.Ss hi G H (w := decide ((n5 : Int) + 1 > 30)) (K := fun h' => ml3.wp Tryz.prog S jf (qB h0 bm a c bs m T (yo bs r0)) [e0, .pointer (some ⟨b1, 0, none⟩), .pointer (some ⟨b2, 0, none⟩), .int .i64 n3, e4, .int .i64 n5, zP (tk bs 5 (j0 bs r0)).1.k] h' [])
  (fun h' H' => by
   rw [← e5] at H'
   exact Tu hi G hx L ok H' e3 e5 _ _ _)
 rw [Bool.decide_eq_true]
 refine ⟨fun hy => ?_, fun hn _ => this.2 hn⟩
 obtain ⟨x, q1, q2, q3⟩ := this.1 hy
 exact ⟨x, q1, q2, fun _ => q3⟩
theorem Tv (hi : Eng.Inv S h0) (G : Errs h0) (hx : zq h0 .u8 a bs) (L : bs.length ≤ 1048576) {r0 : Rd} (ok : okR bs r0) (H : LS h0 h b1 b2 bm a c bs m T T1 T2 (tk bs 5 r0).1) {n3 : Nat} (e3 : (tk bs 5 r0).2 = (n3 : Int)) (e0 : Value) :
  ml1.wp Tryz.prog S jf (qB h0 bm a c bs m T (yo bs r0)) [e0, .pointer (some ⟨b1, 0, none⟩), .pointer (some ⟨b2, 0, none⟩), .int .i64 n3, zP (tk bs 5 r0).1.k] h [] := by
 obtain ⟨ok0, ok1, ok2, ok3, ok4⟩ := Hc ok
 have n1 := yJ (bs := bs) (n := 5) (r := r0)
 have n2 := yJ (bs := bs) (n := 5) (r := j0 bs r0)
 have q5 : (2 : Int) ^ 5 = 32 := by decide
 have w3 : IntKind.i64.wrap ((n3 : Int) + 257) = (n3 : Int) + 257 := i64_in _ (by omega)
 obtain ⟨n5, e5⟩ := Int.eq_ofNat_of_zero_le n2.1
 simp only [ml1, Tr.wp, zX, Ex.ev, coerce, toInt_int, zf, zg, DC, ya, arith, Cst.val, SV.den, z6, yl, zU, zt, zk, zG, zy, zY, List.flatMap_cons, List.flatMap_nil, List.getD_cons_zero, List.getD_cons_succ, List.getElem?_cons_zero, List.map_cons, List.map_nil, List.cons_append, List.nil_append, List.append_nil, Nat.add_zero, and_true, if_false, Bool.false_eq_true, zj, w3]
 obtain ⟨t1, t2⟩ := LS.Ss hi G H (w := decide ((n3 : Int) + 257 > 286)) (K := fun h' => LS h0 h' b1 b2 bm a c bs m T T1 T2 (bd (decide ((n3 : Int) + 257 > 286)) (tk bs 5 r0).1)) (fun _ h => h)
 have el : bd (decide ((n3 : Int) + 257 > 286)) (tk bs 5 r0).1 = j0 bs r0 := by rw [← e3]; rfl
 rw [el] at t1 t2
 rw [Bool.decide_eq_true]
 refine ⟨fun hy => ?_, fun hn _ => ?_⟩
 ·obtain ⟨x, q1, q2, q3⟩ := t1 hy
  refine ⟨x, q1, q2, fun _ => ?_⟩
  refine (B9 hi G hx L ok0 q3 5 (by omega)).mono ?_
  rintro _ h1 ⟨rfl, H1, O1⟩
  refine ⟨_, rfl, zP _, za, xP H1.c2, ?_⟩
  rw [e5]
  exact Qf hi G hx L ok H1 e3 e5 _ _
 ·have q3 := t2 hn
  refine (B9 hi G hx L ok0 q3 5 (by omega)).mono ?_
  rintro _ h1 ⟨rfl, H1, O1⟩
  refine ⟨_, rfl, zP _, za, xP H1.c2, ?_⟩
  rw [e5]
  exact Qf hi G hx L ok H1 e3 e5 _ _
theorem QU (hi : Eng.Inv S h0) (G : Errs h0) (hx : zq h0 .u8 a bs) (L : bs.length ≤ 1048576) (p : Nat) (hp : p ≤ 8 * bs.length) (M : MAt h0 h bm a c bs p m T) :
  zc Tryz.prog S ko #[.pointer (some ⟨bm, 0, none⟩)] h (qB h0 bm a c bs m T (yo bs ⟨p, 0⟩)) := by
 refine BM (vs := [.pointer (some ⟨bm, 0, none⟩)]) ⟨rfl, trivial⟩ (hi.sub M.sb) ?_
 simp only [wu, Tr.wp, zX, Ex.ev, coerce, toInt_int, zg, zB, Cst.val, SV.den, z6, yl, zU, zt, zk, yw, zG, zy, List.flatMap_cons, List.flatMap_nil, List.replicate_one, List.getD_cons_zero, List.getD_cons_succ, List.map_cons, List.map_nil, List.cons_append, List.nil_append, List.append_nil, Nat.add_zero, and_true, if_false, Bool.false_eq_true, zj]
 intro b1 hb1 b2 hb2
 have ok : okR bs ⟨(p : Int), 0⟩ := fun _ => ⟨by simp only; omega, by simp only; omega⟩
 have d12 : b1 ≠ b2 := fun e => by rw [← e, upd_same] at hb2; cases hb2
 have d1m : b1 ≠ bm := fun e => by rw [e, M.hb] at hb1; cases hb1
 have hb2' : h b2 = none := by rw [upd_ne (Ne.symm d12)] at hb2; exact hb2
 have d2m : b2 ≠ bm := fun e => by rw [e, M.hb] at hb2'; cases hb2'
 have H : LS h0 (upd (upd h b1 (.cells #[.pointer (some ⟨bm, 0, none⟩)] 101)) b2 (.cells #[.nilIface] 76)) b1 b2 bm a c bs m T 101 76 ⟨(p : Int), 0⟩ :=
  ⟨(upd_ne d12).trans upd_same, upd_same, ⟨p, hp, (upd_ne (Ne.symm d2m)).trans ((upd_ne (Ne.symm d1m)).trans M.hb), fun _ => rfl⟩, yg M.sb hb1, yg M.sb hb2', M.nb, d12, d1m, d2m, M.sb.trans ((Sub.zL hb1).trans (Sub.zL hb2))⟩
 have n1 := yJ (bs := bs) (n := 5) (r := ⟨(p : Int), 0⟩)
 obtain ⟨n3, e3⟩ := Int.eq_ofNat_of_zero_le n1.1
 refine (B9 hi G hx L ok H 5 (by omega)).mono ?_
 rintro _ h1 ⟨rfl, H1, O1⟩
 refine ⟨_, rfl, zP _, za, xP H1.c2, ?_⟩
 rw [e3]
 exact Tv hi G hx L ok H1 e3 _
end
end
end Go.Proofs.YteaonnfokkfnlaaGreatDoor
end
section
namespace Go.Proofs.YteaonnfokkfnlaaGreatDoor
open Go Go.Eng Go.ChangeShapes Go.WideShapes Go.ChangeAt Go.RowKit
theorem Ua : Tryz.prog.globalNamed "errors.errorType" = some 3 := by kernel_rfl
theorem Ub : (Tryz.prog.cutTypes.find? (·.1 == "internal/reflectlite.rtype")).map (·.2) = some tRt := by kernel_rfl
theorem OT : ((List.range Tryz.prog.types.size).filter fun t => Tryz.prog.rowNamed t [101, 114, 114, 111, 114]) = [tEr] := by kernel_rfl
theorem Uc : Tryz.prog.globalNamed "loop.example/s02972/impl.errShort" = some 4 := by kernel_rfl
theorem Ud : Tryz.prog.globalNamed "loop.example/s02972/impl.errBad" = some 0 := by kernel_rfl
theorem Ue : Tryz.prog.globalNamed "loop.example/s02972/impl.errLarge" = some 5 := by kernel_rfl
theorem Tw : (Tryz.prog.globals[(4 : Nat)]?).map (·.type) = some tCl := by kernel_rfl
theorem Tx : (Tryz.prog.globals[(0 : Nat)]?).map (·.type) = some tCl := by kernel_rfl
theorem Tz : (Tryz.prog.globals[(5 : Nat)]?).map (·.type) = some tCl := by kernel_rfl
theorem JO {W : World} {hs : List (String × DataW Unit)} (h : handlesMet Tryz.prog (("errors.errorType", Rows.laid_errors_errorType) :: hs) W) : CL (jE W) := by
 obtain ⟨name, u, ty, e1, e2, e3, e4, e5⟩ := h _ List.mem_cons_self
 have en : name = [101, 114, 114, 111, 114] := (Option.some.inj e1).symm
 subst en
 obtain rfl := Option.some.inj (Ub.symm.trans e2)
 have hm : ty ∈ (List.range Tryz.prog.types.size).filter fun t => Tryz.prog.rowNamed t [101, 114, 114, 111, 114] := List.mem_filter.2 ⟨List.mem_range.2 e3, e4⟩
 rw [OT] at hm
 obtain rfl := List.mem_singleton.1 hm
 have hh : typeHandle Tryz.prog tEr = hdl tEr := by kernel_rfl
 rw [hh] at e5
 have := World.var?_cell Ua e5 0
 exact this
theorem Uf : Tryz.prog.cellsOf tCl = 1 := by kernel_rfl
theorem TB : Tryz.prog.cellsOf 2 = 1 := by kernel_rfl
theorem Ao {W : World} {n : String} {g : Nat} {k : Int} (hg : Tryz.prog.globalNamed n = some g) (ht : (Tryz.prog.globals[g]?).map (·.type) = some tCl) {l : List (String × DataW Unit)} {ps : List MemPlace}
  (h : DataW.LaidVars Tryz.prog W ((n, .agg [.lit (.int .i64 k)]) :: l) ps) : zb (jE W) ⟨g, 0, none⟩ = some (.int .i64 k) ∧ ∃ q, DataW.LaidVars Tryz.prog W l q := by
 obtain ⟨g', t, cs, fuel, p, q, h1, h2, h3, h4, h5, _⟩ := h
 obtain rfl := Option.some.inj (hg.symm.trans h1)
 obtain rfl := Option.some.inj (ht.symm.trans h2)
 obtain ⟨y0, m, hx, hl, hy⟩ := trod_struct1 Tryz.underlying117 h4
 rw [Uf] at hl
 obtain ⟨cs⟩ := cs
 match cs, hl with
 | [c0], _ =>
  have hy' : DataW.trod (fun _ => ()) Tryz.prog W 0 (fun _ => true) false m 2 [c0] = some y0 := by
   simpa [TB] using hy
  obtain ⟨z, e1, e2, _⟩ := DataW.trod_int Tryz.underlying2 hy'
  have e1 : c0 = .int .i64 z := by simpa using e1
  subst e1
  subst e2
  simp only [Prod.mk.injEq, DataW.agg.injEq, List.cons.injEq, DataW.lit.injEq, Lit.int.injEq, true_and, and_true] at hx
  refine ⟨?_, q, h5⟩
  have := World.var?_cell hg h3 0
  rw [hx.1]
  exact this
noncomputable def MU (os : Os) : World :=
 let w0 := World.holding Tryz.prog os ⟨#[], #[], []⟩
 let put (g : Nat) (v : Value) (hp : Array Obj) : Array Obj := hp.modify g fun
   | .cells _ t frozen => .cells #[v] t frozen
   | o => o
 { w0 with heap := put 3 (rty tEr) (put 4 (.int .i64 2) (put 0 (.int .i64 3) (put 5 (.int .i64 6) w0.heap))) }
theorem DR {H : Type} {enc : TypeId × Value → H} {P : Program} {w : World} {spare : Nat → Bool} : ∀ {ns : List String} {gs : List (DataW H)} {ps : List MemPlace}, DataW.TrodVars enc P w spare ns gs ps → gs.length = ns.length
 | [], [], _, _ => rfl
 | [], _ :: _, _, h => h.elim
 | _ :: _, [], _, h => h.elim
 | n :: ns, d :: ds, ps, h => by
  obtain ⟨g, t, cs, fuel, p, q, h1, h2, h3, h4, hs, e⟩ := h
  rw [List.length_cons, List.length_cons, DR hs]
end Go.Proofs.YteaonnfokkfnlaaGreatDoor
end
section
namespace Go.Proofs.YteaonnfokkfnlaaGreatDoor
open Go Go.Eng Go.IntWalk
variable {S : Shared} {h : Eng.Heap} {v w : Value} {xs : List Int}
abbrev tB : Ty Value (List Int) := Sa .u8
def BS (xs : List Int) : Prop := xs.length ≤ 1048576
theorem Lz {h : Eng.Heap} {v : Value} {xs : List Int} (H : tB.R h v xs) : ∃ a c, v = .slice a xs.length c := by obtain ⟨a, c, rfl, _⟩ := H; exact ⟨a, c, rfl⟩
end Go.Proofs.YteaonnfokkfnlaaGreatDoor
end
section
namespace Go.Proofs.YteaonnfokkfnlaaGreatDoor
open Go Go.Eng Go.IntWalk
variable {S : Shared} {h h0 : Eng.Heap}
def bitsOf (x : Int) (n : Nat) : List Int := (List.range n).map fun i => x / 2 ^ i % 2
theorem xi {x : Int} {n : Nat} : (bitsOf x n).length = n := by simp [bitsOf]
theorem JP {x : Int} {n : Nat} : bitsOf x (n + 1) = bitsOf x n ++ [x / 2 ^ n % 2] := by simp [bitsOf, List.range_succ]
theorem DS {x : Int} {n : Nat} : ∀ b ∈ bitsOf x n, 0 ≤ b ∧ b ≤ 1 := fun b hb => by
 simp only [bitsOf, List.mem_map] at hb
 obtain ⟨i, _, rfl⟩ := hb
 omega
def qf (out : List Int) (n : Nat) (b : Int) : List Int :=
 (if n % 8 = 0 then out ++ [0] else out).set (n / 8) ((if n % 8 = 0 then out ++ [0] else out).getD (n / 8) 0 + b * 2 ^ (n % 8))
def pk (bs : List Int) : Nat → List Int
 | 0 => []
 | k + 1 => qf (pk bs k) k (bs.getD k 0)
theorem MV {out : List Int} {n : Nat} {b : Int} (h : out.length = (n + 7) / 8) : (qf out n b).length = (n + 1 + 7) / 8 := by
 unfold qf
 rw [List.length_set]
 split
 ·rw [List.length_append, h, List.length_singleton]; omega
 ·omega
theorem wE {bs : List Int} : ∀ {k : Nat}, (pk bs k).length = (k + 7) / 8
 | 0 => rfl
 | k + 1 => MV wE
theorem MW {bs cs : List Int} : ∀ {k : Nat}, k ≤ bs.length → pk (bs ++ cs) k = pk bs k
 | 0, _ => rfl
 | k + 1, h => by
  rw [pk, pk, MW (by omega)]
  congr 1
  rw [List.getD_eq_getElem?_getD, List.getD_eq_getElem?_getD, List.getElem?_append_left (by omega)]
def x8 (out : List Int) (n : Nat) : Int := (if n % 8 = 0 then out ++ [0] else out).getD (n / 8) 0
theorem MX {out : List Int} {n : Nat} (h : out.length = (n + 7) / 8) (h0 : n % 8 = 0) : x8 out n = 0 := by
 unfold x8
 rw [if_pos h0, List.getD_eq_getElem?_getD, List.getElem?_append_right (by omega), show n / 8 - out.length = 0 by omega]
 rfl
theorem F0 {bs : List Int} (hb : ∀ b ∈ bs, 0 ≤ b ∧ b ≤ 1) : ∀ {k : Nat}, 0 ≤ x8 (pk bs k) k ∧ x8 (pk bs k) k < 2 ^ (k % 8)
 | 0 => by simp [x8, pk]
 | k + 1 => by
  by_cases h0 : (k + 1) % 8 = 0
  ·rw [MX wE h0, h0]; decide
  ·have ih := F0 hb (k := k)
   have e8 : (k + 1) / 8 = k / 8 := by omega
   have em : (k + 1) % 8 = k % 8 + 1 := by omega
   have hbit : 0 ≤ bs.getD k 0 ∧ bs.getD k 0 ≤ 1 := by
    rw [List.getD_eq_getElem?_getD]
    cases hg : bs[k]? with
    | none => simp
    | some x => exact hb x (List.mem_of_getElem? hg)
   have hlen : k / 8 < (if k % 8 = 0 then pk bs k ++ [0] else pk bs k).length := by
    have := wE (bs := bs) (k := k)
    split
    ·rw [List.length_append, this, List.length_singleton]; omega
    ·omega
   have hp : x8 (pk bs (k + 1)) (k + 1) = x8 (pk bs k) k + bs.getD k 0 * 2 ^ (k % 8) := by
    unfold x8
    rw [if_neg h0, e8, pk]
    unfold qf
    rw [List.getD_eq_getElem?_getD, List.getElem?_set_self hlen]
    rfl
   rw [hp, em, show (2 : Int) ^ (k % 8 + 1) = 2 * 2 ^ (k % 8) by rw [Int.pow_succ]; omega]
   have hpp : (0 : Int) < 2 ^ (k % 8) := Int.pow_pos (by decide)
   rcases (show bs.getD k 0 = 0 ∨ bs.getD k 0 = 1 by omega) with h | h <;> rw [h] <;> omega
theorem Ug {n : Nat} : (2 : Int) ^ (n % 8) ≤ 128 := by
 have : n % 8 ≤ 7 := by omega
 have h := GY this
 have e : (2 : Int) ^ 7 = 128 := by decide
 omega
theorem TC {v : Int} {i : Nat} (b : Int) (h0 : 0 ≤ v) (h1 : v < 2 ^ i) (hb : 0 ≤ b ∧ b ≤ 1) (hi : i < 8) : Go.bits .or .u8 v (b * 2 ^ i) = v + b * 2 ^ i := by
 obtain ⟨n, rfl⟩ := Int.eq_ofNat_of_zero_le h0
 obtain ⟨m, rfl⟩ := Int.eq_ofNat_of_zero_le hb.1
 rw [y9] at h1 ⊢
 have hn : n < 2 ^ i := by exact_mod_cast h1
 have hm : m ≤ 1 := by omega
 have hp : 2 ^ i ≤ 2 ^ 7 := Nat.pow_le_pow_right (by decide) (by omega)
 have e7 : 2 ^ 7 = 128 := by decide
 have hle : m * 2 ^ i ≤ 2 ^ i := by have := Nat.mul_le_mul_right (2 ^ i) hm; omega
 have e : ((m : Int) * ((2 ^ i : Nat) : Int)) = ((m * 2 ^ i : Nat) : Int) := by push_cast; rfl
 have h1' : (BitVec.ofInt 8 (n : Int)).toNat = n := by rw [BitVec.ofInt_natCast, BitVec.toNat_ofNat]; exact Nat.mod_eq_of_lt (by omega)
 have h2' : (BitVec.ofInt 8 ((m * 2 ^ i : Nat) : Int)).toNat = m * 2 ^ i := by rw [BitVec.ofInt_natCast, BitVec.toNat_ofNat]; exact Nat.mod_eq_of_lt (by omega)
 have e2 := Nat.two_pow_add_eq_or_of_lt hn m
 rw [e]
 show IntKind.u8.wrap ((BitVec.ofInt 8 (n : Int) ||| BitVec.ofInt 8 ((m * 2 ^ i : Nat) : Int)).toNat : Int) = _
 rw [BitVec.toNat_or, h1', h2', Nat.or_comm, Nat.mul_comm m, ← e2, u8_in _ (by rw [Nat.mul_comm]; omega)]
 push_cast
 omega
def yk : List Int := (List.range 288).map fun s => if s < 144 then 8 else if s < 256 then 9 else if s < 280 then 7 else 8
theorem jB : yk.length = 288 := by simp [yk]
theorem Ja {s : Nat} (h : s < 288) : yk[s]? = some (if s < 144 then 8 else if s < 256 then 9 else if s < 280 then 7 else 8) := by simp [yk, h]
theorem MY : zp yk = 1 := by decide +kernel
theorem qS : ¬ (zp yk = 0 ∨ zp yk = 2) := by rw [MY]; decide
theorem Gy : xM yk = yz yk := by unfold xM; rw [if_neg qS]
theorem Jb : OD yk := by show yk.length ≤ 1048576; rw [jB]; omega
def yL (c : Nat) : List Int := bitsOf ((yz yk).getD c (0, 0)).2 ((yz yk).getD c (0, 0)).1.toNat
def xp (xs : List Int) : List Int := ([1, 1, 0] ++ xs.flatMap fun c => yL c.toNat) ++ yL 256
def yj (xs : List Int) : List Int := if xs.length > 100000 then [] else pk (xp xs) (xp xs).length
theorem A8 {c : Nat} (h : c < 288) : ∃ l b : Nat, (yz yk)[c]? = some ((l : Int), (b : Int)) ∧ l ≤ 15 ∧ b < 2 ^ l ∧ yL c = bitsOf b l := by
 have hok := (jA qS).2
 have hg := kC (xs := yk) (j := c) (by rw [jB]; exact h)
 obtain ⟨l, b, e, _, h1, h2⟩ := jP hok hg
 rw [e] at hg
 refine ⟨l, b, hg, h1, h2, ?_⟩
 unfold yL
 have e2 : (yz yk).getD c (0, 0) = ((l : Int), (b : Int)) := by rw [List.getD_eq_getElem?_getD, hg]; rfl
 rw [e2, Int.toNat_natCast]
theorem F1 {c : Nat} : ∀ b ∈ yL c, 0 ≤ b ∧ b ≤ 1 := DS
theorem DT {c : Nat} (h : c < 288) : (yL c).length ≤ 15 := by
 obtain ⟨l, b, _, h1, _, e⟩ := A8 h
 rw [e, xi]; exact h1
theorem Jc {xs : List Int} (hw : ∀ x ∈ xs, 0 ≤ x ∧ x ≤ 255) : (xs.flatMap fun c => yL c.toNat).length ≤ 15 * xs.length := by
 induction xs with
 | nil => simp
 | cons x r ih =>
  have h1 := hw x (List.mem_cons_self ..)
  have h2 := DT (c := x.toNat) (by omega)
  have h3 := ih fun y hy => hw y (List.mem_cons_of_mem _ hy)
  rw [List.flatMap_cons, List.length_append, List.length_cons]; omega
theorem QV {xs : List Int} : ∀ b ∈ xp xs, 0 ≤ b ∧ b ≤ 1 := fun b hb => by
 unfold xp at hb
 rcases List.mem_append.1 hb with h | h
 ·rcases List.mem_append.1 h with h | h
  ·simp at h; omega
  ·obtain ⟨c, _, hc⟩ := List.mem_flatMap.1 h
   exact F1 b hc
 ·exact F1 b h
theorem F2 {k : IntKind} {a : Option Addr} {l c : Nat} {xs : List Int} (H : Part k h (.slice a l c) xs) (hs : ∀ b, zi (.slice a l c) = some b → ¬ S b) {i : Nat} (hi : i < xs.length) (x : Int) :
  xf S h (((a.getD default).add (i * 1)).add 0) ∧ Part k (zw h (((a.getD default).add (i * 1)).add 0) (.int k x)) (.slice a l c) (xs.set i x) ∧ ∀ w, zi (.slice a l c) ≠ some w → zw h (((a.getD default).add (i * 1)).add 0) (.int k x) w = h w := by
 rcases H with ⟨_, rfl⟩ | ⟨b, pr, sp, re, T, e, hb⟩
 ·simp at hi
 ·cases e
  have hsb := hs b rfl
  have e1 : (((some (⟨b, pr.length, none⟩ : Addr)).getD default).add (i * 1)).add 0 = (⟨b, pr.length + i, none⟩ : Addr) := by
   rw [add_add, Option.getD_some, zj]; simp
  have hsz : pr.length + i < (ints k (pr ++ xs ++ sp ++ re)).size := by rw [Mz]; simp; omega
  rw [e1, jy hb, ints_set]
  have e2 : (pr ++ xs ++ sp ++ re).set (pr.length + i) x = pr ++ xs.set i x ++ sp ++ re := by
   rw [List.append_assoc, List.append_assoc, List.set_append_right _ _ (by omega), Nat.add_sub_cancel_left, List.set_append_left _ _ hi]
   simp [List.append_assoc]
  rw [e2]
  exact ⟨⟨⟨(ints k (pr ++ xs ++ sp ++ re))[pr.length + i], by simp [zb, hb]⟩, by simp [yx, hb], hsb⟩, .inr ⟨b, pr, sp, re, T, by simp, upd_same⟩, fun w hw => upd_ne fun e => hw (by rw [e]; rfl)⟩
theorem Jd (hi : Eng.Inv S h0) {h2 : Eng.Heap} {a : Option Addr} {c n : Nat} {out o2 : List Int} (ho2 : o2 = (if n % 8 = 0 then out ++ [0] else out)) (hlen : n / 8 < o2.length) (P : Part .u8 h2 (.slice a o2.length c) o2) (N : Eng.New h0 (.slice a o2.length c)) (s : Eng.Sub h0 h2) (b : Int) :
  xf S h2 (((a.getD default).add (n / 8 * 1)).add 0) ∧ Part .u8 (zw h2 (((a.getD default).add (n / 8 * 1)).add 0) (.int .u8 (x8 out n + b * 2 ^ (n % 8)))) (.slice a o2.length c) (qf out n b) ∧ Eng.Sub h0 (zw h2 (((a.getD default).add (n / 8 * 1)).add 0) (.int .u8 (x8 out n + b * 2 ^ (n % 8)))) ∧
   ∀ w, zi (.slice a o2.length c) ≠ some w → zw h2 (((a.getD default).add (n / 8 * 1)).add 0) (.int .u8 (x8 out n + b * 2 ^ (n % 8))) w = h2 w := by
 obtain ⟨g1, g2, g3⟩ := F2 P (fun b hb hs => hi b hs (N b hb)) hlen (x8 out n + b * 2 ^ (n % 8))
 refine ⟨g1, ?_, fun w o hw => ?_, g3⟩
 ·have e : qf out n b = o2.set (n / 8) (x8 out n + b * 2 ^ (n % 8)) := by unfold qf x8; rw [← ho2]
  rw [e]; exact g2
 ·by_cases hb : zi (.slice a o2.length c) = some w
  ·rw [N w hb] at hw; cases hw
  ·rw [g3 w hb]; exact s w o hw
theorem MZ {i : Nat} (h : i < 288) : yk.take (i + 1) = yk.take i ++ [if i < 144 then 8 else if i < 256 then 9 else if i < 280 then 7 else 8] := by
 rw [List.take_add_one, Ja h]; rfl
theorem DU {i : Nat} (h : i ≤ 288) : (yk.take i).length = i := by rw [List.length_take, jB]; omega
theorem OU : yk.take 288 = yk := by rw [List.take_of_length_le (by rw [jB]; omega)]
def hub (i : Nat) : List Int := yk.take i ++ List.replicate (288 - i) 0
theorem QW {i : Nat} (h : i ≤ 288) : (hub i).length = 288 := by unfold hub; rw [List.length_append, DU h, List.length_replicate]; omega
theorem QX {i : Nat} (h : i < 288) : (hub i).set i (if i < 144 then 8 else if i < 256 then 9 else if i < 280 then 7 else 8) = hub (i + 1) := by
 unfold hub
 rw [List.set_append_right _ _ (by rw [DU (by omega)]; omega), DU (by omega), Nat.sub_self, show 288 - i = (288 - (i + 1)) + 1 by omega, List.replicate_succ, List.set_cons_zero, MZ h, List.append_assoc]
 rfl
theorem QY : hub 288 = yk := by unfold hub; rw [OU]; simp
theorem OV : hub 0 = List.replicate 288 0 := by unfold hub; rw [List.take_zero, List.nil_append]
def OX : Tr := match kp with | .join _ _ t => t | t => t
theorem QZ : kp = .join [.slice, .slice, .slice, .slice]
 (.both
  (.mks 2 1 8 [(.int .i64 0)] (.cst (.int .i64 288)) (.cst (.int .i64 288))
  (.mks 2 1 8 [(.int .i64 0)] (.cst (.int .i64 32)) (.cst (.int .i64 32))
  (.cont 0 [(.var (.slice) 0), (.var (.slice) 1), (.var (.slice) 0), (.var (.slice) 1)])))
  (.mks 2 1 8 [(.int .i64 0)] (.cst (.int .i64 32)) (.cst (.int .i64 32))
  (.mks 2 1 8 [(.int .i64 0)] (.cst (.int .i64 288)) (.cst (.int .i64 288))
  (.cont 0 [(.var (.slice) 1), (.var (.slice) 0), (.var (.slice) 1), (.var (.slice) 0)])))) OX := rfl
theorem Na (hi : Eng.Inv S h) {a1 a2 : Option Addr} {c1 c2 : Nat} {h1 : Eng.Heap} (P1 : Part .i64 h1 (.slice a1 288 c1) (List.replicate 288 0)) (P2 : Part .i64 h1 (.slice a2 32 c2) (List.replicate 32 0)) (N1 : Eng.New h (.slice a1 288 c1)) (N2 : Eng.New h (.slice a2 32 c2)) (hn : ∀ z, zi (.slice a2 32 c2) = some z → zi (.slice a1 288 c1) ≠ some z) (s : Eng.Sub h h1) :
  OX.wp Tryz.prog S jf (fun v h' => ∃ a1 c1 a2 c2, v = .tuple #[.slice a1 288 c1, .slice a2 32 c2] ∧ Part .i64 h' (.slice a1 288 c1) yk ∧ Part .i64 h' (.slice a2 32 c2) (List.replicate 32 5) ∧ Eng.New h (.slice a1 288 c1) ∧ Eng.New h (.slice a2 32 c2) ∧ Eng.Sub h h') [.slice a1 288 c1, .slice a2 32 c2, .slice a1 288 c1, .slice a2 32 c2] h1 [] := by
 simp only [OX, kp, Tr.wp, Ex.ev, coerce, toInt_int, zf, zn, zu, zo, zg, yF, B0, ya, arith, Cst.val, SV.den, ym, zY, List.getD_cons_zero, List.getD_cons_succ, List.getElem?_cons_zero, List.getElem?_cons_succ, decide_eq_true_eq, decide_eq_false_iff_not, List.map_cons, List.map_nil, List.cons_append, List.nil_append, if_false, Bool.false_eq_true]
 have ns1 : ∀ b, zi (.slice a1 288 c1) = some b → ¬ S b := fun z hz hs => hi z hs (N1 z hz)
 have ns2 : ∀ b, zi (.slice a2 32 c2) = some b → ¬ S b := fun z hz hs => hi z hs (N2 z hz)
 refine ⟨fun us h' => ∃ i : Nat, us = [.int .i64 i] ∧ i ≤ 288 ∧ Part .i64 h' (.slice a1 288 c1) (hub i) ∧ Part .i64 h' (.slice a2 32 c2) (List.replicate 32 0) ∧ Eng.Sub h h', fun us _ => 288 - (toInt (us.getD 0 undef)).toNat, ⟨0, rfl, by omega, by rw [OV]; exact P1, P2, s⟩, ?_⟩
 rintro x h' ⟨i, hx, hi2, P1, P2, s⟩
 obtain rfl : x = i := by simpa using hx
 refine ⟨fun hlt => ?_, fun hge => ?_⟩
 ·have hi3 : i < 288 := by omega
  have w4 : IntKind.i64.wrap ((i : Int) + 1) = ((i + 1 : Nat) : Int) := by rw [i64_in _ (by omega)]; omega
  have hl := QW hi2
  have step : ∀ v : Int, v = (if i < 144 then 8 else if i < 256 then 9 else if i < 280 then 7 else 8) →
    ((!a1.isNone) = true ∧ 0 ≤ (i : Int) ∧ (i : Int) < ((288 : Nat) : Int) ∧ xf S h' (((a1.getD default).add ((i : Int).toNat * 1)).add 0)) ∧
    ∃ i2 : Nat, [Value.int .i64 ((i + 1 : Nat) : Int)] = [.int .i64 i2] ∧ i2 ≤ 288 ∧ Part .i64 (zw h' (((a1.getD default).add ((i : Int).toNat * 1)).add 0) (.int .i64 v)) (.slice a1 288 c1) (hub i2) ∧ Part .i64 (zw h' (((a1.getD default).add ((i : Int).toNat * 1)).add 0) (.int .i64 v)) (.slice a2 32 c2) (List.replicate 32 0) ∧ Eng.Sub h (zw h' (((a1.getD default).add ((i : Int).toNat * 1)).add 0) (.int .i64 v)) := by
   intro v hv
   obtain ⟨g1, g2, g3⟩ := F2 P1 ns1 (i := i) (by omega) v
   rw [hv, QX hi3, ← hv] at g2
   obtain ⟨a', c', e, _, hxx⟩ := P1.ints
   simp only [Value.slice.injEq] at e
   obtain ⟨rfl, _, rfl⟩ := e
   have ha := (hxx.cell (List.getElem?_eq_getElem (show i < (hub i).length by omega))).2
   refine ⟨⟨by simpa using ha, by omega, by omega, g1⟩, i + 1, rfl, by omega, g2, ?_, fun y o hy => ?_⟩
   ·exact P2.keep fun z hz => g3 z (hn z hz)
   ·by_cases hb : zi (.slice a1 288 c1) = some y
    ·rw [N1 y hb] at hy; cases hy
    ·exact (g3 y hb).trans (s y o hy)
  have meas : (fun us (_ : Eng.Heap) => 288 - (toInt (us.getD 0 undef)).toNat) [Value.int .i64 ((i + 1 : Nat) : Int)] h' < (fun us (_ : Eng.Heap) => 288 - (toInt (us.getD 0 undef)).toNat) [Value.int .i64 (i : Int)] h' := by
   show 288 - (toInt (Value.int .i64 ((i + 1 : Nat) : Int))).toNat < 288 - (toInt (Value.int .i64 (i : Int))).toNat
   rw [toInt_int, toInt_int]; omega
  rw [w4]
  refine ⟨fun hc => ?_, fun hc => ⟨fun hc2 => ?_, fun hc2 => ?_⟩⟩
  ·have hc : (i : Int) < 144 ∨ (i : Int) ≥ 280 := by simpa using hc
   obtain ⟨⟨q1, q2, q3, q4⟩, q5⟩ := step 8 (by repeat' split <;> omega)
   exact ⟨q1, q2, q3, q4, fun _ => ⟨q5, meas⟩⟩
  ·have hc : ¬ ((i : Int) < 144 ∨ (i : Int) ≥ 280) := by simpa using hc
   obtain ⟨⟨q1, q2, q3, q4⟩, q5⟩ := step 9 (by repeat' split <;> omega)
   exact ⟨q1, q2, q3, q4, fun _ _ => ⟨q5, meas⟩⟩
  ·have hc : ¬ ((i : Int) < 144 ∨ (i : Int) ≥ 280) := by simpa using hc
   obtain ⟨⟨q1, q2, q3, q4⟩, q5⟩ := step 7 (by repeat' split <;> omega)
   exact ⟨q1, q2, q3, q4, fun _ _ => ⟨q5, meas⟩⟩
 ·obtain rfl : i = 288 := by omega
  rw [QY] at P1
  refine ⟨fun us h' => ∃ i : Nat, us = [.int .i64 i] ∧ i ≤ 32 ∧ Part .i64 h' (.slice a1 288 c1) yk ∧ Part .i64 h' (.slice a2 32 c2) (List.replicate i 5 ++ List.replicate (32 - i) 0) ∧ Eng.Sub h h', fun us _ => 32 - (toInt (us.getD 0 undef)).toNat, ⟨0, rfl, by omega, P1, P2, s⟩, ?_⟩
  rintro x h' ⟨i, hx, hi2, P1, P2, s⟩
  obtain rfl : x = i := by simpa using hx
  have hl : (List.replicate i (5 : Int) ++ List.replicate (32 - i) 0).length = 32 := by rw [List.length_append, List.length_replicate, List.length_replicate]; omega
  refine ⟨fun hlt => ?_, fun hge => ?_⟩
  ·have hi3 : i < 32 := by omega
   have w4 : IntKind.i64.wrap ((i : Int) + 1) = ((i + 1 : Nat) : Int) := by rw [i64_in _ (by omega)]; omega
   rw [w4]
   obtain ⟨g1, g2, g3⟩ := F2 P2 ns2 (i := i) (by rw [hl]; omega) 5
   have es : (List.replicate i (5 : Int) ++ List.replicate (32 - i) 0).set i 5 = List.replicate (i + 1) 5 ++ List.replicate (32 - (i + 1)) 0 := by
    rw [List.set_append_right _ _ (by rw [List.length_replicate]; omega), List.length_replicate, Nat.sub_self, show 32 - i = (32 - (i + 1)) + 1 by omega, List.replicate_succ, List.set_cons_zero, List.replicate_succ', List.append_assoc]
    rfl
   rw [es] at g2
   obtain ⟨a', c', e, _, hxx⟩ := P2.ints
   simp only [Value.slice.injEq] at e
   obtain ⟨rfl, _, rfl⟩ := e
   have ha := (hxx.cell (List.getElem?_eq_getElem (show i < (List.replicate i (5 : Int) ++ List.replicate (32 - i) 0).length by omega))).2
   refine ⟨by simpa using ha, by omega, by omega, g1, ⟨i + 1, rfl, by omega, ?_, g2, fun y o hy => ?_⟩, ?_⟩
   ·exact P1.keep fun z hz => g3 z fun e => hn z e hz
   ·by_cases hb : zi (.slice a2 32 c2) = some y
    ·rw [N2 y hb] at hy; cases hy
    ·exact (g3 y hb).trans (s y o hy)
   ·show 32 - (toInt (Value.int .i64 ((i + 1 : Nat) : Int))).toNat < 32 - (toInt (Value.int .i64 (i : Int))).toNat
    rw [toInt_int, toInt_int]; omega
  ·obtain rfl : i = 32 := by omega
   exact ⟨_, _, _, _, rfl, P1, by simpa using P2, N1, N2, s⟩
theorem CM {b : Nat} {T : TypeId} (n : Nat) : Own .i64 (upd h b (.cells (ints .i64 (List.replicate n 0)) T)) (.slice (some ⟨b, 0, none⟩) n n) (List.replicate n 0) := by
 have := Own.made (k := .i64) (h := h) (b := b) (T := T) (List.replicate n 0)
 rwa [List.length_replicate] at this
theorem EY (hi : Eng.Inv S h) :
  zc Tryz.prog S ki #[] h (fun v h' => ∃ a1 c1 a2 c2, v = .tuple #[.slice a1 288 c1, .slice a2 32 c2] ∧ Part .i64 h' (.slice a1 288 c1) yk ∧ Part .i64 h' (.slice a2 32 c2) (List.replicate 32 5) ∧ Eng.New h (.slice a1 288 c1) ∧ Eng.New h (.slice a2 32 c2) ∧ Eng.Sub h h') := by
 refine DG (vs := []) trivial hi ?_
 rw [QZ]
 have e1 : IntKind.i64.wrap 288 = 288 := by decide
 have e2 : IntKind.i64.wrap 32 = 32 := by decide
 have m1 : yd ((288 : Int).toNat * 1) #[Value.int .i64 0] = ints .i64 (List.replicate 288 0) := qZ (k := .i64) 288
 have m2 : yd ((32 : Int).toNat * 1) #[Value.int .i64 0] = ints .i64 (List.replicate 32 0) := qZ (k := .i64) 32
 simp only [Tr.wp, Ff, Ex.ev, coerce, toInt_int, zn, zu, zo, Cst.val, List.getD_cons_zero, List.getD_cons_succ, List.getElem?_cons_zero, List.map_cons, List.map_nil, List.cons_append, List.nil_append, e1, e2, m1, m2]
 have ne : ∀ {b b' : Nat} {o : Obj}, upd h b o b' = none → b ≠ b' ∧ h b' = none := fun {b b' o} hb => by
  have n : b ≠ b' := fun e => by rw [e, upd_same] at hb; cases hb
  exact ⟨n, by rw [← upd_ne (h := h) (o := o) (Ne.symm n)]; exact hb⟩
 refine ⟨⟨by omega, by omega, by decide, fun b hb => ⟨by omega, by omega, by decide, fun b' hb' _ => ?_⟩⟩, by omega, by omega, by decide, fun b hb => ⟨by omega, by omega, by decide, fun b' hb' _ => ?_⟩⟩
 ·obtain ⟨n, hb2⟩ := ne hb'
  refine Na hi ((CM (h := h) (T := 2) 288).keep fun z hz => ?_).part (CM 32).part (New.of hb) (New.of hb2) (fun z hz e => ?_) ((Sub.zL hb).trans (Sub.zL hb'))
  ·cases hz; exact upd_ne n
  ·cases hz; cases e; exact n rfl
 ·obtain ⟨n, hb2⟩ := ne hb'
  refine Na hi (CM 288).part ((CM (h := h) (T := 2) 32).keep fun z hz => ?_).part (New.of hb2) (New.of hb) (fun z hz e => ?_) ((Sub.zL hb).trans (Sub.zL hb'))
  ·cases hz; exact upd_ne n
  ·cases hz; cases e; exact n rfl
theorem Nb {xs : List Int} {i : Nat} (h : i < xs.length) : (xs.take (i + 1)).flatMap (fun c => yL c.toNat) = (xs.take i).flatMap (fun c => yL c.toNat) ++ yL xs[i].toNat := by
 rw [List.take_add_one, List.getElem?_eq_getElem h, List.flatMap_append]
 simp
theorem OY {h h' : Eng.Heap} (s : Eng.Sub h h') {z : Nat} (hz : h' z = none) : h z = none := by
 cases hh : h z with
 | none => rfl
 | some o => exact (by rw [s _ _ hh] at hz; cases hz)
def pre (xs : List Int) (i : Nat) : List Int := [1, 1, 0] ++ (xs.take i).flatMap fun c => yL c.toNat
theorem OZ {xs : List Int} {i : Nat} (h : i < xs.length) : pre xs (i + 1) = pre xs i ++ yL xs[i].toNat := by
 unfold pre; rw [Nb h, List.append_assoc]
theorem Kp {xs : List Int} : pre xs xs.length ++ yL 256 = xp xs := by unfold pre xp; rw [List.take_length]
theorem Kq {xs : List Int} (hw : ∀ x ∈ xs, 0 ≤ x ∧ x ≤ 255) {i : Nat} (hi : i ≤ xs.length) : (pre xs i).length ≤ 3 + 15 * i := by
 have := Jc (xs := xs.take i) fun x hx => hw x (List.mem_of_mem_take hx)
 have hl : (xs.take i).length ≤ i := by rw [List.length_take]; omega
 unfold pre
 rw [List.length_append]
 simp only [List.length_cons, List.length_nil]
 omega
theorem Cr {bs : List Int} {b : Int} : pk (bs ++ [b]) (bs ++ [b]).length = qf (pk bs bs.length) bs.length b := by
 rw [List.length_append, List.length_singleton, pk, MW (Nat.le_refl _)]
 congr 1
 rw [List.getD_eq_getElem?_getD, List.getElem?_append_right (Nat.le_refl _), Nat.sub_self]
 rfl
def E6 (h0 h : Eng.Heap) (bN bO : Nat) (bs : List Int) : Prop :=
 ∃ a c, h bN = some (.cells #[.int .i64 bs.length] 3) ∧ h bO = some (.cells #[.slice a (pk bs bs.length).length c] 22) ∧ Part .u8 h (.slice a (pk bs bs.length).length c) (pk bs bs.length) ∧ Eng.New h0 (.slice a (pk bs bs.length).length c) ∧ zi (.slice a (pk bs bs.length).length c) ≠ some bN ∧ zi (.slice a (pk bs bs.length).length c) ≠ some bO ∧ Eng.Sub h0 h
theorem CN (hi : Eng.Inv S h0) {bN bO : Nat} (hne : bN ≠ bO) (hN : h0 bN = none) (hO : h0 bO = none) {bs : List Int} (h01 : ∀ b ∈ bs, 0 ≤ b ∧ b ≤ 1) (E : E6 h0 h bN bO bs) (x n : Nat) (hx : x ≤ 32768) (hn : n ≤ 15) (hl : bs.length ≤ 3000000) :
  zc Tryz.prog S yS #[.int .u64 x, .int .i64 n, .pointer (some ⟨bN, 0, none⟩), .pointer (some ⟨bO, 0, none⟩)] h (fun v h' => v = .tuple #[] ∧ E6 h0 h' bN bO (bs ++ bitsOf x n)) := by
 refine BN (vs := [.int .u64 x, .int .i64 n, .pointer (some ⟨bN, 0, none⟩), .pointer (some ⟨bO, 0, none⟩)]) ⟨rfl, rfl, rfl, rfl, trivial⟩ (hi.sub E.choose_spec.choose_spec.2.2.2.2.2.2) ?_
 simp only [wv, Tr.wp, Ex.ev, coerce, toInt_int, zf, zn, zu, zo, zg, yF, ya, arith, Cst.val, SV.den, zG, ym, zy, zY, List.getD_cons_zero, List.getD_cons_succ, List.getElem?_cons_zero, List.getElem?_cons_succ, decide_eq_true_eq, decide_eq_false_iff_not, List.map_cons, List.map_nil, List.cons_append, List.nil_append, and_true, true_and]
 have nsN : ¬ S bN := fun hs => hi _ hs hN
 have nsO : ¬ S bO := fun hs => hi _ hs hO
 refine ⟨fun us h' => ∃ i : Nat, us = [.int .i64 i] ∧ i ≤ n ∧ E6 h0 h' bN bO (bs ++ bitsOf x i), fun us _ => n - (toInt (us.getD 0 undef)).toNat, ⟨0, rfl, by omega, by simpa [bitsOf] using E⟩, ?_⟩
 rintro z h' ⟨i, hx1, hi2, E⟩
 obtain rfl : z = i := by simpa using hx1
 refine ⟨fun hlt => ?_, fun hge => ?_⟩
 ·have hi3 : i < n := by omega
  have hlen : (bs ++ bitsOf x i).length = bs.length + i := by rw [List.length_append, xi]
  have h01' : ∀ b ∈ bs ++ bitsOf x i, 0 ≤ b ∧ b ≤ 1 := fun b hb => by
   rcases List.mem_append.1 hb with hb | hb
   ·exact h01 b hb
   ·exact DS b hb
  have hsucc : bs ++ bitsOf x (i + 1) = (bs ++ bitsOf x i) ++ [(x : Int) / 2 ^ i % 2] := by rw [JP, List.append_assoc]
  obtain ⟨a, c, e1, e2, P, N, n1, n2, s⟩ := E
  generalize bs ++ bitsOf x i = cs at *
  have hl2 : cs.length ≤ 3000015 := by omega
  have w4 : IntKind.i64.wrap ((i : Int) + 1) = ((i + 1 : Nat) : Int) := by rw [i64_in _ (by omega)]; omega
  have ad0 : ∀ b : Nat, (⟨b, 0, none⟩ : Addr).add 0 = ⟨b, 0, none⟩ := fun b => by rw [yN]
  have wm : ((cs.length : Nat) : Int).tmod 8 = ((cs.length % 8 : Nat) : Int) := by rw [Int.tmod_eq_emod_of_nonneg (by omega)]; omega
  have wq : IntKind.i64.wrap (((cs.length : Nat) : Int).tdiv 8) = ((cs.length / 8 : Nat) : Int) := by rw [Int.tdiv_eq_ediv_of_nonneg (by omega)]; exact i64_in _ (by omega)
  have w5 : IntKind.i64.wrap (((cs.length : Nat) : Int) + 1) = (((cs ++ [(x : Int) / 2 ^ i % 2]).length : Nat) : Int) := by rw [i64_in _ (by omega), List.length_append, List.length_singleton]; omega
  have hb := F0 h01' (k := cs.length)
  have hp7 := Ug (n := cs.length)
  have hpp : (0 : Int) < 2 ^ (cs.length % 8) := Int.pow_pos (by decide)
  have hmul : 0 ≤ (x : Int) / 2 ^ i % 2 * 2 ^ (cs.length % 8) ∧ (x : Int) / 2 ^ i % 2 * 2 ^ (cs.length % 8) ≤ 2 ^ (cs.length % 8) := by
   rcases (show (x : Int) / 2 ^ i % 2 = 0 ∨ (x : Int) / 2 ^ i % 2 = 1 by omega) with h | h <;> rw [h] <;> omega
  have wr : Go.bits .or .u8 (x8 (pk cs cs.length) cs.length) (IntKind.u8.wrap (IntKind.u8.wrap (Go.bits .and .u64 ((x : Int).fdiv (2 ^ min (i : Int).toNat IntKind.u64.bits)) 1) * 2 ^ min ((cs.length % 8 : Nat) : Int).toNat IntKind.u8.bits)) = x8 (pk cs cs.length) cs.length + (x : Int) / 2 ^ i % 2 * 2 ^ (cs.length % 8) := by
   have b1 : IntKind.u64.bits = 64 := rfl
   have b2 : IntKind.u8.bits = 8 := rfl
   have hp : (0 : Int) ≤ 2 ^ i := Int.le_of_lt (Int.pow_pos (by decide))
   rw [b1, b2, Int.toNat_natCast, Int.toNat_natCast, show min i 64 = i by omega, show min (cs.length % 8) 8 = cs.length % 8 by omega, Fs, Int.fdiv_eq_ediv_of_nonneg _ hp, u8_in ((x : Int) / 2 ^ i % 2) (by omega), u8_in ((x : Int) / 2 ^ i % 2 * 2 ^ (cs.length % 8)) (by omega)]
   exact TC _ hb.1 hb.2 (by omega) (by omega)
  have cellAt : ∀ {h2 : Eng.Heap} {b : Nat} {v : Value} {T : TypeId}, h2 b = some (.cells #[v] T) → zb h2 ⟨b, 0, none⟩ = some v := fun e => by simp [zb, e]
  have okAt : ∀ {h2 : Eng.Heap} {b : Nat} {v : Value} {T : TypeId}, h2 b = some (.cells #[v] T) → ¬ S b → xf S h2 ⟨b, 0, none⟩ := fun e hs => ⟨⟨_, cellAt e⟩, by simp [yx, e], hs⟩
  have setAt : ∀ {h2 : Eng.Heap} {b : Nat} {v w : Value} {T : TypeId}, h2 b = some (.cells #[v] T) → zw h2 ⟨b, 0, none⟩ w = upd h2 b (.cells #[w] T) := fun e => by rw [jy e]; rfl
  have hl1 : ∀ o2 : List Int, o2 = (if cs.length % 8 = 0 then pk cs cs.length ++ [0] else pk cs cs.length) → (qf (pk cs cs.length) cs.length ((x : Int) / 2 ^ i % 2)).length = o2.length := fun o2 e => by
   rw [qf, List.length_set, ← e]
  have fin : ∀ {h2 : Eng.Heap} {a : Option Addr} {c : Nat} {o2 : List Int}, o2 = (if cs.length % 8 = 0 then pk cs cs.length ++ [0] else pk cs cs.length) → Part .u8 h2 (.slice a o2.length c) o2 → Eng.New h0 (.slice a o2.length c) → Eng.Sub h0 h2 →
    ((!a.isNone) = true ∧ 0 ≤ ((cs.length / 8 : Nat) : Int) ∧ ((cs.length / 8 : Nat) : Int) < (o2.length : Int) ∧ ∃ x, zb h2 (((a.getD default).add (((cs.length / 8 : Nat) : Int).toNat * 1)).add 0) = some (.int .u8 x) ∧ x = x8 (pk cs cs.length) cs.length) ∧ cs.length / 8 < o2.length := by
   intro h2 a c o2 ho2 P N s
   have hlen : cs.length / 8 < o2.length := by
    have := wE (bs := cs) (k := cs.length)
    rw [ho2]; split
    ·rw [List.length_append, this, List.length_singleton]; omega
    ·omega
   obtain ⟨a', c', e, _, hxx⟩ := P.ints
   simp only [Value.slice.injEq] at e
   obtain ⟨rfl, _, rfl⟩ := e
   obtain ⟨g1, g2⟩ := hxx.cell (List.getElem?_eq_getElem hlen)
   refine ⟨⟨by simpa using g2, by omega, by omega, o2[cs.length / 8], by simp only [Int.toNat_natCast, Nat.mul_one, add_add, Nat.add_zero]; exact g1, ?_⟩, hlen⟩
   unfold x8
   rw [← ho2, List.getD_eq_getElem?_getD, List.getElem?_eq_getElem hlen]; rfl
  have done : ∀ {h2 : Eng.Heap} {a : Option Addr} {c : Nat} (o2 : List Int), o2 = (if cs.length % 8 = 0 then pk cs cs.length ++ [0] else pk cs cs.length) → Eng.New h0 (.slice a o2.length c) →
    zi (.slice a o2.length c) ≠ some bN → zi (.slice a o2.length c) ≠ some bO → Part .u8 h2 (.slice a o2.length c) (qf (pk cs cs.length) cs.length ((x : Int) / 2 ^ i % 2)) → Eng.Sub h0 h2 → h2 bO = some (.cells #[.slice a o2.length c] 22) →
    E6 h0 (upd h2 bN (.cells #[.int .i64 (((cs ++ [(x : Int) / 2 ^ i % 2]).length : Nat) : Int)] 3)) bN bO (cs ++ [(x : Int) / 2 ^ i % 2]) := by
   intro h2 a c o2 ho2 N m1 m2 g2 g3 f2
   have e := hl1 o2 ho2
   refine ⟨a, c, upd_same, ?_, ?_, ?_, ?_, ?_, fun y o hy => ?_⟩
   ·rw [Cr, e, upd_ne (Ne.symm hne)]; exact f2
   ·rw [Cr, e]; exact g2.keep fun z hz => upd_ne fun e => m1 (by rw [← e]; exact hz)
   ·rw [Cr, e]; exact N
   ·rw [Cr, e]; exact m1
   ·rw [Cr, e]; exact m2
   ·rw [upd_ne (fun e => by rw [e, hN] at hy; cases hy)]; exact g3 y o hy
  simp only [ad0]
  refine ⟨_, cellAt e1, ?_⟩
  simp only [w4]
  refine ⟨fun h0' => ?_, fun h0' => ?_⟩
  ·have h0' : cs.length % 8 = 0 := by rw [wm] at h0'; simp at h0'; omega
   refine ⟨_, _, _, cellAt e2, fun b2 hb2 => ?_⟩
   have s3 : Eng.Sub h' (upd h' b2 (.cells (ints .u8 [0]) 5)) := Sub.zL hb2
   have hpl := wE (bs := cs) (k := cs.length)
   refine xo hi (s.trans s3) (P.sub s3) N (ys := [0]) zq.new (by rw [hpl]; simp only [List.length_singleton]; omega) fun v' h3 P3 N3 s4 k3 b3 => ?_
   obtain ⟨a4, c4, rfl, _, _⟩ := P3.ints
   have other : ∀ (y : Nat) (o : Obj), h' y = some o → zi (.slice a (pk cs cs.length).length c) ≠ some y → h3 y = some o ∧ zi (.slice a4 (pk cs cs.length ++ [0]).length c4) ≠ some y := by
    intro y o hy hny
    have e5 := s3 y o hy
    have hnn : upd h' b2 (.cells (ints .u8 [0]) 5) y ≠ none := fun e => by
     have e6 : some o = none := e5.symm.trans e
     cases e6
    refine ⟨(k3 y hnn hny).trans e5, fun e => ?_⟩
    rcases b3 with b3 | b3
    ·rw [b3] at e; exact hny e
    ·exact hnn (b3 y e)
   obtain ⟨d1, m1⟩ := other bN _ e1 n1
   obtain ⟨d2', m2⟩ := other bO _ e2 n2
   simp only [zo, zn, zu]
   refine ⟨okAt d2' nsO, fun _ => ?_⟩
   rw [setAt d2']
   have d2 : upd h3 bO (.cells #[.slice a4 (pk cs cs.length ++ [0]).length c4] 22) bO = some (.cells #[.slice a4 (pk cs cs.length ++ [0]).length c4] 22) := upd_same
   have d1 : upd h3 bO (.cells #[.slice a4 (pk cs cs.length ++ [0]).length c4] 22) bN = some (.cells #[.int .i64 ((cs.length : Nat) : Int)] 3) := (upd_ne hne).trans d1
   have P5 : Part .u8 (upd h3 bO (.cells #[.slice a4 (pk cs cs.length ++ [0]).length c4] 22)) (.slice a4 (pk cs cs.length ++ [0]).length c4) (pk cs cs.length ++ [0]) := P3.keep fun z hz => upd_ne fun e => m2 (by rw [← e]; exact hz)
   have s5 : Eng.Sub h0 (upd h3 bO (.cells #[.slice a4 (pk cs cs.length ++ [0]).length c4] 22)) := fun y o hy => (upd_ne fun e => by rw [e, hO] at hy; cases hy).trans (s4 y o hy)
   generalize upd h3 bO (.cells #[.slice a4 (pk cs cs.length ++ [0]).length c4] 22) = h5 at *
   obtain ⟨⟨q1, q2, q3, b0, q4, rfl⟩, q5⟩ := fin (o2 := (pk cs cs.length ++ [0])) (by rw [if_pos h0']) P5 N3 s5
   obtain ⟨g1, g2, g3, g4⟩ := Jd hi (out := pk cs cs.length) (by rw [if_pos h0']) q5 P5 N3 s5 ((x : Int) / 2 ^ i % 2)
   have f1 := (g4 bN m1).trans d1
   have f2 := (g4 bO m2).trans d2
   refine ⟨_, _, _, cellAt d2, _, cellAt d1, ?_⟩
   simp only [wq]
   refine ⟨q1, q2, q3, _, q4, by omega, _, cellAt d1, ?_, q1, q2, q3, g1, ?_⟩
   ·rw [wm]; omega
   rw [wm, wr]
   refine ⟨_, cellAt f1, okAt f1 nsN, ⟨i + 1, rfl, by omega, ?_⟩, ?_⟩
   ·rw [Int.toNat_natCast, setAt f1, w5, hsucc]
    exact done (pk cs cs.length ++ [0]) (by rw [if_pos h0']) N3 m1 m2 g2 g3 f2
   ·show n - (toInt (Value.int .i64 ((i + 1 : Nat) : Int))).toNat < n - (toInt (Value.int .i64 (i : Int))).toNat
    rw [toInt_int, toInt_int]; omega
  ·have h0' : ¬ cs.length % 8 = 0 := by rw [wm] at h0'; simp at h0'; omega
   intro _
   have d1 := e1
   have d2 := e2
   have m1 := n1
   have m2 := n2
   obtain ⟨⟨q1, q2, q3, b0, q4, rfl⟩, q5⟩ := fin (o2 := (pk cs cs.length)) (by rw [if_neg h0']) P N s
   obtain ⟨g1, g2, g3, g4⟩ := Jd hi (out := pk cs cs.length) (by rw [if_neg h0']) q5 P N s ((x : Int) / 2 ^ i % 2)
   have f1 := (g4 bN m1).trans d1
   have f2 := (g4 bO m2).trans d2
   refine ⟨_, _, _, cellAt d2, _, cellAt d1, ?_⟩
   simp only [wq]
   refine ⟨q1, q2, q3, _, q4, by omega, _, cellAt d1, ?_, q1, q2, q3, g1, ?_⟩
   ·rw [wm]; omega
   rw [wm, wr]
   refine ⟨_, cellAt f1, okAt f1 nsN, ⟨i + 1, rfl, by omega, ?_⟩, ?_⟩
   ·rw [Int.toNat_natCast, setAt f1, w5, hsucc]
    exact done (pk cs cs.length) (by rw [if_neg h0']) N m1 m2 g2 g3 f2
   ·show n - (toInt (Value.int .i64 ((i + 1 : Nat) : Int))).toNat < n - (toInt (Value.int .i64 (i : Int))).toNat
    rw [toInt_int, toInt_int]; omega
 ·obtain rfl : i = n := by omega
  exact E
theorem Nc {b : Nat} {v w : Value} {T : TypeId} {K : Eng.Heap → Prop} (e : h b = some (.cells #[v] T)) (hs : ¬ S b) (hK : K (upd h b (.cells #[w] T))) : zY S ⟨b, 0, none⟩ 0 [w] h K := by
 have ad0 : (⟨b, 0, none⟩ : Addr).add 0 = ⟨b, 0, none⟩ := by rw [yN]
 refine ⟨by rw [ad0]; exact ⟨⟨v, by simp [zb, e]⟩, by simp [yx, e], hs⟩, ?_⟩
 rw [ad0, jy e]
 exact hK
theorem Nd {xs : List Int} {i : Nat} : ∀ b ∈ pre xs i, 0 ≤ b ∧ b ≤ 1 := fun b hb => by
 unfold pre at hb
 rcases List.mem_append.1 hb with h | h
 ·simp at h; omega
 ·obtain ⟨c, _, hc⟩ := List.mem_flatMap.1 h
  exact F1 b hc
theorem DV (hi : Eng.Inv S h) {v : Value} {xs : List Int} (O : tB.O h v xs) (hw : ∀ x ∈ xs, 0 ≤ x ∧ x ≤ 255) (L : BS xs) :
  zc Tryz.prog S jz #[v] h (fun v h' => tB.O h' v (yj xs) ∧ tB.New h v ∧ Eng.Sub h h') := by
 obtain ⟨a, c, rfl, hc, hx⟩ := Part.ints O
 refine CI (vs := [.slice a xs.length c]) ⟨rfl, trivial⟩ hi ?_
 simp only [Ah, Tr.wp, zX, Ex.ev, coerce, toInt_int, zf, zn, zu, zo, zg, yF, ya, arith, Cst.val, SV.den, z6, yl, zU, zt, zk, yw, zG, ym, zy, List.flatMap_cons, List.flatMap_nil, List.replicate_one, List.getD_cons_zero, List.getD_cons_succ, List.getElem?_cons_zero, List.getElem?_cons_succ, decide_eq_true_eq, decide_eq_false_iff_not, List.map_cons, List.map_nil, List.cons_append, List.nil_append, List.append_nil, List.length_cons, List.length_nil, Nat.zero_add, and_true, if_true, if_false, Bool.false_eq_true]
 refine ⟨fun hgt b hb => ?_, fun hle => ?_⟩
 ·have e : yj xs = [] := if_pos (by omega)
  rw [e]
  exact ⟨(Own.made (k := .u8) (h := h) (b := b) (T := 5) []).part, New.of hb, Sub.zL hb⟩
 have hle : xs.length ≤ 100000 := by omega
 have e : yj xs = pk (xp xs) (xp xs).length := if_neg (by omega)
 rw [e]
 refine (EY hi).mono ?_
 rintro _ h1 ⟨a1, c1, a2, c2, rfl, P1, P2, N1, N2, s1⟩
 refine ⟨_, _, _, _, _, _, rfl, (Bh (hi.sub s1) (xs := yk) P1 Jb).mono ?_⟩
 rintro w h2 ⟨O3, N3, s2⟩
 obtain ⟨a3, c3, rfl, _, hx3⟩ := jq.xC O3
 rw [Gy] at hx3
 refine ⟨_, _, _, rfl, ?_⟩
 have hcl : (xM yk).length = 288 := by rw [Gy, wX, jB]
 rw [hcl]
 have hi2 := hi.sub (s1.trans s2)
 have s12 := s1.trans s2
 intro b4 hb4 bO hbO
 have ne : ∀ {g : Eng.Heap} {b b' : Nat} {o : Obj}, upd g b o b' = none → b ≠ b' ∧ g b' = none := fun {g b b' o} hb => by
  have n : b ≠ b' := fun e => by rw [e, upd_same] at hb; cases hb
  exact ⟨n, by rw [← upd_ne (h := g) (o := o) (Ne.symm n)]; exact hb⟩
 obtain ⟨n4O, hO⟩ := ne hbO
 have nsO : ¬ S bO := fun hs => hi2 _ hs hO
 refine Nc (v := .slice none 0 0) upd_same nsO fun bN hbN => ?_
 rw [yR] at hbN ⊢
 obtain ⟨nON, hN'⟩ := ne hbN
 obtain ⟨n4N, hN⟩ := ne hN'
 have nsN : ¬ S bN := fun hs => hi2 _ hs hN
 refine Nc (v := .int .i64 0) upd_same nsN ?_
 rw [yR]
 have E0 : E6 h2 (upd (upd (upd h2 b4 (.cells #[] 5)) bO (.cells #[.slice (some ⟨b4, 0, none⟩) 0 0] 22)) bN (.cells #[.int .i64 0] 3)) bN bO [] := by
  refine ⟨some ⟨b4, 0, none⟩, 0, upd_same, ?_, ?_, New.of hb4, fun e => by cases e; exact n4N rfl, fun e => by cases e; exact n4O rfl, ?_⟩
  ·rw [upd_ne nON]; exact upd_same
  ·exact ((Own.made (k := .u8) (h := h2) (b := b4) (T := 5) []).part).keep fun z hz => by cases hz; exact (upd_ne n4N).trans (upd_ne n4O)
  ·exact ((Sub.zL hb4).trans (Sub.zL hbO)).trans (Sub.zL hbN)
 have hne : bN ≠ bO := Ne.symm nON
 refine (CN hi2 hne hN hO (bs := []) (fun b hb => by cases hb) E0 1 1 (by omega) (by omega) (by simp)).mono ?_
 rintro _ h3 ⟨rfl, E1⟩
 refine ⟨rfl, (CN hi2 hne hN hO (bs := [] ++ bitsOf (1 : Nat) 1) (fun b hb => DS b hb) E1 1 2 (by omega) (by omega) (by simp [bitsOf])).mono ?_⟩
 rintro _ h4 ⟨rfl, E2⟩
 refine ⟨rfl, ?_⟩
 have ep : [] ++ bitsOf (1 : Nat) 1 ++ bitsOf (1 : Nat) 2 = pre xs 0 := by unfold pre; rw [List.take_zero]; decide
 rw [ep] at E2
 refine ⟨fun us h' => ∃ i : Nat, us = [.int .i64 i] ∧ i ≤ xs.length ∧ E6 h2 h' bN bO (pre xs i), fun us _ => xs.length - (toInt (us.getD 0 undef)).toNat, ⟨0, rfl, by omega, E2⟩, ?_⟩
 rintro z h' ⟨i, hx1, hi3, E⟩
 obtain rfl : z = i := by simpa using hx1
 have hpl := Kq hw hi3
 have s : Eng.Sub h2 h' := E.choose_spec.choose_spec.2.2.2.2.2.2
 refine ⟨fun hlt => ?_, fun hge => ?_⟩
 ·have hi4 : i < xs.length := by omega
  have hwi := hw _ (List.getElem_mem hi4)
  obtain ⟨x1, x2⟩ := (hx.sub (s12.trans s)).cell (List.getElem?_eq_getElem hi4)
  obtain ⟨l, b, hg, hl, hb, hcb⟩ := A8 (c := xs[i].toNat) (by omega)
  obtain ⟨y1, y2, y3⟩ := (hx3.sub s).cell hg
  have hp : 2 ^ l ≤ 2 ^ 15 := Nat.pow_le_pow_right (by decide) hl
  have e15 : 2 ^ 15 = 32768 := by decide
  have w4 : IntKind.i64.wrap ((i : Int) + 1) = ((i + 1 : Nat) : Int) := by rw [i64_in _ (by omega)]; omega
  refine ⟨by simpa using x2, by omega, hlt, xs[i], by simpa [add_add] using x1, by simpa using y3, by omega, by omega, _, by simpa [add_add] using y2, by simpa using y3, by omega, by omega, _, by simpa [add_add] using y1, ?_⟩
  refine (CN hi2 hne hN hO Nd E b l (by omega) (by omega) (by omega)).mono ?_
  rintro _ h5 ⟨rfl, E5⟩
  have ep : pre xs i ++ bitsOf (b : Int) l = pre xs (i + 1) := by rw [OZ hi4, hcb]
  rw [ep] at E5
  rw [w4]
  refine ⟨rfl, ⟨i + 1, rfl, by omega, E5⟩, ?_⟩
  show xs.length - (toInt (Value.int .i64 ((i + 1 : Nat) : Int))).toNat < xs.length - (toInt (Value.int .i64 (i : Int))).toNat
  rw [toInt_int, toInt_int]; omega
 ·obtain rfl : i = xs.length := by omega
  obtain ⟨l, b, hg, hl, hb, hcb⟩ := A8 (c := 256) (by omega)
  obtain ⟨y1, y2, y3⟩ := (hx3.sub s).cell hg
  have hp : 2 ^ l ≤ 2 ^ 15 := Nat.pow_le_pow_right (by decide) hl
  have e15 : 2 ^ 15 = 32768 := by decide
  refine ⟨by simpa using y3, by simp, by omega, _, by simpa [add_add] using y2, by simpa using y3, by simp, by omega, _, by simpa [add_add] using y1, ?_⟩
  refine (CN hi2 hne hN hO Nd E b l (by omega) (by omega) (by omega)).mono ?_
  rintro _ h5 ⟨rfl, E5⟩
  have ep : pre xs xs.length ++ bitsOf (b : Int) l = xp xs := by rw [← Kp, hcb]
  rw [ep] at E5
  obtain ⟨a6, c6, e1, e2, P6, N6, m1, m2, s6⟩ := E5
  exact ⟨rfl, _, _, _, by rw [yN]; simp [zb, e2], P6, fun z hz => OY s12 (N6 z hz), s12.trans s6⟩
end Go.Proofs.YteaonnfokkfnlaaGreatDoor
end
section
namespace Go.Proofs.YteaonnfokkfnlaaGreatDoor
open Go Go.Eng Go.IntWalk
section
variable {S : Shared} {h h0 : Eng.Heap} {b : Nat} {T : TypeId} {sz : Nat} {K : List Int}
def RingAt (h0 h : Eng.Heap) (b : Nat) (T : TypeId) (sz : Nat) (K : List Int) : Prop :=
 ∃ (d : List Int) (at_ n : Nat), h b = some (zQ sz d at_ n T) ∧ RingS sz d at_ n K ∧ Eng.Sub h0 h ∧ h0 b = none
theorem xd {h0 h1 : Eng.Heap} {b : Nat} {o : Obj} (hs : Eng.Sub h0 h1) (hb : h0 b = none) : Eng.Sub h0 (upd h1 b o) := fun x u hx => by
 rw [upd_ne (fun e => by rw [e, hb] at hx; cases hx)]; exact hs x u hx
theorem RingAt.sub (H : RingAt h0 h b T sz K) : Eng.Sub h0 h := by obtain ⟨_, _, _, _, _, s, _⟩ := H; exact s
theorem RingAt.mono {h1 : Eng.Heap} (H : RingAt h0 h b T sz K) (s : Eng.Sub h h1) : RingAt h0 h1 b T sz K := by
 obtain ⟨d, at_, n, hb, R, s0, hn⟩ := H
 exact ⟨d, at_, n, s b _ hb, R, s0.trans s, hn⟩
theorem L0 (hi : Eng.Inv S h0) (H : RingAt h0 h b T sz K) (a : Option Addr) (c : Nat) (ys : List Int) (hc : ys.length ≤ c) (hl : ys.length ≤ 1099511627776) (hx : ∀ h' : Eng.Heap, (∀ y, y ≠ b → h' y = h y) → zq h' .u8 a ys) :
  zc Tryz.prog S jh #[.pointer (some ⟨b, 0, none⟩), .slice a ys.length c] h (fun v h' => v = .tuple #[] ∧ RingAt h0 h' b T sz (zM sz (K ++ ys)) ∧ ∀ y, y ≠ b → h' y = h y) := by
 obtain ⟨d, at_, n, hb, R, s, hbn⟩ := id H
 have hsb : ¬ S b := fun hs => hi b hs hbn
 refine DH (vs := [.pointer (some ⟨b, 0, none⟩), .slice a ys.length c]) ⟨rfl, rfl, trivial⟩ (hi.sub s) ?_
 simp only [AY, Tr.wp, Ex.ev, coerce, toInt_int, zf, zn, zu, zo, zg, zB, yD, IK, Fq, GQ, ya, arith, Cst.val, SV.den, zG, ym, zy, zY, List.getD_cons_zero, List.getD_cons_succ, List.getElem?_cons_zero, decide_eq_true_eq, decide_eq_false_iff_not, List.map_cons, List.map_nil, List.cons_append, List.nil_append, and_true, true_and]
 have hs1 := R.s1
 have hs2 := R.s2
 have w1 : IntKind.i64.wrap ((ys.length : Int) - (sz : Int)) = (ys.length : Int) - sz := i64_in _ (by omega)
 refine ⟨by simp, (sz : Int), by simpa [zj] using Ce hb, ?_⟩
 rw [w1]
 have wm : (if (ys.length : Int) - (sz : Int) > 0 then (ys.length : Int) - (sz : Int) else 0).toNat = ys.length - sz := by split <;> omega
 obtain ⟨m, hm⟩ : ∃ m, m = ys.length - sz := ⟨_, rfl⟩
 refine ⟨by split <;> omega, by split <;> omega, ?_⟩
 rw [wm, ← hm]
 obtain ⟨zs, hz⟩ : ∃ zs, zs = ys.drop m := ⟨_, rfl⟩
 have hzl : zs.length = ys.length - m := by rw [hz, List.length_drop]
 have hdr : (ys.drop m).take (ys.length - m) = zs := by rw [hz]; exact List.take_of_length_le (by rw [List.length_drop]; omega)
 have hK : zM sz (K ++ zs) = zM sz (K ++ ys) := by rw [hz]; exact Ll (by omega)
 have cut : ∀ h' : Eng.Heap, (∀ y, y ≠ b → h' y = h y) → ∃ a', kI 1 a m ys.length c = .slice a' zs.length (c - m) ∧ zq h' .u8 a' zs := fun h' hh => by
  obtain ⟨a', e, H'⟩ := Gg (hx h' hh) (lo := m) (hi := ys.length) (m := c) (by omega) (by omega) hc
  rw [hdr] at e H'
  exact ⟨a', e, H'⟩
 refine ⟨fun us h' => ∃ (i : Nat) (d : List Int) (at_ n : Nat), us = [.int .i64 i] ∧ i ≤ zs.length ∧ h' = upd h b (zQ sz d at_ n T) ∧ RingS sz d at_ n (zM sz (K ++ zs.take i)), fun us _ => zs.length - (toInt (us.getD 0 undef)).toNat, ⟨0, d, at_, n, rfl, by omega, (kQ hb).symm, ?_⟩, ?_⟩
 ·rw [List.take_zero, List.append_nil, Ot (by have := R.kn; have := R.n1; omega)]; exact R
 rintro x h' ⟨i, d, at_, n, hx1, hi2, rfl, R⟩
 obtain rfl : x = i := by simpa using hx1
 have hb' : upd h b (zQ sz d at_ n T) b = some (zQ sz d at_ n T) := upd_same
 obtain ⟨a', ea, hz'⟩ := cut (upd h b (zQ sz d at_ n T)) (fun y hy => upd_ne hy)
 rw [ea]
 simp only [zj, Nat.add_zero, Nat.zero_add, Nat.mul_one, zn, zo, yF, Int.toNat_natCast]
 refine ⟨fun hlt => ?_, fun hge => ?_⟩
 ·have hi3 : i < zs.length := by omega
  obtain ⟨g1, g2⟩ := hz'.cell (List.getElem?_eq_getElem hi3)
  have ha1 := R.a1
  have hdl := R.dl
  have hn1 := R.n1
  have w2 : IntKind.i64.wrap ((i : Int) + 1) = ((i + 1 : Nat) : Int) := by rw [i64_in _ (by omega)]; omega
  have w3 : (IntKind.i64.wrap ((at_ : Int) + 1)).tmod (sz : Int) = (((at_ + 1) % sz : Nat) : Int) := by
   rw [i64_in _ (by omega), Int.tmod_eq_emod_of_nonneg (by omega)]; push_cast; rfl
  have w4 : (if (sz : Int) < IntKind.i64.wrap ((n : Int) + 1) then (sz : Int) else IntKind.i64.wrap ((n : Int) + 1)) = ((min (n + 1) sz : Nat) : Int) := by
   rw [i64_in _ (by omega)]; split <;> omega
  have P := R.push zs[i]
  rw [Ag, List.append_assoc, show zs.take i ++ [zs[i]] = zs.take (i + 1) by rw [List.take_add_one, List.getElem?_eq_getElem hi3]; rfl] at P
  have s1 := M4 hb' (i := at_) (by omega) zs[i]
  rw [yR] at s1
  have hb1 : upd h b (zQ sz (d.set at_ zs[i]) at_ n T) b = some (zQ sz (d.set at_ zs[i]) at_ n T) := upd_same
  have hd1 : (d.set at_ zs[i]).length = 32768 := by rw [List.length_set]; exact hdl
  have s2 := Ln hb1 hd1 (((at_ + 1) % sz : Nat) : Int)
  rw [yR] at s2
  have hb2 : upd h b (zQ sz (d.set at_ zs[i]) (((at_ + 1) % sz : Nat) : Int) n T) b = some (zQ sz (d.set at_ zs[i]) (((at_ + 1) % sz : Nat) : Int) n T) := upd_same
  have s3 := M5 hb2 hd1 ((min (n + 1) sz : Nat) : Int)
  rw [yR] at s3
  refine ⟨by simpa using g2, by omega, hlt, zs[i], by simpa [add_add] using g1, by simp, at_, Es hb' hdl, by simp, by omega, by omega, GS hb' hsb (M3 hb' (List.getElem?_eq_getElem (by omega))), by simp, ?_⟩
  rw [Int.toNat_natCast, s1]
  refine ⟨at_, Es hb1 hd1, by simp, sz, Ce hb1, by simp; omega, by simp, GS hb1 hsb (Es hb1 hd1), by simp, ?_⟩
  rw [w3, s2]
  refine ⟨n, IN hb2 hd1, by simp, sz, Ce hb2, by simp, GS hb2 hsb (IN hb2 hd1), ?_⟩
  rw [w2]
  rw [w4, s3]
  exact ⟨⟨i + 1, _, _, _, rfl, by omega, rfl, P⟩, by simp only [List.getD_cons_zero, toInt_int]; omega⟩
 ·obtain rfl : i = zs.length := by omega
  rw [List.take_length, hK] at R
  exact ⟨⟨d, at_, n, upd_same, R, xd s hbn, hbn⟩, fun y hy => upd_ne hy⟩
theorem Pa (hi : Eng.Inv S h) (a : Option Addr) (c : Nat) (ys : List Int) (hc : ys.length ≤ c) (hl : ys.length ≤ 1099511627776) (hx : zq h .u8 a ys) (h1 : 1 ≤ sz) (h2 : sz ≤ 32768) :
  zc Tryz.prog S Ar #[.int .i64 sz, .slice a ys.length c] h (fun v h' => ∃ b T, v = .pointer (some ⟨b, 0, none⟩) ∧ RingAt h h' b T sz (zM sz ys)) := by
 refine Gm (vs := [.int .i64 sz, .slice a ys.length c]) ⟨rfl, rfl, trivial⟩ hi ?_
 simp only [Da, Tr.wp, zX, Ex.ev, coerce, toInt_int, zn, zu, zo, zg, Cst.val, SV.den, z6, yl, zU, zt, yw, zG, List.flatMap_cons, List.flatMap_nil, List.replicate_one, List.getD_cons_zero, List.getD_cons_succ, List.map_cons, List.map_nil, List.cons_append, List.nil_append, List.append_nil, if_true]
 intro b hb
 rw [M6]
 have hbn : upd h b (zQ sz (List.replicate 32768 0) 0 0 146) b = some (zQ sz (List.replicate 32768 0) 0 0 146) := upd_same
 have H : RingAt h (upd h b (zQ sz (List.replicate 32768 0) 0 0 146)) b 146 sz [] := ⟨_, 0, 0, upd_same, RingS.new h1 h2, Sub.zL hb, hb⟩
 refine (L0 hi H a c ys hc hl fun h' hh => ?_).mono ?_
 ·intro i x hxi
  obtain ⟨ad, e, hc⟩ := hx i x hxi
  refine ⟨ad, e, ?_⟩
  have hne : (ad.add i).block ≠ b := fun e => x6 hc (e ▸ hb)
  unfold zb at hc ⊢
  rw [hh _ hne, upd_ne hne]
  exact hc
 ·rintro _ h2 ⟨rfl, H2, _⟩
  rw [List.nil_append] at H2
  exact ⟨rfl, b, 146, rfl, H2⟩
end
section
variable {S : Shared} {h : Eng.Heap}
def xy (d : Nat) (L : List Int) : Nat → List Int
 | 0 => L
 | n + 1 => xy d L n ++ [(xy d L n).getD ((xy d L n).length - d) 0]
theorem Bm {d : Nat} {L : List Int} {n : Nat} : (xy d L n).length = L.length + n := by
 induction n with
 | zero => rfl
 | succ n ih => simp only [xy, List.length_append, ih, List.length_singleton]; omega
theorem Su {h0 : Eng.Heap} {b : Nat} {T : TypeId} {sz : Nat} {K : List Int} (hi : Eng.Inv S h0) (H : RingAt h0 h b T sz K) (d : Int) (h1 : 1 ≤ d) (h2 : d ≤ (K.length : Int)) :
  zc Tryz.prog S qk #[.pointer (some ⟨b, 0, none⟩), .int .i64 d] h (fun v h' => v = .int .u8 (K.getD (K.length - d.toNat) 0) ∧ h' = h) := by
 obtain ⟨ds, at_, n, hb, R, s, hbn⟩ := id H
 refine Dj (vs := [.pointer (some ⟨b, 0, none⟩), .int .i64 d]) ⟨rfl, rfl, trivial⟩ (hi.sub s) ?_
 simp only [Ax, Tr.wp, Ex.ev, coerce, toInt_int, zf, zg, zB, yD, ya, arith, Cst.val, SV.den, zG, zy, List.getD_cons_zero, List.getD_cons_succ, decide_eq_true_eq, List.cons_append, List.nil_append, and_true]
 have hs1 := R.s1
 have hs2 := R.s2
 have ha1 := R.a1
 have hdl := R.dl
 have hn1 := R.n1
 have hkn := R.kn
 have w1 : IntKind.i64.wrap (IntKind.i64.wrap ((at_ : Int) - d) + (sz : Int)) = ((at_ + sz - n + (n - d.toNat) : Nat) : Int) := by
  rw [i64_in ((at_ : Int) - d) (by omega), i64_in _ (by omega)]; omega
 have w2 : ((at_ + sz - n + (n - d.toNat) : Nat) : Int).tmod (sz : Int) = (((at_ + sz - n + (n - d.toNat)) % sz : Nat) : Int) := by
  rw [Int.tmod_eq_emod_of_nonneg (by omega)]; push_cast; rfl
 have hlt : (at_ + sz - n + (n - d.toNat)) % sz < sz := Nat.mod_lt _ (by omega)
 have hrd := R.rd (n - d.toNat) (by omega)
 simp only [zj, Nat.add_zero, Nat.zero_add]
 refine ⟨by simp, at_, Es hb hdl, by simp, sz, Ce hb, by simp, sz, Ce hb, by simp; omega, by simp, ?_⟩
 rw [w1, w2]
 have hk : K[n - d.toNat]? = some K[n - d.toNat] := List.getElem?_eq_getElem (by omega)
 rw [hk] at hrd
 rw [Int.toNat_natCast, Nat.mul_one]
 refine ⟨by omega, by omega, _, M3 hb hrd, ?_⟩
 have e : K.getD (K.length - d.toNat) 0 = K[n - d.toNat] := by
  have e1 : K.length - d.toNat = n - d.toNat := by omega
  rw [List.getD_eq_getElem?_getD, e1, hk]; rfl
 rw [e]
theorem L1 {sz d : Nat} {L : List Int} (h1 : 1 ≤ d) (h2 : d ≤ sz) (h3 : d ≤ L.length) : (zM sz L).getD ((zM sz L).length - d) 0 = L.getD (L.length - d) 0 := by
 rw [xY, List.getD_eq_getElem?_getD, List.getD_eq_getElem?_getD]
 unfold zM
 rw [List.getElem?_drop]
 congr 2
 omega
theorem Pb {h0 : Eng.Heap} {b : Nat} {T : TypeId} {sz : Nat} {L : List Int} (hi : Eng.Inv S h0) (H : RingAt h0 h b T sz (zM sz L)) (d n : Int) (d1 : 1 ≤ d) (d2 : d ≤ (L.length : Int)) (d3 : d ≤ (sz : Int)) (hn : 0 ≤ n ∧ n ≤ 258) (hl : L.length ≤ 32768) :
  zc Tryz.prog S kF #[.pointer (some ⟨b, 0, none⟩), .int .i64 d, .int .i64 n] h (fun v h' => tB.O h' v ((xy d.toNat L n.toNat).drop L.length) ∧ tB.New h0 v ∧ RingAt h0 h' b T sz (zM sz (xy d.toNat L n.toNat))) := by
 refine Cj (vs := [.pointer (some ⟨b, 0, none⟩), .int .i64 d, .int .i64 n]) ⟨rfl, rfl, rfl, trivial⟩ (hi.sub H.sub) ?_
 simp only [wK, Tr.wp, zX, Ex.ev, coerce, toInt_int, zf, zn, zu, zo, zB, ya, arith, Cst.val, SV.den, z6, yl, zU, zt, zk, zG, ym, List.flatMap_cons, List.flatMap_nil, List.getD_cons_zero, List.getD_cons_succ, List.getElem?_cons_zero, decide_eq_true_eq, decide_eq_false_iff_not, List.map_cons, List.map_nil, List.cons_append, List.nil_append, List.append_nil, if_true, if_false, Bool.false_eq_true]
 intro b0 hb0
 have hrb : h b ≠ none := by obtain ⟨_, _, _, hb, _⟩ := H; rw [hb]; simp
 have hne0 : b0 ≠ b := fun e => hrb (e ▸ hb0)
 have s0 : Eng.Sub h (upd h b0 (.cells (ints .u8 []) 5)) := Sub.zL hb0
 obtain ⟨D, hD⟩ : ∃ D, D = d.toNat := ⟨_, rfl⟩
 rw [← hD]
 refine ⟨fun us h' => ∃ (a : Option Addr) (c i : Nat), us = [.slice a i c, .int .i64 i] ∧ i ≤ n.toNat ∧ Part .u8 h' (.slice a i c) ((xy D L i).drop L.length) ∧ Eng.New h0 (.slice a i c) ∧ zi (.slice a i c) ≠ some b ∧ RingAt h0 h' b T sz (zM sz (xy D L i)), fun us _ => n.toNat - (toInt (us.getD 1 undef)).toNat, ⟨_, _, 0, rfl, by omega, ?_, New.of (yg H.sub hb0), fun e => hne0 (by cases e; rfl), H.mono s0⟩, ?_⟩
 ·have e : (xy D L 0).drop L.length = [] := by simp [xy]
  rw [e]
  exact (Own.made (k := .u8) (b := b0) (T := 5) (h := h) []).part
 rintro a l c x h' ⟨a', c', i, hx1, hi2, P, N, hne, R⟩
 obtain ⟨⟨rfl, rfl, rfl⟩, rfl⟩ : (a = a' ∧ l = i ∧ c = c') ∧ x = i := by simpa using hx1
 have hll : ((xy D L l).drop L.length).length = l := by rw [List.length_drop, Bm]; omega
 refine ⟨fun hlt => ?_, fun hge => ?_⟩
 ·have hK : d ≤ ((zM sz (xy D L l)).length : Int) := by rw [xY, Bm]; omega
  refine (Su hi R d d1 hK).mono ?_
  rintro _ hq ⟨rfl, eq⟩
  rw [eq, ← hD, L1 (by omega) (by omega) (by rw [Bm]; omega)]
  obtain ⟨y, hy⟩ : ∃ y, y = (xy D L l).getD ((xy D L l).length - D) 0 := ⟨_, rfl⟩
  rw [← hy]
  have hrep : xy D L (l + 1) = xy D L l ++ [y] := by rw [xy, ← hy]
  refine ⟨_, rfl, fun b1 hb1 => ?_⟩
  have hrb' : h' b ≠ none := by obtain ⟨_, _, _, hb, _⟩ := R; rw [hb]; simp
  have s1 : Eng.Sub h' (upd h' b1 (.cells (ints .u8 [y]) 5)) := Sub.zL hb1
  have P1 := P.sub s1
  have P2 : Part .u8 (upd h' b1 (.cells (ints .u8 [y]) 5)) (.slice a l c) ((xy D L l).drop L.length) := P1
  refine xo hi (R.sub.trans s1) P2 N (ys := [y]) zq.new (by rw [hll]; simp only [List.length_singleton]; omega) fun v1 h1 o1 n1 s2 keep hblk => ?_
  obtain ⟨a3, c3, rfl, _, _⟩ := o1.ints
  have keep' : ∀ x, upd h' b1 (.cells (ints .u8 [y]) 5) x ≠ none → zi (.slice a l c) ≠ some x → h1 x = upd h' b1 (.cells (ints .u8 [y]) 5) x := keep
  have R1 : RingAt h0 h1 b T sz (zM sz (xy D L l)) := by
   obtain ⟨ds, at_, m, hb, RS, _, hn⟩ := R.mono s1
   refine ⟨ds, at_, m, ?_, RS, s2, hn⟩
   rw [keep' b (by rw [hb]; simp) hne]; exact hb
  have hne1 : zi (.slice a3 ((xy D L l).drop L.length ++ [y]).length c3) ≠ some b := by
   rcases hblk with e | e
   ·rw [e]; exact hne
   ·intro e2
    have h3 : upd h' b1 (.cells (ints .u8 [y]) 5) b = none := e b e2
    obtain ⟨_, _, _, hb, _⟩ := R.mono s1
    rw [hb] at h3; cases h3
  intro b2 hb2
  have hne2 : b2 ≠ b := fun e => by
   obtain ⟨_, _, _, hb, _⟩ := R1
   rw [e, hb] at hb2; cases hb2
  have s3 : Eng.Sub h1 (upd h1 b2 (.cells (ints .u8 [y]) 5)) := Sub.zL hb2
  refine (L0 hi (R1.mono s3) (some ⟨b2, 0, none⟩) 1 [y] (Nat.le_refl _) (by simp) (fun h'' hh => ?_)).mono ?_
  ·have hk : h'' b2 = (upd h1 b2 (.cells (ints .u8 [y]) 5)) b2 := hh b2 hne2
   rw [upd_same] at hk
   intro i x hxi
   refine ⟨_, rfl, ?_⟩
   rw [yN]
   simp only [zb, hk]
   exact IJ (sp := []) (xs := [y]) hxi
  ·rintro _ h3 ⟨rfl, R3, f3⟩
   rw [Ag, ← hrep] at R3
   have w4 : IntKind.i64.wrap ((l : Int) + 1) = ((l + 1 : Nat) : Int) := by rw [i64_in _ (by omega)]; omega
   have e1 : (xy D L l).drop L.length ++ [y] = (xy D L (l + 1)).drop L.length := by
    rw [hrep, List.drop_append_of_le_length (by rw [Bm]; omega)]
   have e2 : ((xy D L (l + 1)).drop L.length).length = l + 1 := by rw [List.length_drop, Bm]; omega
   rw [e1] at o1 n1 hne1 ⊢
   rw [w4, zo, zn, zu, e2]
   rw [e2] at o1 n1 hne1
   exact ⟨rfl, ⟨a3, c3, l + 1, rfl, by omega, Part.keep (o1.sub s3) (fun z hz => f3 z (fun e => hne1 (e ▸ hz))), n1, hne1, R3⟩, by simp only [List.getD_cons_succ, List.getD_cons_zero, toInt_int]; omega⟩
 ·obtain rfl : l = n.toNat := by omega
  exact ⟨P, N, R⟩
end
end Go.Proofs.YteaonnfokkfnlaaGreatDoor
end
section
namespace Go.Proofs.YteaonnfokkfnlaaGreatDoor
open Go Go.Eng Go.IntWalk
abbrev Ra := Int × List Int × Int × Unit
variable {S : Shared} {h : Eng.Heap} {v w : Value} {x : Ra}
end Go.Proofs.YteaonnfokkfnlaaGreatDoor
end
section
namespace Go.Proofs.YteaonnfokkfnlaaGreatDoor
open Go Go.Eng Go.IntWalk
section
variable {S : Shared} {h h0 : Eng.Heap}
def tell (dl room : Nat) (r : Rd) (al d : List Int) : Rd × List Int :=
 if r.k = 0 then (if room < al.length - dl + d.length then (⟨r.i, 6⟩, al) else (r, al ++ d)) else (r, al)
def alg (r : Rd) : Rd := if r.k = 0 then ⟨(r.i + 7) / 8 * 8, 0⟩ else r
def stL (bs : List Int) (dl room : Nat) : Nat → Rd → List Int → Rd × List Int
 | 0, r, al => (r, al)
 | n + 1, r, al => if r.k = 0 then stL bs dl room n (tell dl room (tk bs 8 r).1 al [(tk bs 8 r).2]).1 (tell dl room (tk bs 8 r).1 al [(tk bs 8 r).2]).2 else (r, al)
def stN (bs : List Int) (r : Rd) : Int := (tk bs 16 (alg r)).2
def stR (bs : List Int) (r : Rd) : Rd := bd ((tk bs 16 (tk bs 16 (alg r)).1).2 != 65535 - stN bs r) (tk bs 16 (tk bs 16 (alg r)).1).1
def stF (bs : List Int) (dl room : Nat) (r : Rd) (al : List Int) : Rd × List Int := stL bs dl room (stN bs r).toNat (stR bs r) al
def xV (s : Nat) : Nat × Nat := if s = 285 then (258, 0) else if s < 265 then (s - 254, 0) else ((4 + (s - 265) % 4) * 2 ^ ((s - 265) / 4 + 1) + 3, (s - 265) / 4 + 1)
def kG (d : Nat) : Nat × Nat := if d < 4 then (d + 1, 0) else ((2 + d % 2) * 2 ^ (d / 2 - 1) + 1, d / 2 - 1)
def cpD (al : List Int) (dist n : Nat) : List Int := (List.range n).map fun k => al.getD (al.length - dist + k % dist) 0
def cp1 (bs : List Int) (r : Rd) (s : Nat) : Rd × Int := tk bs (xV s).2 r
def cp2 (bs : List Int) (cd : List (Nat × Nat)) (r : Rd) (s : Nat) : Rd × Int := sy bs cd (cp1 bs r s).1
def cp3 (bs : List Int) (cd : List (Nat × Nat)) (r : Rd) (s : Nat) : Rd := bd (decide (29 < (cp2 bs cd r s).2)) (cp2 bs cd r s).1
def cp4 (bs : List Int) (cd : List (Nat × Nat)) (r : Rd) (s : Nat) : Rd × Int := tk bs (kG (cp2 bs cd r s).2.toNat).2 (cp3 bs cd r s)
def kW (bs : List Int) (cd : List (Nat × Nat)) (r : Rd) (s : Nat) : Nat := (kG (cp2 bs cd r s).2.toNat).1 + (cp4 bs cd r s).2.toNat
def wF (bs : List Int) (r : Rd) (s : Nat) : Nat := (xV s).1 + (cp1 bs r s).2.toNat
def cp5 (bs : List Int) (cd : List (Nat × Nat)) (sz : Nat) (r : Rd) (al : List Int) (s : Nat) : Rd := bd (decide (al.length < kW bs cd r s) || decide (sz < kW bs cd r s)) (cp4 bs cd r s).1
def cpF (bs : List Int) (cd : List (Nat × Nat)) (dl room sz : Nat) (r : Rd) (al : List Int) (s : Nat) : Rd × List Int :=
 if (cp3 bs cd r s).k ≠ 0 then (cp3 bs cd r s, al)
 else if (cp5 bs cd sz r al s).k ≠ 0 then (cp5 bs cd sz r al s, al)
 else tell dl room (cp5 bs cd sz r al s) al (cpD al (kW bs cd r s) (wF bs r s))
def sy1 (bs : List Int) (cd : List (Nat × Nat)) (dl room sz : Nat) (r : Rd) (al : List Int) (x : Int) : Rd × List Int :=
 if x < 256 then tell dl room r al [x] else if 285 < x then (bd true r, al) else cpF bs cd dl room sz r al x.toNat
def syF (bs : List Int) (cl cd : List (Nat × Nat)) (dl room sz : Nat) : Nat → Rd → List Int → Rd × List Int
  | 0, r, al => (r, al)
  | f + 1, r, al => if r.k = 0 then
      (if (sy bs cl r).1.k ≠ 0 ∨ (sy bs cl r).2 = 256 then ((sy bs cl r).1, al)
       else syF bs cl cd dl room sz f (sy1 bs cd dl room sz (sy bs cl r).1 al (sy bs cl r).2).1 (sy1 bs cd dl room sz (sy bs cl r).1 al (sy bs cl r).2).2)
    else (r, al)
def le2 (r r' : Rd) : Prop := r'.k = 0 → r.k = 0 ∧ r.i ≤ r'.i
theorem le2.refl {r : Rd} : le2 r r := fun h => ⟨h, Int.le_refl _⟩
theorem le2.trans {a b c : Rd} (H : le2 a b) (G : le2 b c) : le2 a c := fun h => by
 obtain ⟨h1, h2⟩ := G h
 obtain ⟨h3, h4⟩ := H h1
 exact ⟨h3, Int.le_trans h4 h2⟩
theorem qC {bs : List Int} {n : Nat} {r : Rd} : le2 r (tk bs n r).1 := fun h => by
 have h0 := Lw h
 refine ⟨h0, ?_⟩
 unfold tk at h ⊢
 rw [if_pos h0] at h ⊢
 split
 ·rename_i hgt; rw [if_pos hgt] at h; cases h
 ·simp only; omega
theorem A9 {w : Bool} {r : Rd} : le2 r (bd w r) := fun h => by
 obtain ⟨h1, h2⟩ := OL.1 h
 refine ⟨h1, ?_⟩
 unfold bd
 rw [if_neg (fun e => by rw [h2] at e; cases e.2)]
 exact Int.le_refl _
theorem Kr {dl room : Nat} {r : Rd} {al d : List Int} : le2 r (tell dl room r al d).1 := fun h => by
 unfold tell at h ⊢
 split
 ·rename_i h0
  rw [if_pos h0] at h
  split
  ·rename_i hgt; rw [if_pos hgt] at h; cases h
  ·exact ⟨h0, Int.le_refl _⟩
 ·rename_i h0; rw [if_neg h0] at h; exact absurd h h0
theorem E7 {bs : List Int} {dl room : Nat} {r : Rd} {al d : List Int} (H : okR bs r) : okR bs (tell dl room r al d).1 := by
 unfold tell
 split
 ·split
  ·intro h; cases h
  ·exact H
 ·exact H
theorem Nf {bs : List Int} {r : Rd} (H : okR bs r) : okR bs (alg r) := by
 unfold alg
 split
 ·rename_i h0
  have := H h0
  intro _; simp only; omega
 ·exact H
theorem Sv {r : Rd} : le2 r (alg r) := fun h => by
 unfold alg at h ⊢
 split
 ·rename_i h0; exact ⟨h0, by simp only; omega⟩
 ·rename_i h0; rw [if_neg h0] at h; exact absurd h h0
theorem Qg {bs : List Int} {cs : List (Nat × Nat)} {r : Rd} (h : (sy bs cs r).1.k = 0) : r.k = 0 ∧ r.i + 1 ≤ (sy bs cs r).1.i := by
 unfold sy at h ⊢
 by_cases h0 : r.k = 0
 ·rw [if_pos h0] at h ⊢
  refine ⟨h0, ?_⟩
  have hf := Am (bs := bs) (cs := cs) (i := r.i.toNat)
  simp only at h ⊢
  rcases hf with hf | hf
  ·omega
  ·rcases hf.1 with e | e
   ·rw [e] at h; simp at h
   ·rw [e] at h; simp at h
 ·rw [if_neg h0] at h; exact absurd h h0
theorem L3 {bs : List Int} {cs : List (Nat × Nat)} {r : Rd} : le2 r (sy bs cs r).1 := fun h => by
 have := Qg h; exact ⟨this.1, by omega⟩
end
section
variable {S : Shared} {h h0 : Eng.Heap}
theorem Rb : ∀ s : Fin 286, 257 ≤ s.1 → 3 ≤ (xV s.1).1 ∧ (xV s.1).1 ≤ 258 ∧ (xV s.1).2 ≤ 5 := by decide +kernel
theorem Rc : ∀ d : Fin 30, 1 ≤ (kG d.1).1 ∧ (kG d.1).1 ≤ 24577 ∧ (kG d.1).2 ≤ 13 := by decide +kernel
theorem F3 {dl room : Nat} {r : Rd} {al d : List Int} (h1 : dl ≤ al.length) (h2 : al.length ≤ dl + room) : dl ≤ (tell dl room r al d).2.length ∧ (tell dl room r al d).2.length ≤ dl + room := by
 unfold tell
 split
 ·split
  ·exact ⟨h1, h2⟩
  ·simp only [List.length_append]; omega
 ·exact ⟨h1, h2⟩
end
section
variable {S : Shared} {h h0 : Eng.Heap}
theorem Ng {bs : List Int} {cs : List (Nat × Nat)} {r : Rd} : 0 ≤ (sy bs cs r).2 ∧ ((sy bs cs r).2 = 0 ∨ (sy bs cs r).2 < cs.length) := by
 have hf := Am (bs := bs) (cs := cs) (i := r.i.toNat)
 unfold sy
 split
 ·simp only; omega
 ·exact ⟨Int.le_refl _, .inl rfl⟩
theorem E8 {al : List Int} {dist n : Nat} : (cpD al dist n).length = n := by simp [cpD]
theorem Pc {al : List Int} {dist n : Nat} : cpD al dist (n + 1) = cpD al dist n ++ [al.getD (al.length - dist + n % dist) 0] := by simp [cpD, List.range_succ]
theorem Hd {bs : List Int} {cl cd : List (Nat × Nat)} {dl room sz f : Nat} {r : Rd} {al : List Int} (h : r.k ≠ 0) : syF bs cl cd dl room sz f r al = (r, al) := by
 cases f with
 | zero => rfl
 | succ f => rw [syF, if_neg h]
theorem Re {bs : List Int} {cd : List (Nat × Nat)} {dl room sz : Nat} {r : Rd} {al : List Int} {s : Nat} (h1 : dl ≤ al.length) (h2 : al.length ≤ dl + room) : dl ≤ (cpF bs cd dl room sz r al s).2.length ∧ (cpF bs cd dl room sz r al s).2.length ≤ dl + room := by
 unfold cpF
 split
 ·exact ⟨h1, h2⟩
 ·split
  ·exact ⟨h1, h2⟩
  ·exact F3 h1 h2
theorem Rf {bs : List Int} {cd : List (Nat × Nat)} {dl room sz : Nat} {r : Rd} {al : List Int} {x : Int} (h1 : dl ≤ al.length) (h2 : al.length ≤ dl + room) : dl ≤ (sy1 bs cd dl room sz r al x).2.length ∧ (sy1 bs cd dl room sz r al x).2.length ≤ dl + room := by
 unfold sy1
 split
 ·exact F3 h1 h2
 ·split
  ·exact ⟨h1, h2⟩
  ·exact Re h1 h2
theorem CodesAt.same {h' : Eng.Heap} {a : Option Addr} {l c : Nat} {cs : List (Nat × Nat)} (H : CodesAt h a l cs) (hk : ∀ z, zi (.slice a l c) = some z → h' z = h z) : CodesAt h' a l cs := by
 obtain ⟨⟨ps, h1, h2⟩, h3, h4⟩ := H
 refine ⟨⟨ps, fun i p hp => ?_, h2⟩, h3, h4⟩
 obtain ⟨ad, rfl, g1, g2⟩ := h1 i p hp
 have e := hk ad.block rfl
 have blk : ∀ n, (ad.add n).block = ad.block := fun n => by unfold Addr.add; split <;> rfl
 have hh : ∀ n, Eng.zb h' (ad.add n) = Eng.zb h (ad.add n) := fun n => by
  unfold Eng.zb; rw [show h' (ad.add n).block = h (ad.add n).block by rw [blk]; exact e]
 exact ⟨ad, rfl, (hh _).trans g1, (hh _).trans g2⟩
end
section
variable {S : Shared} {h h0 : Eng.Heap}
theorem Ku {bs : List Int} {cs : List (Nat × Nat)} {tot : Nat} : ∀ {n : Nat} {r : Rd} {all : List Int}, tot - all.length ≤ n → all.length ≤ tot → (lg bs cs tot r all).1.k = 0 → (lg bs cs tot r all).2.length ≤ tot
 | 0, r, all, hn, hl, H => by rw [jQ (fun e => by omega)]; exact hl
 | n + 1, r, all, hn, hl, H => by
  by_cases h : r.k = 0 ∧ all.length < tot
  ·rw [E3 h] at H ⊢
   by_cases hk : (lg1 bs cs tot r all).1.k = 0
   ·have := (Cq (bs := bs) (cs := cs) (tot := tot) (r := r) (all := all)).2.2 hk
    exact Ku (n := n) (by omega) this.2 H
   ·rw [jQ (fun e => hk e.1)] at H; exact absurd H hk
  ·rw [jQ h]; exact hl
theorem L4 {bs : List Int} {r : Rd} : (yo bs r).2.1.length ≤ 1000 ∧ (yo bs r).2.2.length ≤ 1000 := by
 unfold yo
 split
 ·rename_i hk
  have n1 := yJ (bs := bs) (n := 5) (r := r)
  have n2 := yJ (bs := bs) (n := 5) (r := j0 bs r)
  have q5 : (2 : Int) ^ 5 = 32 := by decide
  have h1 : Bi bs r ≤ 288 := by unfold Bi; omega
  have h2 : E4 bs r ≤ 32 := by unfold E4; omega
  have h3 : (qe bs r).2.length ≤ Bi bs r + E4 bs r := Ku (Nat.le_refl _) (by simp) hk
  simp only [List.length_take, List.length_drop]
  omega
 ·simp
theorem Nh {bs : List Int} {r : Rd} (ok : okR bs r) : okR bs (yo bs r).1 := by
 have := (Hc ok).2.2.2.2
 unfold yo
 split
 ·exact Ez this
 ·exact this
section
variable {bs : List Int} {dl room sz : Nat}
theorem Kv : ∀ {n : Nat} {r : Rd} {al : List Int}, dl ≤ al.length → al.length ≤ dl + room → dl ≤ (stL bs dl room n r al).2.length ∧ (stL bs dl room n r al).2.length ≤ dl + room
 | 0, r, al, h1, h2 => ⟨h1, h2⟩
 | n + 1, r, al, h1, h2 => by
  unfold stL
  split
  ·have := F3 (r := (tk bs 8 r).1) (d := [(tk bs 8 r).2]) h1 h2
   exact Kv this.1 this.2
  ·exact ⟨h1, h2⟩
theorem He {cl cd : List (Nat × Nat)} : ∀ {f : Nat} {r : Rd} {al : List Int}, dl ≤ al.length → al.length ≤ dl + room → dl ≤ (syF bs cl cd dl room sz f r al).2.length ∧ (syF bs cl cd dl room sz f r al).2.length ≤ dl + room
 | 0, r, al, h1, h2 => ⟨h1, h2⟩
 | f + 1, r, al, h1, h2 => by
  unfold syF
  split
  ·split
   ·exact ⟨h1, h2⟩
   ·have := Rf (bs := bs) (cd := cd) (sz := sz) (r := (sy bs cl r).1) (x := (sy bs cl r).2) h1 h2
    exact He this.1 this.2
  ·exact ⟨h1, h2⟩
theorem Qh {r : Rd} : ∀ {k : Nat}, le2 r (sm bs r k).1
 | 0 => le2.refl
 | k + 1 => Qh.trans qC
theorem TD {r : Rd} {all : List Int} {x : Int} : le2 r (rp bs r all x).1 := by
 unfold rp
 split
 ·exact A9.trans qC
 ·split
  ·exact qC
  ·split
   ·exact qC
   ·exact le2.refl
theorem Ni {cs : List (Nat × Nat)} {tot : Nat} {r : Rd} {all : List Int} : le2 r (lg1 bs cs tot r all).1 := by
 unfold lg1
 split
 ·exact (L3.trans TD).trans A9
 ·exact L3
theorem Qi {cs : List (Nat × Nat)} {tot : Nat} : ∀ {n : Nat} {r : Rd} {all : List Int}, tot - all.length ≤ n → le2 r (lg bs cs tot r all).1
 | 0, r, all, hn => by rw [jQ (fun e => by omega)]; exact le2.refl
 | n + 1, r, all, hn => by
  by_cases h : r.k = 0 ∧ all.length < tot
  ·rw [E3 h]
   by_cases hk : (lg1 bs cs tot r all).1.k = 0
   ·have := (Cq (bs := bs) (cs := cs) (tot := tot) (r := r) (all := all)).2.2 hk
    exact Ni.trans (Qi (n := n) (by omega))
   ·rw [jQ (fun e => hk e.1)]; exact Ni
  ·rw [jQ h]; exact le2.refl
theorem Pd {r : Rd} : le2 r (yo bs r).1 := by
 have h0 : le2 r (j0 bs r) := qC.trans A9
 have h1 : le2 r (wC bs r) := h0.trans (qC.trans A9)
 have h2 : le2 r (jG bs r).1 := h1.trans (qC.trans Qh)
 have h3 : le2 r (Gx bs r) := h2.trans A9
 have h4 : le2 r (qe bs r).1 := h3.trans (Qi (Nat.le_refl _))
 unfold yo
 split
 ·exact h4.trans A9
 ·exact h4
theorem L5 {r : Rd} (h : (yo bs r).1.k = 0) : ¬ (zp (yo bs r).2.1 = 0 ∨ zp (yo bs r).2.1 = 2) ∧ ¬ (zp (yo bs r).2.2 = 0 ∨ zp (yo bs r).2.2 = 2) := by
 unfold yo at h ⊢
 split
 ·rename_i hk
  rw [if_pos hk] at h
  have hb := (OL.1 h).2
  simp only
  unfold Hb at hb
  simp only [Bool.or_eq_false_iff, Bool.not_eq_false', Bool.or_eq_true, beq_iff_eq] at hb
  omega
 ·rename_i hk
  rw [if_neg hk] at h
  exact absurd h hk
end
def kH : List Int := List.replicate 32 5
theorem HK : zp kH = 1 := by decide +kernel
def bk1 (bs : List Int) (r : Rd) : Rd × Int := tk bs 1 r
def bk2 (bs : List Int) (r : Rd) : Rd × Int := tk bs 2 (bk1 bs r).1
def bk3 (bs : List Int) (r : Rd) : Rd := bd ((bk2 bs r).2 == 3) (bk2 bs r).1
def blk (bs : List Int) (dl room sz F : Nat) (r : Rd) (al : List Int) : Rd × List Int :=
 if (bk3 bs r).k ≠ 0 then (bk3 bs r, al)
 else if (bk2 bs r).2 = 0 then stF bs dl room (bk3 bs r) al
 else if (bk2 bs r).2 = 1 then syF bs (zr yk) (zr kH) dl room sz F (bk3 bs r) al
 else if (yo bs (bk3 bs r)).1.k ≠ 0 then ((yo bs (bk3 bs r)).1, al)
 else syF bs (zr (yo bs (bk3 bs r)).2.1) (zr (yo bs (bk3 bs r)).2.2) dl room sz F (yo bs (bk3 bs r)).1 al
def blF (bs : List Int) (dl room sz F : Nat) : Nat → Rd → List Int → Rd × List Int
 | 0, r, al => (r, al)
 | f + 1, r, al => if r.k = 0 then (if (bk1 bs r).2 ≠ 0 then blk bs dl room sz F r al else blF bs dl room sz F f (blk bs dl room sz F r al).1 (blk bs dl room sz F r al).2) else (r, al)
section
variable {bs : List Int} {dl room sz F : Nat} {r : Rd} {al : List Int}
theorem Nj {n : Nat} {r : Rd} (h : (tk bs n r).1.k = 0) : (tk bs n r).1.i = r.i + n := by
 have h0 := Lw h
 unfold tk at h ⊢
 rw [if_pos h0] at h ⊢
 split
 ·rename_i hgt; rw [if_pos hgt] at h; cases h
 ·rfl
theorem Sw (h : (bk3 bs r).k = 0) : r.k = 0 ∧ r.i + 3 ≤ (bk3 bs r).i := by
 have h3 := A9 (w := (bk2 bs r).2 == 3) (r := (bk2 bs r).1) h
 have h2 := Nj (bs := bs) (n := 2) (r := (bk1 bs r).1) h3.1
 have h1 := Lw (bs := bs) (n := 2) (r := (bk1 bs r).1) h3.1
 have h0 := Nj (bs := bs) (n := 1) (r := r) h1
 refine ⟨Lw h1, ?_⟩
 have e1 : (bk2 bs r).1.i = (bk1 bs r).1.i + 2 := h2
 have e0 : (bk1 bs r).1.i = r.i + 1 := h0
 have e3 : (bk2 bs r).1.i ≤ (bk3 bs r).i := h3.2
 omega
theorem Rh (h1 : dl ≤ al.length) (h2 : al.length ≤ dl + room) : dl ≤ (blk bs dl room sz F r al).2.length ∧ (blk bs dl room sz F r al).2.length ≤ dl + room := by
 unfold blk
 split
 ·exact ⟨h1, h2⟩
 ·split
  ·exact Kv h1 h2
  ·split
   ·exact He h1 h2
   ·split
    ·exact ⟨h1, h2⟩
    ·exact He h1 h2
theorem Kw {f : Nat} (h : r.k ≠ 0) : blF bs dl room sz F f r al = (r, al) := by
 cases f with
 | zero => rfl
 | succ f => rw [blF, if_neg h]
end
end
section
variable {S : Shared} {h h0 : Eng.Heap}
theorem Kx {bs : List Int} {dl room sz F : Nat} : ∀ {f : Nat} {r : Rd} {al : List Int}, dl ≤ al.length → al.length ≤ dl + room → dl ≤ (blF bs dl room sz F f r al).2.length ∧ (blF bs dl room sz F f r al).2.length ≤ dl + room
 | 0, r, al, h1, h2 => ⟨h1, h2⟩
 | f + 1, r, al, h1, h2 => by
  have := Rh (bs := bs) (sz := sz) (F := F) (r := r) h1 h2
  unfold blF
  split
  ·split
   ·exact this
   ·exact Kx this.1 this.2
  ·exact ⟨h1, h2⟩
end
end Go.Proofs.YteaonnfokkfnlaaGreatDoor
end
