import Derived.Test.YteaonnfokkfnlaaDoorKTrie
import Derived.Test.YteaonnfokkfnlaaDoorKInfA
import Derived.Test.YteaonnfokkfnlaaDoorKMarks
import Derived.Test.YteaonnfokkfnlaaDoorTrES
import Derived.Test.YteaonnfokkfnlaaDoorTyB
import Derived.Test.YteaonnfokkfnlaaDoorTrL1
import Derived.Test.YteaonnfokkfnlaaDoorEng3
import Derived.Test.YteaonnfokkfnlaaDoorTrL2
import Derived.Test.YteaonnfokkfnlaaDoorTrFE
import Derived.Test.YteaonnfokkfnlaaDoorKInfM
set_option linter.unusedVariables false
set_option linter.unusedSimpArgs false
namespace Go.Proofs.YteaonnfokkfnlaaDoor
open Go Go.Eng Go.IntWalk
section

/-! ### Codes turned round -/

theorem tl_split (x : Int) (a : Nat) : ∀ b : Nat, tl x (a + b) = 2 ^ b * tl x a + tl (x / 2 ^ a) b
  | 0 => by simp [tl]
  | b + 1 => by
    have hd : x / 2 ^ a / 2 ^ b = x / 2 ^ (a + b) := by rw [Int.ediv_ediv_of_nonneg (Int.le_of_lt (Int.pow_pos (by decide))), ← Int.pow_add]
    rw [← Nat.add_assoc, tl, tl_split x a b, tl, hd, Int.pow_succ]
    have e : (2 : Int) ^ b * 2 * tl x a = 2 * (2 ^ b * tl x a) := by rw [Int.mul_comm (2 ^ b) 2, Int.mul_assoc]
    rw [e]; omega

theorem tl_low (x : Int) (a b : Nat) : tl x (a + b) % 2 ^ b = tl (x / 2 ^ a) b := by
  have h := tl_lt (x := x / 2 ^ a) (n := b)
  rw [tl_split, Int.add_comm, Int.add_mul_emod_self_left]
  exact Int.emod_eq_of_lt h.1 h.2

theorem mod_top (z : Int) (n : Nat) : z % 2 ^ (n + 1) = z % 2 ^ n + 2 ^ n * (z / 2 ^ n % 2) := by
  have hp : (0 : Int) < 2 ^ n := Int.pow_pos (by decide)
  have hd : z / (2 ^ n * 2) = z / 2 ^ n / 2 := (Int.ediv_ediv_of_nonneg (Int.le_of_lt hp)).symm
  rw [Int.pow_succ, Int.emod_def z (2 ^ n * 2), hd, Int.emod_def z (2 ^ n), Int.emod_def (z / 2 ^ n) 2, Int.mul_sub, Int.mul_assoc]
  omega

theorem tl_tl (x : Int) : ∀ n : Nat, tl (tl x n) n = x % 2 ^ n
  | 0 => by simp [tl]
  | n + 1 => by
    have e0 : tl x (n + 1) / 2 ^ 1 = tl x n := by rw [tl]; omega
    have e1 : tl (tl x (n + 1)) 1 = x / 2 ^ n % 2 := by
      simp only [tl, Int.pow_zero, Int.ediv_one]; omega
    have := tl_split (tl x (n + 1)) 1 n
    rw [Nat.add_comm 1 n, e0, e1, tl_tl x n] at this
    rw [this, mod_top]
    omega

theorem cst_step {xs : List Int} {M : Nat} (hM : 1 ≤ M) : ∀ {d : Nat}, 2 ^ d * (2 * (cst xs M + ((xs.count (M : Int) : Nat) : Int))) ≤ cst xs (M + 1 + d)
  | 0 => by simp only [cst, Nat.add_zero, Int.pow_zero, Int.one_mul, if_neg (show ¬ M = 0 by omega)]; omega
  | d + 1 => by
    have ih := cst_step (xs := xs) hM (d := d)
    rw [← Nat.add_assoc, cst, if_neg (by omega), Int.pow_succ]
    have e : (2 : Int) ^ d * 2 * (2 * (cst xs M + ((xs.count (M : Int) : Nat) : Int))) = 2 * (2 ^ d * (2 * (cst xs M + ((xs.count (M : Int) : Nat) : Int)))) := by rw [Int.mul_comm (2 ^ d) 2, Int.mul_assoc]
    rw [e]
    have : (0 : Int) ≤ ((xs.count ((M + 1 + d : Nat) : Int) : Nat) : Int) := Int.natCast_nonneg _
    omega

/-- What a code is. -/
theorem code_key {xs : List Int} (h : ¬ (hkind xs = 0 ∨ hkind xs = 2)) {j l v : Nat} (hl : 0 < l) (hj : (codesN xs)[j]? = some (l, v)) :
    ∃ hj : j < xs.length, xs[j] = (l : Int) ∧ l ≤ 15 ∧ v < 2 ^ l ∧ (v : Int) = tl (cst xs l + (((xs.take j).count (l : Int) : Nat) : Int)) l := by
  obtain ⟨hlen, hok⟩ := hkind_ok h
  have hj1 : j < xs.length := by have := (List.getElem?_eq_some_iff.1 hj).1; rwa [codesN_len] at this
  have hg := codesOf_get (xs := xs) hj1
  have hb := hok _ (List.getElem_mem hj1)
  obtain ⟨k, hk⟩ := Int.eq_ofNat_of_zero_le hb.1
  obtain ⟨l', b', e, hn, h15, hlt⟩ := codesOf_cast hok hg
  rw [hj] at hn
  simp only [Option.some.injEq, Prod.mk.injEq] at hn
  obtain ⟨rfl, rfl⟩ := hn
  by_cases h1 : 1 ≤ xs[j]
  · rw [if_pos h1, codeAt_eq hj1 hk] at e
    simp only [Prod.mk.injEq] at e
    have e1 : k = l := by exact_mod_cast e.1
    subst e1
    exact ⟨hj1, hk, h15, hlt, e.2.symm⟩
  · rw [if_neg h1] at e
    simp only [Prod.mk.injEq] at e
    omega

/-- No code begins another. -/
def pfree (cs : List (Nat × Nat)) : Prop := ∀ s t L v M w : Nat, s ≠ t → cs[s]? = some (L, v) → cs[t]? = some (M, w) → 0 < M → M ≤ L → v % 2 ^ M ≠ w

theorem codes_pfree {xs : List Int} (h : ¬ (hkind xs = 0 ∨ hkind xs = 2)) : pfree (codesN xs) := by
  intro s t L v M w hst hs ht hM hML heq
  have hk := kr_ok h
  obtain ⟨hj1, e1, L15, hv, ev⟩ := code_key h (by omega) hs
  obtain ⟨hj2, e2, M15, hw, ew⟩ := code_key h hM ht
  by_cases hlt : M = L
  · subst hlt
    rw [Nat.mod_eq_of_lt hv] at heq
    subst heq
    exact hst (codes_uniq h s t M v hM hs ht)
  · obtain ⟨d, rfl⟩ : ∃ d, L = M + 1 + d := ⟨L - (M + 1), by omega⟩
    have c1 := count_take_lt hj1 e1
    have c2 := count_take_lt hj2 e2
    have r1 := cst_room (xs := xs) hk (l := M + 1 + d) (by omega) L15
    have r2 := cst_room (xs := xs) hk (l := M) (by omega) M15
    have hc := hkind_ok h
    have n1 := (cst_small (xs := xs) hc.1 (l := M + 1 + d) (by omega)).1
    have n2 := (cst_small (xs := xs) hc.1 (l := M) (by omega)).1
    have st := cst_step (xs := xs) (M := M) hM (d := d)
    generalize hK : cst xs (M + 1 + d) + (((xs.take s).count ((M + 1 + d : Nat) : Int) : Nat) : Int) = K at ev
    generalize hJ : cst xs M + (((xs.take t).count (M : Int) : Nat) : Int) = J at ew
    have hq : (v : Int) % 2 ^ M = (w : Int) := by rw [pow_cast]; exact_mod_cast congrArg Nat.cast heq
    rw [ev, ew, show M + 1 + d = (1 + d) + M by omega, tl_low] at hq
    have hp : (0 : Int) < 2 ^ (1 + d) := Int.pow_pos (by decide)
    have hp2 : (2 : Int) ^ (1 + d) = 2 * 2 ^ d := by rw [Nat.add_comm, Int.pow_succ]; omega
    have hpM : (0 : Int) < 2 ^ M := Int.pow_pos (by decide)
    have hKn : 0 ≤ K := by omega
    have hi := tl_inj (Int.ediv_nonneg hKn (Int.le_of_lt hp)) (by omega) hq
    have hJlt : J < 2 ^ M := by omega
    have hKlt : K / 2 ^ (1 + d) < 2 ^ M := by
      refine Int.ediv_lt_of_lt_mul hp ?_
      rw [← Int.pow_add, show M + (1 + d) = M + 1 + d by omega]; omega
    rw [Int.emod_eq_of_lt (Int.ediv_nonneg hKn (Int.le_of_lt hp)) hKlt, Int.emod_eq_of_lt (by omega) hJlt] at hi
    have hge : J + 1 ≤ K / 2 ^ (1 + d) := by
      rw [Int.le_ediv_iff_mul_le hp, hp2]
      have e3 : (J + 1) * (2 * 2 ^ d) ≤ (cst xs M + ((xs.count (M : Int) : Nat) : Int)) * (2 * 2 ^ d) := Int.mul_le_mul_of_nonneg_right (by omega) (by omega)
      have e4 : (cst xs M + ((xs.count (M : Int) : Nat) : Int)) * (2 * 2 ^ d) = 2 ^ d * (2 * (cst xs M + ((xs.count (M : Int) : Nat) : Int))) := by
        generalize cst xs M + ((xs.count (M : Int) : Nat) : Int) = q
        rw [Int.mul_comm q, Int.mul_comm 2 (2 ^ d), Int.mul_assoc]
      omega
    omega

/-! ### What is read -/

theorem Ym_mid {cs : List (Nat × Nat)} (U : pfree cs) {s L v l : Nat} (h : cs[s]? = some (L, v)) (hl : l < L) : Ym cs cs.length l (v % 2 ^ l) = 0 := by
  refine Ym_none fun t ht hc h0 => ?_
  have hst : s ≠ t := fun e => by
    subst e; rw [h] at hc
    simp only [Option.some.injEq, Prod.mk.injEq] at hc
    omega
  exact U s t L v l (v % 2 ^ l) hst h hc h0 (by omega) rfl

theorem Ec_mid {cs : List (Nat × Nat)} {s L v l : Nat} (h : cs[s]? = some (L, v)) (hl : l < L) : Ec cs l (v % 2 ^ l) := ⟨(L, v), List.mem_of_getElem? h, hl, rfl⟩

theorem nxt_found {cs : List (Nat × Nat)} (U : uniq cs) (F : pfree cs) {s L v b : Nat} (h : cs[s]? = some (L, v)) (h0 : 0 < L) (hb : b % 2 ^ L = v) : ∀ (f l : Nat), l ≤ L → L < f + l → nxt cs b f l = (1, (s : Int), (L : Int))
  | 0, l, h1, h2 => by omega
  | f + 1, l, h1, h2 => by
    unfold nxt
    by_cases hl : l = L
    · subst hl
      rw [hb, Ym_at U h h0 (List.getElem?_eq_some_iff.1 h).1]
      simp
    · have e : b % 2 ^ l = v % 2 ^ l := by rw [← hb, mod_pow h1]
      rw [e, Ym_mid F h (by omega), if_neg (by simp), if_pos (Ec_mid h (by omega)), nxt_found U F h h0 hb f (l + 1) (by omega) (by omega)]

theorem nxt_short {cs : List (Nat × Nat)} (F : pfree cs) {s L v b : Nat} (h : cs[s]? = some (L, v)) (hb : b % 2 ^ L = v) : ∀ (f l : Nat), f + l ≤ L → nxt cs b f l = (2, 0, 0)
  | 0, l, h1 => rfl
  | f + 1, l, h1 => by
    unfold nxt
    have e : b % 2 ^ l = v % 2 ^ l := by rw [← hb, mod_pow (by omega)]
    rw [e, Ym_mid F h (by omega), if_neg (by simp), if_pos (Ec_mid h (by omega)), nxt_short F h hb f (l + 1) (by omega)]

/-! ### A complete code reads everything -/

theorem kfin_all : ∀ {xs : List Int}, hok xs → kfin 15 xs = kr xs
  | [], _ => by simp [kfin, kr]
  | x :: r, H => by
    have ih := kfin_all (xs := r) fun y hy => H y (List.mem_cons_of_mem _ hy)
    have hx := H x (List.mem_cons_self ..)
    unfold kfin kr at *
    simp only [List.map_cons, List.sum_cons, ih]
    by_cases h0 : 0 < x
    · rw [if_pos ⟨h0, by omega⟩]
    · rw [if_neg (by omega)]
      unfold kterm
      rw [if_neg h0]

theorem count_at : ∀ {xs : List Int} {a : Int} {r : Nat}, r < xs.count a → ∃ j, ∃ h : j < xs.length, xs[j] = a ∧ (xs.take j).count a = r
  | [], a, r, h => by simp at h
  | x :: t, a, r, h => by
    by_cases hx : x = a
    · subst hx
      rw [List.count_cons_self] at h
      cases r with
      | zero => exact ⟨0, by simp, rfl, rfl⟩
      | succ r =>
        obtain ⟨j, hj, e1, e2⟩ := count_at (xs := t) (a := x) (r := r) (by omega)
        exact ⟨j + 1, by simpa using hj, by simpa using e1, by rw [List.take_succ_cons, List.count_cons_self, e2]⟩
    · rw [List.count_cons_of_ne hx] at h
      obtain ⟨j, hj, e1, e2⟩ := count_at (xs := t) (a := a) (r := r) h
      exact ⟨j + 1, by simpa using hj, by simpa using e1, by rw [List.take_succ_cons, List.count_cons_of_ne hx, e2]⟩

theorem first_over {F : Nat → Int} {y : Int} (h0 : F 0 ≤ y) : ∀ {n : Nat}, y < F n → ∃ l, l < n ∧ F l ≤ y ∧ y < F (l + 1)
  | 0, h => by omega
  | n + 1, h => by
    by_cases hn : y < F n
    · obtain ⟨l, h1, h2, h3⟩ := first_over h0 hn
      exact ⟨l, by omega, h2, h3⟩
    · exact ⟨n, by omega, by omega, h⟩

theorem full_code {xs : List Int} (h : hkind xs = 1) (b : Nat) : ∃ s L v : Nat, (codesN xs)[s]? = some (L, v) ∧ 0 < L ∧ L ≤ 15 ∧ b % 2 ^ L = v := by
  have hg : ¬ (hkind xs = 0 ∨ hkind xs = 2) := by omega
  obtain ⟨hlen, hok⟩ := hkind_ok hg
  have hkr : kr xs = 32768 := by
    unfold hkind at h
    by_cases h3 : cn xs = 0
    · simp [show ¬ xs.length > 320 by omega, hok, h3] at h
    · by_cases h4 : kr xs > 32768
      · simp [show ¬ xs.length > 320 by omega, hok, h3, h4] at h
      · by_cases h5 : kr xs = 32768
        · exact h5
        · by_cases h6 : cn xs = 1 ∧ kr xs = 16384
          · simp [show ¬ xs.length > 320 by omega, hok, h3, h4, h5, h6] at h
          · rw [if_neg (by omega), if_neg (fun h => h hok), if_neg h3, if_neg h4, if_neg h5, if_neg h6] at h
            omega
  have hy := tl_lt (x := (b : Int)) (n := 15)
  have e15 : (2 : Int) ^ 15 = 32768 := by decide
  generalize hyy : tl (b : Int) 15 = y at hy
  obtain ⟨l, hl, f1, f2⟩ := first_over (F := fun l => kfin l xs) (y := y) (n := 15) (by show kfin 0 xs ≤ y; rw [kfin_zero]; exact hy.1) (by show y < kfin 15 xs; rw [kfin_all hok, hkr]; omega)
  have f1 : kfin l xs ≤ y := f1
  have f2 : y < kfin (l + 1) xs := f2
  have a := cst_kfin (xs := xs) l (by omega)
  have bb := kfin_succ l (by omega) xs
  have hp : (0 : Int) < 2 ^ (15 - (l + 1)) := Int.pow_pos (by decide)
  have g1 : cst xs (l + 1) ≤ y / 2 ^ (15 - (l + 1)) := by rw [Int.le_ediv_iff_mul_le hp]; omega
  have g2 : y / 2 ^ (15 - (l + 1)) < cst xs (l + 1) + ((xs.count ((l + 1 : Nat) : Int) : Nat) : Int) := by
    refine Int.ediv_lt_of_lt_mul hp ?_
    rw [Int.add_mul]; omega
  obtain ⟨r, hr⟩ := Int.eq_ofNat_of_zero_le (show 0 ≤ y / 2 ^ (15 - (l + 1)) - cst xs (l + 1) by omega)
  obtain ⟨j, hj, e1, e2⟩ := count_at (xs := xs) (a := ((l + 1 : Nat) : Int)) (r := r) (by omega)
  have hgj := codesOf_get (xs := xs) hj
  rw [if_pos (by rw [e1]; omega), codeAt_eq hj e1, e2] at hgj
  obtain ⟨L, v, e3, e4, _, _⟩ := codesOf_cast hok hgj
  simp only [Prod.mk.injEq] at e3
  have eL : l + 1 = L := by exact_mod_cast e3.1
  subst eL
  refine ⟨j, l + 1, v, e4, by omega, by omega, ?_⟩
  have e5 : cst xs (l + 1) + (r : Int) = y / 2 ^ (15 - (l + 1)) := by omega
  have e6 := e3.2
  rw [e5] at e6
  have e7 := tl_low y (15 - (l + 1)) (l + 1)
  rw [show 15 - (l + 1) + (l + 1) = 15 by omega, e6, ← hyy, tl_tl] at e7
  have e8 : (b : Int) % 2 ^ 15 % 2 ^ (l + 1) = (b : Int) % 2 ^ (l + 1) := by
    refine Int.emod_emod_of_dvd _ ⟨2 ^ (15 - (l + 1)), ?_⟩
    rw [← Int.pow_add, show l + 1 + (15 - (l + 1)) = 15 by omega]
  rw [e8, pow_cast] at e7
  exact_mod_cast e7
end

section

/-! ### Bits that stand in bytes -/
/-- The bits s stand in the bytes B from place p on. -/
def AtB (B : List Int) (p : Nat) (s : List Int) : Prop := p + s.length ≤ 8 * B.length ∧ ∀ j x, s[j]? = some x → bitAt B (p + j) = x
section
variable {B : List Int} {p : Nat} {s t : List Int}
theorem AtB.left (H : AtB B p (s ++ t)) : AtB B p s :=
  ⟨by have := H.1; rw [List.length_append] at this; omega, fun j x hj => H.2 j x (by rw [List.getElem?_append_left (List.getElem?_eq_some_iff.1 hj).1]; exact hj)⟩
theorem AtB.right (H : AtB B p (s ++ t)) : AtB B (p + s.length) t :=
  ⟨by have := H.1; rw [List.length_append] at this; omega, fun j x hj => by
    have := H.2 (s.length + j) x (by rw [List.getElem?_append_right (by omega), Nat.add_sub_cancel_left]; exact hj)
    rw [← Nat.add_assoc] at this; exact this⟩
theorem bitsOf_get {x : Int} {n j : Nat} (h : j < n) : (bitsOf x n)[j]? = some (x / 2 ^ j % 2) := by simp [bitsOf, h]
theorem numAt_bits {x : Int} : ∀ {n : Nat}, (∀ j, j < n → bitAt B (p + j) = x / 2 ^ j % 2) → numAt B p n = x % 2 ^ n
  | 0, _ => by simp [numAt, Int.emod_one]
  | n + 1, H => by
    rw [numAt, numAt_bits (n := n) fun j hj => H j (by omega), H n (by omega), mod_top, Int.mul_comm (2 ^ n)]
theorem AtB.num {x : Int} {n : Nat} (H : AtB B p (bitsOf x n)) : numAt B p n = x % 2 ^ n :=
  numAt_bits fun j hj => H.2 j _ (bitsOf_get hj)
theorem numAt_add {a : Nat} : ∀ {d : Nat}, numAt B p (a + d) = numAt B p a + 2 ^ a * numAt B (p + a) d
  | 0 => by simp [numAt]
  | d + 1 => by
    rw [← Nat.add_assoc, numAt, numAt_add (d := d), numAt, Int.mul_add, Int.pow_add, Nat.add_assoc, Int.add_assoc]
    congr 2
    ac_rfl
theorem numAt_mod {a d : Nat} : numAt B p (a + d) % 2 ^ a = numAt B p a := by
  have := numAt_lt (xs := B) (a := p) (n := a)
  rw [numAt_add, Int.add_mul_emod_self_left]
  exact Int.emod_eq_of_lt this.1 this.2
/-- A number that stands there is read. -/
theorem tk_num_at {n : Nat} (h : p + n ≤ 8 * B.length) : tk B n ⟨(p : Int), 0⟩ = (⟨((p + n : Nat) : Int), 0⟩, numAt B p n) := by
  unfold tk
  rw [if_pos rfl, if_neg (by simp only; omega)]
  simp only [Int.toNat_natCast]
  push_cast; rfl
theorem AtB.tk {x : Int} {n : Nat} (H : AtB B p (bitsOf x n)) (h0 : 0 ≤ x) (h1 : x < 2 ^ n) : tk B n ⟨(p : Int), 0⟩ = (⟨((p + n : Nat) : Int), 0⟩, x) := by
  have := H.1
  rw [bitsOf_len] at this
  rw [tk_num_at this, H.num, Int.emod_eq_of_lt h0 h1]
/-- A symbol whose code stands there is read. -/
theorem AtB.sy {xs : List Int} (hg : ¬ (hkind xs = 0 ∨ hkind xs = 2)) {s l b : Nat} (hc : (codesN xs)[s]? = some (l, b)) (h0 : 0 < l) (H : AtB B p (bitsOf b l)) : sy B (codesN xs) ⟨(p : Int), 0⟩ = (⟨((p + l : Nat) : Int), 0⟩, (s : Int)) := by
  obtain ⟨_, _, h15, hlt, _⟩ := code_key hg h0 hc
  have hp := H.1
  rw [bitsOf_len] at hp
  have hL : l ≤ look B p := by unfold look; omega
  obtain ⟨d, hd⟩ : ∃ d, look B p = l + d := ⟨look B p - l, by omega⟩
  have hn : numAt B p (look B p) % 2 ^ l = (b : Int) := by
    rw [hd, numAt_mod, H.num]
    refine Int.emod_eq_of_lt (by omega) ?_
    rw [pow_cast]; exact_mod_cast hlt
  have hb : (numAt B p (look B p)).toNat % 2 ^ l = b := by
    obtain ⟨m, hm⟩ := Int.eq_ofNat_of_zero_le (numAt_lt (xs := B) (a := p) (n := look B p)).1
    rw [hm] at hn ⊢
    rw [pow_cast] at hn
    rw [Int.toNat_natCast]
    exact_mod_cast hn
  have e : nxB B (codesN xs) p = (1, (s : Int), (l : Int)) := by
    unfold nxB
    exact nxt_found (codes_uniq hg) (codes_pfree hg) hc h0 hb (look B p + 1) 0 (by omega) (by omega)
  unfold Go.Proofs.YteaonnfokkfnlaaDoor.sy
  rw [if_pos rfl]
  simp only [Int.toNat_natCast, e]
  simp
end

/-! ### The fixed code -/
theorem cb_code {c : Nat} (h : c < 288) : ∃ l b : Nat, (codesN fixL)[c]? = some (l, b) ∧ 0 < l ∧ l ≤ 15 ∧ b < 2 ^ l ∧ cbits c = bitsOf b l ∧ (l : Int) = (if c < 144 then 8 else if c < 256 then 9 else if c < 280 then 7 else 8) := by
  have hok := (hkind_ok fixL_good).2
  have hj : c < fixL.length := by rw [fixL_len]; exact h
  have hg := codesOf_get (xs := fixL) hj
  obtain ⟨l, b, e, hn, h1, h2⟩ := codesOf_cast hok hg
  have hv : fixL[c] = (if c < 144 then 8 else if c < 256 then 9 else if c < 280 then 7 else 8) := by
    have := fixL_get h
    rw [List.getElem?_eq_getElem hj] at this
    exact Option.some.inj this
  have hpos : 1 ≤ fixL[c] := by rw [hv]; split <;> (try split) <;> (try split) <;> omega
  obtain ⟨m, hm⟩ := Int.eq_ofNat_of_zero_le (show 0 ≤ fixL[c] by omega)
  rw [if_pos hpos, codeAt_eq hj hm] at e
  have el : (l : Int) = fixL[c] := by rw [hm]; exact (Prod.mk.inj e).1.symm
  obtain ⟨l', b', g1, _, _, g4⟩ := code_facts h
  rw [if_pos hpos, codeAt_eq hj hm, e] at hg
  rw [hg] at g1
  simp only [Option.some.injEq, Prod.mk.injEq] at g1
  have q1 : l = l' := by exact_mod_cast g1.1
  have q2 : b = b' := by exact_mod_cast g1.2
  subst q1; subst q2
  exact ⟨l, b, hn, by omega, h1, h2, g4, by rw [el, hv]⟩

section
variable {B : List Int} {p : Nat} {dl room sz : Nat}
theorem cb_sy {c : Nat} (h : c < 288) (H : AtB B p (cbits c)) : sy B (codesN fixL) ⟨(p : Int), 0⟩ = (⟨((p + (cbits c).length : Nat) : Int), 0⟩, (c : Int)) := by
  obtain ⟨l, b, h1, h2, _, _, h5, _⟩ := cb_code h
  rw [h5] at H ⊢
  rw [bitsOf_len]
  exact H.sy fixL_good h1 h2
theorem tell_fits {r : Rd} {al d : List Int} (hk : r.k = 0) (h : al.length - dl + d.length ≤ room) : tell dl room r al d = (r, al ++ d) := by
  unfold tell; rw [if_pos hk, if_neg (by omega)]

theorem syF_lits {cd : List (Nat × Nat)} (xs : List Int) : ∀ (f p : Nat) (al : List Int), (∀ x ∈ xs, 0 ≤ x ∧ x ≤ 255) → xs.length + 1 ≤ f → dl ≤ al.length → al.length - dl + xs.length ≤ room → AtB B p (xs.flatMap (fun c => cbits c.toNat) ++ cbits 256) →
    syF B (codesN fixL) cd dl room sz f ⟨(p : Int), 0⟩ al = (⟨((p + (xs.flatMap (fun c => cbits c.toNat) ++ cbits 256).length : Nat) : Int), 0⟩, al ++ xs) := by
  obtain ⟨E, hE⟩ : ∃ E, E = cbits 256 := ⟨_, rfl⟩
  have endS : ∀ {p : Nat}, AtB B p E → sy B (codesN fixL) ⟨(p : Int), 0⟩ = (⟨((p + E.length : Nat) : Int), 0⟩, ((256 : Nat) : Int)) := fun H => by rw [hE] at H ⊢; exact cb_sy (by omega) H
  rw [← hE]
  induction xs with
  | nil =>
    intro f p al hw hf hd hr H
    obtain ⟨f, rfl⟩ : ∃ f', f = f' + 1 := ⟨f - 1, by simp at hf; omega⟩
    rw [List.flatMap_nil, List.nil_append] at H ⊢
    rw [syF, if_pos rfl, endS H, if_pos (.inr rfl), List.append_nil]
  | cons x xs ih =>
    intro f p al hw hf hd hr H
    have hx := hw x (List.mem_cons_self ..)
    obtain ⟨c, rfl⟩ := Int.eq_ofNat_of_zero_le hx.1
    rw [List.length_cons] at hf hr
    obtain ⟨f, rfl⟩ : ∃ f', f = f' + 1 := ⟨f - 1, by omega⟩
    rw [List.flatMap_cons, List.append_assoc, Int.toNat_natCast] at H ⊢
    have e1 := cb_sy (c := c) (by omega) H.left
    have e2 : sy1 B cd dl room sz ⟨((p + (cbits c).length : Nat) : Int), 0⟩ al (c : Int) = (⟨((p + (cbits c).length : Nat) : Int), 0⟩, al ++ [(c : Int)]) := by
      unfold sy1; rw [if_pos (by omega)]
      exact tell_fits rfl (by rw [List.length_singleton]; omega)
    rw [syF, if_pos rfl, e1, if_neg (by simp only; omega)]
    simp only [e2]
    rw [ih f (p + (cbits c).length) (al ++ [(c : Int)]) (fun y hy => hw y (List.mem_cons_of_mem _ hy)) (by omega) (by rw [List.length_append]; omega) (by rw [List.length_append, List.length_singleton]; omega) H.right]
    rw [@List.length_append _ (cbits c), Nat.add_assoc, List.append_assoc]; rfl

theorem strm_eq {xs : List Int} : strm xs = bitsOf 1 1 ++ (bitsOf 1 2 ++ (xs.flatMap (fun c => cbits c.toNat) ++ cbits 256)) := by
  have e1 : bitsOf 1 1 = [1] := by decide
  have e2 : bitsOf 1 2 = [1, 0] := by decide
  rw [e1, e2]; unfold strm; rw [List.append_assoc]; rfl

/-- A last fixed block: its bits are read. -/
theorem blk_fixed {F f : Nat} {al : List Int} {rest : List Int} {R : Rd × List Int} (H : AtB B p (bitsOf 1 1 ++ (bitsOf 1 2 ++ rest))) (hR : syF B (codesN fixL) (codesN fixD) dl room sz F ⟨((p + 3 : Nat) : Int), 0⟩ al = R) :
    blF B dl room sz F (f + 1) ⟨(p : Int), 0⟩ al = R := by
  have H1 := H.left
  have H2 := H.right.left
  rw [bitsOf_len] at H2
  have e1 : bk1 B ⟨(p : Int), 0⟩ = (⟨((p + 1 : Nat) : Int), 0⟩, 1) := H1.tk (by decide) (by decide)
  have e2 : bk2 B ⟨(p : Int), 0⟩ = (⟨((p + 3 : Nat) : Int), 0⟩, 1) := by
    unfold bk2; rw [e1]; exact H2.tk (by decide) (by decide)
  have e3 : bk3 B ⟨(p : Int), 0⟩ = ⟨((p + 3 : Nat) : Int), 0⟩ := by
    unfold bk3; rw [e2]; unfold bd; rw [if_neg (by simp)]
  rw [blF, if_pos rfl, e1, if_pos (by simp)]
  unfold blk
  rw [e3, if_neg (by simp), e2, if_neg (by simp), if_pos rfl]
  exact hR
theorem blF_fixed {F f : Nat} {al xs : List Int} (hw : ∀ x ∈ xs, 0 ≤ x ∧ x ≤ 255) (hF : xs.length + 1 ≤ F) (hd : dl ≤ al.length) (hr : al.length - dl + xs.length ≤ room) (H : AtB B p (strm xs)) :
    blF B dl room sz F (f + 1) ⟨(p : Int), 0⟩ al = (⟨((p + (strm xs).length : Nat) : Int), 0⟩, al ++ xs) := by
  rw [strm_eq] at H ⊢
  refine blk_fixed H ?_
  have H3 := H.right.right
  rw [bitsOf_len, bitsOf_len, Nat.add_assoc] at H3
  rw [syF_lits xs F (p + 3) al hw hF hd hr H3]
  rw [@List.length_append _ (bitsOf 1 1), @List.length_append _ (bitsOf 1 2), bitsOf_len, bitsOf_len]
  congr 2
  push_cast; omega
end

/-! ### Bits packed into bytes -/
theorem low_bit {v b : Int} {i m : Nat} (h : m < i) : (v + b * 2 ^ i).fdiv (2 ^ m) % 2 = v.fdiv (2 ^ m) % 2 := by
  have hp : (0 : Int) < 2 ^ m := Int.pow_pos (by decide)
  obtain ⟨d, rfl⟩ : ∃ d, i = m + 1 + d := ⟨i - (m + 1), by omega⟩
  rw [Int.fdiv_eq_ediv_of_nonneg _ (Int.le_of_lt hp), Int.fdiv_eq_ediv_of_nonneg _ (Int.le_of_lt hp)]
  have e : b * 2 ^ (m + 1 + d) = 2 ^ m * (2 * (b * 2 ^ d)) := by
    rw [Int.pow_add, Int.pow_succ]
    generalize (2 : Int) ^ m = q
    generalize (2 : Int) ^ d = w
    ac_rfl
  rw [e, Int.add_mul_ediv_left _ _ (Int.ne_of_gt hp), Int.add_mul_emod_self_left]
theorem top_bit {v b : Int} {i : Nat} (h0 : 0 ≤ v) (h1 : v < 2 ^ i) (hb : 0 ≤ b ∧ b ≤ 1) : (v + b * 2 ^ i).fdiv (2 ^ i) % 2 = b := by
  have hp : (0 : Int) < 2 ^ i := Int.pow_pos (by decide)
  rw [Int.fdiv_eq_ediv_of_nonneg _ (Int.le_of_lt hp), Int.mul_comm b, Int.add_mul_ediv_left _ _ (Int.ne_of_gt hp), Int.ediv_eq_zero_of_lt h0 h1]
  omega

theorem pk_bit {bs : List Int} (hb : ∀ b ∈ bs, 0 ≤ b ∧ b ≤ 1) : ∀ {k j : Nat}, j < k → bitAt (pk bs k) j = bs.getD j 0
  | 0, j, h => by omega
  | k + 1, j, h => by
    have hbit : 0 ≤ bs.getD k 0 ∧ bs.getD k 0 ≤ 1 := by
      rw [List.getD_eq_getElem?_getD]
      cases hg : bs[k]? with
      | none => simp
      | some x => exact hb x (List.mem_of_getElem? hg)
    have hl := pk_len (bs := bs) (k := k)
    have hlen : k / 8 < (if k % 8 = 0 then pk bs k ++ [0] else pk bs k).length := by
      split
      · rw [List.length_append, hl, List.length_singleton]; omega
      · omega
    have hpb := pbase_lt hb (k := k)
    have hset : (pk bs (k + 1)).getD (k / 8) 0 = pbase (pk bs k) k + bs.getD k 0 * 2 ^ (k % 8) := by
      rw [pk]; unfold pstep
      rw [List.getD_eq_getElem?_getD, List.getElem?_set_self hlen]
      rfl
    unfold bitAt
    by_cases hj : j / 8 = k / 8
    · rw [hj, hset]
      by_cases hjk : j = k
      · rw [hjk]; exact top_bit hpb.1 hpb.2 hbit
      · have hk0 : k % 8 ≠ 0 := by omega
        rw [low_bit (by omega)]
        have ih := pk_bit hb (k := k) (j := j) (by omega)
        unfold bitAt at ih
        rw [hj] at ih
        have ep : pbase (pk bs k) k = (pk bs k).getD (k / 8) 0 := by unfold pbase; rw [if_neg hk0]
        rw [ep]; exact ih
    · have ih := pk_bit hb (k := k) (j := j) (by omega)
      unfold bitAt at ih
      rw [← ih]
      congr 2
      rw [pk]; unfold pstep
      rw [List.getD_eq_getElem?_getD, List.getElem?_set_ne (by omega)]
      rw [List.getD_eq_getElem?_getD]
      split
      · rw [List.getElem?_append_left (by omega)]
      · rfl
theorem bitAt_left {A C : List Int} {i : Nat} (h : i / 8 < A.length) : bitAt (A ++ C) i = bitAt A i := by
  unfold bitAt; rw [List.getD_eq_getElem?_getD, List.getD_eq_getElem?_getD, List.getElem?_append_left h]
theorem bitAt_right {A C : List Int} {i : Nat} : bitAt (A ++ C) (8 * A.length + i) = bitAt C i := by
  unfold bitAt
  rw [show (8 * A.length + i) / 8 = A.length + i / 8 by omega, show (8 * A.length + i) % 8 = i % 8 by omega, List.getD_eq_getElem?_getD, List.getD_eq_getElem?_getD, List.getElem?_append_right (by omega), Nat.add_sub_cancel_left]
/-- Packed bits stand in the bytes, whatever stands before and behind. -/
theorem pk_at {s : List Int} (hb : ∀ b ∈ s, 0 ≤ b ∧ b ≤ 1) (A C : List Int) : AtB (A ++ (pk s s.length ++ C)) (8 * A.length) s := by
  have hl := pk_len (bs := s) (k := s.length)
  refine ⟨by simp only [List.length_append]; omega, fun j x hj => ?_⟩
  have hlt := (List.getElem?_eq_some_iff.1 hj).1
  rw [bitAt_right, bitAt_left (by omega), pk_bit hb hlt, List.getD_eq_getElem?_getD, hj]; rfl

/-! ### Bytes -/
section
variable {B : List Int} {q : Nat}
theorem numAt_byte {x : Int} (h : B[q]? = some x) (hx : 0 ≤ x ∧ x ≤ 255) : numAt B (8 * q) 8 = x := by
  have e : numAt B (8 * q) 8 = x % 2 ^ 8 := by
    refine numAt_bits fun j hj => ?_
    unfold bitAt
    rw [show (8 * q + j) / 8 = q by omega, show (8 * q + j) % 8 = j by omega, List.getD_eq_getElem?_getD, h, Option.getD_some, Int.fdiv_eq_ediv_of_nonneg _ (Int.le_of_lt (Int.pow_pos (by decide)))]
  rw [e]
  exact Int.emod_eq_of_lt hx.1 (by have : (2 : Int) ^ 8 = 256 := by decide
                                   omega)
theorem tk_byte {x : Int} (h : B[q]? = some x) (hx : 0 ≤ x ∧ x ≤ 255) : tk B 8 ⟨((8 * q : Nat) : Int), 0⟩ = (⟨((8 * (q + 1) : Nat) : Int), 0⟩, x) := by
  have := (List.getElem?_eq_some_iff.1 h).1
  rw [tk_num_at (by omega), numAt_byte h hx]
  rfl
theorem tk_two {x y : Int} (h : B[q]? = some x) (g : B[q + 1]? = some y) (hx : 0 ≤ x ∧ x ≤ 255) (hy : 0 ≤ y ∧ y ≤ 255) : tk B 16 ⟨((8 * q : Nat) : Int), 0⟩ = (⟨((8 * (q + 2) : Nat) : Int), 0⟩, x + 256 * y) := by
  have := (List.getElem?_eq_some_iff.1 g).1
  have e8 : (2 : Int) ^ 8 = 256 := by decide
  rw [tk_num_at (by omega), show (16 : Nat) = 8 + 8 from rfl, numAt_add, numAt_byte h hx, show 8 * q + 8 = 8 * (q + 1) by omega, numAt_byte g hy, e8]
  rfl
end
/-- The bytes ys stand in B from q on. -/
def AtY (B : List Int) (q : Nat) (ys : List Int) : Prop := ∀ j x, ys[j]? = some x → B[q + j]? = some x
section
variable {B : List Int} {q : Nat} {ys zs : List Int}
theorem AtY.left (H : AtY B q (ys ++ zs)) : AtY B q ys := fun j x hj => H j x (by rw [List.getElem?_append_left (List.getElem?_eq_some_iff.1 hj).1]; exact hj)
theorem AtY.right (H : AtY B q (ys ++ zs)) : AtY B (q + ys.length) zs := fun j x hj => by
  have := H (ys.length + j) x (by rw [List.getElem?_append_right (by omega), Nat.add_sub_cancel_left]; exact hj)
  rw [← Nat.add_assoc] at this; exact this
theorem AtY.mk {A C : List Int} : AtY (A ++ (ys ++ C)) A.length ys := fun j x hj => by
  rw [List.getElem?_append_right (by omega), Nat.add_sub_cancel_left, List.getElem?_append_left (List.getElem?_eq_some_iff.1 hj).1]; exact hj
theorem AtY.le (H : AtY B q ys) (h0 : ys ≠ []) : q + ys.length ≤ B.length := by
  have hp : 0 < ys.length := List.length_pos_iff.2 h0
  have := (List.getElem?_eq_some_iff.1 (H (ys.length - 1) _ (List.getElem?_eq_getElem (by omega)))).1
  omega
end
end

section
variable {S : Shared} {h : Eng.Heap}

/-- The head of a block of n bytes. -/
def shead (last : Int) (n : Nat) : List Int := [last, ((n % 256 : Nat) : Int), ((n / 256 : Nat) : Int), 255 - ((n % 256 : Nat) : Int), 255 - ((n / 256 : Nat) : Int)]

def senc (per : Nat) (xs : List Int) : List Int :=
  if h : per = 0 ∨ xs.length ≤ per then shead 1 xs.length ++ xs else shead 0 per ++ xs.take per ++ senc per (xs.drop per)
termination_by xs.length
decreasing_by simp only [List.length_drop]; omega

def sans (per : Int) (xs : List Int) : List Int := if per < 1 ∨ per > 65535 ∨ xs.length > 100000 then [] else senc per.toNat xs

theorem senc_last {per : Nat} {xs : List Int} (h : xs.length ≤ per) : senc per xs = shead 1 xs.length ++ xs := by
  unfold senc; rw [dif_pos (.inr h)]
theorem senc_more {per : Nat} {xs : List Int} (h0 : 0 < per) (h : per < xs.length) : senc per xs = shead 0 per ++ xs.take per ++ senc per (xs.drop per) := by
  rw [senc]; rw [dif_neg (by omega)]

theorem xor255_fin : ∀ x : Fin 256, Go.bits .xor .u8 255 ((x : Nat) : Int) = 255 - ((x : Nat) : Int) := by decide +kernel
theorem xor255 {n : Nat} (h : n < 256) : Go.bits .xor .u8 255 (n : Int) = 255 - (n : Int) := xor255_fin ⟨n, h⟩

theorem k_impl_EncodeStored (hi : Eng.Inv S h) (a : Option Addr) (c : Nat) (xs : List Int) (per : Int) (hx : HInts h .u8 a xs) (hc : xs.length ≤ c) :
    CallsH Tryd.prog S F_impl_EncodeStored #[.slice a xs.length c, .int .i64 per] h (fun v h' => Own .u8 h' v (sans per xs) ∧ New h v ∧ Eng.Sub h h') := by
  refine run_impl_EncodeStored (vs := [.slice a xs.length c, .int .i64 per]) ⟨rfl, rfl, trivial⟩ hi ?_
  simp only [t_impl_EncodeStored, Tr.wp, mksW, callW, Ex.ev, coerce, toInt_int, toBool_bool, slL_sl, slC_sl, slA_sl, toAddr_ptr, ptrOf_ptr, isNil_sl, isNil_ptr, it_and, it_or, it_int, optN_int, optN_nl, cmpI, arith, Cst.val, SV.den, resShs, resV, resSV, resVals, newVars, runCells, exSh, allSh, cellsAre, storeW, List.flatMap_cons, List.flatMap_nil, List.replicate_one, List.getD_cons_zero, List.getD_cons_succ, List.getElem?_cons_zero, List.getElem?_cons_succ, decide_eq_true_eq, decide_eq_false_iff_not, List.map_cons, List.map_nil, List.cons_append, List.nil_append, List.append_nil, List.length_cons, List.length_nil, Nat.zero_add, Nat.add_zero, and_true, true_and, if_true, if_false, Bool.false_eq_true]
  refine ⟨fun hout b hb => ?_, fun hin b hb => ?_⟩
  · have : sans per xs = [] := if_pos (by simp at hout; omega)
    rw [this]
    exact ⟨Own.made [], New.of hb, Sub.of_upd hb⟩
  have hin2 : ¬ (per < 1 ∨ per > 65535 ∨ xs.length > 100000) := by simp at hin; omega
  have hsans : sans per xs = senc per.toNat xs := if_neg hin2
  refine ⟨fun us h' => ∃ (rest pre : List Int) (a' : Option Addr) (c' : Nat) (v : Value) (first : Bool), us = [.slice a' rest.length c', v, .bool first] ∧ HInts h .u8 a' rest ∧ rest.length ≤ c' ∧
      (if first = true ∨ rest ≠ [] then pre ++ senc per.toNat rest = senc per.toNat xs else pre = senc per.toNat xs) ∧ rest.length ≤ xs.length ∧
      Own .u8 h' v pre ∧ New h v ∧ Eng.Sub h h' ∧ pre.length + 6 * rest.length ≤ 6 * xs.length + (if first = true then 0 else 5), fun us _ => 2 * slL (us.getD 0 undef) + (if toBool (us.getD 2 undef) = true then 1 else 0),
      ⟨xs, [], a, c, _, true, rfl, hx, hc, by simp, by omega, Own.made [], New.of hb, Sub.of_upd hb, by simp⟩, ?_⟩
  rintro a1 l1 c1 a2 l2 c2 fb h' ⟨rest, pre, a', c', v, first, hus, hr, hrc, heq, hrl, hown, hnew, hsub, hplen⟩
  simp only [List.cons.injEq, Value.slice.injEq, Value.bool.injEq, and_true] at hus
  obtain ⟨⟨rfl, rfl, rfl⟩, rfl, rfl⟩ := hus
  simp only [Tr.wp, mksW, callW, Ex.ev, coerce, toInt_int, toBool_bool, slL_sl, slC_sl, slA_sl, toAddr_ptr, ptrOf_ptr, isNil_sl, isNil_ptr, it_and, it_or, it_int, optN_int, optN_nl, cmpI, arith, Cst.val, SV.den, resShs, resV, resSV, resVals, newVars, runCells, exSh, allSh, cellsAre, storeW, List.flatMap_cons, List.flatMap_nil, List.replicate_one, List.getD_cons_zero, List.getD_cons_succ, List.getElem?_cons_zero, List.getElem?_cons_succ, decide_eq_true_eq, decide_eq_false_iff_not, List.map_cons, List.map_nil, List.cons_append, List.nil_append, List.append_nil, List.length_cons, List.length_nil, Nat.zero_add, Nat.add_zero, and_true, true_and, if_true, if_false, Bool.false_eq_true]
  refine ⟨fun hgo b2 hb2 => ?_, fun hend => ?_⟩
  · obtain ⟨n, hn⟩ : ∃ n : Nat, (if (rest.length : Int) < per then (rest.length : Int) else per) = (n : Int) := ⟨min per.toNat rest.length, by split <;> omega⟩
    have hn1 : n = per.toNat ∨ n = rest.length := by split at hn <;> omega
    have hn2 : n ≤ rest.length ∧ n ≤ 65535 ∧ n ≤ per.toNat := by split at hn <;> omega
    have hlast : (if ((n : Int) == (rest.length : Int)) = true then (1 : Int) else 0) = if per.toNat < rest.length then 0 else 1 := by
      by_cases hq : per.toNat < rest.length
      · rw [if_pos hq, if_neg (by simp; omega)]
      · rw [if_neg hq, if_pos (by simp; omega)]
    have hpos : fb = true ∨ rest ≠ [] := by
      simp at hgo
      rcases hgo with h1 | h1
      · exact .inl h1
      · exact .inr (by intro e; rw [e] at h1; simp at h1)
    rw [if_pos hpos] at heq
    simp only [hn, hlast]
    have q1 : n % 256 < 256 := Nat.mod_lt _ (by omega)
    have q2 : n / 256 < 256 := by omega
    have t1 : IntKind.u8.wrap (n : Int) = ((n % 256 : Nat) : Int) := by rw [IntKind.wrap_u8]; omega
    have t2 : (n : Int).fdiv (2 ^ min (Int.toNat 8) IntKind.i64.bits) = ((n / 256 : Nat) : Int) := by
      have : (2 : Int) ^ min (Int.toNat 8) IntKind.i64.bits = 256 := by decide
      rw [this, Int.fdiv_eq_ediv_of_nonneg _ (by omega)]; omega
    have e3 : IntKind.u8.wrap ((n / 256 : Nat) : Int) = ((n / 256 : Nat) : Int) := u8_in _ (by omega)
    simp only [t1, t2, e3, xor255 q1, xor255 q2]
    generalize hd : shead (if per.toNat < rest.length then 0 else 1) n = hdl
    have hcell : (#[Value.int IntKind.u8 (if per.toNat < rest.length then 0 else 1), Value.int IntKind.u8 ((n % 256 : Nat) : Int), Value.int IntKind.u8 ((n / 256 : Nat) : Int), Value.int IntKind.u8 (255 - ((n % 256 : Nat) : Int)), Value.int IntKind.u8 (255 - ((n / 256 : Nat) : Int))] : Array Value) = ints .u8 hdl := by subst hd; rfl
    have hdlen : hdl.length = 5 := by subst hd; rfl
    rw [hcell]
    have hsub2 := hsub.trans (Sub.of_upd (o := .cells (ints .u8 hdl) 5) hb2)
    have x5 : HInts (upd h' b2 (.cells (ints .u8 hdl) 5)) .u8 (some ⟨b2, 0, none⟩) hdl := HInts.new
    rw [show (5 : Nat) = hdl.length from hdlen.symm] at x5 ⊢
    have hpl : pre.length ≤ 600005 := by
      have : (if fb = true then 0 else 5) ≤ 5 := by split <;> omega
      omega
    refine appW_own hi (by rw [hdlen]; exact hsub2) (by rw [hdlen]; exact hown.sub (Sub.of_upd hb2)) hnew x5 (by omega) fun v1 h1 o1 n1 s1 _ _ => ?_
    obtain ⟨bb, sp, T, rfl, hbb⟩ := o1
    have o1 : Own .u8 h1 (.slice (some ⟨bb, 0, none⟩) (pre ++ hdl).length ((pre ++ hdl).length + sp.length)) (pre ++ hdl) := ⟨bb, sp, T, rfl, hbb⟩
    simp only [slA_sl, slL_sl, slC_sl, Int.toNat_natCast]
    refine ⟨by omega, by omega, ?_⟩
    obtain ⟨a3, he3, hx3⟩ := slSub_ints hr (lo := 0) (hi := n) (m := c1) (by omega) hn2.1 (by omega)
    simp only [List.drop_zero, Nat.sub_zero] at he3 hx3
    rw [he3]
    have htl : (rest.take n).length = n := by rw [List.length_take]; omega
    refine appW_own hi s1 o1 n1 (hx3.sub s1) (by rw [htl]; simp only [List.length_append, hdlen]; omega) fun v2 h2 o2 n2 s2 _ _ => ?_
    obtain ⟨bc, sp2, T2, rfl, hbc⟩ := o2
    have o2 : Own .u8 h2 (.slice (some ⟨bc, 0, none⟩) (pre ++ hdl ++ rest.take n).length ((pre ++ hdl ++ rest.take n).length + sp2.length)) (pre ++ hdl ++ rest.take n) := ⟨bc, sp2, T2, rfl, hbc⟩
    simp only [slA_sl, slL_sl, slC_sl]
    obtain ⟨a4, he4, hx4⟩ := slSub_ints hr (lo := n) (hi := rest.length) (m := c1) hn2.1 (by omega) (by omega)
    have hdr : (rest.drop n).take (rest.length - n) = rest.drop n := List.take_of_length_le (by rw [List.length_drop]; omega)
    rw [hdr] at he4 hx4
    rw [he4]
    have hfn : n = 0 → fb = true := by
      intro h0
      rcases hpos with h1 | h1
      · exact h1
      · have : rest.length ≠ 0 := fun e => h1 (List.length_eq_zero_iff.1 e)
        omega
    refine ⟨by omega, by omega, ⟨rest.drop n, pre ++ hdl ++ rest.take n, a4, _, _, false, rfl, hx4, by rw [List.length_drop]; omega, ?_, by rw [List.length_drop]; omega, o2, n2, s2, ?_⟩, ?_⟩
    · by_cases hq2 : per.toNat < rest.length
      · have hnp : n = per.toNat := by omega
        rw [if_pos (.inr (by intro e; have := congrArg List.length e; simp at this; omega))]
        rw [← heq, senc_more (by omega) hq2, ← hd, if_pos hq2, hnp]; simp [List.append_assoc]
      · have hnr : n = rest.length := by omega
        rw [if_neg (by rintro (h1 | h1); cases h1; exact h1 (by rw [hnr, List.drop_length]))]
        rw [← heq, senc_last (by omega), ← hd, if_neg hq2, hnr, List.take_length, List.append_assoc]
    · simp only [List.length_append, hdlen, htl, List.length_drop]
      by_cases h0 : n = 0
      · rw [hfn h0] at hplen; simp at hplen ⊢; omega
      · have : (if fb = true then 0 else 5) ≤ 5 := by split <;> omega
        simp; omega
    · simp only [slL_sl, List.length_drop]
      by_cases h0 : n = 0
      · rw [hfn h0]; simp; omega
      · omega
  · simp at hend
    obtain ⟨rfl, h0⟩ := hend
    have h0 : rest = [] := by
      cases rest with
      | nil => rfl
      | cons _ _ => simp at h0
    subst h0
    rw [if_neg (by simp)] at heq
    rw [hsans, ← heq]
    exact ⟨hown, hnew, hsub⟩
end

section
variable {S : Shared} {h : Eng.Heap}

theorem senc_len (per : Nat) (xs : List Int) : (senc per xs).length ≤ 5 + 6 * xs.length := by
  induction hn : xs.length using Nat.strongRecOn generalizing xs with
  | _ n ih =>
    unfold senc
    split
    · simp [shead]; omega
    · rename_i hc
      have h0 : 0 < per ∧ per < xs.length := by omega
      have := ih (xs.drop per).length (by rw [List.length_drop]; omega) (xs.drop per) rfl
      rw [List.length_drop] at this
      simp [shead]
      omega
theorem sans_len (per : Int) (xs : List Int) : (sans per xs).length ≤ 5 + 6 * xs.length := by
  unfold sans; split
  · simp
  · exact senc_len _ _

end

section

/-! ### Stored blocks give their data -/
section
variable {B : List Int} {dl room sz : Nat}
theorem stL_bytes : ∀ (ys : List Int) (q : Nat) (al : List Int), (∀ x ∈ ys, 0 ≤ x ∧ x ≤ 255) → AtY B q ys → dl ≤ al.length → al.length - dl + ys.length ≤ room →
    stL B dl room ys.length ⟨((8 * q : Nat) : Int), 0⟩ al = (⟨((8 * (q + ys.length) : Nat) : Int), 0⟩, al ++ ys)
  | [], q, al, hw, H, hd, hr => by simp [stL]
  | x :: ys, q, al, hw, H, hd, hr => by
    have e := tk_byte (H 0 x rfl) (hw x (List.mem_cons_self ..))
    rw [List.length_cons] at hr
    rw [List.length_cons, stL, if_pos rfl, Nat.add_zero] at *
    rw [e]
    simp only
    rw [tell_fits rfl (by rw [List.length_singleton]; omega)]
    rw [stL_bytes ys (q + 1) (al ++ [x]) (fun y hy => hw y (List.mem_cons_of_mem _ hy)) (fun j y hy => by have := H (j + 1) y hy; rw [show q + 1 + j = q + (j + 1) by omega]; exact this) (by rw [List.length_append]; omega) (by rw [List.length_append, List.length_singleton]; omega)]
    rw [List.append_assoc, show q + 1 + ys.length = q + (ys.length + 1) by omega]; rfl

theorem shead_len {l : Int} {n : Nat} : (shead l n).length = 5 := rfl
theorem blk_stored {F q : Nat} {al ys : List Int} {last : Int} (hl : last = 0 ∨ last = 1) (hw : ∀ x ∈ ys, 0 ≤ x ∧ x ≤ 255) (hn : ys.length ≤ 65535) (H : AtY B q (shead last ys.length ++ ys)) (hd : dl ≤ al.length) (hr : al.length - dl + ys.length ≤ room) :
    blk B dl room sz F ⟨((8 * q : Nat) : Int), 0⟩ al = (⟨((8 * (q + 5 + ys.length) : Nat) : Int), 0⟩, al ++ ys) ∧ (bk1 B ⟨((8 * q : Nat) : Int), 0⟩).2 = last := by
  have HL := H.left
  have HR := H.right
  rw [shead_len] at HR
  have g0 : B[q]? = some last := HL 0 _ rfl
  have g1 := HL 1 _ rfl
  have g2 := HL 2 _ rfl
  have g3 := HL 3 _ rfl
  have g4 := HL 4 _ rfl
  have hB := (List.getElem?_eq_some_iff.1 g4).1
  have n8 := numAt_byte g0 (by omega)
  have e1 : numAt B (8 * q) 1 = last := by
    have := numAt_mod (B := B) (p := 8 * q) (a := 1) (d := 7)
    rw [show 1 + 7 = 8 from rfl, n8] at this
    rw [← this]
    rcases hl with h | h <;> rw [h] <;> decide
  have e3 : numAt B (8 * q) 3 = last := by
    have := numAt_mod (B := B) (p := 8 * q) (a := 3) (d := 5)
    rw [show 3 + 5 = 8 from rfl, n8] at this
    rw [← this]
    rcases hl with h | h <;> rw [h] <;> decide
  have e2 : numAt B (8 * q + 1) 2 = 0 := by
    have := numAt_add (B := B) (p := 8 * q) (a := 1) (d := 2)
    rw [show 1 + 2 = 3 from rfl, e3, e1] at this
    have p1 : (2 : Int) ^ 1 = 2 := by decide
    rw [p1] at this
    omega
  have b1 : bk1 B ⟨((8 * q : Nat) : Int), 0⟩ = (⟨((8 * q + 1 : Nat) : Int), 0⟩, last) := by
    unfold bk1; rw [tk_num_at (by omega), e1]
  have b2 : bk2 B ⟨((8 * q : Nat) : Int), 0⟩ = (⟨((8 * q + 1 + 2 : Nat) : Int), 0⟩, 0) := by
    unfold bk2; rw [b1]; simp only; rw [tk_num_at (by omega), e2]
  have b3 : bk3 B ⟨((8 * q : Nat) : Int), 0⟩ = ⟨((8 * q + 1 + 2 : Nat) : Int), 0⟩ := by
    unfold bk3; rw [b2]; unfold bd; rw [if_neg (by simp)]
  refine ⟨?_, by rw [b1]⟩
  unfold blk
  rw [b3, if_neg (by simp), b2, if_pos rfl]
  have ea : alg ⟨((8 * q + 1 + 2 : Nat) : Int), 0⟩ = ⟨((8 * (q + 1) : Nat) : Int), 0⟩ := by
    unfold alg; rw [if_pos rfl]; congr 1; simp only; omega
  have t1 := tk_two g1 g2 (by omega) (by omega)
  have t2 := tk_two (q := q + 3) g3 g4 (by omega) (by omega)
  have v1 : ((ys.length % 256 : Nat) : Int) + 256 * ((ys.length / 256 : Nat) : Int) = (ys.length : Int) := by omega
  have v2 : 255 - ((ys.length % 256 : Nat) : Int) + 256 * (255 - ((ys.length / 256 : Nat) : Int)) = 65535 - (ys.length : Int) := by omega
  rw [v1] at t1
  rw [v2] at t2
  have eN : stN B ⟨((8 * q + 1 + 2 : Nat) : Int), 0⟩ = (ys.length : Int) := by unfold stN; rw [ea, t1]
  have eR : stR B ⟨((8 * q + 1 + 2 : Nat) : Int), 0⟩ = ⟨((8 * (q + 5) : Nat) : Int), 0⟩ := by
    unfold stR; rw [eN, ea, t1]; simp only
    rw [show q + 1 + 2 = q + 3 from rfl, t2]
    unfold bd; rw [if_neg (by simp)]
  unfold stF
  rw [eN, eR, Int.toNat_natCast]
  exact stL_bytes ys (q + 5) al hw HR hd hr

theorem blF_stored {per : Nat} (h0 : 0 < per) (hp : per ≤ 65535) {F : Nat} : ∀ (n : Nat) (xs : List Int) (q f : Nat) (al : List Int), xs.length ≤ n → (∀ x ∈ xs, 0 ≤ x ∧ x ≤ 255) → AtY B q (senc per xs) → n + 1 ≤ f → dl ≤ al.length → al.length - dl + xs.length ≤ room →
    blF B dl room sz F f ⟨((8 * q : Nat) : Int), 0⟩ al = (⟨((8 * (q + (senc per xs).length) : Nat) : Int), 0⟩, al ++ xs)
  | n, xs, q, 0, al, hn, hw, H, hf, hd, hr => by omega
  | n, xs, q, f + 1, al, hn, hw, H, hf, hd, hr => by
    by_cases hle : xs.length ≤ per
    · rw [senc_last hle] at H ⊢
      obtain ⟨e1, e2⟩ := blk_stored (sz := sz) (F := F) (.inr rfl) hw (by omega) H hd hr
      rw [blF, if_pos rfl, e2, if_pos (by simp), e1, List.length_append, shead_len, Nat.add_assoc]
    · rw [senc_more h0 (by omega)] at H ⊢
      have htl : (xs.take per).length = per := by rw [List.length_take]; omega
      have H1 := H.left
      have H2 := H.right
      rw [show shead 0 per = shead 0 (xs.take per).length by rw [htl]] at H1
      obtain ⟨e1, e2⟩ := blk_stored (sz := sz) (F := F) (al := al) (room := room) (dl := dl) (.inl rfl) (fun x hx => hw x (List.mem_of_mem_take hx)) (by omega) H1 hd (by rw [htl]; omega)
      rw [blF, if_pos rfl, e2, if_neg (by simp), e1]
      simp only
      obtain ⟨n', rfl⟩ : ∃ n', n = n' + 1 := ⟨n - 1, by omega⟩
      rw [List.length_append, shead_len, htl] at H2
      rw [htl, blF_stored h0 hp n' (xs.drop per) (q + 5 + per) f (al ++ xs.take per) (by rw [List.length_drop]; omega) (fun x hx => hw x (List.mem_of_mem_drop hx)) (by rw [Nat.add_assoc]; exact H2) (by omega) (by rw [List.length_append]; omega) (by rw [List.length_append, List.length_drop, htl]; omega)]
      rw [List.append_assoc, List.take_append_drop]
      congr 3
      simp only [List.length_append, shead_len, htl]; omega
end
end

section
variable {S : Shared} {h h0 : Eng.Heap} {b : Nat} {T : TypeId} {code : List Int} {a : Option Addr} {c : Nat}

/-- The cursor of a draw, in a block of the code's own. -/
def CurAt (h0 h : Eng.Heap) (b : Nat) (T : TypeId) (code : List Int) (a : Option Addr) (c : Nat) : Prop :=
  ∃ (i : Nat) (hh : Int), h b = some (.cells #[.slice a code.length c, .int .i64 i, .int .i64 hh] T) ∧ i ≤ code.length ∧ HInts h0 .u8 a code ∧ Eng.Sub h0 h ∧ h0 b = none

theorem CurAt.sub (H : CurAt h0 h b T code a c) : Eng.Sub h0 h := by obtain ⟨_, _, _, _, _, s, _⟩ := H; exact s
theorem CurAt.fresh (H : CurAt h0 h b T code a c) : h0 b = none := by obtain ⟨_, _, _, _, _, _, n⟩ := H; exact n
theorem CurAt.held (H : CurAt h0 h b T code a c) : h b ≠ none := by obtain ⟨_, _, hb, _⟩ := H; rw [hb]; simp
theorem CurAt.mono {h1 : Eng.Heap} (H : CurAt h0 h b T code a c) (s : Eng.Sub h h1) : CurAt h0 h1 b T code a c := by
  obtain ⟨i, hh, hb, hi, hx, s0, hn⟩ := H
  exact ⟨i, hh, s b _ hb, hi, hx, s0.trans s, hn⟩
theorem CurAt.keep {h1 : Eng.Heap} (H : CurAt h0 h b T code a c) (s : Eng.Sub h0 h1) (hk : h1 b = h b) : CurAt h0 h1 b T code a c := by
  obtain ⟨i, hh, hb, hi, hx, s0, hn⟩ := H
  exact ⟨i, hh, hk.trans hb, hi, hx, s, hn⟩

theorem k_l1New (hi : Eng.Inv S h) (hx : HInts h .u8 a code) (hl : code.length ≤ 1048576) :
    CallsH Tryd.prog S F_spec_l1New #[.slice a code.length c] h (fun v h' => ∃ b T, v = .pointer (some ⟨b, 0, none⟩) ∧ CurAt h h' b T code a c) := by
  refine run_spec_l1New (vs := [.slice a code.length c]) ⟨rfl, trivial⟩ hi ?_
  simp only [t_spec_l1New, Tr.wp, mksW, callW, Ex.ev, coerce, toInt_int, toBool_bool, slL_sl, slC_sl, slA_sl, toAddr_ptr, ptrOf_ptr, isNil_sl, isNil_ptr, it_and, it_or, it_int, optN_int, optN_nl, cmpI, arith, Cst.val, SV.den, resShs, resV, resSV, resVals, newVars, runCells, exSh, allSh, cellsAre, storeW, List.flatMap_cons, List.flatMap_nil, List.replicate_one, List.getD_cons_zero, List.getD_cons_succ, List.getElem?_cons_zero, List.getElem?_cons_succ, decide_eq_true_eq, decide_eq_false_iff_not, List.map_cons, List.map_nil, List.cons_append, List.nil_append, List.append_nil, List.length_cons, List.length_nil, Nat.zero_add, Nat.add_zero, and_true, true_and, if_true, if_false, Bool.false_eq_true]
  refine ⟨fun us h' => ∃ (i : Nat) (x : Int), us = [.int .i64 x, .int .i64 i] ∧ i ≤ code.length ∧ h' = h, fun us _ => code.length - (toInt (us.getD 1 undef)).toNat, ⟨0, _, rfl, by omega, rfl⟩, ?_⟩
  rintro x y h' ⟨i, z, hx1, hi2, eq⟩
  subst eq
  obtain ⟨rfl, rfl⟩ : x = z ∧ y = i := by simpa using hx1
  refine ⟨fun hlt => ?_, fun hge => ?_⟩
  · have hi3 : i < code.length := by omega
    obtain ⟨g1, g2⟩ := hx.cell (List.getElem?_eq_getElem hi3)
    have w2 : IntKind.i64.wrap ((i : Int) + 1) = ((i + 1 : Nat) : Int) := by rw [i64_in _ (by omega)]; omega
    rw [w2]
    exact ⟨by simpa using g2, by omega, hlt, code[i], by simpa [add_add] using g1, ⟨i + 1, _, rfl, by omega, rfl⟩, by simp only [List.getD_cons_succ, List.getD_cons_zero, toInt_int]; omega⟩
  · intro b hb
    exact ⟨b, _, rfl, 0, x, upd_same, Nat.zero_le _, hx, Sub.of_upd hb, hb⟩

set_option maxHeartbeats 1000000 in
theorem k_l1Byte (hi : Eng.Inv S h0) (H : CurAt h0 h b T code a c) (hl : code.length ≤ 1048576) :
    CallsH Tryd.prog S F_spec_l1Byte #[.pointer (some ⟨b, 0, none⟩)] h (fun v h' => ∃ x, v = .int .i64 x ∧ 0 ≤ x ∧ x ≤ 255 ∧ CurAt h0 h' b T code a c ∧ ∀ y, y ≠ b → h' y = h y) := by
  obtain ⟨i, hh, hb, hi2, hx, s, hn⟩ := H
  have hsb : ¬ S b := fun hs => hi b hs hn
  refine run_spec_l1Byte (vs := [.pointer (some ⟨b, 0, none⟩)]) ⟨rfl, trivial⟩ (hi.sub s) ?_
  simp only [t_spec_l1Byte, Tr.wp, mksW, callW, Ex.ev, coerce, toInt_int, toBool_bool, slL_sl, slC_sl, slA_sl, toAddr_ptr, ptrOf_ptr, isNil_sl, isNil_ptr, it_and, it_or, it_int, optN_int, optN_nl, cmpI, arith, Cst.val, SV.den, resShs, resV, resSV, resVals, newVars, runCells, exSh, allSh, cellsAre, storeW, List.flatMap_cons, List.flatMap_nil, List.replicate_one, List.getD_cons_zero, List.getD_cons_succ, List.getElem?_cons_zero, List.getElem?_cons_succ, decide_eq_true_eq, decide_eq_false_iff_not, List.map_cons, List.map_nil, List.cons_append, List.nil_append, List.append_nil, List.length_cons, List.length_nil, Nat.zero_add, Nat.add_zero, and_true, true_and, if_true, if_false, Bool.false_eq_true, addr_add]
  have ld : ∀ {h' : Eng.Heap} {i : Nat} {hh : Int}, h' b = some (.cells #[.slice a code.length c, .int .i64 i, .int .i64 hh] T) → hcell h' ⟨b, 0, none⟩ = some (.slice a code.length c) ∧ hcell h' ⟨b, 1, none⟩ = some (.int .i64 i) ∧ hcell h' ⟨b, 2, none⟩ = some (.int .i64 hh) := fun {h' i hh} hb => by simp [hcell, hb]
  obtain ⟨g0, g1, g2⟩ := ld hb
  have set2 : ∀ m : Int, hset h ⟨b, 2, none⟩ (.int .i64 m) = upd h b (.cells #[.slice a code.length c, .int .i64 i, .int .i64 m] T) := fun m => by rw [hset_cells' hb]; rfl
  have ok2 : okCell S h ⟨b, 2, none⟩ := ⟨⟨_, g2⟩, by simp [hfrozen, hb], hsb⟩
  refine ⟨by simp, hh, g2, by simp, ok2, ?_⟩
  rw [set2]
  obtain ⟨m, hm⟩ : ∃ m, m = IntKind.i64.wrap (IntKind.i64.wrap (hh * 6364136223846793005) + 1442695040888963407) := ⟨_, rfl⟩
  rw [← hm]
  have hb1 : upd h b (.cells #[.slice a code.length c, .int .i64 i, .int .i64 m] T) b = some (.cells #[.slice a code.length c, .int .i64 i, .int .i64 m] T) := upd_same
  obtain ⟨k0, k1, k2⟩ := ld hb1
  have hs1 : Eng.Sub h0 (upd h b (.cells #[.slice a code.length c, .int .i64 i, .int .i64 m] T)) := fun y o hy => by rw [upd_ne (fun e => by rw [e, hn] at hy; cases hy)]; exact s y o hy
  refine ⟨by simp, m, k2, by simp, m, k2, by simp, i, k1, by simp, _, _, _, k0, fun hlt => ?_, fun hge _ => ?_⟩
  · have hi3 : i < code.length := by omega
    obtain ⟨e1, e2⟩ := (hx.sub hs1).cell (List.getElem?_eq_getElem hi3)
    refine ⟨by simp, _, _, _, k0, by simp, i, k1, by simpa using e2, by omega, hlt, code[i], by simpa [add_add] using e1, by simp, i, k1, by simp, ⟨⟨_, k1⟩, by simp [hfrozen, hb1], hsb⟩, ?_⟩
    intro _
    have w2 : IntKind.i64.wrap ((i : Int) + 1) = ((i + 1 : Nat) : Int) := by rw [i64_in _ (by omega)]; omega
    have set1 : hset (upd h b (.cells #[.slice a code.length c, .int .i64 i, .int .i64 m] T)) ⟨b, 1, none⟩ (.int .i64 ((i + 1 : Nat) : Int)) = upd h b (.cells #[.slice a code.length c, .int .i64 ((i + 1 : Nat) : Int), .int .i64 m] T) := by rw [hset_cells' hb1, upd_upd]; rfl
    rw [w2, set1]
    have hm := and_mask (y := IntKind.i64.wrap (Go.bits .and .i64 (Go.bits .xor .i64 (m.fdiv (2 ^ min (Int.toNat 33) IntKind.i64.bits)) (m.fdiv (2 ^ min (Int.toNat 45) IntKind.i64.bits))) 255 + IntKind.i64.wrap code[i])) (m := 255) (by omega)
    exact ⟨_, rfl, hm.1, hm.2, ⟨i + 1, m, upd_same, by omega, hx, fun y o hy => by rw [upd_ne (fun e => by rw [e, hn] at hy; cases hy)]; exact s y o hy, hn⟩, fun y hy => upd_ne hy⟩
  · have hm := and_mask (y := Go.bits .xor .i64 (m.fdiv (2 ^ min (Int.toNat 33) IntKind.i64.bits)) (m.fdiv (2 ^ min (Int.toNat 45) IntKind.i64.bits))) (m := 255) (by omega)
    exact ⟨_, rfl, hm.1, hm.2, ⟨i, m, upd_same, hi2, hx, hs1, hn⟩, fun y hy => upd_ne hy⟩

theorem k_l1Below (hi : Eng.Inv S h0) (H : CurAt h0 h b T code a c) (hl : code.length ≤ 1048576) (n : Int) (h1 : 1 ≤ n) (h2 : n ≤ 1000000) :
    CallsH Tryd.prog S F_spec_l1Below #[.pointer (some ⟨b, 0, none⟩), .int .i64 n] h (fun v h' => ∃ x, v = .int .i64 x ∧ 0 ≤ x ∧ x < n ∧ CurAt h0 h' b T code a c ∧ ∀ y, y ≠ b → h' y = h y) := by
  refine run_spec_l1Below (vs := [.pointer (some ⟨b, 0, none⟩), .int .i64 n]) ⟨rfl, rfl, trivial⟩ (hi.sub H.sub) ?_
  simp only [t_spec_l1Below, Tr.wp, mksW, callW, Ex.ev, coerce, toInt_int, toBool_bool, slL_sl, slC_sl, slA_sl, toAddr_ptr, ptrOf_ptr, isNil_sl, isNil_ptr, it_and, it_or, it_int, optN_int, optN_nl, cmpI, arith, Cst.val, SV.den, resShs, resV, resSV, resVals, newVars, runCells, exSh, allSh, cellsAre, storeW, List.flatMap_cons, List.flatMap_nil, List.replicate_one, List.getD_cons_zero, List.getD_cons_succ, List.getElem?_cons_zero, List.getElem?_cons_succ, decide_eq_true_eq, decide_eq_false_iff_not, List.map_cons, List.map_nil, List.cons_append, List.nil_append, List.append_nil, List.length_cons, List.length_nil, Nat.zero_add, Nat.add_zero, and_true, true_and, if_true, if_false, Bool.false_eq_true]
  have hn0 : (n != 0) = true := bne_iff_ne.2 (by omega)
  have md : ∀ x : Int, 0 ≤ x → 0 ≤ x.tmod n ∧ x.tmod n < n := fun x hx => by
    rw [Int.tmod_eq_emod_of_nonneg hx]
    exact ⟨Int.emod_nonneg _ (by omega), Int.emod_lt_of_pos _ (by omega)⟩
  refine ⟨fun hle => ?_, fun hgt => ?_⟩
  · refine (k_l1Byte hi H hl).mono ?_
    rintro _ h3 ⟨x, rfl, x0, x1, C, f⟩
    have := md x x0
    exact ⟨_, rfl, hn0, _, rfl, this.1, this.2, C, f⟩
  · refine (k_l1Byte hi H hl).mono ?_
    rintro _ h3 ⟨x, rfl, x0, x1, C, f⟩
    refine ⟨_, rfl, ?_⟩
    refine (k_l1Byte hi C hl).mono ?_
    rintro _ h4 ⟨y, rfl, y0, y1, C2, f2⟩
    refine ⟨_, rfl, ?_⟩
    refine (k_l1Byte hi C2 hl).mono ?_
    rintro _ h5 ⟨z, rfl, z0, z1, C3, f3⟩
    have w : IntKind.i64.wrap (IntKind.i64.wrap (IntKind.i64.wrap (x * 65536) + IntKind.i64.wrap (y * 256)) + z) = x * 65536 + y * 256 + z := by
      rw [i64_in (x * 65536) (by omega), i64_in (y * 256) (by omega), i64_in (x * 65536 + y * 256) (by omega), i64_in _ (by omega)]
    refine ⟨_, rfl, hn0, ?_⟩
    rw [w]
    have := md (x * 65536 + y * 256 + z) (by omega)
    exact ⟨_, rfl, this.1, this.2, C3, fun y hy => by rw [f3 y hy, f2 y hy, f y hy]⟩

theorem k_l1Some (hi : Eng.Inv S h0) (H : CurAt h0 h b T code a c) (hl : code.length ≤ 1048576) (n : Nat) (h2 : n ≤ 100000) :
    CallsH Tryd.prog S F_spec_l1Some #[.pointer (some ⟨b, 0, none⟩), .int .i64 n] h (fun v h' => ∃ ys : List Int, ys.length = n ∧ tB.O h' v ys ∧ tB.New h v ∧ CurAt h0 h' b T code a c ∧ (∀ y, h y ≠ none → y ≠ b → h' y = h y) ∧ ∀ y ∈ ys, 0 ≤ y ∧ y < 256) := by
  refine run_spec_l1Some (vs := [.pointer (some ⟨b, 0, none⟩), .int .i64 n]) ⟨rfl, rfl, trivial⟩ (hi.sub H.sub) ?_
  simp only [t_spec_l1Some, Tr.wp, mksW, callW, Ex.ev, coerce, toInt_int, toBool_bool, slL_sl, slC_sl, slA_sl, toAddr_ptr, ptrOf_ptr, isNil_sl, isNil_ptr, it_and, it_or, it_int, optN_int, optN_nl, cmpI, arith, Cst.val, SV.den, resShs, resV, resSV, resVals, newVars, runCells, exSh, allSh, cellsAre, storeW, List.flatMap_cons, List.flatMap_nil, List.replicate_one, List.getD_cons_zero, List.getD_cons_succ, List.getElem?_cons_zero, List.getElem?_cons_succ, decide_eq_true_eq, decide_eq_false_iff_not, List.map_cons, List.map_nil, List.cons_append, List.nil_append, List.append_nil, List.length_cons, List.length_nil, Nat.zero_add, Nat.add_zero, and_true, true_and, if_true, if_false, Bool.false_eq_true]
  intro b0 hb0
  have hb00 := sub_none H.sub hb0
  have hne0 : b0 ≠ b := fun e => H.held (e ▸ hb0)
  have s0 : Eng.Sub h (upd h b0 (.cells (ints .u8 []) 5)) := Sub.of_upd hb0
  refine ⟨fun us h' => ∃ (a1 : Option Addr) (c1 i : Nat) (ys : List Int), us = [.slice a1 i c1, .int .i64 i] ∧ i ≤ n ∧ ys.length = i ∧ Part .u8 h' (.slice a1 i c1) ys ∧ (∀ y, blkOf (.slice a1 i c1) = some y → h y = none) ∧ CurAt h0 h' b T code a c ∧ (∀ y, h y ≠ none → y ≠ b → h' y = h y) ∧ ∀ y ∈ ys, 0 ≤ y ∧ y < 256,
    fun us _ => n - (toInt (us.getD 1 undef)).toNat, ⟨_, _, 0, [], rfl, by omega, rfl, (Own.made []).part, New.of hb0, H.mono s0, fun y hy _ => upd_ne fun e => hy (e ▸ hb0), fun y hy => by cases hy⟩, ?_⟩
  rintro a1 l1 c1 x h' ⟨a1', c1', i, ys, hx1, hi2, hy, P, N, C, f, hbs⟩
  obtain ⟨⟨rfl, rfl, rfl⟩, rfl⟩ : (a1 = a1' ∧ l1 = i ∧ c1 = c1') ∧ x = i := by simpa using hx1
  refine ⟨fun hlt => ?_, fun hge => ?_⟩
  · refine (k_l1Byte hi C hl).mono ?_
    rintro _ h3 ⟨x, rfl, x0, x1, C2, f2⟩
    have hnb : blkOf (.slice a1 l1 c1) ≠ some b := fun e => by have := N b e; exact H.held this
    have P2 : Part .u8 h3 (.slice a1 l1 c1) ys := P.keep fun y hy => f2 y fun e => hnb (e ▸ hy)
    refine ⟨_, rfl, fun b1 hb1 => ?_⟩
    have s3 : Eng.Sub h3 (upd h3 b1 (.cells (ints .u8 [IntKind.u8.wrap x]) 5)) := Sub.of_upd hb1
    refine appW_part hi (C2.sub.trans s3) (P2.sub s3) (fun y hy => sub_none H.sub (N y hy)) (ys := [IntKind.u8.wrap x]) HInts.new (by simp only [List.length_singleton]; omega) fun v' h4 o n4 s4 keep hblk => ?_
    obtain ⟨a4, c4, rfl, _, _⟩ := o.ints
    have keep' : ∀ y, upd h3 b1 (.cells (ints .u8 [IntKind.u8.wrap x]) 5) y ≠ none → blkOf (.slice a1 l1 c1) ≠ some y → h4 y = upd h3 b1 (.cells (ints .u8 [IntKind.u8.wrap x]) 5) y := keep
    have h3b : upd h3 b1 (.cells (ints .u8 [IntKind.u8.wrap x]) 5) b = h3 b := upd_ne fun e => C2.held (e ▸ hb1)
    have w2 : IntKind.i64.wrap ((l1 : Int) + 1) = ((l1 + 1 : Nat) : Int) := by rw [i64_in _ (by omega)]; omega
    have el : (ys ++ [IntKind.u8.wrap x]).length = l1 + 1 := by simp [hy]
    rw [el] at o n4 hblk
    simp only [slA_sl, slL_sl, slC_sl, w2, el]
    refine ⟨⟨a4, c4, l1 + 1, _, rfl, by omega, el, o, ?_, C2.keep s4 (by rw [keep' b (by rw [h3b]; exact C2.held) hnb, h3b]), fun y hy1 hy2 => ?_, fun y hy => ?_⟩, by simp only [List.getD_cons_succ, List.getD_cons_zero, toInt_int]; omega⟩
    · rcases hblk with e | e
      · intro y hy; rw [e] at hy; exact N y hy
      · intro y hy2
        have h5 : upd h3 b1 (.cells (ints .u8 [IntKind.u8.wrap x]) 5) y = none := e y hy2
        have h6 := sub_none s3 h5
        by_cases hyb : y = b
        · subst hyb; exact absurd h6 C2.held
        · rw [f2 y hyb] at h6
          cases hh : h y with
          | none => rfl
          | some o => rw [f y (by rw [hh]; simp) hyb, hh] at h6; cases h6
    · have h5 : h3 y = h y := by rw [f2 y hy2, f y hy1 hy2]
      have h6 : upd h3 b1 (.cells (ints .u8 [IntKind.u8.wrap x]) 5) y = h3 y := upd_ne fun e => hy1 (by rw [← h5, e]; exact hb1)
      rw [keep' y (by rw [h6, h5]; exact hy1) (fun e => hy1 (N y e)), h6, h5]
    · rcases List.mem_append.1 hy with hy | hy
      · exact hbs y hy
      · rw [List.mem_singleton.1 hy, IntKind.wrap_u8]; omega
  · obtain rfl : l1 = n := by omega
    exact ⟨ys, hy, P, N, C, f, hbs⟩

end

section
variable {S : Shared} {h h0 : Eng.Heap} {b : Nat} {T : TypeId} {code : List Int} {a : Option Addr} {c : Nat}

theorem k_l1Once (hi : Eng.Inv S h0) (H : CurAt h0 h b T code a c) (hl : code.length ≤ 1048576) (n : Int) (h1 : 1 ≤ n) (h2 : n ≤ 1000000) :
    CallsH Tryd.prog S F_spec_l1Once #[.pointer (some ⟨b, 0, none⟩), .int .i64 n] h (fun v h' => ∃ x, v = .bool x ∧ CurAt h0 h' b T code a c ∧ ∀ y, y ≠ b → h' y = h y) := by
  refine run_spec_l1Once (vs := [.pointer (some ⟨b, 0, none⟩), .int .i64 n]) ⟨rfl, rfl, trivial⟩ (hi.sub H.sub) ?_
  simp only [t_spec_l1Once, Tr.wp, mksW, callW, Ex.ev, coerce, toInt_int, toBool_bool, slL_sl, slC_sl, slA_sl, toAddr_ptr, ptrOf_ptr, isNil_sl, isNil_ptr, it_and, it_or, it_int, optN_int, optN_nl, cmpI, arith, Cst.val, SV.den, resShs, resV, resSV, resVals, newVars, runCells, exSh, allSh, cellsAre, storeW, List.flatMap_cons, List.flatMap_nil, List.replicate_one, List.getD_cons_zero, List.getD_cons_succ, List.getElem?_cons_zero, List.getElem?_cons_succ, decide_eq_true_eq, decide_eq_false_iff_not, List.map_cons, List.map_nil, List.cons_append, List.nil_append, List.append_nil, List.length_cons, List.length_nil, Nat.zero_add, Nat.add_zero, and_true, true_and, if_true, if_false, Bool.false_eq_true]
  refine (k_l1Below hi H hl n h1 h2).mono ?_
  rintro _ h3 ⟨x, rfl, _, _, C, f⟩
  exact ⟨_, rfl, _, rfl, C, f⟩

/-- What a draw leaves: data of its own, the cursor, all else as it was. -/
def DrawB (h0 h : Eng.Heap) (b : Nat) (T : TypeId) (code : List Int) (a : Option Addr) (c : Nat) (P : List Int → Prop) (v : Value) (h' : Eng.Heap) : Prop :=
  ∃ ys : List Int, P ys ∧ tB.O h' v ys ∧ tB.New h v ∧ CurAt h0 h' b T code a c ∧ (∀ y, h y ≠ none → y ≠ b → h' y = h y) ∧ ∀ y ∈ ys, 0 ≤ y ∧ y < 256

/-- A byte is put behind what a draw has made so far. -/
theorem draw_app (hi : Eng.Inv S h0) (H : CurAt h0 h b T code a c) {a1 : Option Addr} {l1 c1 : Nat} {ys : List Int} {h3 : Eng.Heap} (hy : ys.length = l1) (P : Part .u8 h3 (.slice a1 l1 c1) ys) (N : ∀ y, blkOf (.slice a1 l1 c1) = some y → h y = none) (C2 : CurAt h0 h3 b T code a c) (f : ∀ y, h y ≠ none → y ≠ b → h3 y = h y) (hl : ys.length ≤ 1000000) {b1 : Nat} (hb1 : h3 b1 = none) (x : Int) {ty : TypeId} {byt : Nat} (hby : byt ≤ 16) {K : Value → Eng.Heap → Prop}
    (hK : ∀ a4 c4 h4, Part .u8 h4 (.slice a4 (l1 + 1) c4) (ys ++ [x]) → (∀ y, blkOf (.slice a4 (l1 + 1) c4) = some y → h y = none) → CurAt h0 h4 b T code a c → (∀ y, h y ≠ none → y ≠ b → h4 y = h y) → K (.slice a4 (l1 + 1) c4) h4) :
    appW S ty 1 byt [.int .u8 0] (.slice a1 l1 c1) (.slice (some ⟨b1, 0, none⟩) 1 1) (upd h3 b1 (.cells (ints .u8 [x]) 5)) K := by
  have hnb : blkOf (.slice a1 l1 c1) ≠ some b := fun e => H.held (N b e)
  have s3 : Eng.Sub h3 (upd h3 b1 (.cells (ints .u8 [x]) 5)) := Sub.of_upd hb1
  have hlen : (ys.length + [x].length) * byt ≤ 1000001 * 16 := Nat.mul_le_mul (by simp only [List.length_singleton]; omega) hby
  refine appW_part hi (C2.sub.trans s3) (P.sub s3) (fun y hy => sub_none H.sub (N y hy)) (ys := [x]) HInts.new (Nat.le_trans hlen (by decide)) fun v' h4 o n4 s4 keep hblk => ?_
  obtain ⟨a4, c4, rfl, _, _⟩ := o.ints
  have h3b : upd h3 b1 (.cells (ints .u8 [x]) 5) b = h3 b := upd_ne fun e => C2.held (e ▸ hb1)
  have el : (ys ++ [x]).length = l1 + 1 := by simp [hy]
  rw [el] at o n4 hblk ⊢
  refine hK a4 c4 h4 o ?_ (C2.keep s4 (by rw [keep b (by rw [h3b]; exact C2.held) hnb, h3b])) (fun y hy1 hy2 => ?_)
  · rcases hblk with e | e
    · intro y hy; rw [e] at hy; exact N y hy
    · intro y hy2
      have h6 := sub_none s3 (e y hy2)
      cases hh : h y with
      | none => rfl
      | some o =>
        by_cases hyb : y = b
        · subst hyb; exact absurd h6 C2.held
        · rw [f y (by rw [hh]; simp) hyb, hh] at h6; cases h6
  · have h5 : h3 y = h y := f y hy1 hy2
    have h6 : upd h3 b1 (.cells (ints .u8 [x]) 5) y = h3 y := upd_ne fun e => hy1 (by rw [← h5, e]; exact hb1)
    rw [keep y (by rw [h6, h5]; exact hy1) (fun e => hy1 (N y e)), h6, h5]

set_option maxHeartbeats 1000000 in
theorem k_l1Data (hi : Eng.Inv S h0) (H : CurAt h0 h b T code a c) (hl : code.length ≤ 1048576) (most : Int) (hm1 : 1 ≤ most) (hm2 : most ≤ 100000) :
    CallsH Tryd.prog S F_spec_l1Data #[.pointer (some ⟨b, 0, none⟩), .int .i64 most] h (DrawB h0 h b T code a c fun ys => (ys.length : Int) < most) := by
  refine run_spec_l1Data (vs := [.pointer (some ⟨b, 0, none⟩), .int .i64 most]) ⟨rfl, rfl, trivial⟩ (hi.sub H.sub) ?_
  simp only [t_spec_l1Data, Tr.wp, mksW, callW, Ex.ev, coerce, toInt_int, toBool_bool, slL_sl, slC_sl, slA_sl, toAddr_ptr, ptrOf_ptr, isNil_sl, isNil_ptr, it_and, it_or, it_int, optN_int, optN_nl, cmpI, arith, Cst.val, SV.den, resShs, resV, resSV, resVals, newVars, runCells, exSh, allSh, cellsAre, storeW, List.flatMap_cons, List.flatMap_nil, List.replicate_one, List.getD_cons_zero, List.getD_cons_succ, List.getElem?_cons_zero, List.getElem?_cons_succ, decide_eq_true_eq, decide_eq_false_iff_not, List.map_cons, List.map_nil, List.cons_append, List.nil_append, List.append_nil, List.length_cons, List.length_nil, Nat.zero_add, Nat.add_zero, and_true, true_and, if_true, if_false, Bool.false_eq_true]
  refine (k_l1Below hi H hl most hm1 (by omega)).mono ?_
  rintro _ h1 ⟨n, rfl, n0, n1, C1, f1⟩
  refine ⟨_, rfl, ?_⟩
  refine (k_l1Once hi C1 hl 6 (by omega) (by omega)).mono ?_
  rintro _ h2 ⟨t, rfl, C2, f2⟩
  obtain ⟨m, rfl⟩ := Int.eq_ofNat_of_zero_le n0
  have back : ∀ y, h2 y = none → h y = none := fun y hy => by
    by_cases hyb : y = b
    · subst hyb; exact absurd hy C2.held
    · rw [f2 y hyb, f1 y hyb] at hy; exact hy
  have fw : ∀ y, y ≠ b → h2 y = h y := fun y hyb => by rw [f2 y hyb, f1 y hyb]
  refine ⟨_, rfl, fun ht => ?_, fun ht => ?_⟩
  · refine (k_l1Some hi C2 hl m (by omega)).mono ?_
    rintro _ h3 ⟨ys, hy, O, N, C3, f3, hbs⟩
    obtain ⟨a3, c3, rfl⟩ := tB_F (tB.OR O)
    exact ⟨_, _, _, rfl, ys, by omega, O, fun y hy => back y (N y hy), C3, fun y h1 h2 => by rw [f3 y (by rw [fw y h2]; exact h1) h2, fw y h2], hbs⟩
  · intro b0 hb0
    have s0 : Eng.Sub h2 (upd h2 b0 (.cells (ints .u8 []) 5)) := Sub.of_upd hb0
    refine ⟨fun us h' => ∃ (a1 : Option Addr) (c1 i : Nat) (ys : List Int), us = [.slice a1 i c1, .int .i64 i] ∧ i ≤ m ∧ ys.length = i ∧ Part .u8 h' (.slice a1 i c1) ys ∧ (∀ y, blkOf (.slice a1 i c1) = some y → h y = none) ∧ CurAt h0 h' b T code a c ∧ (∀ y, h y ≠ none → y ≠ b → h' y = h y) ∧ ∀ y ∈ ys, 0 ≤ y ∧ y < 256,
      fun us _ => m - (toInt (us.getD 1 undef)).toNat, ⟨_, _, 0, [], rfl, by omega, rfl, (Own.made []).part, fun y hy => back y (New.of hb0 y hy), C2.mono s0, fun y h1 h2 => by rw [upd_ne fun e => h1 (by rw [← fw y h2, e]; exact hb0), fw y h2], fun y hy => by cases hy⟩, ?_⟩
    rintro a1 l1 c1 x h' ⟨a1', c1', i, ys, hx1, hi2, hy, P, N, C, f, hbs⟩
    obtain ⟨⟨rfl, rfl, rfl⟩, rfl⟩ : (a1 = a1' ∧ l1 = i ∧ c1 = c1') ∧ x = i := by simpa using hx1
    refine ⟨fun hlt => ?_, fun hge => ?_⟩
    · refine (k_l1Below hi C hl 3 (by omega) (by omega)).mono ?_
      rintro _ h3 ⟨x, rfl, x0, x1, C3, f3⟩
      have hnb : blkOf (.slice a1 l1 c1) ≠ some b := fun e => H.held (N b e)
      refine ⟨_, rfl, fun b1 hb1 => ?_⟩
      have w2 : IntKind.i64.wrap ((l1 : Int) + 1) = ((l1 + 1 : Nat) : Int) := by rw [i64_in _ (by omega)]; omega
      refine draw_app hi H hy (P.keep fun y hy => f3 y fun e => hnb (e ▸ hy)) N C3 (fun y h1 h2 => by rw [f3 y h2, f y h1 h2]) (by omega) hb1 _ (by omega) fun a4 c4 h4 P4 N4 C4 f4 => ?_
      simp only [slA_sl, slL_sl, slC_sl, w2]
      refine ⟨⟨a4, c4, l1 + 1, _, rfl, by omega, by simp [hy], P4, N4, C4, f4, fun y hy => ?_⟩, by simp only [List.getD_cons_succ, List.getD_cons_zero, toInt_int]; omega⟩
      rcases List.mem_append.1 hy with hy | hy
      · exact hbs y hy
      · rw [List.mem_singleton.1 hy, IntKind.wrap_u8]; omega
    · obtain rfl : l1 = m := by omega
      exact ⟨ys, by omega, P, N, C, f, hbs⟩
end

section
variable {S : Shared} {h : Eng.Heap}
theorem k_lwBytes (hi : Eng.Inv S h) {a1 a2 : Option Addr} {c1 c2 : Nat} {xs : List Int} (H1 : HInts h .u8 a1 xs) (H2 : HInts h .u8 a2 xs) :
    CallsH Tryd.prog S F_laws_lwBytes #[.slice a1 xs.length c1, .slice a2 xs.length c2] h (fun v h' => v = .bool true ∧ h' = h) := by
  refine run_laws_lwBytes (vs := [.slice a1 xs.length c1, .slice a2 xs.length c2]) ⟨rfl, rfl, trivial⟩ hi ?_
  simp only [t_laws_lwBytes, Tr.wp, mksW, callW, Ex.ev, coerce, toInt_int, toBool_bool, slL_sl, slC_sl, slA_sl, toAddr_ptr, ptrOf_ptr, isNil_sl, isNil_ptr, it_and, it_or, it_int, optN_int, optN_nl, cmpI, arith, Cst.val, SV.den, resShs, resV, resSV, resVals, newVars, runCells, exSh, allSh, cellsAre, storeW, List.flatMap_cons, List.flatMap_nil, List.replicate_one, List.getD_cons_zero, List.getD_cons_succ, List.getElem?_cons_zero, List.getElem?_cons_succ, decide_eq_true_eq, decide_eq_false_iff_not, List.map_cons, List.map_nil, List.cons_append, List.nil_append, List.append_nil, List.length_cons, List.length_nil, Nat.zero_add, Nat.add_zero, and_true, true_and, if_true, if_false, Bool.false_eq_true]
  exact ⟨xs, rfl, H1.cells (c := c1), xs, rfl, H2.cells (c := c2), by simp [strL, strV, coerce]⟩
end

section
variable {S : Shared} {h h0 : Eng.Heap} {b : Nat} {T : TypeId} {code : List Int} {a : Option Addr} {c : Nat}

theorem k_DrawEncodeStored (hi : Eng.Inv S h) (hx : HInts h .u8 a code) (hl : code.length ≤ 1048576) :
    CallsH Tryd.prog S F_spec_DrawEncodeStored #[.slice a code.length c] h (fun v h' => ∃ (u : Value) (ys : List Int) (per : Int), v = .tuple #[u, .int .i64 per] ∧ ys.length ≤ 29 ∧ tB.O h' u ys ∧ Eng.Sub h h' ∧ (∀ y ∈ ys, 0 ≤ y ∧ y < 256) ∧ 0 ≤ per ∧ per ≤ 65536) := by
  refine run_spec_DrawEncodeStored (vs := [.slice a code.length c]) ⟨rfl, trivial⟩ hi ?_
  simp only [t_spec_DrawEncodeStored, Tr.wp, mksW, callW, Ex.ev, coerce, toInt_int, toBool_bool, slL_sl, slC_sl, slA_sl, toAddr_ptr, ptrOf_ptr, isNil_sl, isNil_ptr, it_and, it_or, it_int, optN_int, optN_nl, cmpI, arith, Cst.val, SV.den, resShs, resV, resSV, resVals, newVars, runCells, exSh, allSh, cellsAre, storeW, List.flatMap_cons, List.flatMap_nil, List.replicate_one, List.getD_cons_zero, List.getD_cons_succ, List.getElem?_cons_zero, List.getElem?_cons_succ, decide_eq_true_eq, decide_eq_false_iff_not, List.map_cons, List.map_nil, List.cons_append, List.nil_append, List.append_nil, List.length_cons, List.length_nil, Nat.zero_add, Nat.add_zero, and_true, true_and, if_true, if_false, Bool.false_eq_true]
  refine (k_l1New hi hx hl).mono ?_
  rintro _ h1 ⟨b, T, rfl, C1⟩
  refine ⟨_, rfl, ?_⟩
  refine (k_l1Data hi C1 hl 30 (by omega) (by omega)).mono ?_
  rintro _ h2 ⟨ys, hy, O, N, C2, f2, hbs⟩
  obtain ⟨a2, c2, rfl⟩ := tB_F (tB.OR O)
  have hnb : ∀ y, blkOf (.slice a2 ys.length c2) = some y → y ≠ b := fun y hy e => C1.held (e ▸ N y hy)
  refine ⟨_, _, _, rfl, ?_⟩
  refine (k_l1Below hi C2 hl 12 (by omega) (by omega)).mono ?_
  rintro _ h3 ⟨p, rfl, p0, p1, C3, f3⟩
  refine ⟨_, rfl, ?_⟩
  refine (k_l1Once hi C3 hl 10 (by omega) (by omega)).mono ?_
  rintro _ h4 ⟨t, rfl, C4, f4⟩
  have O4 : tB.O h4 (.slice a2 ys.length c2) ys := tB.Okeep O fun y hy => by rw [f4 y (hnb y hy), f3 y (hnb y hy)]
  have fin : ∀ (h5 : Eng.Heap) (q : Int), CurAt h h5 b T code a c → (∀ y, y ≠ b → h5 y = h4 y) → 0 ≤ q → q ≤ 65536 → CallsH Tryd.prog S F_spec_l1Once #[.pointer (some ⟨b, 0, none⟩), .int .i64 15] h5 (fun v h' => ∃ x, v = .bool x ∧ tB.O h' (.slice a2 ys.length c2) ys ∧ Eng.Sub h h') := fun h5 q C5 f5 _ _ =>
    (k_l1Once hi C5 hl 15 (by omega) (by omega)).mono (by
      rintro _ h6 ⟨t2, rfl, C6, f6⟩
      exact ⟨t2, rfl, tB.Okeep O4 fun y hy => by rw [f6 y (hnb y hy), f5 y (hnb y hy)], C6.sub⟩)
  refine ⟨_, rfl, fun ht => ?_, fun ht _ => ?_⟩
  · refine (k_l1Below hi C4 hl 2 (by omega) (by omega)).mono ?_
    rintro _ h5 ⟨q, rfl, q0, q1, C5, f5⟩
    have w : IntKind.i64.wrap (65535 + q) = 65535 + q := i64_in _ (by omega)
    refine ⟨_, rfl, fun _ => ?_⟩
    rw [w]
    refine (fin h5 (65535 + q) C5 f5 (by omega) (by omega)).mono ?_
    rintro _ h6 ⟨t2, rfl, O6, s6⟩
    refine ⟨_, rfl, _, ys, _, rfl, by omega, O6, s6, hbs, ?_⟩
    split <;> omega
  · have w : IntKind.i64.wrap (1 + p) = 1 + p := i64_in _ (by omega)
    rw [w]
    refine (fin h4 (1 + p) C4 (fun _ _ => rfl) (by omega) (by omega)).mono ?_
    rintro _ h6 ⟨t2, rfl, O6, s6⟩
    refine ⟨_, rfl, _, ys, _, rfl, by omega, O6, s6, hbs, ?_⟩
    split <;> omega

theorem senc_ge (per : Nat) (xs : List Int) : xs.length ≤ (senc per xs).length := by
  induction hn : xs.length using Nat.strongRecOn generalizing xs with
  | _ n ih =>
    unfold senc
    split
    · simp [shead]; omega
    · rename_i hc
      have := ih (xs.drop per).length (by rw [List.length_drop]; omega) (xs.drop per) rfl
      rw [List.length_drop] at this
      simp [shead]
      omega
/-- Stored blocks are inflated to their data. -/
theorem inf_stored {per : Int} {ys : List Int} (h1 : 1 ≤ per) (h2 : per ≤ 65535) (hl : ys.length ≤ 29) (hw : ∀ y ∈ ys, 0 ≤ y ∧ y ≤ 255) :
    (sans per ys).length ≤ 200 ∧ ans_Inflate (sans per ys) 32768 [] = (1, ys, 8 * ((sans per ys).length : Int), ()) := by
  have e : sans per ys = senc per.toNat ys := if_neg (by omega)
  have hlen : (sans per ys).length ≤ 200 := by rw [e]; have := senc_len per.toNat ys; omega
  refine ⟨hlen, ?_⟩
  have eL : lastN 32768 ([] : List Int) = [] := rfl
  have H : AtY (sans per ys) 0 (senc per.toNat ys) := fun j x hj => by rw [e, Nat.zero_add]; exact hj
  have K := blF_stored (B := sans per ys) (dl := 0) (room := 100000) (sz := 32768) (per := per.toNat) (by omega) (by omega) (F := 8 * (sans per ys).length + 1) ys.length ys 0 (8 * (sans per ys).length + 1) [] (Nat.le_refl _) hw H (by
    rw [e]
    have : ys.length ≤ (senc per.toNat ys).length := senc_ge per.toNat ys
    omega) (Nat.le_refl _) (by simp; omega)
  have K2 : infF (sans per ys) 32768 [] = (⟨((8 * (sans per ys).length : Nat) : Int), 0⟩, ys) := by
    unfold infF; rw [eL, e] at *; simpa using K
  unfold ans_Inflate
  rw [if_neg (by omega), if_neg (by omega), show (32768 : Int).toNat = 32768 from rfl, K2, if_neg (by simp), eL]
  simp

/-- A fixed block is inflated to its data. -/
theorem inf_fixed {ys : List Int} (hl : ys.length ≤ 29) (hw : ∀ y ∈ ys, 0 ≤ y ∧ y ≤ 255) :
    (ans_EncodeFixed ys).length ≤ 1000 ∧ ans_Inflate (ans_EncodeFixed ys) 1 [] = (1, ys, ((strm ys).length : Int), ()) ∧ (ans_EncodeFixed ys).length = ((strm ys).length + 7) / 8 := by
  have e : ans_EncodeFixed ys = pk (strm ys) (strm ys).length := if_neg (by omega)
  have hpl := pk_len (bs := strm ys) (k := (strm ys).length)
  have h6 := pre_len hw (Nat.le_refl _)
  have hs : (strm ys).length ≤ 3 + 15 * ys.length + 15 := by
    rw [← pre_all, List.length_append]
    have := cbits_len (c := 256) (by omega)
    omega
  rw [← e] at hpl
  refine ⟨by omega, ?_, hpl⟩
  have eL : lastN 1 ([] : List Int) = [] := rfl
  have H : AtB (ans_EncodeFixed ys) 0 (strm ys) := by
    have := pk_at (s := strm ys) strm_01 [] []
    rwa [List.nil_append, List.append_nil, ← e] at this
  have hge : ys.length ≤ (strm ys).length := by
    have : ∀ zs : List Int, (∀ z ∈ zs, 0 ≤ z ∧ z ≤ 255) → zs.length ≤ (zs.flatMap fun c => cbits c.toNat).length := by
      intro zs
      induction zs with
      | nil => intro _; simp
      | cons z r ih =>
        intro hz
        have h1 := hz z (List.mem_cons_self ..)
        obtain ⟨l, b, _, h2, _, _, h5, _⟩ := cb_code (c := z.toNat) (by omega)
        have h3 := ih fun y hy => hz y (List.mem_cons_of_mem _ hy)
        rw [List.flatMap_cons, List.length_append, h5, bitsOf_len, List.length_cons]; omega
    have := this ys hw
    unfold strm
    simp only [List.length_append]; omega
  have K := blF_fixed (B := ans_EncodeFixed ys) (p := 0) (dl := 0) (room := 100000) (sz := 1) (F := 8 * (ans_EncodeFixed ys).length + 1) (f := 8 * (ans_EncodeFixed ys).length) (al := []) (xs := ys) hw (by omega) (Nat.le_refl _) (by simp; omega) H
  have K2 : infF (ans_EncodeFixed ys) 1 [] = (⟨((strm ys).length : Int), 0⟩, ys) := by
    unfold infF; rw [eL]; simpa using K
  unfold ans_Inflate
  rw [if_neg (by omega), if_neg (by omega), show (1 : Int).toNat = 1 from rfl, K2, if_neg (by simp), eL]
  simp

set_option maxRecDepth 100000 in
theorem k_FnEncode (hi : Eng.Inv S h) (G : ErrL h) (E : ErrT h) (a : Option Addr) (c : Nat) (code : List Int) (hx : HInts h .u8 a code) (hl : code.length ≤ maxLen) (hw : ∀ x ∈ code, (Lit.int .u8 x).wf = true) :
    CallsH Tryd.prog S F_laws_FnEncode #[.slice a code.length c] h (fun v h' => v = .bool true) := by
  refine run_laws_FnEncode (vs := [.slice a code.length c]) ⟨rfl, trivial⟩ hi ?_
  simp only [t_laws_FnEncode, Tr.wp, mksW, callW, Ex.ev, coerce, toInt_int, toBool_bool, slL_sl, slC_sl, slA_sl, toAddr_ptr, ptrOf_ptr, isNil_sl, isNil_ptr, it_and, it_or, it_int, optN_int, optN_nl, cmpI, arith, Cst.val, SV.den, resShs, resV, resSV, resVals, newVars, runCells, exSh, allSh, cellsAre, storeW, List.flatMap_cons, List.flatMap_nil, List.replicate_one, List.getD_cons_zero, List.getD_cons_succ, List.getElem?_cons_zero, List.getElem?_cons_succ, decide_eq_true_eq, decide_eq_false_iff_not, List.map_cons, List.map_nil, List.cons_append, List.nil_append, List.append_nil, List.length_cons, List.length_nil, Nat.zero_add, Nat.add_zero, and_true, true_and, if_true, if_false, Bool.false_eq_true]
  refine ⟨fun _ => trivial, fun hsm => ?_⟩
  have hsm2 : code.length ≤ 1048576 := by omega
  refine (k_DrawEncodeStored hi hx hsm2).mono ?_
  rintro _ h1 ⟨u, ys, per, rfl, hy, O, s1, hok, hp0, hp1⟩
  have hw : ∀ y ∈ ys, 0 ≤ y ∧ y ≤ 255 := fun y hy => by have := hok y hy; omega
  obtain ⟨ay, cy, rfl, hcy, hiy⟩ := O.ints
  refine ⟨_, _, _, _, rfl, ?_⟩
  refine (k_impl_EncodeStored (hi.sub s1) ay cy ys per hiy hcy).mono ?_
  rintro _ h2 ⟨o2, n2, s2⟩
  have P2 := o2.part
  obtain ⟨a2, c2, rfl, hc2, g2⟩ := P2.ints
  refine ⟨_, _, _, rfl, fun hbad => ?_, fun hgood => ?_⟩
  · have e : sans per ys = [] := if_pos (by simp at hbad; omega)
    rw [e]; simp
  have hgood : 1 ≤ per ∧ per ≤ 65535 := by simp at hgood; omega
  obtain ⟨l3, e3⟩ := inf_stored hgood.1 hgood.2 hy hw
  intro b3 hb3
  have s3 : Eng.Sub h2 (upd h2 b3 (.cells (ints .u8 []) 5)) := Sub.of_upd hb3
  have s13 := s1.trans (s2.trans s3)
  refine (g_impl_Inflate (hi.sub s13) (G.sub s13) (E.sub s13) (P2.sub s3) (show (sans per ys).length ≤ 1048576 by omega) 32768 rfl (ds := []) (Own.made []).part (by show ([] : List Int).length ≤ 1048576; simp)).mono ?_
  rintro _ h4 ⟨O4, n4, s4⟩
  rw [e3] at O4
  obtain ⟨u4, rfl, Q4⟩ := tInfRes_O O4
  obtain ⟨a4, c4, rfl, hc4, g4⟩ := Part.ints (show Part .u8 h4 u4 ys from Q4)
  refine ⟨_, _, _, _, _, rfl, ?_⟩
  have s14 := s13.trans s4
  have O14 : tB.O h4 (.slice ay ys.length cy) ys := O.sub (s2.trans (s3.trans s4))
  refine (g_impl_EncodeFixed (hi.sub s14) O14 hw (show ys.length ≤ 1048576 by omega)).mono ?_
  rintro _ h5 ⟨O5, n5, s5⟩
  obtain ⟨a5, c5, rfl, hc5, g5⟩ := Part.ints O5
  obtain ⟨l6, e6, e7⟩ := inf_fixed hy hw
  refine ⟨_, _, _, rfl, ?_⟩
  intro b6 hb6
  have s6 : Eng.Sub h5 (upd h5 b6 (.cells (ints .u8 []) 5)) := Sub.of_upd hb6
  have s16 := s14.trans (s5.trans s6)
  refine (g_impl_Inflate (hi.sub s16) (G.sub s16) (E.sub s16) (tB.Osub O5 s6) (show (ans_EncodeFixed ys).length ≤ 1048576 by omega) 1 rfl (ds := []) (Own.made []).part (by show ([] : List Int).length ≤ 1048576; simp)).mono ?_
  rintro _ h7 ⟨O7, n7, s7⟩
  rw [e6] at O7
  obtain ⟨u7, rfl, Q7⟩ := tInfRes_O O7
  obtain ⟨a7, c7, rfl, hc7, g7⟩ := Part.ints (show Part .u8 h7 u7 ys from Q7)
  refine ⟨_, _, _, _, _, rfl, ?_⟩
  have i7 := hi.sub (s16.trans s7)
  have hiy7 := hiy.sub (s2.trans (s3.trans (s4.trans (s5.trans (s6.trans s7)))))
  refine ⟨fun _ => ?_, fun hne => by simp at hne⟩
  refine (k_lwBytes i7 (g4.sub (s5.trans (s6.trans s7))) hiy7).mono ?_
  rintro _ h8 ⟨rfl, rfl⟩
  have w8 : IntKind.i64.wrap (8 * ((sans per ys).length : Int)) = 8 * ((sans per ys).length : Int) := i64_in _ (by omega)
  have wq : IntKind.i64.wrap ((IntKind.i64.wrap (((strm ys).length : Int) + 7)).tdiv 8) = ((ans_EncodeFixed ys).length : Int) := by
    rw [i64_in (((strm ys).length : Int) + 7) (by omega), Int.tdiv_eq_ediv_of_nonneg (by omega), i64_in _ (by omega)]; omega
  refine ⟨_, rfl, fun _ => ?_, fun hne => by simp [w8] at hne⟩
  refine (k_lwBytes i7 g7 hiy7).mono ?_
  rintro _ h9 ⟨rfl, rfl⟩
  refine ⟨_, rfl, ?_⟩
  simp [wq, shOk]
end
end Go.Proofs.YteaonnfokkfnlaaDoor
