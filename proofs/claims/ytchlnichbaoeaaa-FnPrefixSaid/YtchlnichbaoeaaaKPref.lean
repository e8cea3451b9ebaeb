import Derived.Test.YtchlnichbaoeaaaKNext2
set_option linter.unusedVariables false
set_option linter.unusedSimpArgs false
namespace Go.Proofs.Ytchlnichbaoeaaa
open Go Go.Eng Go.IntWalk

/-! ### Codes turned round -/

theorem tl_split (x : Int) (a : Nat) : ∀ b : Nat, tl x (a + b) = 2 ^ b * tl x a + tl (x / 2 ^ a) b
  | 0 => by simp [tl]
  | b + 1 => by
    have hd : x / 2 ^ a / 2 ^ b = x / 2 ^ (a + b) := by rw [Int.ediv_ediv_of_nonneg (Int.le_of_lt (Int.pow_pos (by decide))), ← Int.pow_add]
    rw [← Nat.add_assoc, tl, tl_split x a b, tl, hd, Int.pow_succ]
    have e : (2 : Int) ^ b * 2 * tl x a = 2 * (2 ^ b * tl x a) := by rw [Int.mul_comm (2 ^ b) 2, Int.mul_assoc]
    rw [e]; omega

theorem tl_low (x : Int) (a b : Nat) : tl x (a + b) % 2 ^ b = tl (x / 2 ^ a) b := by
  have h := tl_lt (x := x / 2 ^ a) (n := b)
  rw [tl_split, Int.add_comm, Int.add_mul_emod_self_left]
  exact Int.emod_eq_of_lt h.1 h.2

theorem mod_top (z : Int) (n : Nat) : z % 2 ^ (n + 1) = z % 2 ^ n + 2 ^ n * (z / 2 ^ n % 2) := by
  have hp : (0 : Int) < 2 ^ n := Int.pow_pos (by decide)
  have hd : z / (2 ^ n * 2) = z / 2 ^ n / 2 := (Int.ediv_ediv_of_nonneg (Int.le_of_lt hp)).symm
  rw [Int.pow_succ, Int.emod_def z (2 ^ n * 2), hd, Int.emod_def z (2 ^ n), Int.emod_def (z / 2 ^ n) 2, Int.mul_sub, Int.mul_assoc]
  omega

theorem tl_tl (x : Int) : ∀ n : Nat, tl (tl x n) n = x % 2 ^ n
  | 0 => by simp [tl]
  | n + 1 => by
    have e0 : tl x (n + 1) / 2 ^ 1 = tl x n := by rw [tl]; omega
    have e1 : tl (tl x (n + 1)) 1 = x / 2 ^ n % 2 := by
      simp only [tl, Int.pow_zero, Int.ediv_one]; omega
    have := tl_split (tl x (n + 1)) 1 n
    rw [Nat.add_comm 1 n, e0, e1, tl_tl x n] at this
    rw [this, mod_top]
    omega

theorem cst_step {xs : List Int} {M : Nat} (hM : 1 ≤ M) : ∀ {d : Nat}, 2 ^ d * (2 * (cst xs M + ((xs.count (M : Int) : Nat) : Int))) ≤ cst xs (M + 1 + d)
  | 0 => by simp only [cst, Nat.add_zero, Int.pow_zero, Int.one_mul, if_neg (show ¬ M = 0 by omega)]; omega
  | d + 1 => by
    have ih := cst_step (xs := xs) hM (d := d)
    rw [← Nat.add_assoc, cst, if_neg (by omega), Int.pow_succ]
    have e : (2 : Int) ^ d * 2 * (2 * (cst xs M + ((xs.count (M : Int) : Nat) : Int))) = 2 * (2 ^ d * (2 * (cst xs M + ((xs.count (M : Int) : Nat) : Int)))) := by rw [Int.mul_comm (2 ^ d) 2, Int.mul_assoc]
    rw [e]
    have : (0 : Int) ≤ ((xs.count ((M + 1 + d : Nat) : Int) : Nat) : Int) := Int.natCast_nonneg _
    omega

/-- What a code is. -/
theorem code_key {xs : List Int} (h : ¬ (hkind xs = 0 ∨ hkind xs = 2)) {j l v : Nat} (hl : 0 < l) (hj : (codesN xs)[j]? = some (l, v)) :
    ∃ hj : j < xs.length, xs[j] = (l : Int) ∧ l ≤ 15 ∧ v < 2 ^ l ∧ (v : Int) = tl (cst xs l + (((xs.take j).count (l : Int) : Nat) : Int)) l := by
  obtain ⟨hlen, hok⟩ := hkind_ok h
  have hj1 : j < xs.length := by have := (List.getElem?_eq_some_iff.1 hj).1; rwa [codesN_len] at this
  have hg := codesOf_get (xs := xs) hj1
  have hb := hok _ (List.getElem_mem hj1)
  obtain ⟨k, hk⟩ := Int.eq_ofNat_of_zero_le hb.1
  obtain ⟨l', b', e, hn, h15, hlt⟩ := codesOf_cast hok hg
  rw [hj] at hn
  simp only [Option.some.injEq, Prod.mk.injEq] at hn
  obtain ⟨rfl, rfl⟩ := hn
  by_cases h1 : 1 ≤ xs[j]
  · rw [if_pos h1, codeAt_eq hj1 hk] at e
    simp only [Prod.mk.injEq] at e
    have e1 : k = l := by exact_mod_cast e.1
    subst e1
    exact ⟨hj1, hk, h15, hlt, e.2.symm⟩
  · rw [if_neg h1] at e
    simp only [Prod.mk.injEq] at e
    omega

/-- No code begins another. -/
def pfree (cs : List (Nat × Nat)) : Prop := ∀ s t L v M w : Nat, s ≠ t → cs[s]? = some (L, v) → cs[t]? = some (M, w) → 0 < M → M ≤ L → v % 2 ^ M ≠ w

theorem codes_pfree {xs : List Int} (h : ¬ (hkind xs = 0 ∨ hkind xs = 2)) : pfree (codesN xs) := by
  intro s t L v M w hst hs ht hM hML heq
  have hk := kr_ok h
  obtain ⟨hj1, e1, L15, hv, ev⟩ := code_key h (by omega) hs
  obtain ⟨hj2, e2, M15, hw, ew⟩ := code_key h hM ht
  by_cases hlt : M = L
  · subst hlt
    rw [Nat.mod_eq_of_lt hv] at heq
    subst heq
    exact hst (codes_uniq h s t M v hM hs ht)
  · obtain ⟨d, rfl⟩ : ∃ d, L = M + 1 + d := ⟨L - (M + 1), by omega⟩
    have c1 := count_take_lt hj1 e1
    have c2 := count_take_lt hj2 e2
    have r1 := cst_room (xs := xs) hk (l := M + 1 + d) (by omega) L15
    have r2 := cst_room (xs := xs) hk (l := M) (by omega) M15
    have hc := hkind_ok h
    have n1 := (cst_small (xs := xs) hc.1 (l := M + 1 + d) (by omega)).1
    have n2 := (cst_small (xs := xs) hc.1 (l := M) (by omega)).1
    have st := cst_step (xs := xs) (M := M) hM (d := d)
    generalize hK : cst xs (M + 1 + d) + (((xs.take s).count ((M + 1 + d : Nat) : Int) : Nat) : Int) = K at ev
    generalize hJ : cst xs M + (((xs.take t).count (M : Int) : Nat) : Int) = J at ew
    have hq : (v : Int) % 2 ^ M = (w : Int) := by rw [pow_cast]; exact_mod_cast congrArg Nat.cast heq
    rw [ev, ew, show M + 1 + d = (1 + d) + M by omega, tl_low] at hq
    have hp : (0 : Int) < 2 ^ (1 + d) := Int.pow_pos (by decide)
    have hp2 : (2 : Int) ^ (1 + d) = 2 * 2 ^ d := by rw [Nat.add_comm, Int.pow_succ]; omega
    have hpM : (0 : Int) < 2 ^ M := Int.pow_pos (by decide)
    have hKn : 0 ≤ K := by omega
    have hi := tl_inj (Int.ediv_nonneg hKn (Int.le_of_lt hp)) (by omega) hq
    have hJlt : J < 2 ^ M := by omega
    have hKlt : K / 2 ^ (1 + d) < 2 ^ M := by
      refine Int.ediv_lt_of_lt_mul hp ?_
      rw [← Int.pow_add, show M + (1 + d) = M + 1 + d by omega]; omega
    rw [Int.emod_eq_of_lt (Int.ediv_nonneg hKn (Int.le_of_lt hp)) hKlt, Int.emod_eq_of_lt (by omega) hJlt] at hi
    have hge : J + 1 ≤ K / 2 ^ (1 + d) := by
      rw [Int.le_ediv_iff_mul_le hp, hp2]
      have e3 : (J + 1) * (2 * 2 ^ d) ≤ (cst xs M + ((xs.count (M : Int) : Nat) : Int)) * (2 * 2 ^ d) := Int.mul_le_mul_of_nonneg_right (by omega) (by omega)
      have e4 : (cst xs M + ((xs.count (M : Int) : Nat) : Int)) * (2 * 2 ^ d) = 2 ^ d * (2 * (cst xs M + ((xs.count (M : Int) : Nat) : Int))) := by
        generalize cst xs M + ((xs.count (M : Int) : Nat) : Int) = q
        rw [Int.mul_comm q, Int.mul_comm 2 (2 ^ d), Int.mul_assoc]
      omega
    omega

/-! ### What is read -/

theorem Ym_mid {cs : List (Nat × Nat)} (U : pfree cs) {s L v l : Nat} (h : cs[s]? = some (L, v)) (hl : l < L) : Ym cs cs.length l (v % 2 ^ l) = 0 := by
  refine Ym_none fun t ht hc h0 => ?_
  have hst : s ≠ t := fun e => by
    subst e; rw [h] at hc
    simp only [Option.some.injEq, Prod.mk.injEq] at hc
    omega
  exact U s t L v l (v % 2 ^ l) hst h hc h0 (by omega) rfl

theorem Ec_mid {cs : List (Nat × Nat)} {s L v l : Nat} (h : cs[s]? = some (L, v)) (hl : l < L) : Ec cs l (v % 2 ^ l) := ⟨(L, v), List.mem_of_getElem? h, hl, rfl⟩

theorem nxt_found {cs : List (Nat × Nat)} (U : uniq cs) (F : pfree cs) {s L v b : Nat} (h : cs[s]? = some (L, v)) (h0 : 0 < L) (hb : b % 2 ^ L = v) : ∀ (f l : Nat), l ≤ L → L < f + l → nxt cs b f l = (1, (s : Int), (L : Int))
  | 0, l, h1, h2 => by omega
  | f + 1, l, h1, h2 => by
    unfold nxt
    by_cases hl : l = L
    · subst hl
      rw [hb, Ym_at U h h0 (List.getElem?_eq_some_iff.1 h).1]
      simp
    · have e : b % 2 ^ l = v % 2 ^ l := by rw [← hb, mod_pow h1]
      rw [e, Ym_mid F h (by omega), if_neg (by simp), if_pos (Ec_mid h (by omega)), nxt_found U F h h0 hb f (l + 1) (by omega) (by omega)]

theorem nxt_short {cs : List (Nat × Nat)} (F : pfree cs) {s L v b : Nat} (h : cs[s]? = some (L, v)) (hb : b % 2 ^ L = v) : ∀ (f l : Nat), f + l ≤ L → nxt cs b f l = (2, 0, 0)
  | 0, l, h1 => rfl
  | f + 1, l, h1 => by
    unfold nxt
    have e : b % 2 ^ l = v % 2 ^ l := by rw [← hb, mod_pow (by omega)]
    rw [e, Ym_mid F h (by omega), if_neg (by simp), if_pos (Ec_mid h (by omega)), nxt_short F h hb f (l + 1) (by omega)]

/-! ### A complete code reads everything -/

theorem kfin_all : ∀ {xs : List Int}, hok xs → kfin 15 xs = kr xs
  | [], _ => by simp [kfin, kr]
  | x :: r, H => by
    have ih := kfin_all (xs := r) fun y hy => H y (List.mem_cons_of_mem _ hy)
    have hx := H x (List.mem_cons_self ..)
    unfold kfin kr at *
    simp only [List.map_cons, List.sum_cons, ih]
    by_cases h0 : 0 < x
    · rw [if_pos ⟨h0, by omega⟩]
    · rw [if_neg (by omega)]
      unfold kterm
      rw [if_neg h0]

theorem count_at : ∀ {xs : List Int} {a : Int} {r : Nat}, r < xs.count a → ∃ j, ∃ h : j < xs.length, xs[j] = a ∧ (xs.take j).count a = r
  | [], a, r, h => by simp at h
  | x :: t, a, r, h => by
    by_cases hx : x = a
    · subst hx
      rw [List.count_cons_self] at h
      cases r with
      | zero => exact ⟨0, by simp, rfl, rfl⟩
      | succ r =>
        obtain ⟨j, hj, e1, e2⟩ := count_at (xs := t) (a := x) (r := r) (by omega)
        exact ⟨j + 1, by simpa using hj, by simpa using e1, by rw [List.take_succ_cons, List.count_cons_self, e2]⟩
    · rw [List.count_cons_of_ne hx] at h
      obtain ⟨j, hj, e1, e2⟩ := count_at (xs := t) (a := a) (r := r) h
      exact ⟨j + 1, by simpa using hj, by simpa using e1, by rw [List.take_succ_cons, List.count_cons_of_ne hx, e2]⟩

theorem first_over {F : Nat → Int} {y : Int} (h0 : F 0 ≤ y) : ∀ {n : Nat}, y < F n → ∃ l, l < n ∧ F l ≤ y ∧ y < F (l + 1)
  | 0, h => by omega
  | n + 1, h => by
    by_cases hn : y < F n
    · obtain ⟨l, h1, h2, h3⟩ := first_over h0 hn
      exact ⟨l, by omega, h2, h3⟩
    · exact ⟨n, by omega, by omega, h⟩

theorem full_code {xs : List Int} (h : hkind xs = 1) (b : Nat) : ∃ s L v : Nat, (codesN xs)[s]? = some (L, v) ∧ 0 < L ∧ L ≤ 15 ∧ b % 2 ^ L = v := by
  have hg : ¬ (hkind xs = 0 ∨ hkind xs = 2) := by omega
  obtain ⟨hlen, hok⟩ := hkind_ok hg
  have hkr : kr xs = 32768 := by
    unfold hkind at h
    by_cases h3 : cn xs = 0
    · simp [show ¬ xs.length > 320 by omega, hok, h3] at h
    · by_cases h4 : kr xs > 32768
      · simp [show ¬ xs.length > 320 by omega, hok, h3, h4] at h
      · by_cases h5 : kr xs = 32768
        · exact h5
        · by_cases h6 : cn xs = 1 ∧ kr xs = 16384
          · simp [show ¬ xs.length > 320 by omega, hok, h3, h4, h5, h6] at h
          · rw [if_neg (by omega), if_neg (fun h => h hok), if_neg h3, if_neg h4, if_neg h5, if_neg h6] at h
            omega
  have hy := tl_lt (x := (b : Int)) (n := 15)
  have e15 : (2 : Int) ^ 15 = 32768 := by decide
  generalize hyy : tl (b : Int) 15 = y at hy
  obtain ⟨l, hl, f1, f2⟩ := first_over (F := fun l => kfin l xs) (y := y) (n := 15) (by show kfin 0 xs ≤ y; rw [kfin_zero]; exact hy.1) (by show y < kfin 15 xs; rw [kfin_all hok, hkr]; omega)
  have f1 : kfin l xs ≤ y := f1
  have f2 : y < kfin (l + 1) xs := f2
  have a := cst_kfin (xs := xs) l (by omega)
  have bb := kfin_succ l (by omega) xs
  have hp : (0 : Int) < 2 ^ (15 - (l + 1)) := Int.pow_pos (by decide)
  have g1 : cst xs (l + 1) ≤ y / 2 ^ (15 - (l + 1)) := by rw [Int.le_ediv_iff_mul_le hp]; omega
  have g2 : y / 2 ^ (15 - (l + 1)) < cst xs (l + 1) + ((xs.count ((l + 1 : Nat) : Int) : Nat) : Int) := by
    refine Int.ediv_lt_of_lt_mul hp ?_
    rw [Int.add_mul]; omega
  obtain ⟨r, hr⟩ := Int.eq_ofNat_of_zero_le (show 0 ≤ y / 2 ^ (15 - (l + 1)) - cst xs (l + 1) by omega)
  obtain ⟨j, hj, e1, e2⟩ := count_at (xs := xs) (a := ((l + 1 : Nat) : Int)) (r := r) (by omega)
  have hgj := codesOf_get (xs := xs) hj
  rw [if_pos (by rw [e1]; omega), codeAt_eq hj e1, e2] at hgj
  obtain ⟨L, v, e3, e4, _, _⟩ := codesOf_cast hok hgj
  simp only [Prod.mk.injEq] at e3
  have eL : l + 1 = L := by exact_mod_cast e3.1
  subst eL
  refine ⟨j, l + 1, v, e4, by omega, by omega, ?_⟩
  have e5 : cst xs (l + 1) + (r : Int) = y / 2 ^ (15 - (l + 1)) := by omega
  have e6 := e3.2
  rw [e5] at e6
  have e7 := tl_low y (15 - (l + 1)) (l + 1)
  rw [show 15 - (l + 1) + (l + 1) = 15 by omega, e6, ← hyy, tl_tl] at e7
  have e8 : (b : Int) % 2 ^ 15 % 2 ^ (l + 1) = (b : Int) % 2 ^ (l + 1) := by
    refine Int.emod_emod_of_dvd _ ⟨2 ^ (15 - (l + 1)), ?_⟩
    rw [← Int.pow_add, show l + 1 + (15 - (l + 1)) = 15 by omega]
  rw [e8, pow_cast] at e7
  exact_mod_cast e7
end Go.Proofs.Ytchlnichbaoeaaa
