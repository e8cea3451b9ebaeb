import Derived.Test.YteaonnfokkfnlaaDoorKCodes2
import Derived.Test.YteaonnfokkfnlaaDoorEng3
set_option linter.unusedVariables false
set_option linter.unusedSimpArgs false
namespace Go.Proofs.YteaonnfokkfnlaaDoor
open Go Go.Eng Go.IntWalk

/-! ### The codes, as numbers -/

def codesN (xs : List Int) : List (Nat × Nat) := (codesOf xs).map fun p => (p.1.toNat, p.2.toNat)

theorem codesOf_len {xs : List Int} : (codesOf xs).length = xs.length := by simp [codesOf]
theorem codesN_len {xs : List Int} : (codesN xs).length = xs.length := by simp [codesN, codesOf]

theorem codesOf_get {xs : List Int} {j : Nat} (hj : j < xs.length) : (codesOf xs)[j]? = some (if 1 ≤ xs[j] then codeAt xs j else (0, 0)) := by
  simp only [codesOf, List.getElem?_map, List.getElem?_range hj, Option.map_some, getD_get hj]

theorem codeAt_eq {xs : List Int} {j l : Nat} (hj : j < xs.length) (hl : xs[j] = (l : Int)) : codeAt xs j = ((l : Int), tl (cst xs l + (((xs.take j).count (l : Int) : Nat) : Int)) l) := by
  unfold codeAt
  rw [getD_get hj, hl, Int.toNat_natCast]

/-- What an entry of the codes is. -/
theorem codesOf_cast {xs : List Int} (hok : hok xs) {j : Nat} {p : Int × Int} (h : (codesOf xs)[j]? = some p) : ∃ l b : Nat, p = ((l : Int), (b : Int)) ∧ (codesN xs)[j]? = some (l, b) ∧ l ≤ 15 ∧ b < 2 ^ l := by
  have hj : j < xs.length := by have := (List.getElem?_eq_some_iff.1 h).1; rwa [codesOf_len] at this
  have hc : (codesN xs)[j]? = some (p.1.toNat, p.2.toNat) := by simp only [codesN, List.getElem?_map, h, Option.map_some]
  rw [codesOf_get hj] at h
  have hb := hok _ (List.getElem_mem hj)
  obtain ⟨l, hl⟩ := Int.eq_ofNat_of_zero_le hb.1
  by_cases h1 : 1 ≤ xs[j]
  · rw [if_pos h1, codeAt_eq hj hl] at h
    have h := (Option.some.inj h).symm
    subst h
    have ht := tl_lt (x := cst xs l + (((xs.take j).count (l : Int) : Nat) : Int)) (n := l)
    obtain ⟨b, hb2⟩ := Int.eq_ofNat_of_zero_le ht.1
    refine ⟨l, b, by rw [hb2], by rw [hc, hb2]; rfl, by omega, ?_⟩
    have := ht.2
    rw [hb2, pow_cast] at this
    exact_mod_cast this
  · rw [if_neg h1] at h
    have h := (Option.some.inj h).symm
    subst h
    exact ⟨0, 0, rfl, by rw [hc]; rfl, by omega, by decide⟩

/-! ### What the codes make of a path -/

def Em (cs : List (Nat × Nat)) (m l v : Nat) : Prop := ∃ s c, s < m ∧ cs[s]? = some c ∧ l < c.1 ∧ c.2 % 2 ^ l = v
def Ec (cs : List (Nat × Nat)) (l v : Nat) : Prop := ∃ c ∈ cs, l < c.1 ∧ c.2 % 2 ^ l = v
instance (cs : List (Nat × Nat)) (l v : Nat) : Decidable (Ec cs l v) := by unfold Ec; infer_instance
def Ym (cs : List (Nat × Nat)) : Nat → Nat → Nat → Nat
  | 0, _, _ => 0
  | m + 1, l, v => if cs[m]? = some (l, v) ∧ 0 < l then m + 1 else Ym cs m l v

theorem Em_full {cs : List (Nat × Nat)} {l v : Nat} : Em cs cs.length l v ↔ Ec cs l v := by
  constructor
  · rintro ⟨s, c, _, h, h2⟩
    exact ⟨c, List.mem_of_getElem? h, h2⟩
  · rintro ⟨c, hc, h2⟩
    obtain ⟨s, hs⟩ := List.getElem?_of_mem hc
    exact ⟨s, c, (List.getElem?_eq_some_iff.1 hs).1, hs, h2⟩

theorem mod_pow {b l k : Nat} (h : l ≤ k) : b % 2 ^ k % 2 ^ l = b % 2 ^ l := Nat.mod_mod_of_dvd _ (Nat.pow_dvd_pow 2 h)

theorem Em_up {cs : List (Nat × Nat)} {m l v : Nat} (h : Em cs m (l + 1) v) : Em cs m l (v % 2 ^ l) := by
  obtain ⟨s, c, h1, h2, h3, h4⟩ := h
  exact ⟨s, c, h1, h2, by omega, by rw [← h4, mod_pow (by omega)]⟩

theorem Ym_some {cs : List (Nat × Nat)} {l v : Nat} : ∀ {m : Nat}, Ym cs m l v ≠ 0 → ∃ s, s < m ∧ cs[s]? = some (l, v) ∧ 0 < l ∧ Ym cs m l v = s + 1
  | 0, h => absurd rfl h
  | m + 1, h => by
    rw [Ym] at h ⊢
    by_cases h1 : cs[m]? = some (l, v) ∧ 0 < l
    · rw [if_pos h1]; exact ⟨m, by omega, h1.1, h1.2, rfl⟩
    · rw [if_neg h1] at h ⊢
      obtain ⟨s, a, b, c, d⟩ := Ym_some h
      exact ⟨s, by omega, b, c, d⟩

theorem Ym_none {cs : List (Nat × Nat)} {l v : Nat} : ∀ {m : Nat}, (∀ s, s < m → cs[s]? = some (l, v) → ¬ 0 < l) → Ym cs m l v = 0
  | 0, _ => rfl
  | m + 1, h => by
    rw [Ym, if_neg (fun h1 => h m (by omega) h1.1 h1.2)]
    exact Ym_none fun s hs => h s (by omega)

theorem Ym_up {cs : List (Nat × Nat)} {m l v : Nat} (h : Ym cs m (l + 1) v ≠ 0) : Em cs m l (v % 2 ^ l) := by
  obtain ⟨s, a, b, _, _⟩ := Ym_some h
  exact ⟨s, _, a, b, Nat.lt_succ_self _, rfl⟩

/-- No two symbols have one code. -/
def uniq (cs : List (Nat × Nat)) : Prop := ∀ s t l v : Nat, 0 < l → cs[s]? = some (l, v) → cs[t]? = some (l, v) → s = t

theorem Ym_at {cs : List (Nat × Nat)} (U : uniq cs) {s l v : Nat} (h : cs[s]? = some (l, v)) (hl : 0 < l) {m : Nat} (hm : s < m) : Ym cs m l v = s + 1 := by
  by_cases h0 : Ym cs m l v = 0
  · exfalso
    induction m with
    | zero => omega
    | succ m ih =>
      rw [Ym] at h0
      by_cases h1 : cs[m]? = some (l, v) ∧ 0 < l
      · rw [if_pos h1] at h0; omega
      · rw [if_neg h1] at h0
        by_cases h2 : s = m
        · subst h2; exact h1 ⟨h, hl⟩
        · exact ih (by omega) h0
  · obtain ⟨t, _, b, _, d⟩ := Ym_some h0
    rw [d, U s t l v hl h b]

/-- The next symbol of the bits b. -/
def nxt (cs : List (Nat × Nat)) (b : Nat) : Nat → Nat → Int × Int × Int
  | 0, _ => (2, 0, 0)
  | f + 1, l => if Ym cs cs.length l (b % 2 ^ l) ≠ 0 then (1, (Ym cs cs.length l (b % 2 ^ l) : Int) - 1, (l : Int)) else if Ec cs l (b % 2 ^ l) then nxt cs b f (l + 1) else (0, 0, 0)

/-! ### No two symbols have one code -/

def kfin (l : Nat) (xs : List Int) : Int := (xs.map fun x => if 0 < x ∧ x ≤ (l : Int) then kterm x else 0).sum

theorem kterm_nn (x : Int) : 0 ≤ kterm x := by
  unfold kterm
  split
  · exact Int.natCast_nonneg _
  · omega

theorem kfin_le (l : Nat) : ∀ xs : List Int, kfin l xs ≤ kr xs
  | [] => by simp [kfin, kr]
  | x :: r => by
    have := kfin_le l r
    have h0 := kterm_nn x
    unfold kfin kr at *
    simp only [List.map_cons, List.sum_cons]
    split <;> omega

theorem kfin_zero : ∀ xs : List Int, kfin 0 xs = 0
  | [] => rfl
  | x :: r => by
    have := kfin_zero r
    unfold kfin at *
    simp only [List.map_cons, List.sum_cons, this]
    rw [if_neg (by omega)]; rfl

theorem kfin_succ (l : Nat) (hl : l + 1 ≤ 15) : ∀ xs : List Int, kfin (l + 1) xs = kfin l xs + ((xs.count ((l + 1 : Nat) : Int) : Nat) : Int) * 2 ^ (15 - (l + 1))
  | [] => by simp [kfin]
  | x :: r => by
    have ih := kfin_succ l hl r
    unfold kfin at *
    simp only [List.map_cons, List.sum_cons, List.count_cons]
    by_cases h : x = ((l + 1 : Nat) : Int)
    · have e1 : (x == ((l + 1 : Nat) : Int)) = true := by simp [h]
      rw [e1, if_pos rfl, if_pos (show 0 < x ∧ x ≤ ((l + 1 : Nat) : Int) by omega), if_neg (show ¬ (0 < x ∧ x ≤ (l : Int)) by omega), ih]
      have e2 : kterm x = 2 ^ (15 - (l + 1)) := by
        unfold kterm
        rw [if_pos (by omega), pow_cast]
        congr 3; omega
      rw [e2]; push_cast; rw [Int.add_mul]; omega
    · have e1 : (x == ((l + 1 : Nat) : Int)) = false := beq_eq_false_iff_ne.2 h
      rw [e1]
      have e3 : (0 < x ∧ x ≤ ((l + 1 : Nat) : Int)) ↔ (0 < x ∧ x ≤ (l : Int)) := by omega
      simp only [e3, Bool.false_eq_true, if_false, Nat.add_zero]
      rw [ih]; omega

/-- The first code of a length, in units of the longest: all codes before. -/
theorem cst_kfin {xs : List Int} : ∀ l : Nat, l + 1 ≤ 15 → cst xs (l + 1) * 2 ^ (15 - (l + 1)) = kfin l xs
  | 0, _ => by simp [cst, kfin_zero]
  | l + 1, h => by
    have ih := cst_kfin (xs := xs) l (by omega)
    rw [cst, kfin_succ l (by omega), ← ih, if_neg (by omega)]
    have e : (2 : Int) ^ (15 - (l + 1)) = 2 * 2 ^ (15 - (l + 1 + 1)) := by
      rw [show 15 - (l + 1) = (15 - (l + 1 + 1)) + 1 by omega, Int.pow_succ]; omega
    rw [e]
    generalize (2 : Int) ^ (15 - (l + 1 + 1)) = p
    generalize cst xs (l + 1) = c
    generalize ((xs.count ((l + 1 : Nat) : Int) : Nat) : Int) = k
    rw [Int.mul_comm 2 (c + k), Int.mul_assoc, Int.add_mul]

theorem cst_room {xs : List Int} (hk : kr xs ≤ 32768) {l : Nat} (h1 : 1 ≤ l) (h2 : l ≤ 15) : cst xs l + ((xs.count (l : Int) : Nat) : Int) ≤ 2 ^ l := by
  obtain ⟨m, rfl⟩ : ∃ m, l = m + 1 := ⟨l - 1, by omega⟩
  have a := cst_kfin (xs := xs) m h2
  have b := kfin_succ m h2 xs
  have c := kfin_le (m + 1) xs
  have hp : (0 : Int) < 2 ^ (15 - (m + 1)) := Int.pow_pos (by decide)
  have e : (32768 : Int) = 2 ^ (m + 1) * 2 ^ (15 - (m + 1)) := by
    rw [← Int.pow_add, show m + 1 + (15 - (m + 1)) = 15 by omega]; rfl
  refine Int.le_of_mul_le_mul_right (a := 2 ^ (15 - (m + 1))) ?_ hp
  rw [Int.add_mul, a, ← b, ← e]
  omega

theorem tl_inj : ∀ {n : Nat} {x y : Int}, 0 ≤ x → 0 ≤ y → tl x n = tl y n → x % 2 ^ n = y % 2 ^ n
  | 0, x, y, _, _, _ => by simp
  | n + 1, x, y, hx, hy, h => by
    rw [tl, tl] at h
    have hp : (0 : Int) < 2 ^ n := Int.pow_pos (by decide)
    have h2 : x / 2 ^ n % 2 = y / 2 ^ n % 2 := by omega
    have h1 : tl x n = tl y n := by omega
    have ih := tl_inj hx hy h1
    have key : ∀ z : Int, z % 2 ^ (n + 1) = z % 2 ^ n + 2 ^ n * (z / 2 ^ n % 2) := fun z => by
      have hd : z / (2 ^ n * 2) = z / 2 ^ n / 2 := (Int.ediv_ediv_of_nonneg (Int.le_of_lt hp)).symm
      rw [Int.pow_succ, Int.emod_def z (2 ^ n * 2), hd, Int.emod_def z (2 ^ n), Int.emod_def (z / 2 ^ n) 2, Int.mul_sub, Int.mul_assoc]
      omega
    rw [key x, key y, ih, h2]

theorem count_take_lt {xs : List Int} {j : Nat} (hj : j < xs.length) {a : Int} (h : xs[j] = a) : (xs.take j).count a < xs.count a := by
  have e : xs = xs.take j ++ xs[j] :: xs.drop (j + 1) := by rw [← List.drop_eq_getElem_cons hj, List.take_append_drop]
  conv => rhs; rw [e]
  rw [List.count_append, List.count_cons, h]
  simp

theorem count_take_mono {xs : List Int} {i j : Nat} (hij : i < j) (hi : i < xs.length) {a : Int} (h : xs[i] = a) : (xs.take i).count a < (xs.take j).count a := by
  have hlt : i < (xs.take j).length := by rw [List.length_take]; omega
  have e2 : (xs.take j).take i = xs.take i := by rw [List.take_take]; congr 1; omega
  have := count_take_lt (xs := xs.take j) hlt (a := a) (by rw [List.getElem_take]; exact h)
  rwa [e2] at this

theorem kr_ok {xs : List Int} (h : ¬ (hkind xs = 0 ∨ hkind xs = 2)) : kr xs ≤ 32768 := by
  obtain ⟨h1, h2⟩ := hkind_ok h
  unfold hkind at h
  by_cases h3 : cn xs = 0
  · have := kr_zero h3; omega
  · by_cases h4 : kr xs > 32768
    · have : ¬ xs.length > 320 := by omega
      simp [this, h2, h3, h4] at h
    · omega

theorem codes_uniq {xs : List Int} (h : ¬ (hkind xs = 0 ∨ hkind xs = 2)) : uniq (codesN xs) := by
  obtain ⟨hlen, hok⟩ := hkind_ok h
  have hk := kr_ok h
  intro s t l v hl hs ht
  have key : ∀ {j}, (codesN xs)[j]? = some (l, v) → ∃ hj : j < xs.length, xs[j] = (l : Int) ∧ (v : Int) = tl (cst xs l + (((xs.take j).count (l : Int) : Nat) : Int)) l := fun {j} hj => by
    have hj1 : j < xs.length := by have := (List.getElem?_eq_some_iff.1 hj).1; rwa [codesN_len] at this
    have hg := codesOf_get (xs := xs) hj1
    have hb := hok _ (List.getElem_mem hj1)
    obtain ⟨k, hk⟩ := Int.eq_ofNat_of_zero_le hb.1
    obtain ⟨l', b', e, hn, _, _⟩ := codesOf_cast hok hg
    rw [hj] at hn
    simp only [Option.some.injEq, Prod.mk.injEq] at hn
    obtain ⟨rfl, rfl⟩ := hn
    by_cases h1 : 1 ≤ xs[j]
    · rw [if_pos h1, codeAt_eq hj1 hk] at e
      simp only [Prod.mk.injEq] at e
      have e1 : k = l := by exact_mod_cast e.1
      subst e1
      exact ⟨hj1, hk, e.2.symm⟩
    · rw [if_neg h1] at e
      simp only [Prod.mk.injEq] at e
      have : l = 0 := by exact_mod_cast e.1.symm
      omega
  obtain ⟨hs1, hs2, hs3⟩ := key hs
  obtain ⟨ht1, ht2, ht3⟩ := key ht
  have hl15 : l ≤ 15 := by have := hok _ (List.getElem_mem hs1); omega
  have room := cst_room hk hl hl15
  have c0 := cst_small (xs := xs) hlen (l := l) (by omega)
  have cs := count_take_lt hs1 hs2
  have ct := count_take_lt ht1 ht2
  have inj := tl_inj (n := l) (x := cst xs l + (((xs.take s).count (l : Int) : Nat) : Int)) (y := cst xs l + (((xs.take t).count (l : Int) : Nat) : Int)) (by omega) (by omega) (by rw [← hs3, ← ht3])
  rw [Int.emod_eq_of_lt (by omega) (by omega), Int.emod_eq_of_lt (by omega) (by omega)] at inj
  have hcc : (xs.take s).count (l : Int) = (xs.take t).count (l : Int) := by omega
  rcases Nat.lt_trichotomy s t with h | h | h
  · have := count_take_mono h hs1 hs2; omega
  · exact h
  · have := count_take_mono h ht1 ht2; omega
end Go.Proofs.YteaonnfokkfnlaaDoor
