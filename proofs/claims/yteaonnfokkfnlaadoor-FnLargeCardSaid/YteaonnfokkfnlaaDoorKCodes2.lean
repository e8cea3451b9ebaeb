import Derived.Test.YteaonnfokkfnlaaDoorKCodes
set_option linter.unusedVariables false
set_option linter.unusedSimpArgs false
namespace Go.Proofs.YteaonnfokkfnlaaDoor
open Go Go.Eng Go.IntWalk
variable {S : Shared} {h : Eng.Heap}

/-- The first code of each length. -/
def cst (xs : List Int) : Nat → Int
  | 0 => 0
  | l + 1 => 2 * (cst xs l + (if l = 0 then 0 else ((xs.count (l : Int) : Nat) : Int)))
def codeAt (xs : List Int) (j : Nat) : Int × Int := (xs.getD j 0, tl (cst xs (xs.getD j 0).toNat + (((xs.take j).count (xs.getD j 0) : Nat) : Int)) (xs.getD j 0).toNat)
def codesOf (xs : List Int) : List (Int × Int) := (List.range xs.length).map fun j => if 1 ≤ xs.getD j 0 then codeAt xs j else (0, 0)
def ans_HuffCodes (xs : List Int) : List (Int × Int) := if hkind xs = 0 ∨ hkind xs = 2 then [] else codesOf xs

theorem sm_HuffCodes {xs : List Int} (L : limI xs) : smCodes (ans_HuffCodes xs) := by
  have L : xs.length ≤ 1048576 := L
  unfold ans_HuffCodes smCodes
  split
  · simp
  · simp [codesOf]; omega

theorem hkind_ok {xs : List Int} (h : ¬ (hkind xs = 0 ∨ hkind xs = 2)) : xs.length ≤ 320 ∧ hok xs := by
  unfold hkind at h
  by_cases h1 : xs.length > 320
  · simp [h1] at h
  · by_cases h2 : hok xs
    · exact ⟨by omega, h2⟩
    · simp [h1, h2] at h

theorem cst_le {xs : List Int} (hl : xs.length ≤ 320) (l : Nat) : 0 ≤ cst xs l ∧ cst xs l ≤ 640 * (2 ^ l - 1) := by
  induction l with
  | zero => simp [cst]
  | succ l ih =>
    rw [cst, show (2 : Int) ^ (l + 1) = 2 * 2 ^ l by rw [Int.pow_succ]; omega]
    have hc : (if l = 0 then (0 : Int) else ((xs.count (l : Int) : Nat) : Int)) ≤ 320 ∧ 0 ≤ (if l = 0 then (0 : Int) else ((xs.count (l : Int) : Nat) : Int)) := by
      have := List.count_le_length (a := (l : Int)) (l := xs)
      split <;> omega
    omega

theorem cst_small {xs : List Int} (hl : xs.length ≤ 320) {l : Nat} (h : l ≤ 16) : 0 ≤ cst xs l ∧ cst xs l ≤ 41943040 := by
  have h1 := cst_le hl l
  have h2 : (2 : Int) ^ l ≤ 2 ^ 16 := pow2_le h
  have e : (2 : Int) ^ 16 = 65536 := by decide
  omega

theorem count_take_le {xs : List Int} {a : Int} {i : Nat} (hl : xs.length ≤ 320) : (xs.take i).count a ≤ 320 := by
  have := List.count_le_length (a := a) (l := xs.take i)
  rw [List.length_take] at this
  omega

theorem count_snoc {xs : List Int} {i : Nat} (hi : i < xs.length) (a : Int) : (xs.take (i + 1)).count a = (xs.take i).count a + (if xs[i] = a then 1 else 0) := by
  rw [List.take_add_one, List.getElem?_eq_getElem hi, List.count_append]
  simp only [Option.toList_some, List.count_cons, List.count_nil, beq_iff_eq, Nat.zero_add]

/-- Counts of the first i lengths, as the code holds them. -/
def cntL (xs : List Int) (i : Nat) : List Int := (List.range 17).map fun (l : Nat) => if l = 0 then 0 else (((xs.take i).count (l : Int) : Nat) : Int)
theorem cntL_len {xs : List Int} {i : Nat} : (cntL xs i).length = 17 := by simp [cntL]
theorem cntL_get {xs : List Int} {i l : Nat} (h : l < 17) : (cntL xs i)[l]? = some (if l = 0 then 0 else (((xs.take i).count (l : Int) : Nat) : Int)) := by simp [cntL, h]
theorem cntL_zero {xs : List Int} : cntL xs 0 = List.replicate 17 0 := by
  apply List.ext_getElem?
  intro l
  by_cases h : l < 17
  · rw [cntL_get h, List.getElem?_replicate, if_pos h]; simp
  · rw [List.getElem?_eq_none (by rw [cntL_len]; omega), List.getElem?_eq_none (by simp; omega)]
theorem cntL_skip {xs : List Int} {i : Nat} (hi : i < xs.length) (h0 : xs[i] ≤ 0) : cntL xs (i + 1) = cntL xs i := by
  unfold cntL
  apply List.map_congr_left
  intro l hl
  by_cases h : l = 0
  · simp [h]
  · rw [if_neg h, if_neg h, count_snoc hi, if_neg (show ¬ xs[i] = (l : Int) by omega)]; simp
theorem cntL_step {xs : List Int} {i : Nat} (hi : i < xs.length) {x : Nat} (hx : xs[i] = (x : Int)) (h0 : 1 ≤ x) (h1 : x < 17) : cntL xs (i + 1) = (cntL xs i).set x ((((xs.take i).count (x : Int) : Nat) : Int) + 1) := by
  apply List.ext_getElem?
  intro l
  rw [List.getElem?_set, cntL_len]
  by_cases h : l < 17
  · rw [cntL_get h]
    by_cases he : x = l
    · subst he
      rw [if_pos rfl, if_pos h1, if_neg (by omega), count_snoc hi, if_pos hx]; push_cast; rfl
    · rw [if_neg he, cntL_get h]
      by_cases hz : l = 0
      · simp [hz]
      · rw [if_neg hz, if_neg hz, count_snoc hi, if_neg (by omega)]; simp
  · rw [List.getElem?_eq_none (by rw [cntL_len]; omega), if_neg (by omega), List.getElem?_eq_none (by rw [cntL_len]; omega)]

/-- The next codes as they are made: up to length l. -/
def nxL (xs : List Int) (l : Nat) : List Int := (List.range 17).map fun j => if j < l then cst xs j else 0
theorem nxL_len {xs : List Int} {i : Nat} : (nxL xs i).length = 17 := by simp [nxL]
theorem nxL_get {xs : List Int} {i l : Nat} (h : l < 17) : (nxL xs i)[l]? = some (if l < i then cst xs l else 0) := by simp [nxL, h]
theorem nxL_one {xs : List Int} : nxL xs 1 = List.replicate 17 0 := by
  apply List.ext_getElem?
  intro l
  by_cases h : l < 17
  · rw [nxL_get h, List.getElem?_replicate, if_pos h]
    by_cases h2 : l < 1
    · have : l = 0 := by omega
      subst this; simp [cst]
    · rw [if_neg h2]
  · rw [List.getElem?_eq_none (by rw [nxL_len]; omega), List.getElem?_eq_none (by simp; omega)]
theorem nxL_step {xs : List Int} {l : Nat} (h1 : l < 17) : nxL xs (l + 1) = (nxL xs l).set l (cst xs l) := by
  apply List.ext_getElem?
  intro j
  rw [List.getElem?_set, nxL_len]
  by_cases h : j < 17
  · rw [nxL_get h]
    by_cases he : l = j
    · subst he; rw [if_pos rfl, if_pos h1, if_pos (by omega)]
    · rw [if_neg he, nxL_get h]
      by_cases hz : j < l
      · rw [if_pos hz, if_pos (by omega)]
      · rw [if_neg hz, if_neg (by omega)]
  · rw [List.getElem?_eq_none (by rw [nxL_len]; omega), if_neg (by omega), List.getElem?_eq_none (by rw [nxL_len]; omega)]

/-- The next codes behind the first s symbols. -/
def nxS (xs : List Int) (s : Nat) : List Int := (List.range 17).map fun j => if j < 16 then cst xs j + (if j = 0 then 0 else (((xs.take s).count (j : Int) : Nat) : Int)) else 0
theorem nxS_len {xs : List Int} {i : Nat} : (nxS xs i).length = 17 := by simp [nxS]
theorem nxS_get {xs : List Int} {i l : Nat} (h : l < 16) (h0 : 1 ≤ l) : (nxS xs i)[l]? = some (cst xs l + (((xs.take i).count (l : Int) : Nat) : Int)) := by
  have : l ≠ 0 := by omega
  simp [nxS, h, this, show l < 17 by omega]
theorem nxS_zero {xs : List Int} : nxL xs 16 = nxS xs 0 := by
  unfold nxL nxS
  apply List.map_congr_left
  intro j hj
  simp
theorem nxS_skip {xs : List Int} {i : Nat} (hi : i < xs.length) (h0 : xs[i] ≤ 0) : nxS xs (i + 1) = nxS xs i := by
  unfold nxS
  apply List.map_congr_left
  intro l hl
  by_cases h : l = 0
  · simp [h]
  · rw [count_snoc hi, if_neg (show ¬ xs[i] = (l : Int) by omega)]; simp
theorem nxS_step {xs : List Int} {i : Nat} (hi : i < xs.length) {x : Nat} (hx : xs[i] = (x : Int)) (h0 : 1 ≤ x) (h1 : x < 16) : nxS xs (i + 1) = (nxS xs i).set x (cst xs x + (((xs.take i).count (x : Int) : Nat) : Int) + 1) := by
  apply List.ext_getElem?
  intro l
  rw [List.getElem?_set, nxS_len]
  by_cases h : l < 17
  · by_cases he : x = l
    · subst he
      rw [if_pos rfl, if_pos (by omega), nxS_get h1 h0, count_snoc hi, if_pos hx]; push_cast; rw [Int.add_assoc]
    · rw [if_neg he]
      simp only [nxS, List.getElem?_map, List.getElem?_range h, Option.map_some]
      by_cases hz : l = 0
      · simp [hz]
      · have hc : (xs.take (i + 1)).count (l : Int) = (xs.take i).count (l : Int) := by rw [count_snoc hi, if_neg (show ¬ xs[i] = (l : Int) by omega)]; rfl
        simp only [hc]
  · rw [List.getElem?_eq_none (by rw [nxS_len]; omega), if_neg (by omega), List.getElem?_eq_none (by rw [nxS_len]; omega)]

/-- The codes of the first s symbols. -/
def outI (xs : List Int) (s : Nat) : List (Int × Int) := (List.range xs.length).map fun j => if j < s ∧ 1 ≤ xs.getD j 0 then codeAt xs j else (0, 0)
theorem outI_len {xs : List Int} {s : Nat} : (outI xs s).length = xs.length := by simp [outI]
theorem outI_zero {xs : List Int} : outI xs 0 = List.replicate xs.length (0, 0) := by
  apply List.ext_getElem?
  intro l
  by_cases h : l < xs.length
  · simp [outI, h, List.getElem?_replicate]
  · rw [List.getElem?_eq_none (by rw [outI_len]; omega), List.getElem?_eq_none (by simp; omega)]
theorem outI_full {xs : List Int} : outI xs xs.length = codesOf xs := by
  unfold outI codesOf
  apply List.map_congr_left
  intro j hj
  have : j < xs.length := by simpa using hj
  simp [this]
theorem getD_get {xs : List Int} {i : Nat} (hi : i < xs.length) : xs.getD i 0 = xs[i] := by simp [List.getD, List.getElem?_eq_getElem hi]
theorem outI_skip {xs : List Int} {i : Nat} (hi : i < xs.length) (h0 : xs[i] ≤ 0) : outI xs (i + 1) = outI xs i := by
  unfold outI
  apply List.map_congr_left
  intro j hj
  by_cases h : j = i
  · subst h
    rw [getD_get hi, if_neg (by omega), if_neg (by omega)]
  · have : (j < i + 1 ∧ 1 ≤ xs.getD j 0) ↔ (j < i ∧ 1 ≤ xs.getD j 0) := by omega
    simp only [this]
theorem outI_step {xs : List Int} {i : Nat} (hi : i < xs.length) (h0 : 1 ≤ xs[i]) : outI xs (i + 1) = (outI xs i).set i (codeAt xs i) := by
  apply List.ext_getElem?
  intro j
  rw [List.getElem?_set, outI_len]
  by_cases h : j < xs.length
  · by_cases he : i = j
    · subst he
      rw [if_pos rfl, if_pos hi]
      simp only [outI, List.getElem?_map, List.getElem?_range h, Option.map_some, getD_get h]
      rw [if_pos ⟨by omega, h0⟩]
    · rw [if_neg he]
      simp only [outI, List.getElem?_map, List.getElem?_range h, Option.map_some]
      have : (j < i + 1 ∧ 1 ≤ xs.getD j 0) ↔ (j < i ∧ 1 ≤ xs.getD j 0) := by omega
      simp only [this]
  · rw [List.getElem?_eq_none (by rw [outI_len]; omega), if_neg (by omega), List.getElem?_eq_none (by rw [outI_len]; omega)]

/-- The codes as the reference makes them: all lengths below L, of length L the first i symbols. -/
def outL (xs : List Int) (L i : Nat) : List (Int × Int) := (List.range xs.length).map fun j => if (1 ≤ xs.getD j 0 ∧ xs.getD j 0 < L) ∨ (xs.getD j 0 = L ∧ j < i) then codeAt xs j else (0, 0)
theorem outL_len {xs : List Int} {L i : Nat} : (outL xs L i).length = xs.length := by simp [outL]
theorem outL_zero {xs : List Int} : outL xs 1 0 = List.replicate xs.length (0, 0) := by
  apply List.ext_getElem?
  intro l
  by_cases h : l < xs.length
  · simp only [outL, List.getElem?_map, List.getElem?_range h, Option.map_some, List.getElem?_replicate, if_pos h]
    rw [if_neg (by omega)]
  · rw [List.getElem?_eq_none (by rw [outL_len]; omega), List.getElem?_eq_none (by simp; omega)]
theorem outL_next {xs : List Int} {L : Nat} (h : 1 ≤ L) : outL xs L xs.length = outL xs (L + 1) 0 := by
  unfold outL
  apply List.map_congr_left
  intro j hj
  have : j < xs.length := by simpa using hj
  have : ((1 ≤ xs.getD j 0 ∧ xs.getD j 0 < L) ∨ (xs.getD j 0 = L ∧ j < xs.length)) ↔ ((1 ≤ xs.getD j 0 ∧ xs.getD j 0 < ((L + 1 : Nat) : Int)) ∨ (xs.getD j 0 = ((L + 1 : Nat) : Int) ∧ j < 0)) := by omega
  simp only [this]
theorem outL_full {xs : List Int} (hk : hok xs) : outL xs 16 0 = codesOf xs := by
  unfold outL codesOf
  apply List.map_congr_left
  intro j hj
  have hj : j < xs.length := by simpa using hj
  have hb := hk _ (List.getElem_mem hj)
  rw [getD_get hj]
  have : ((1 ≤ xs[j] ∧ xs[j] < ((16 : Nat) : Int)) ∨ (xs[j] = ((16 : Nat) : Int) ∧ j < 0)) ↔ 1 ≤ xs[j] := by omega
  simp only [this]
theorem outL_skip {xs : List Int} {L i : Nat} (hi : i < xs.length) (h0 : xs[i] ≠ (L : Int)) : outL xs L (i + 1) = outL xs L i := by
  unfold outL
  apply List.map_congr_left
  intro j hj
  by_cases h : j = i
  · subst h
    rw [getD_get hi]
    have : ((1 ≤ xs[j] ∧ xs[j] < (L : Int)) ∨ (xs[j] = (L : Int) ∧ j < j + 1)) ↔ ((1 ≤ xs[j] ∧ xs[j] < (L : Int)) ∨ (xs[j] = (L : Int) ∧ j < j)) := by omega
    simp only [this]
  · have : ((1 ≤ xs.getD j 0 ∧ xs.getD j 0 < (L : Int)) ∨ (xs.getD j 0 = (L : Int) ∧ j < i + 1)) ↔ ((1 ≤ xs.getD j 0 ∧ xs.getD j 0 < (L : Int)) ∨ (xs.getD j 0 = (L : Int) ∧ j < i)) := by omega
    simp only [this]
theorem outL_step {xs : List Int} {L i : Nat} (hi : i < xs.length) (h0 : xs[i] = (L : Int)) : outL xs L (i + 1) = (outL xs L i).set i (codeAt xs i) := by
  apply List.ext_getElem?
  intro j
  rw [List.getElem?_set, outL_len]
  by_cases h : j < xs.length
  · by_cases he : i = j
    · subst he
      rw [if_pos rfl, if_pos hi]
      simp only [outL, List.getElem?_map, List.getElem?_range h, Option.map_some, getD_get h]
      rw [if_pos (.inr ⟨h0, by omega⟩)]
    · rw [if_neg he]
      simp only [outL, List.getElem?_map, List.getElem?_range h, Option.map_some]
      have : ((1 ≤ xs.getD j 0 ∧ xs.getD j 0 < (L : Int)) ∨ (xs.getD j 0 = (L : Int) ∧ j < i + 1)) ↔ ((1 ≤ xs.getD j 0 ∧ xs.getD j 0 < (L : Int)) ∨ (xs.getD j 0 = (L : Int) ∧ j < i)) := by omega
      simp only [this]
  · rw [List.getElem?_eq_none (by rw [outL_len]; omega), if_neg (by omega), List.getElem?_eq_none (by rw [outL_len]; omega)]

/-- A pair stored into a slice of one's own. -/
theorem own_set {a : Option Addr} {l c : Nat} {ps : List (Int × Int)} (H : OwnP h (.slice a l c) ps) (hs : ∀ b, blkOf (.slice a l c) = some b → ¬ S b) {i : Nat} (hi : i < ps.length) (x y : Int) :
    okCell S h (((a.getD default).add (i * 2)).add 0) ∧ okCell S (hset h (((a.getD default).add (i * 2)).add 0) (.int .i64 x)) (((a.getD default).add (i * 2)).add (0 + 1)) ∧
    OwnP (hset (hset h (((a.getD default).add (i * 2)).add 0) (.int .i64 x)) (((a.getD default).add (i * 2)).add (0 + 1)) (.int .u64 y)) (.slice a l c) (ps.set i (x, y)) ∧
    ∀ z, blkOf (.slice a l c) ≠ some z → hset (hset h (((a.getD default).add (i * 2)).add 0) (.int .i64 x)) (((a.getD default).add (i * 2)).add (0 + 1)) (.int .u64 y) z = h z := by
  obtain ⟨b, sp, T, e, hb⟩ := H
  cases e
  have hsb := hs b rfl
  have e1 : (((some (⟨b, 0, none⟩ : Addr)).getD default).add (i * 2)).add 0 = (⟨b, i * 2, none⟩ : Addr) := by
    rw [add_add, Option.getD_some, addr_add]; simp
  have e2 : (((some (⟨b, 0, none⟩ : Addr)).getD default).add (i * 2)).add (0 + 1) = (⟨b, i * 2 + 1, none⟩ : Addr) := by
    rw [add_add, Option.getD_some, addr_add]; simp
  have hlen : i < (ps ++ sp).length := by simp; omega
  have hsz : (Eng.pairs (ps ++ sp)).size = (ps ++ sp).length * 2 := pairs_size _
  have ok : ∀ {c : Array Value} {h1 : Eng.Heap} {i : Nat}, h1 b = some (.cells c T) → i < c.size → okCell S h1 ⟨b, i, none⟩ := fun {c h1 i} hc hi2 =>
    ⟨⟨c[i], by simp [hcell, hc, hi2]⟩, by simp [hfrozen, hc], hsb⟩
  rw [e1, e2, hset_cells hb]
  refine ⟨ok hb (by omega), ok upd_same (by rw [Array.size_setIfInBounds]; omega), ?_⟩
  rw [hset_cells upd_same, upd_upd, pairs_set _ _ hlen, List.set_append_left _ _ hi]
  exact ⟨⟨b, sp, T, by simp, upd_same⟩, fun z hz => upd_ne fun e => hz (by rw [e]; rfl)⟩
end Go.Proofs.YteaonnfokkfnlaaDoor
