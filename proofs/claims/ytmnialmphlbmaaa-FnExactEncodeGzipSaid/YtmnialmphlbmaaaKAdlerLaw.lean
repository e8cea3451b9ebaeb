import Derived.Test.YtmnialmphlbmaaaKAdler
set_option linter.unusedVariables false
set_option linter.unusedSimpArgs false
namespace Go.Proofs.Ytmnialmphlbmaaa
open Go Go.Eng Go.IntWalk

def sumI : List Int → Int
  | [] => 0
  | y :: ys => y + sumI ys
def sumW : List Int → Int
  | [] => 0
  | y :: ys => ((ys.length : Int) + 1) * y + sumW ys
def okB (xs : List Int) : Prop := ∀ x ∈ xs, 0 ≤ x ∧ x < 256
def okS (p : Int × Int) : Prop := 0 ≤ p.1 ∧ p.1 < 65521 ∧ 0 ≤ p.2 ∧ p.2 < 65521

theorem adStep_ok {p : Int × Int} (hp : okS p) {x : Int} (hx : 0 ≤ x ∧ x < 256) : adStep p x = ((p.1 + x) % 65521, (p.2 + (p.1 + x) % 65521) % 65521) ∧ okS (adStep p x) := by
  obtain ⟨h1, h2, h3, h4⟩ := hp
  have w1 : w32 x = x := by unfold w32; rw [IntKind.wrap_u32]; omega
  have w2 : w32 (p.1 + x) = p.1 + x := by unfold w32; rw [IntKind.wrap_u32]; omega
  have e1 : (p.1 + x).tmod 65521 = (p.1 + x) % 65521 := Int.tmod_eq_emod_of_nonneg (by omega)
  have w3 : w32 (p.2 + (p.1 + x) % 65521) = p.2 + (p.1 + x) % 65521 := by unfold w32; rw [IntKind.wrap_u32]; omega
  have e2 : (p.2 + (p.1 + x) % 65521).tmod 65521 = (p.2 + (p.1 + x) % 65521) % 65521 := Int.tmod_eq_emod_of_nonneg (by omega)
  have e : adStep p x = ((p.1 + x) % 65521, (p.2 + (p.1 + x) % 65521) % 65521) := by
    unfold adStep
    rw [w1, w2, e1, w3, e2]
  refine ⟨e, ?_⟩
  rw [e]
  exact ⟨by show 0 ≤ _ % _; omega, by show _ % _ < _; omega, by show 0 ≤ _ % _; omega, by show _ % _ < _; omega⟩

theorem emod_of {a b k : Int} (h : a = b + 65521 * k) : a % 65521 = b % 65521 := by rw [h]; omega

theorem adFold : ∀ (xs : List Int) (p : Int × Int), okS p → okB xs → xs.foldl adStep p = ((p.1 + sumI xs) % 65521, (p.2 + xs.length * p.1 + sumW xs) % 65521) := by
  intro xs
  induction xs with
  | nil =>
    rintro ⟨a, b⟩ ⟨h1, h2, h3, h4⟩ _
    simp only [List.foldl_nil, sumI, sumW, List.length_nil] at *
    simp only [Prod.mk.injEq]
    refine ⟨?_, ?_⟩ <;> omega
  | cons x xs ih =>
    intro p hp hb
    obtain ⟨e, ok⟩ := adStep_ok hp (hb x (by simp))
    rw [List.foldl_cons, ih _ ok (fun y hy => hb y (by simp [hy])), e]
    simp only [sumI, sumW, List.length_cons, Prod.mk.injEq]
    have d1 : (p.1 + x) % 65521 = p.1 + x - 65521 * ((p.1 + x) / 65521) := by omega
    have d2 : (p.2 + (p.1 + x) % 65521) % 65521 = p.2 + (p.1 + x) % 65521 - 65521 * ((p.2 + (p.1 + x) % 65521) / 65521) := by omega
    refine ⟨emod_of (k := -((p.1 + x) / 65521)) (by omega), ?_⟩
    refine emod_of (k := -((p.2 + (p.1 + x) % 65521) / 65521) - ((xs.length : Int) + 1) * ((p.1 + x) / 65521)) ?_
    rw [d2, d1]
    generalize (p.1 + x) / 65521 = u
    generalize (p.2 + (p.1 + x - 65521 * u)) / 65521 = v
    push_cast
    simp only [Int.mul_add, Int.add_mul, Int.mul_sub, Int.sub_mul, Int.neg_mul, Int.mul_neg, Int.one_mul, Int.mul_one]
    have m1 : (xs.length : Int) * (65521 * u) = 65521 * ((xs.length : Int) * u) := by rw [← Int.mul_assoc, Int.mul_comm (xs.length : Int) 65521, Int.mul_assoc]
    omega

theorem okB_app {xs ys : List Int} (h : okB xs) (h' : okB ys) : okB (xs ++ ys) := fun x hx => (List.mem_append.1 hx).elim (h x) (h' x)
theorem sumI_app (xs ys : List Int) : sumI (xs ++ ys) = sumI xs + sumI ys := by
  induction xs with
  | nil => simp [sumI]
  | cons x xs ih => simp only [List.cons_append, sumI, ih]; omega

theorem adOut_eq {p : Int × Int} (hp : okS p) : adOut p = p.2 * 65536 + p.1 := by
  obtain ⟨h1, h2, h3, h4⟩ := hp
  unfold adOut w32
  rw [show IntKind.u32.wrap (p.2 * 65536) = p.2 * 65536 by rw [IntKind.wrap_u32]; omega, IntKind.wrap_u32]; omega

def adJoin (p q n : Int) : Int :=
  IntKind.u32.wrap (IntKind.i64.wrap (IntKind.i64.wrap ((IntKind.i64.wrap ((IntKind.i64.wrap (IntKind.i64.wrap (IntKind.i64.wrap ((IntKind.u32.wrap (p.tdiv 65536)).tmod 65521) + IntKind.i64.wrap ((IntKind.u32.wrap (q.tdiv 65536)).tmod 65521)) +
    IntKind.i64.wrap (n * IntKind.i64.wrap (IntKind.i64.wrap ((p.tmod 65536).tmod 65521) - 1)))).tmod 65521 + 65521)).tmod 65521 * 65536) +
    (IntKind.i64.wrap (IntKind.i64.wrap (IntKind.i64.wrap (IntKind.i64.wrap ((p.tmod 65536).tmod 65521) + IntKind.i64.wrap ((q.tmod 65536).tmod 65521)) - 1) + 65521)).tmod 65521))

theorem adJoin_eq {p q : Int × Int} (hp : okS p) (hq : okS q) {n : Int} (h0 : 0 ≤ n) (hn : n ≤ 1000000) :
    adJoin (adOut p) (adOut q) n = ((p.2 + q.2 + n * (p.1 - 1)) % 65521) * 65536 + (p.1 + q.1 - 1) % 65521 := by
  rw [adOut_eq hp, adOut_eq hq]
  obtain ⟨h1, h2, h3, h4⟩ := hp
  obtain ⟨k1, k2, k3, k4⟩ := hq
  have t1 : ∀ x : Int, 0 ≤ x → ∀ m : Int, x.tmod m = x % m := fun x hx m => Int.tmod_eq_emod_of_nonneg hx
  have a1 : (p.2 * 65536 + p.1).tmod 65536 = p.1 := by rw [t1 _ (by omega)]; omega
  have a2 : (q.2 * 65536 + q.1).tmod 65536 = q.1 := by rw [t1 _ (by omega)]; omega
  have b1 : (p.2 * 65536 + p.1).tdiv 65536 = p.2 := by rw [Int.tdiv_eq_ediv_of_nonneg (by omega)]; omega
  have b2 : (q.2 * 65536 + q.1).tdiv 65536 = q.2 := by rw [Int.tdiv_eq_ediv_of_nonneg (by omega)]; omega
  have c1 : ∀ x : Int, 0 ≤ x → x < 65521 → x.tmod 65521 = x := fun x hx hy => by rw [t1 _ hx]; omega
  have u1 : ∀ x : Int, 0 ≤ x → x < 65521 → IntKind.u32.wrap x = x := fun x hx hy => by rw [IntKind.wrap_u32]; omega
  have i1 : ∀ x : Int, -4611686018427387904 ≤ x → x < 4611686018427387904 → IntKind.i64.wrap x = x := fun x hx hy => by rw [IntKind.wrap_i64]; omega
  unfold adJoin
  rw [a1, a2, b1, b2, u1 p.2 h3 h4, u1 q.2 k3 k4, c1 p.1 h1 h2, c1 q.1 k1 k2, c1 p.2 h3 h4, c1 q.2 k3 k4, i1 p.1 (by omega) (by omega), i1 q.1 (by omega) (by omega), i1 p.2 (by omega) (by omega), i1 q.2 (by omega) (by omega),
    i1 (p.1 - 1) (by omega) (by omega), i1 (p.2 + q.2) (by omega) (by omega), i1 (p.1 + q.1) (by omega) (by omega), i1 (p.1 + q.1 - 1) (by omega) (by omega), i1 (p.1 + q.1 - 1 + 65521) (by omega) (by omega)]
  have nb1 : -1000000 ≤ n * (p.1 - 1) := by
    rcases (by omega : p.1 < 1 ∨ 1 ≤ p.1) with h | h
    · have : p.1 - 1 = -1 := by omega
      rw [this]; omega
    · have := Int.mul_nonneg h0 (show 0 ≤ p.1 - 1 by omega); omega
  have nb2 : n * (p.1 - 1) ≤ 1000000 * 65521 := by
    rcases (by omega : p.1 < 1 ∨ 1 ≤ p.1) with h | h
    · have : p.1 - 1 = -1 := by omega
      rw [this]; omega
    · exact Int.mul_le_mul hn (by omega) (by omega) (by omega)
  generalize n * (p.1 - 1) = m at nb1 nb2
  rw [i1 m (by omega) (by omega), i1 (p.2 + q.2 + m) (by omega) (by omega)]
  have tm : (p.2 + q.2 + m).tmod 65521 = p.2 + q.2 + m - 65521 * (p.2 + q.2 + m).tdiv 65521 := by have := Int.tmod_add_mul_tdiv (p.2 + q.2 + m) 65521; omega
  have tl := Int.lt_tmod_of_pos (p.2 + q.2 + m) (show (0 : Int) < 65521 by omega)
  have tu := Int.tmod_lt_of_pos (p.2 + q.2 + m) (show (0 : Int) < 65521 by omega)
  generalize (p.2 + q.2 + m).tdiv 65521 = v at tm
  generalize (p.2 + q.2 + m).tmod 65521 = z at tm tl tu
  rw [i1 (z + 65521) (by omega) (by omega), t1 (z + 65521) (by omega), t1 (p.1 + q.1 - 1 + 65521) (by omega)]
  have e1 : (z + 65521) % 65521 = (p.2 + q.2 + m) % 65521 := by omega
  have e2 : (p.1 + q.1 - 1 + 65521) % 65521 = (p.1 + q.1 - 1) % 65521 := by omega
  rw [e1, e2]
  generalize hB : (p.2 + q.2 + m) % 65521 = B
  generalize hA : (p.1 + q.1 - 1) % 65521 = A
  have : 0 ≤ B ∧ B < 65521 ∧ 0 ≤ A ∧ A < 65521 := by omega
  rw [i1 (B * 65536) (by omega) (by omega), i1 _ (by omega) (by omega), IntKind.wrap_u32]; omega

theorem fold_ok {p : Int × Int} (hp : okS p) {xs : List Int} (hb : okB xs) : okS (xs.foldl adStep p) := by
  rw [adFold xs p hp hb]
  exact ⟨by show 0 ≤ _ % _; omega, by show _ % _ < _; omega, by show 0 ≤ _ % _; omega, by show _ % _ < _; omega⟩
theorem adIn_one : adIn 1 = (1, 0) := by decide
theorem adIn_ok {c : Int} (h : 0 ≤ c ∧ c < 4294967296) : okS (adIn c) := by
  unfold adIn w32
  rw [Int.tdiv_eq_ediv_of_nonneg h.1, Int.tmod_eq_emod_of_nonneg h.1, IntKind.wrap_u32, Int.tmod_eq_emod_of_nonneg (by omega), Int.tmod_eq_emod_of_nonneg (by omega)]
  exact ⟨by show 0 ≤ _ % _; omega, by show _ % _ < _; omega, by show 0 ≤ _ % _; omega, by show _ % _ < _; omega⟩

/-- A sum joined with a part's is the sum of both. -/
theorem adJoin_law {p : Int × Int} (hp : okS p) {ys : List Int} (hb : okB ys) (hn : ys.length ≤ 1000000) : adJoin (adOut p) (adler 1 ys) ys.length = adOut (ys.foldl adStep p) := by
  have h1 : okS (1, 0) := ⟨by decide, by decide, by decide, by decide⟩
  unfold adler
  rw [adIn_one, adJoin_eq hp (fold_ok h1 hb) (by omega) (by omega), adOut_eq (fold_ok hp hb), adFold ys p hp hb, adFold ys (1, 0) h1 hb]
  simp only []
  have e1 : (p.2 + (0 + (ys.length : Int) * 1 + sumW ys) % 65521 + (ys.length : Int) * (p.1 - 1)) % 65521 = (p.2 + (ys.length : Int) * p.1 + sumW ys) % 65521 := by
    rw [Int.mul_sub, Int.mul_one]; omega
  have e2 : (p.1 + (1 + sumI ys) % 65521 - 1) % 65521 = (p.1 + sumI ys) % 65521 := by omega
  rw [e1, e2]
end Go.Proofs.Ytmnialmphlbmaaa
