import Derived.Test.YteaonnfokkfnlaaDoorKRd
import Derived.Test.YteaonnfokkfnlaaDoorKCodes3
set_option linter.unusedVariables false
set_option linter.unusedSimpArgs false
namespace Go.Proofs.YteaonnfokkfnlaaDoor
open Go Go.Eng Go.IntWalk
variable {S : Shared} {h : Eng.Heap}

/-! ### Lengths of a dynamic block: plain -/
theorem ymRoot {cs : List (Nat × Nat)} : ∀ m, Ym cs m 0 0 = 0
  | 0 => rfl
  | m + 1 => by rw [Ym, if_neg (fun h => by omega)]; exact ymRoot m

/-- What a code-length symbol adds. -/
def rp (bs : List Int) (r : Rd) (all : List Int) (x : Int) : Rd × List Int :=
  if x = 16 then ((tk bs 2 (bd (all.length == 0) r)).1, if (tk bs 2 (bd (all.length == 0) r)).1.k = 0 then all ++ List.replicate ((tk bs 2 (bd (all.length == 0) r)).2 + 3).toNat (all.getD (all.length - 1) 0) else all)
  else if x = 17 then ((tk bs 3 r).1, if (tk bs 3 r).1.k = 0 then all ++ List.replicate ((tk bs 3 r).2 + 3).toNat 0 else all)
  else if x = 18 then ((tk bs 7 r).1, if (tk bs 7 r).1.k = 0 then all ++ List.replicate ((tk bs 7 r).2 + 11).toNat 0 else all)
  else (r, if r.k = 0 then all ++ [x] else all)
theorem rp_ok {bs : List Int} {r : Rd} {all : List Int} {x : Int} (H : okR bs r) : okR bs (rp bs r all x).1 := by
  unfold rp
  split
  · exact tk_ok (bd_ok H)
  · split
    · exact tk_ok H
    · split
      · exact tk_ok H
      · exact H
theorem rp_len {bs : List Int} {r : Rd} {all : List Int} {x : Int} : all.length ≤ (rp bs r all x).2.length ∧ (rp bs r all x).2.length ≤ all.length + 138 ∧ ((rp bs r all x).1.k = 0 → all.length < (rp bs r all x).2.length) := by
  have h2 := tk_num (bs := bs) (n := 2) (r := bd (all.length == 0) r)
  have h3 := tk_num (bs := bs) (n := 3) (r := r)
  have h7 := tk_num (bs := bs) (n := 7) (r := r)
  have e2 : (2 : Int) ^ 2 = 4 := by decide
  have e3 : (2 : Int) ^ 3 = 8 := by decide
  have e7 : (2 : Int) ^ 7 = 128 := by decide
  unfold rp
  split
  · split
    · simp only [List.length_append, List.length_replicate]; exact ⟨by omega, by omega, fun _ => by omega⟩
    · rename_i hk; exact ⟨Nat.le_refl _, Nat.le_add_right _ _, fun h => absurd h hk⟩
  · split
    · split
      · simp only [List.length_append, List.length_replicate]; exact ⟨by omega, by omega, fun _ => by omega⟩
      · rename_i hk; exact ⟨Nat.le_refl _, Nat.le_add_right _ _, fun h => absurd h hk⟩
    · split
      · split
        · simp only [List.length_append, List.length_replicate]; exact ⟨by omega, by omega, fun _ => by omega⟩
        · rename_i hk; exact ⟨Nat.le_refl _, Nat.le_add_right _ _, fun h => absurd h hk⟩
      · split
        · simp only [List.length_append, List.length_singleton]; exact ⟨by omega, by omega, fun _ => by omega⟩
        · rename_i hk; exact ⟨Nat.le_refl _, Nat.le_add_right _ _, fun h => absurd h hk⟩

/-- One round: a symbol, and what it adds. -/
def lg1 (bs : List Int) (cs : List (Nat × Nat)) (tot : Nat) (r : Rd) (all : List Int) : Rd × List Int :=
  if (sy bs cs r).1.k = 0 then (bd (decide (tot < (rp bs (sy bs cs r).1 all (sy bs cs r).2).2.length)) (rp bs (sy bs cs r).1 all (sy bs cs r).2).1, (rp bs (sy bs cs r).1 all (sy bs cs r).2).2) else ((sy bs cs r).1, all)
def lg (bs : List Int) (cs : List (Nat × Nat)) (tot : Nat) (r : Rd) (all : List Int) : Rd × List Int :=
  if h : r.k = 0 ∧ all.length < tot then
    if h2 : all.length < (lg1 bs cs tot r all).2.length then lg bs cs tot (lg1 bs cs tot r all).1 (lg1 bs cs tot r all).2 else lg1 bs cs tot r all
  else (r, all)
termination_by tot - all.length
theorem lg1_ok {bs : List Int} {cs : List (Nat × Nat)} {tot : Nat} {r : Rd} {all : List Int} (H : okR bs r) : okR bs (lg1 bs cs tot r all).1 := by
  unfold lg1
  split
  · exact bd_ok (rp_ok (sy_ok H))
  · exact sy_ok H
theorem lg1_len {bs : List Int} {cs : List (Nat × Nat)} {tot : Nat} {r : Rd} {all : List Int} : all.length ≤ (lg1 bs cs tot r all).2.length ∧ (lg1 bs cs tot r all).2.length ≤ all.length + 138 ∧ ((lg1 bs cs tot r all).1.k = 0 → all.length < (lg1 bs cs tot r all).2.length ∧ (lg1 bs cs tot r all).2.length ≤ tot) := by
  have R := rp_len (bs := bs) (r := (sy bs cs r).1) (all := all) (x := (sy bs cs r).2)
  unfold lg1
  split
  · refine ⟨R.1, R.2.1, fun h => ?_⟩
    obtain ⟨h1, h2⟩ := bd_k.1 h
    exact ⟨R.2.2 h1, by simpa using h2⟩
  · rename_i hk; exact ⟨by simp, by simp, fun h => absurd h hk⟩
theorem lg_step {bs : List Int} {cs : List (Nat × Nat)} {tot : Nat} {r : Rd} {all : List Int} (h : r.k = 0 ∧ all.length < tot) : lg bs cs tot r all = lg bs cs tot (lg1 bs cs tot r all).1 (lg1 bs cs tot r all).2 := by
  rw [lg, dif_pos h]
  split
  · rfl
  · rename_i h2
    have := lg1_len (bs := bs) (cs := cs) (tot := tot) (r := r) (all := all)
    have hk : (lg1 bs cs tot r all).1.k ≠ 0 := fun e => h2 (this.2.2 e).1
    rw [lg, dif_neg (fun e => hk e.1)]
theorem lg_end {bs : List Int} {cs : List (Nat × Nat)} {tot : Nat} {r : Rd} {all : List Int} (h : ¬ (r.k = 0 ∧ all.length < tot)) : lg bs cs tot r all = (r, all) := by rw [lg, dif_neg h]

def ord : List Nat := [16, 17, 18, 0, 8, 7, 9, 6, 10, 5, 11, 4, 12, 3, 13, 2, 14, 1, 15]
/-- The first k lengths of the code of lengths. -/
def sm (bs : List Int) (r : Rd) : Nat → Rd × List Int
  | 0 => (r, List.replicate 19 0)
  | k + 1 => ((tk bs 3 (sm bs r k).1).1, (sm bs r k).2.set (ord.getD k 0) (tk bs 3 (sm bs r k).1).2)
theorem sm_ok {bs : List Int} {r : Rd} (H : okR bs r) : ∀ {k : Nat}, okR bs (sm bs r k).1
  | 0 => H
  | k + 1 => tk_ok (sm_ok H)
theorem sm_len {bs : List Int} {r : Rd} : ∀ {k : Nat}, (sm bs r k).2.length = 19
  | 0 => by simp [sm]
  | k + 1 => by simp only [sm, List.length_set]; exact sm_len

def lens0 (bs : List Int) (r : Rd) : Rd := bd (decide ((tk bs 5 r).2 + 257 > 286)) (tk bs 5 r).1
def lens1 (bs : List Int) (r : Rd) : Rd := bd (decide ((tk bs 5 (lens0 bs r)).2 + 1 > 30)) (tk bs 5 (lens0 bs r)).1
def lens2 (bs : List Int) (r : Rd) : Rd × List Int := sm bs (tk bs 4 (lens1 bs r)).1 ((tk bs 4 (lens1 bs r)).2.toNat + 4)
def lens3 (bs : List Int) (r : Rd) : Rd := bd (hkind (lens2 bs r).2 != 1) (lens2 bs r).1
def nLit (bs : List Int) (r : Rd) : Nat := ((tk bs 5 r).2 + 257).toNat
def nDist (bs : List Int) (r : Rd) : Nat := ((tk bs 5 (lens0 bs r)).2 + 1).toNat
def lens4 (bs : List Int) (r : Rd) : Rd × List Int := lg bs (codesN (lens2 bs r).2) (nLit bs r + nDist bs r) (lens3 bs r) []
def badL (A B : List Int) : Bool := (A.getD 256 0 == 0) || !(hkind A == 1 || hkind A == 4) || !(hkind B == 1 || hkind B == 4 || hkind B == 5)
/-- The lengths of a dynamic block. -/
def lensF (bs : List Int) (r : Rd) : Rd × List Int × List Int :=
  if (lens4 bs r).1.k = 0 then (bd (badL ((lens4 bs r).2.take (nLit bs r)) ((lens4 bs r).2.drop (nLit bs r))) (lens4 bs r).1, (lens4 bs r).2.take (nLit bs r), (lens4 bs r).2.drop (nLit bs r))
  else ((lens4 bs r).1, [], [])

theorem lg_ok {bs : List Int} {cs : List (Nat × Nat)} {tot : Nat} : ∀ {n : Nat} {r : Rd} {all : List Int}, tot - all.length ≤ n → okR bs r → okR bs (lg bs cs tot r all).1
  | 0, r, all, hn, H => by rw [lg_end (fun e => by omega)]; exact H
  | n + 1, r, all, hn, H => by
    by_cases h : r.k = 0 ∧ all.length < tot
    · rw [lg_step h]
      by_cases hk : (lg1 bs cs tot r all).1.k = 0
      · have := (lg1_len (bs := bs) (cs := cs) (tot := tot) (r := r) (all := all)).2.2 hk
        exact lg_ok (n := n) (by omega) (lg1_ok H)
      · rw [lg_end (fun e => hk e.1)]; exact lg1_ok H
    · rw [lg_end h]; exact H
theorem lens_ok {bs : List Int} {r : Rd} (H : okR bs r) : okR bs (lens0 bs r) ∧ okR bs (lens1 bs r) ∧ okR bs (lens2 bs r).1 ∧ okR bs (lens3 bs r) ∧ okR bs (lens4 bs r).1 := by
  have h0 : okR bs (lens0 bs r) := bd_ok (tk_ok H)
  have h1 : okR bs (lens1 bs r) := bd_ok (tk_ok h0)
  have h2 : okR bs (lens2 bs r).1 := sm_ok (tk_ok h1)
  have h3 : okR bs (lens3 bs r) := bd_ok h2
  exact ⟨h0, h1, h2, h3, lg_ok (Nat.le_refl _) h3⟩

/-! ### The reference's side -/
theorem rd_three {a : Option Addr} {c : Nat} {bs : List Int} {r : Rd} {x : Value} {v : Value} (h : v = .tuple #[rdV a c bs r, x]) : v = .tuple #[.agg #[.slice a bs.length c, .int .i64 r.i, .int .i64 r.k], x] := h

/-- The loop that puts a number so many times behind (while nothing is wrong). -/
theorem rep_loop {h0 : Eng.Heap} (hi : Eng.Inv S h0) (s0 : Eng.Sub h0 h) {aa : Option Addr} {ca : Nat} {all : List Int} (P : Part .i64 h (.slice aa all.length ca) all) (N : Eng.New h0 (.slice aa all.length ca)) (hl : all.length ≤ 1000) (t : Nat) (ht : t ≤ 1000) (w k : Int) {G : Value → Eng.Heap → Prop}
    (hG : ∀ a l c h', Part .i64 h' (.slice a l c) (if k = 0 then all ++ List.replicate t w else all) → Eng.New h0 (.slice a l c) → Eng.Sub h0 h' → G (.slice a l c) h') :
    ∃ (I : List Value → Eng.Heap → Prop) (μ : List Value → Eng.Heap → Nat), I [.slice aa all.length ca, .int .i64 0] h ∧
      ∀ (a_1 : Option Addr) (l c_1 : Nat) (x_1 : Int) (h' : Eng.Heap), I [.slice a_1 l c_1, .int .i64 x_1] h' →
        ((decide (x_1 < (t : Int)) && k == 0) = true → ∀ (b : Nat), h' b = none →
          appW S 2 1 8 [.int .i64 0] (.slice a_1 l c_1) (.slice (some ⟨b, 0, none⟩) 1 1) (upd h' b (.cells #[.int .i64 w] 2)) fun v h'_1 =>
            I [.slice (slA v) (slL v) (slC v), .int .i64 (IntKind.i64.wrap (x_1 + 1))] h'_1 ∧ μ [.slice (slA v) (slL v) (slC v), .int .i64 (IntKind.i64.wrap (x_1 + 1))] h'_1 < μ [.slice a_1 l c_1, .int .i64 x_1] h') ∧
        ((decide (x_1 < (t : Int)) && k == 0) = false → G (.slice a_1 l c_1) h') := by
  refine ⟨fun us h' => ∃ (i : Nat) (a : Option Addr) (c : Nat), us = [.slice a (all.length + i) c, .int .i64 i] ∧ i ≤ t ∧ (k ≠ 0 → i = 0) ∧ Part .i64 h' (.slice a (all.length + i) c) (all ++ List.replicate i w) ∧ Eng.New h0 (.slice a (all.length + i) c) ∧ Eng.Sub h0 h',
    fun us _ => t - (toInt (us.getD 1 undef)).toNat, ⟨0, aa, ca, by simp, by omega, fun _ => rfl, by simpa using P, by simpa using N, s0⟩, ?_⟩
  rintro a1 l1 c1 y h' ⟨i, a2, c2, hx1, hi2, hk0, P2, N2, s2⟩
  simp only [List.cons.injEq, Value.int.injEq, Value.slice.injEq, true_and, and_true] at hx1
  obtain ⟨⟨rfl, rfl, rfl⟩, rfl⟩ := hx1
  refine ⟨fun hlt b hnb => ?_, fun hge => ?_⟩
  · have hlt : i < t ∧ k = 0 := by simp at hlt; omega
    have w2 : IntKind.i64.wrap ((i : Int) + 1) = ((i + 1 : Nat) : Int) := by rw [i64_in _ (by omega)]; omega
    have sb : Eng.Sub h' (upd h' b (.cells (ints .i64 [w]) 2)) := Sub.of_upd hnb
    have hlen : (all ++ List.replicate i w).length = all.length + i := by simp
    refine appW_part (xs := all ++ List.replicate i w) (a := some ⟨b, 0, none⟩) (c := 1) hi (s2.trans sb) (P2.sub sb) N2 (ys := [w]) HInts.new (by rw [hlen]; simp only [List.length_singleton]; omega) fun v' h3 o n3 s4 _ _ => ?_
    have el : (all ++ List.replicate i w) ++ [w] = all ++ List.replicate (i + 1) w := by rw [List.append_assoc, List.replicate_succ']
    rw [el] at o
    obtain ⟨a4, c4, rfl, _, _⟩ := o.ints
    have hlen2 : (all ++ List.replicate (i + 1) w).length = all.length + (i + 1) := by simp
    rw [hlen2] at o n3
    simp only [slA_sl, slL_sl, slC_sl, w2, hlen2]
    exact ⟨⟨i + 1, a4, c4, rfl, by omega, fun h => absurd hlt.2 h, o, n3, s4⟩, by simp only [List.getD_cons_succ, List.getD_cons_zero, toInt_int, Int.toNat_natCast]; omega⟩
  · have hge : ¬ (i < t ∧ k = 0) := by simp at hge; omega
    refine hG _ _ _ _ ?_ N2 s2
    by_cases h0 : k = 0
    · rw [if_pos h0]
      obtain rfl : i = t := by omega
      exact P2
    · rw [if_neg h0]
      obtain rfl := hk0 h0
      simpa using P2

end Go.Proofs.YteaonnfokkfnlaaDoor
