import Derived.Test.YteaonnfokkfnlaaDoorKBit2
import Derived.Test.YteaonnfokkfnlaaDoorKNext
import Derived.Test.YteaonnfokkfnlaaDoorKTrie
import Derived.Test.YteaonnfokkfnlaaDoorTyI
set_option linter.unusedVariables false
set_option linter.unusedSimpArgs false
namespace Go.Proofs.YteaonnfokkfnlaaDoor
open Go Go.Eng Go.IntWalk
variable {S : Shared} {h : Eng.Heap}

/-! ### The plain reading of bits: a place, and a class (0: nothing wrong so far) -/
structure Rd where
  i : Int
  k : Int

def tk (bs : List Int) (n : Nat) (r : Rd) : Rd × Int :=
  if r.k = 0 then if r.i + n > 8 * (bs.length : Int) then (⟨r.i, 2⟩, 0) else (⟨r.i + n, 0⟩, numAt bs r.i.toNat n) else (r, 0)
def bd (w : Bool) (r : Rd) : Rd := if r.k = 0 ∧ w = true then ⟨r.i, 3⟩ else r
/-- How many bits are looked at for a symbol. -/
def look (bs : List Int) (i : Nat) : Nat := min 15 (8 * bs.length - i)
def nxB (bs : List Int) (cs : List (Nat × Nat)) (i : Nat) : Int × Int × Int := nxt cs (numAt bs i (look bs i)).toNat (look bs i + 1) 0
def sy (bs : List Int) (cs : List (Nat × Nat)) (r : Rd) : Rd × Int :=
  if r.k = 0 then (⟨r.i + (nxB bs cs r.i.toNat).2.2, if (nxB bs cs r.i.toNat).1 = 2 then 2 else if (nxB bs cs r.i.toNat).1 = 0 then 3 else 0⟩, (nxB bs cs r.i.toNat).2.1) else (r, 0)
/-- The place stands within the text. -/
def okR (bs : List Int) (r : Rd) : Prop := r.k = 0 → 0 ≤ r.i ∧ r.i ≤ 8 * (bs.length : Int)

theorem tk_ok {bs : List Int} {n : Nat} {r : Rd} (H : okR bs r) : okR bs (tk bs n r).1 := by
  unfold tk
  by_cases h0 : r.k = 0
  · rw [if_pos h0]
    have := H h0
    split
    · intro h; cases h
    · intro _; simp only; omega
  · rw [if_neg h0]; exact H
theorem tk_num {bs : List Int} {n : Nat} {r : Rd} : 0 ≤ (tk bs n r).2 ∧ (tk bs n r).2 < 2 ^ n := by
  have hp : (0 : Int) < 2 ^ n := Int.pow_pos (by decide)
  unfold tk
  split
  · split
    · exact ⟨by simp, hp⟩
    · exact numAt_lt
  · exact ⟨by simp, hp⟩
theorem tk_k {bs : List Int} {n : Nat} {r : Rd} (h : (tk bs n r).1.k = 0) : r.k = 0 := by
  unfold tk at h
  by_cases h0 : r.k = 0
  · exact h0
  · rw [if_neg h0] at h; exact absurd h h0
theorem bd_ok {bs : List Int} {w : Bool} {r : Rd} (H : okR bs r) : okR bs (bd w r) := by
  unfold bd
  split
  · intro h; cases h
  · exact H
theorem bd_k {w : Bool} {r : Rd} : (bd w r).k = 0 ↔ r.k = 0 ∧ w = false := by
  unfold bd
  split
  · rename_i h; simp [h.2]
  · rename_i h
    by_cases h0 : r.k = 0
    · simp only [h0, true_and] at h ⊢; simpa using h
    · simp [h0]

theorem Em_lt {cs : List (Nat × Nat)} (hM : ∀ c ∈ cs, c.1 ≤ 15) {l v : Nat} (h : Ec cs l v) : l < 15 := Ec_len hM h

/-- What the next symbol is: its bits are at least one, and no more than there are. -/
theorem nxt_facts {cs : List (Nat × Nat)} {b : Nat} : ∀ {f l : Nat}, True →
    let x := nxt cs b f l
    (x.1 = 1 ∧ 0 ≤ x.2.1 ∧ x.2.1 < cs.length ∧ (l : Int) ≤ x.2.2 ∧ x.2.2 + 1 ≤ (l : Int) + f ∧ 1 ≤ x.2.2) ∨ ((x.1 = 0 ∨ x.1 = 2) ∧ x.2.1 = 0 ∧ x.2.2 = 0)
  | 0, l, hy => .inr ⟨.inr rfl, rfl, rfl⟩
  | f + 1, l, hy => by
    simp only [nxt]
    split
    · rename_i hne
      refine .inl ⟨rfl, ?_⟩
      obtain ⟨s, hs, _, hl, e⟩ := Ym_some hne
      simp only [e]
      refine ⟨by omega, by omega, by omega, by push_cast; omega, by omega⟩
    · split
      · rcases nxt_facts (cs := cs) (b := b) (f := f) (l := l + 1) hy with ⟨h1, h2, h3, h4, h5, h6⟩ | h
        · exact .inl ⟨h1, h2, h3, by push_cast at h4; omega, by push_cast at h5 ⊢; omega, h6⟩
        · exact .inr h
      · exact .inr ⟨.inl rfl, rfl, rfl⟩

theorem nxB_facts {bs : List Int} {cs : List (Nat × Nat)} {i : Nat} :
    ((nxB bs cs i).1 = 1 ∧ 0 ≤ (nxB bs cs i).2.1 ∧ (nxB bs cs i).2.1 < cs.length ∧ 1 ≤ (nxB bs cs i).2.2 ∧ (nxB bs cs i).2.2 ≤ look bs i) ∨ (((nxB bs cs i).1 = 0 ∨ (nxB bs cs i).1 = 2) ∧ (nxB bs cs i).2.1 = 0 ∧ (nxB bs cs i).2.2 = 0) := by
  rcases nxt_facts (cs := cs) (b := (numAt bs i (look bs i)).toNat) (f := look bs i + 1) (l := 0) trivial with ⟨h1, h2, h3, h4, h5, h6⟩ | h
  · exact .inl ⟨h1, h2, h3, h6, by unfold nxB; omega⟩
  · exact .inr h

theorem sy_ok {bs : List Int} {cs : List (Nat × Nat)} {r : Rd} (H : okR bs r) : okR bs (sy bs cs r).1 := by
  unfold sy
  by_cases h0 : r.k = 0
  · rw [if_pos h0]
    have := H h0
    intro hk
    simp only at hk ⊢
    rcases nxB_facts (bs := bs) (cs := cs) (i := r.i.toNat) with ⟨h1, h2, h3, h4, h5⟩ | ⟨_, _, h⟩
    · unfold look at h5; omega
    · omega
  · rw [if_neg h0]; exact H
/-- A symbol that was read. -/
theorem sy_k {bs : List Int} {cs : List (Nat × Nat)} {r : Rd} (h : (sy bs cs r).1.k = 0) : r.k = 0 ∧ r.i + 1 ≤ (sy bs cs r).1.i ∧ 0 ≤ (sy bs cs r).2 ∧ (sy bs cs r).2 < cs.length := by
  unfold sy at h ⊢
  by_cases h0 : r.k = 0
  · rw [if_pos h0] at h ⊢
    simp only at h ⊢
    rcases nxB_facts (bs := bs) (cs := cs) (i := r.i.toNat) with ⟨h1, h2, h3, h4, h5⟩ | ⟨h1, _, _⟩
    · exact ⟨h0, by omega, h2, h3⟩
    · rcases h1 with h1 | h1 <;> simp [h1] at h
  · rw [if_neg h0] at h; exact absurd h h0

/-! ### The reference's reading -/
def rdV (a : Option Addr) (c : Nat) (bs : List Int) (r : Rd) : Value := .agg #[.slice a bs.length c, .int .i64 r.i, .int .i64 r.k]

/-- What the codes' slice holds. -/
structure CodesAt (h : Eng.Heap) (a : Option Addr) (l : Nat) (cs : List (Nat × Nat)) : Prop where
  hx : ∃ ps : List (Int × Int), HPairs h a ps ∧ ps.length = l ∧ cs.length = ps.length ∧ ∀ (j : Nat) p, ps[j]? = some p → ∃ l b : Nat, p = ((l : Int), (b : Int)) ∧ cs[j]? = some (l, b) ∧ l ≤ 15 ∧ b < 2 ^ l
  un : uniq cs
  ll : l ≤ 1000
theorem CodesAt.sub {h' : Eng.Heap} {a : Option Addr} {l : Nat} {cs : List (Nat × Nat)} (H : CodesAt h a l cs) (s : Eng.Sub h h') : CodesAt h' a l cs := by
  obtain ⟨⟨ps, h1, h2⟩, h3, h4⟩ := H
  exact ⟨⟨ps, h1.sub s, h2⟩, h3, h4⟩

theorem look_le {bs : List Int} {i : Nat} : look bs i ≤ 15 := by unfold look; omega

end Go.Proofs.YteaonnfokkfnlaaDoor
