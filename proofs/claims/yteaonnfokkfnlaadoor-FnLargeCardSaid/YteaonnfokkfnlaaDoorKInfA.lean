import Derived.Test.YteaonnfokkfnlaaDoorKRdL2
import Derived.Test.YteaonnfokkfnlaaDoorEng2
import Derived.Test.YteaonnfokkfnlaaDoorChecked
import Derived.Test.YteaonnfokkfnlaaDoorNums
import Derived.Test.YteaonnfokkfnlaaDoorKHuff
import Derived.Test.YteaonnfokkfnlaaDoorTyB
import Derived.Test.YteaonnfokkfnlaaDoorKFix
import Derived.Test.YteaonnfokkfnlaaDoorKRingM
import Derived.Test.YteaonnfokkfnlaaDoorTyInfRes
set_option linter.unusedVariables false
set_option linter.unusedSimpArgs false
namespace Go.Proofs.YteaonnfokkfnlaaDoor
open Go Go.Eng Go.IntWalk
section
variable {S : Shared} {h h0 : Eng.Heap}

/-! ### A stream, plainly: al is the dictionary's part (dl numbers) and what was told behind it -/
def tell (dl room : Nat) (r : Rd) (al d : List Int) : Rd × List Int :=
  if r.k = 0 then (if room < al.length - dl + d.length then (⟨r.i, 6⟩, al) else (r, al ++ d)) else (r, al)
def alg (r : Rd) : Rd := if r.k = 0 then ⟨(r.i + 7) / 8 * 8, 0⟩ else r
/-- n bytes of a stored block. -/
def stL (bs : List Int) (dl room : Nat) : Nat → Rd → List Int → Rd × List Int
  | 0, r, al => (r, al)
  | n + 1, r, al => if r.k = 0 then stL bs dl room n (tell dl room (tk bs 8 r).1 al [(tk bs 8 r).2]).1 (tell dl room (tk bs 8 r).1 al [(tk bs 8 r).2]).2 else (r, al)
def stN (bs : List Int) (r : Rd) : Int := (tk bs 16 (alg r)).2
def stR (bs : List Int) (r : Rd) : Rd := bd ((tk bs 16 (tk bs 16 (alg r)).1).2 != 65535 - stN bs r) (tk bs 16 (tk bs 16 (alg r)).1).1
def stF (bs : List Int) (dl room : Nat) (r : Rd) (al : List Int) : Rd × List Int := stL bs dl room (stN bs r).toNat (stR bs r) al
/-- The base and the extra bits of a copy's length, and of its distance. -/
def lenB (s : Nat) : Nat × Nat := if s = 285 then (258, 0) else if s < 265 then (s - 254, 0) else ((4 + (s - 265) % 4) * 2 ^ ((s - 265) / 4 + 1) + 3, (s - 265) / 4 + 1)
def disB (d : Nat) : Nat × Nat := if d < 4 then (d + 1, 0) else ((2 + d % 2) * 2 ^ (d / 2 - 1) + 1, d / 2 - 1)
/-- n bytes from dist back. -/
def cpD (al : List Int) (dist n : Nat) : List Int := (List.range n).map fun k => al.getD (al.length - dist + k % dist) 0
/-- A copy: its length, its distance. -/
def cp1 (bs : List Int) (r : Rd) (s : Nat) : Rd × Int := tk bs (lenB s).2 r
def cp2 (bs : List Int) (cd : List (Nat × Nat)) (r : Rd) (s : Nat) : Rd × Int := sy bs cd (cp1 bs r s).1
def cp3 (bs : List Int) (cd : List (Nat × Nat)) (r : Rd) (s : Nat) : Rd := bd (decide (29 < (cp2 bs cd r s).2)) (cp2 bs cd r s).1
def cp4 (bs : List Int) (cd : List (Nat × Nat)) (r : Rd) (s : Nat) : Rd × Int := tk bs (disB (cp2 bs cd r s).2.toNat).2 (cp3 bs cd r s)
def cpDist (bs : List Int) (cd : List (Nat × Nat)) (r : Rd) (s : Nat) : Nat := (disB (cp2 bs cd r s).2.toNat).1 + (cp4 bs cd r s).2.toNat
def cpLen (bs : List Int) (r : Rd) (s : Nat) : Nat := (lenB s).1 + (cp1 bs r s).2.toNat
def cp5 (bs : List Int) (cd : List (Nat × Nat)) (sz : Nat) (r : Rd) (al : List Int) (s : Nat) : Rd := bd (decide (al.length < cpDist bs cd r s) || decide (sz < cpDist bs cd r s)) (cp4 bs cd r s).1
def cpF (bs : List Int) (cd : List (Nat × Nat)) (dl room sz : Nat) (r : Rd) (al : List Int) (s : Nat) : Rd × List Int :=
  if (cp3 bs cd r s).k ≠ 0 then (cp3 bs cd r s, al)
  else if (cp5 bs cd sz r al s).k ≠ 0 then (cp5 bs cd sz r al s, al)
  else tell dl room (cp5 bs cd sz r al s) al (cpD al (cpDist bs cd r s) (cpLen bs r s))
/-- Behind a symbol that is told or copied. -/
def sy1 (bs : List Int) (cd : List (Nat × Nat)) (dl room sz : Nat) (r : Rd) (al : List Int) (x : Int) : Rd × List Int :=
  if x < 256 then tell dl room r al [x] else if 285 < x then (bd true r, al) else cpF bs cd dl room sz r al x.toNat
def syF (bs : List Int) (cl cd : List (Nat × Nat)) (dl room sz : Nat) : Nat → Rd → List Int → Rd × List Int
  | 0, r, al => (r, al)
  | f + 1, r, al => if r.k = 0 then
      (if (sy bs cl r).1.k ≠ 0 ∨ (sy bs cl r).2 = 256 then ((sy bs cl r).1, al)
       else syF bs cl cd dl room sz f (sy1 bs cd dl room sz (sy bs cl r).1 al (sy bs cl r).2).1 (sy1 bs cd dl room sz (sy bs cl r).1 al (sy bs cl r).2).2)
    else (r, al)

/-! ### Places go forth only -/
def le2 (r r' : Rd) : Prop := r'.k = 0 → r.k = 0 ∧ r.i ≤ r'.i
theorem le2.refl {r : Rd} : le2 r r := fun h => ⟨h, Int.le_refl _⟩
theorem le2.trans {a b c : Rd} (H : le2 a b) (G : le2 b c) : le2 a c := fun h => by
  obtain ⟨h1, h2⟩ := G h
  obtain ⟨h3, h4⟩ := H h1
  exact ⟨h3, Int.le_trans h4 h2⟩
theorem tk_le {bs : List Int} {n : Nat} {r : Rd} : le2 r (tk bs n r).1 := fun h => by
  have h0 := tk_k h
  refine ⟨h0, ?_⟩
  unfold tk at h ⊢
  rw [if_pos h0] at h ⊢
  split
  · rename_i hgt; rw [if_pos hgt] at h; cases h
  · simp only; omega
theorem bd_le {w : Bool} {r : Rd} : le2 r (bd w r) := fun h => by
  obtain ⟨h1, h2⟩ := bd_k.1 h
  refine ⟨h1, ?_⟩
  unfold bd
  rw [if_neg (fun e => by rw [h2] at e; cases e.2)]
  exact Int.le_refl _
theorem tell_le {dl room : Nat} {r : Rd} {al d : List Int} : le2 r (tell dl room r al d).1 := fun h => by
  unfold tell at h ⊢
  split
  · rename_i h0
    rw [if_pos h0] at h
    split
    · rename_i hgt; rw [if_pos hgt] at h; cases h
    · exact ⟨h0, Int.le_refl _⟩
  · rename_i h0; rw [if_neg h0] at h; exact absurd h h0
theorem tell_ok {bs : List Int} {dl room : Nat} {r : Rd} {al d : List Int} (H : okR bs r) : okR bs (tell dl room r al d).1 := by
  unfold tell
  split
  · split
    · intro h; cases h
    · exact H
  · exact H
theorem alg_ok {bs : List Int} {r : Rd} (H : okR bs r) : okR bs (alg r) := by
  unfold alg
  split
  · rename_i h0
    have := H h0
    intro _; simp only; omega
  · exact H
theorem alg_le {r : Rd} : le2 r (alg r) := fun h => by
  unfold alg at h ⊢
  split
  · rename_i h0; exact ⟨h0, by simp only; omega⟩
  · rename_i h0; rw [if_neg h0] at h; exact absurd h h0
/-- A symbol takes a bit at least. -/
theorem sy_lt {bs : List Int} {cs : List (Nat × Nat)} {r : Rd} (h : (sy bs cs r).1.k = 0) : r.k = 0 ∧ r.i + 1 ≤ (sy bs cs r).1.i := by
  unfold sy at h ⊢
  by_cases h0 : r.k = 0
  · rw [if_pos h0] at h ⊢
    refine ⟨h0, ?_⟩
    have hf := nxB_facts (bs := bs) (cs := cs) (i := r.i.toNat)
    simp only at h ⊢
    rcases hf with hf | hf
    · omega
    · rcases hf.1 with e | e
      · rw [e] at h; simp at h
      · rw [e] at h; simp at h
  · rw [if_neg h0] at h; exact absurd h h0
theorem sy_le {bs : List Int} {cs : List (Nat × Nat)} {r : Rd} : le2 r (sy bs cs r).1 := fun h => by
  have := sy_lt h; exact ⟨this.1, by omega⟩
theorem cpF_le {bs : List Int} {cd : List (Nat × Nat)} {dl room sz : Nat} {r : Rd} {al : List Int} {s : Nat} : le2 r (cpF bs cd dl room sz r al s).1 := by
  have h3 : le2 r (cp3 bs cd r s) := (tk_le.trans sy_le).trans bd_le
  have h5 : le2 r (cp5 bs cd sz r al s) := h3.trans (tk_le.trans bd_le)
  unfold cpF
  split
  · exact h3
  · split
    · exact h5
    · exact h5.trans tell_le
theorem cpF_ok {bs : List Int} {cd : List (Nat × Nat)} {dl room sz : Nat} {r : Rd} {al : List Int} {s : Nat} (H : okR bs r) : okR bs (cpF bs cd dl room sz r al s).1 := by
  have h3 : okR bs (cp3 bs cd r s) := bd_ok (sy_ok (tk_ok H))
  have h5 : okR bs (cp5 bs cd sz r al s) := bd_ok (tk_ok h3)
  unfold cpF
  split
  · exact h3
  · split
    · exact h5
    · exact tell_ok h5
theorem sy1_le {bs : List Int} {cd : List (Nat × Nat)} {dl room sz : Nat} {r : Rd} {al : List Int} {x : Int} : le2 r (sy1 bs cd dl room sz r al x).1 := by
  unfold sy1
  split
  · exact tell_le
  · split
    · exact bd_le
    · exact cpF_le
theorem sy1_ok {bs : List Int} {cd : List (Nat × Nat)} {dl room sz : Nat} {r : Rd} {al : List Int} {x : Int} (H : okR bs r) : okR bs (sy1 bs cd dl room sz r al x).1 := by
  unfold sy1
  split
  · exact tell_ok H
  · split
    · exact bd_ok H
    · exact cpF_ok H
theorem stL_ok {bs : List Int} {dl room : Nat} : ∀ {n : Nat} {r : Rd} {al : List Int}, okR bs r → okR bs (stL bs dl room n r al).1
  | 0, r, al, H => H
  | n + 1, r, al, H => by
    unfold stL
    split
    · exact stL_ok (tell_ok (tk_ok H))
    · exact H
theorem stL_le {bs : List Int} {dl room : Nat} : ∀ {n : Nat} {r : Rd} {al : List Int}, le2 r (stL bs dl room n r al).1
  | 0, r, al => le2.refl
  | n + 1, r, al => by
    unfold stL
    split
    · exact (tk_le.trans tell_le).trans stL_le
    · exact le2.refl
end

section
variable {S : Shared} {h h0 : Eng.Heap}

def LB : Nat → Nat × Nat
  | 0 => (3, 0)
  | j + 1 => (if 0 < j then (LB j).1 + 2 ^ (LB j).2 else (LB j).1, if 8 ≤ j then (j - 4) / 4 else 0)
theorem LB_len : ∀ s : Fin 285, 257 ≤ s.1 → LB (s.1 - 257 + 1) = lenB s.1 := by decide +kernel
theorem LB_le : ∀ j : Fin 29, (LB j.1).1 ≤ 300 ∧ (LB j.1).2 ≤ 6 := by decide +kernel
theorem lenB_le : ∀ s : Fin 286, 257 ≤ s.1 → 3 ≤ (lenB s.1).1 ∧ (lenB s.1).1 ≤ 258 ∧ (lenB s.1).2 ≤ 5 := by decide +kernel
theorem disB_le : ∀ d : Fin 30, 1 ≤ (disB d.1).1 ∧ (disB d.1).1 ≤ 24577 ∧ (disB d.1).2 ≤ 13 := by decide +kernel

/-- What was told, as it lies in memory. -/
def toldV (a : Option Addr) (c : Nat) (al : List Int) (dl sz room : Nat) : Value := .agg #[.slice a al.length c, .int .i64 dl, .int .i64 sz, .int .i64 room]
/-- A place and what was told, handed back. -/
def PostT (h0 : Eng.Heap) (a : Option Addr) (c : Nat) (bs : List Int) (dl sz room : Nat) (F : Rd × List Int) (v : Value) (h' : Eng.Heap) : Prop :=
  ∃ a' c', v = .tuple #[rdV a c bs F.1, toldV a' c' F.2 dl sz room] ∧ Part .u8 h' (.slice a' F.2.length c') F.2 ∧ Eng.New h0 (.slice a' F.2.length c') ∧ Eng.Sub h0 h'

theorem tell_len {dl room : Nat} {r : Rd} {al d : List Int} (h1 : dl ≤ al.length) (h2 : al.length ≤ dl + room) : dl ≤ (tell dl room r al d).2.length ∧ (tell dl room r al d).2.length ≤ dl + room := by
  unfold tell
  split
  · split
    · exact ⟨h1, h2⟩
    · simp only [List.length_append]; omega
  · exact ⟨h1, h2⟩

end

section
variable {S : Shared} {h h0 : Eng.Heap}

theorem sy_num {bs : List Int} {cs : List (Nat × Nat)} {r : Rd} : 0 ≤ (sy bs cs r).2 ∧ ((sy bs cs r).2 = 0 ∨ (sy bs cs r).2 < cs.length) := by
  have hf := nxB_facts (bs := bs) (cs := cs) (i := r.i.toNat)
  unfold sy
  split
  · simp only; omega
  · exact ⟨Int.le_refl _, .inl rfl⟩
theorem cpD_len {al : List Int} {dist n : Nat} : (cpD al dist n).length = n := by simp [cpD]
theorem cpD_succ {al : List Int} {dist n : Nat} : cpD al dist (n + 1) = cpD al dist n ++ [al.getD (al.length - dist + n % dist) 0] := by simp [cpD, List.range_succ]

theorem syF_end {bs : List Int} {cl cd : List (Nat × Nat)} {dl room sz f : Nat} {r : Rd} {al : List Int} (h : r.k ≠ 0) : syF bs cl cd dl room sz f r al = (r, al) := by
  cases f with
  | zero => rfl
  | succ f => rw [syF, if_neg h]
theorem cpF_len {bs : List Int} {cd : List (Nat × Nat)} {dl room sz : Nat} {r : Rd} {al : List Int} {s : Nat} (h1 : dl ≤ al.length) (h2 : al.length ≤ dl + room) : dl ≤ (cpF bs cd dl room sz r al s).2.length ∧ (cpF bs cd dl room sz r al s).2.length ≤ dl + room := by
  unfold cpF
  split
  · exact ⟨h1, h2⟩
  · split
    · exact ⟨h1, h2⟩
    · exact tell_len h1 h2
theorem sy1_len {bs : List Int} {cd : List (Nat × Nat)} {dl room sz : Nat} {r : Rd} {al : List Int} {x : Int} (h1 : dl ≤ al.length) (h2 : al.length ≤ dl + room) : dl ≤ (sy1 bs cd dl room sz r al x).2.length ∧ (sy1 bs cd dl room sz r al x).2.length ≤ dl + room := by
  unfold sy1
  split
  · exact tell_len h1 h2
  · split
    · exact ⟨h1, h2⟩
    · exact cpF_len h1 h2

/-- A heap without a value's block: what is told may be put behind it in place, all else stays. -/
def without (h : Eng.Heap) (v : Value) : Eng.Heap := fun b => if blkOf v = some b then none else h b
theorem wo_sub {v : Value} : Eng.Sub (without h v) h := fun b o e => by
  unfold without at e
  split at e
  · cases e
  · exact e
theorem wo_new {v : Value} : Eng.New (without h v) v := fun b hb => if_pos hb
theorem wo_base {v : Value} (N : Eng.New h0 v) (s : Eng.Sub h0 h) : Eng.Sub h0 (without h v) := fun b o e => by
  unfold without
  rw [if_neg (fun hb => by rw [N b hb] at e; cases e)]
  exact s b o e
theorem PostT.base {a : Option Addr} {c : Nat} {bs : List Int} {dl sz room : Nat} {F : Rd × List Int} {v : Value} {h' g : Eng.Heap} (H : PostT g a c bs dl sz room F v h') (s : Eng.Sub h0 g) : PostT h0 a c bs dl sz room F v h' := by
  obtain ⟨a', c', e, p, n, t⟩ := H
  exact ⟨a', c', e, p, fun z hz => sub_none s (n z hz), s.trans t⟩
theorem CodesAt.same {h' : Eng.Heap} {a : Option Addr} {l c : Nat} {cs : List (Nat × Nat)} (H : CodesAt h a l cs) (hk : ∀ z, blkOf (.slice a l c) = some z → h' z = h z) : CodesAt h' a l cs := by
  obtain ⟨⟨ps, h1, h2⟩, h3, h4⟩ := H
  refine ⟨⟨ps, fun i p hp => ?_, h2⟩, h3, h4⟩
  obtain ⟨ad, rfl, g1, g2⟩ := h1 i p hp
  have e := hk ad.block rfl
  have blk : ∀ n, (ad.add n).block = ad.block := fun n => by unfold Addr.add; split <;> rfl
  have hh : ∀ n, Eng.hcell h' (ad.add n) = Eng.hcell h (ad.add n) := fun n => by
    unfold Eng.hcell; rw [show h' (ad.add n).block = h (ad.add n).block by rw [blk]; exact e]
  exact ⟨ad, rfl, (hh _).trans g1, (hh _).trans g2⟩

end

section
variable {S : Shared} {h h0 : Eng.Heap}

theorem lg_len2 {bs : List Int} {cs : List (Nat × Nat)} {tot : Nat} : ∀ {n : Nat} {r : Rd} {all : List Int}, tot - all.length ≤ n → all.length ≤ tot → (lg bs cs tot r all).1.k = 0 → (lg bs cs tot r all).2.length ≤ tot
  | 0, r, all, hn, hl, H => by rw [lg_end (fun e => by omega)]; exact hl
  | n + 1, r, all, hn, hl, H => by
    by_cases h : r.k = 0 ∧ all.length < tot
    · rw [lg_step h] at H ⊢
      by_cases hk : (lg1 bs cs tot r all).1.k = 0
      · have := (lg1_len (bs := bs) (cs := cs) (tot := tot) (r := r) (all := all)).2.2 hk
        exact lg_len2 (n := n) (by omega) this.2 H
      · rw [lg_end (fun e => hk e.1)] at H; exact absurd H hk
    · rw [lg_end h]; exact hl
theorem lensF_lens {bs : List Int} {r : Rd} : (lensF bs r).2.1.length ≤ 1000 ∧ (lensF bs r).2.2.length ≤ 1000 := by
  unfold lensF
  split
  · rename_i hk
    have n1 := tk_num (bs := bs) (n := 5) (r := r)
    have n2 := tk_num (bs := bs) (n := 5) (r := lens0 bs r)
    have q5 : (2 : Int) ^ 5 = 32 := by decide
    have h1 : nLit bs r ≤ 288 := by unfold nLit; omega
    have h2 : nDist bs r ≤ 32 := by unfold nDist; omega
    have h3 : (lens4 bs r).2.length ≤ nLit bs r + nDist bs r := lg_len2 (Nat.le_refl _) (by simp) hk
    simp only [List.length_take, List.length_drop]
    omega
  · simp
theorem lensF_okR {bs : List Int} {r : Rd} (ok : okR bs r) : okR bs (lensF bs r).1 := by
  have := (lens_ok ok).2.2.2.2
  unfold lensF
  split
  · exact bd_ok this
  · exact this

section
variable {bs : List Int} {dl room sz : Nat}
theorem stL_len : ∀ {n : Nat} {r : Rd} {al : List Int}, dl ≤ al.length → al.length ≤ dl + room → dl ≤ (stL bs dl room n r al).2.length ∧ (stL bs dl room n r al).2.length ≤ dl + room
  | 0, r, al, h1, h2 => ⟨h1, h2⟩
  | n + 1, r, al, h1, h2 => by
    unfold stL
    split
    · have := tell_len (r := (tk bs 8 r).1) (d := [(tk bs 8 r).2]) h1 h2
      exact stL_len this.1 this.2
    · exact ⟨h1, h2⟩
theorem syF_len {cl cd : List (Nat × Nat)} : ∀ {f : Nat} {r : Rd} {al : List Int}, dl ≤ al.length → al.length ≤ dl + room → dl ≤ (syF bs cl cd dl room sz f r al).2.length ∧ (syF bs cl cd dl room sz f r al).2.length ≤ dl + room
  | 0, r, al, h1, h2 => ⟨h1, h2⟩
  | f + 1, r, al, h1, h2 => by
    unfold syF
    split
    · split
      · exact ⟨h1, h2⟩
      · have := sy1_len (bs := bs) (cd := cd) (sz := sz) (r := (sy bs cl r).1) (x := (sy bs cl r).2) h1 h2
        exact syF_len this.1 this.2
    · exact ⟨h1, h2⟩
theorem syF_le {cl cd : List (Nat × Nat)} : ∀ {f : Nat} {r : Rd} {al : List Int}, le2 r (syF bs cl cd dl room sz f r al).1
  | 0, r, al => le2.refl
  | f + 1, r, al => by
    unfold syF
    split
    · split
      · exact sy_le
      · exact (sy_le.trans sy1_le).trans syF_le
    · exact le2.refl
theorem syF_ok {cl cd : List (Nat × Nat)} : ∀ {f : Nat} {r : Rd} {al : List Int}, okR bs r → okR bs (syF bs cl cd dl room sz f r al).1
  | 0, r, al, H => H
  | f + 1, r, al, H => by
    unfold syF
    split
    · split
      · exact sy_ok H
      · exact syF_ok (sy1_ok (sy_ok H))
    · exact H
theorem sm_le {r : Rd} : ∀ {k : Nat}, le2 r (sm bs r k).1
  | 0 => le2.refl
  | k + 1 => sm_le.trans tk_le
theorem rp_le {r : Rd} {all : List Int} {x : Int} : le2 r (rp bs r all x).1 := by
  unfold rp
  split
  · exact bd_le.trans tk_le
  · split
    · exact tk_le
    · split
      · exact tk_le
      · exact le2.refl
theorem lg1_le {cs : List (Nat × Nat)} {tot : Nat} {r : Rd} {all : List Int} : le2 r (lg1 bs cs tot r all).1 := by
  unfold lg1
  split
  · exact (sy_le.trans rp_le).trans bd_le
  · exact sy_le
theorem lg_le {cs : List (Nat × Nat)} {tot : Nat} : ∀ {n : Nat} {r : Rd} {all : List Int}, tot - all.length ≤ n → le2 r (lg bs cs tot r all).1
  | 0, r, all, hn => by rw [lg_end (fun e => by omega)]; exact le2.refl
  | n + 1, r, all, hn => by
    by_cases h : r.k = 0 ∧ all.length < tot
    · rw [lg_step h]
      by_cases hk : (lg1 bs cs tot r all).1.k = 0
      · have := (lg1_len (bs := bs) (cs := cs) (tot := tot) (r := r) (all := all)).2.2 hk
        exact lg1_le.trans (lg_le (n := n) (by omega))
      · rw [lg_end (fun e => hk e.1)]; exact lg1_le
    · rw [lg_end h]; exact le2.refl
theorem lensF_le {r : Rd} : le2 r (lensF bs r).1 := by
  have h0 : le2 r (lens0 bs r) := tk_le.trans bd_le
  have h1 : le2 r (lens1 bs r) := h0.trans (tk_le.trans bd_le)
  have h2 : le2 r (lens2 bs r).1 := h1.trans (tk_le.trans sm_le)
  have h3 : le2 r (lens3 bs r) := h2.trans bd_le
  have h4 : le2 r (lens4 bs r).1 := h3.trans (lg_le (Nat.le_refl _))
  unfold lensF
  split
  · exact h4.trans bd_le
  · exact h4
theorem lensF_good {r : Rd} (h : (lensF bs r).1.k = 0) : ¬ (hkind (lensF bs r).2.1 = 0 ∨ hkind (lensF bs r).2.1 = 2) ∧ ¬ (hkind (lensF bs r).2.2 = 0 ∨ hkind (lensF bs r).2.2 = 2) := by
  unfold lensF at h ⊢
  split
  · rename_i hk
    rw [if_pos hk] at h
    have hb := (bd_k.1 h).2
    simp only
    unfold badL at hb
    simp only [Bool.or_eq_false_iff, Bool.not_eq_false', Bool.or_eq_true, beq_iff_eq] at hb
    omega
  · rename_i hk
    rw [if_neg hk] at h
    exact absurd h hk
end

/-! ### Blocks -/
def fixD : List Int := List.replicate 32 5
theorem fixD_kind : hkind fixD = 1 := by decide +kernel
def bk1 (bs : List Int) (r : Rd) : Rd × Int := tk bs 1 r
def bk2 (bs : List Int) (r : Rd) : Rd × Int := tk bs 2 (bk1 bs r).1
def bk3 (bs : List Int) (r : Rd) : Rd := bd ((bk2 bs r).2 == 3) (bk2 bs r).1
def blk (bs : List Int) (dl room sz F : Nat) (r : Rd) (al : List Int) : Rd × List Int :=
  if (bk3 bs r).k ≠ 0 then (bk3 bs r, al)
  else if (bk2 bs r).2 = 0 then stF bs dl room (bk3 bs r) al
  else if (bk2 bs r).2 = 1 then syF bs (codesN fixL) (codesN fixD) dl room sz F (bk3 bs r) al
  else if (lensF bs (bk3 bs r)).1.k ≠ 0 then ((lensF bs (bk3 bs r)).1, al)
  else syF bs (codesN (lensF bs (bk3 bs r)).2.1) (codesN (lensF bs (bk3 bs r)).2.2) dl room sz F (lensF bs (bk3 bs r)).1 al
def blF (bs : List Int) (dl room sz F : Nat) : Nat → Rd → List Int → Rd × List Int
  | 0, r, al => (r, al)
  | f + 1, r, al => if r.k = 0 then (if (bk1 bs r).2 ≠ 0 then blk bs dl room sz F r al else blF bs dl room sz F f (blk bs dl room sz F r al).1 (blk bs dl room sz F r al).2) else (r, al)

section
variable {bs : List Int} {dl room sz F : Nat} {r : Rd} {al : List Int}
theorem tk_add {n : Nat} {r : Rd} (h : (tk bs n r).1.k = 0) : (tk bs n r).1.i = r.i + n := by
  have h0 := tk_k h
  unfold tk at h ⊢
  rw [if_pos h0] at h ⊢
  split
  · rename_i hgt; rw [if_pos hgt] at h; cases h
  · rfl
theorem bk3_lt (h : (bk3 bs r).k = 0) : r.k = 0 ∧ r.i + 3 ≤ (bk3 bs r).i := by
  have h3 := bd_le (w := (bk2 bs r).2 == 3) (r := (bk2 bs r).1) h
  have h2 := tk_add (bs := bs) (n := 2) (r := (bk1 bs r).1) h3.1
  have h1 := tk_k (bs := bs) (n := 2) (r := (bk1 bs r).1) h3.1
  have h0 := tk_add (bs := bs) (n := 1) (r := r) h1
  refine ⟨tk_k h1, ?_⟩
  have e1 : (bk2 bs r).1.i = (bk1 bs r).1.i + 2 := h2
  have e0 : (bk1 bs r).1.i = r.i + 1 := h0
  have e3 : (bk2 bs r).1.i ≤ (bk3 bs r).i := h3.2
  omega
theorem stF_le : le2 r (stF bs dl room r al).1 := (((alg_le.trans tk_le).trans tk_le).trans bd_le).trans stL_le
theorem stF_ok (H : okR bs r) : okR bs (stF bs dl room r al).1 := stL_ok (bd_ok (tk_ok (tk_ok (alg_ok H))))
theorem blk_le : le2 (bk3 bs r) (blk bs dl room sz F r al).1 := by
  unfold blk
  split
  · exact le2.refl
  · split
    · exact stF_le
    · split
      · exact syF_le
      · split
        · exact lensF_le
        · exact lensF_le.trans syF_le
theorem bk3_ok (H : okR bs r) : okR bs (bk3 bs r) := bd_ok (tk_ok (tk_ok H))
theorem blk_ok (H : okR bs r) : okR bs (blk bs dl room sz F r al).1 := by
  have h3 := bk3_ok H
  unfold blk
  split
  · exact h3
  · split
    · exact stF_ok h3
    · split
      · exact syF_ok h3
      · split
        · exact lensF_okR h3
        · exact syF_ok (lensF_okR h3)
theorem blk_len (h1 : dl ≤ al.length) (h2 : al.length ≤ dl + room) : dl ≤ (blk bs dl room sz F r al).2.length ∧ (blk bs dl room sz F r al).2.length ≤ dl + room := by
  unfold blk
  split
  · exact ⟨h1, h2⟩
  · split
    · exact stL_len h1 h2
    · split
      · exact syF_len h1 h2
      · split
        · exact ⟨h1, h2⟩
        · exact syF_len h1 h2
theorem blF_end {f : Nat} (h : r.k ≠ 0) : blF bs dl room sz F f r al = (r, al) := by
  cases f with
  | zero => rfl
  | succ f => rw [blF, if_neg h]
end
end

section
variable {S : Shared} {h h0 : Eng.Heap}

section
variable {a : Option Addr} {c : Nat} {bs : List Int} {dl sz room : Nat}
/-- Behind a stored block, or before a coded one. -/
def bl2F (bs : List Int) (dl room sz F : Nat) (r : Rd) (kd : Int) (al : List Int) : Rd × List Int :=
  if r.k = 0 ∧ 0 < kd then
    (if kd = 2 then (if (lensF bs r).1.k = 0 then syF bs (codesN (lensF bs r).2.1) (codesN (lensF bs r).2.2) dl room sz F (lensF bs r).1 al else ((lensF bs r).1, al))
     else (if r.k = 0 then syF bs (codesN fixL) (codesN fixD) dl room sz F r al else (r, al)))
  else (r, al)

/-- A stored block, or none. -/
def bl1F (bs : List Int) (dl room : Nat) (r : Rd) (kd : Int) (al : List Int) : Rd × List Int := if r.k = 0 ∧ kd = 0 then stF bs dl room r al else (r, al)
theorem blk_eq {F : Nat} {r : Rd} {al : List Int} : blk bs dl room sz F r al = bl2F bs dl room sz F (bl1F bs dl room (bk3 bs r) (bk2 bs r).2 al).1 (bk2 bs r).2 (bl1F bs dl room (bk3 bs r) (bk2 bs r).2 al).2 := by
  have n2 := tk_num (bs := bs) (n := 2) (r := (bk1 bs r).1)
  have q2 : (2 : Int) ^ 2 = 4 := by decide
  have e2 : (tk bs 2 (bk1 bs r).1).2 = (bk2 bs r).2 := rfl
  rw [e2, q2] at n2
  have h3 : (bk3 bs r).k = 0 → (bk2 bs r).2 ≠ 3 := fun h e => by
    have := (bd_k.1 (show (bd ((bk2 bs r).2 == 3) (bk2 bs r).1).k = 0 from h)).2
    rw [e] at this; cases this
  unfold blk bl1F
  by_cases hk : (bk3 bs r).k = 0
  · have h3 := h3 hk
    rw [if_neg (show ¬ (bk3 bs r).k ≠ 0 from fun h => h hk)]
    by_cases h0 : (bk2 bs r).2 = 0
    · rw [if_pos h0, if_pos (show (bk3 bs r).k = 0 ∧ (bk2 bs r).2 = 0 from ⟨hk, h0⟩)]
      unfold bl2F
      rw [if_neg (fun h => by omega)]
    · rw [if_neg h0, if_neg (show ¬ ((bk3 bs r).k = 0 ∧ (bk2 bs r).2 = 0) from fun h => h0 h.2)]
      unfold bl2F
      simp only
      rw [if_pos (show (bk3 bs r).k = 0 ∧ 0 < (bk2 bs r).2 from ⟨hk, by omega⟩)]
      by_cases h1 : (bk2 bs r).2 = 1
      · rw [if_pos h1, if_neg (show ¬ (bk2 bs r).2 = 2 by omega), if_pos hk]
      · rw [if_neg h1, if_pos (show (bk2 bs r).2 = 2 by omega)]
        by_cases hL : (lensF bs (bk3 bs r)).1.k = 0
        · rw [if_neg (show ¬ (lensF bs (bk3 bs r)).1.k ≠ 0 from fun h => h hL), if_pos hL]
        · rw [if_pos (show (lensF bs (bk3 bs r)).1.k ≠ 0 from hL), if_neg hL]
  · rw [if_pos (show (bk3 bs r).k ≠ 0 from hk), if_neg (show ¬ ((bk3 bs r).k = 0 ∧ (bk2 bs r).2 = 0) from fun h => hk h.1)]
    unfold bl2F
    rw [if_neg (fun h => hk h.1)]
end

end

section
variable {S : Shared} {h h0 : Eng.Heap}

/-- The whole stream: the last place, and what is told with the dictionary's part ahead. -/
def infF (bs : List Int) (n : Nat) (ds : List Int) : Rd × List Int := blF bs (lastN n ds).length 100000 n (8 * bs.length + 1) (8 * bs.length + 1) ⟨0, 0⟩ (lastN n ds)
def ans_Inflate (bs : List Int) (n : Int) (ds : List Int) : XInfRes :=
  if bs.length > 65536 then (7, [], 0, ())
  else if n < 1 ∨ n > 32768 then (3, [], 0, ())
  else if (infF bs n.toNat ds).1.k ≠ 0 then ((infF bs n.toNat ds).1.k, (infF bs n.toNat ds).2.drop (lastN n.toNat ds).length, 0, ())
  else (1, (infF bs n.toNat ds).2.drop (lastN n.toNat ds).length, (infF bs n.toNat ds).1.i, ())

theorem blF_len {bs : List Int} {dl room sz F : Nat} : ∀ {f : Nat} {r : Rd} {al : List Int}, dl ≤ al.length → al.length ≤ dl + room → dl ≤ (blF bs dl room sz F f r al).2.length ∧ (blF bs dl room sz F f r al).2.length ≤ dl + room
  | 0, r, al, h1, h2 => ⟨h1, h2⟩
  | f + 1, r, al, h1, h2 => by
    have := blk_len (bs := bs) (sz := sz) (F := F) (r := r) h1 h2
    unfold blF
    split
    · split
      · exact this
      · exact blF_len this.1 this.2
    · exact ⟨h1, h2⟩
theorem blF_ok {bs : List Int} {dl room sz F : Nat} : ∀ {f : Nat} {r : Rd} {al : List Int}, okR bs r → okR bs (blF bs dl room sz F f r al).1
  | 0, r, al, H => H
  | f + 1, r, al, H => by
    unfold blF
    split
    · split
      · exact blk_ok H
      · exact blF_ok (blk_ok H)
    · exact H

theorem inf_none {k : Int} {h' : Eng.Heap} (s : Eng.Sub h0 h') : tInfRes.O h' (.agg #[.int .i64 k, .slice none 0 0, .int .i64 0]) (k, [], 0, ()) ∧ tInfRes.New h0 (.agg #[.int .i64 k, .slice none 0 0, .int .i64 0]) ∧ Eng.Sub h0 h' :=
  ⟨tInfRes_mkO (x := (k, [], 0, ())) Part.nil, fun b hb => (by have := (tInfRes_B (x := (k, [], 0, ()))).1 hb; cases this), s⟩
theorem inf_mk {k n : Int} {xs : List Int} {v : Value} {h' : Eng.Heap} (P : Part .u8 h' v xs) (N : Eng.New h0 v) (s : Eng.Sub h0 h') : tInfRes.O h' (.agg #[.int .i64 k, v, .int .i64 n]) (k, xs, n, ()) ∧ tInfRes.New h0 (.agg #[.int .i64 k, v, .int .i64 n]) ∧ Eng.Sub h0 h' :=
  ⟨tInfRes_mkO (x := (k, xs, n, ())) P, fun b hb => N b ((tInfRes_B (x := (k, xs, n, ()))).1 hb), s⟩

theorem inf_facts {bs ds : List Int} {n : Nat} (hn : n ≤ 32768) : (lastN n ds).length ≤ 32768 ∧ (lastN n ds).length ≤ (infF bs n ds).2.length ∧ (infF bs n ds).2.length ≤ (lastN n ds).length + 100000 := by
  have h1 : (lastN n ds).length ≤ 32768 := by rw [lastN_len]; omega
  have := blF_len (bs := bs) (dl := (lastN n ds).length) (room := 100000) (sz := n) (F := 8 * bs.length + 1) (f := 8 * bs.length + 1) (r := ⟨0, 0⟩) (al := lastN n ds) (Nat.le_refl _) (by omega)
  exact ⟨h1, this.1, this.2⟩
theorem sm_Inflate {bs ds : List Int} {n : Int} (L : limB bs) (L2 : limB ds) : smInfRes (ans_Inflate bs n ds) := by
  unfold ans_Inflate
  split
  · simp [smInfRes, smB]
  · split
    · simp [smInfRes, smB]
    · obtain ⟨h1, h2, h3⟩ := inf_facts (bs := bs) (ds := ds) (n := n.toNat) (by omega)
      split
      · show List.length (List.drop _ _) ≤ _; rw [List.length_drop]; omega
      · show List.length (List.drop _ _) ≤ _; rw [List.length_drop]; omega

end
end Go.Proofs.YteaonnfokkfnlaaDoor
