import Derived.Test.YtmnialmphlbmaaaDoorKRdL2
import Derived.Test.YtmnialmphlbmaaaDoorTrIS
import Derived.Test.YtmnialmphlbmaaaDoorKHuff
import Derived.Test.YtmnialmphlbmaaaDoorTyB
import Derived.Test.YtmnialmphlbmaaaDoorKFix
import Derived.Test.YtmnialmphlbmaaaDoorCutspecl5Blocks
import Derived.Test.YtmnialmphlbmaaaDoorKRingM
import Derived.Test.YtmnialmphlbmaaaDoorTyInfRes
set_option linter.unusedVariables false
set_option linter.unusedSimpArgs false
namespace Go.Proofs.YtmnialmphlbmaaaDoor
open Go Go.Eng Go.IntWalk
section
variable {S : Shared} {h h0 : Eng.Heap}

/-! ### A stream, plainly: al is the dictionary's part (dl numbers) and what was told behind it -/
def tell (dl room : Nat) (r : Rd) (al d : List Int) : Rd × List Int :=
  if r.k = 0 then (if room < al.length - dl + d.length then (⟨r.i, 6⟩, al) else (r, al ++ d)) else (r, al)
def alg (r : Rd) : Rd := if r.k = 0 then ⟨(r.i + 7) / 8 * 8, 0⟩ else r
/-- n bytes of a stored block. -/
def stL (bs : List Int) (dl room : Nat) : Nat → Rd → List Int → Rd × List Int
  | 0, r, al => (r, al)
  | n + 1, r, al => if r.k = 0 then stL bs dl room n (tell dl room (tk bs 8 r).1 al [(tk bs 8 r).2]).1 (tell dl room (tk bs 8 r).1 al [(tk bs 8 r).2]).2 else (r, al)
def stN (bs : List Int) (r : Rd) : Int := (tk bs 16 (alg r)).2
def stR (bs : List Int) (r : Rd) : Rd := bd ((tk bs 16 (tk bs 16 (alg r)).1).2 != 65535 - stN bs r) (tk bs 16 (tk bs 16 (alg r)).1).1
def stF (bs : List Int) (dl room : Nat) (r : Rd) (al : List Int) : Rd × List Int := stL bs dl room (stN bs r).toNat (stR bs r) al
/-- The base and the extra bits of a copy's length, and of its distance. -/
def lenB (s : Nat) : Nat × Nat := if s = 285 then (258, 0) else if s < 265 then (s - 254, 0) else ((4 + (s - 265) % 4) * 2 ^ ((s - 265) / 4 + 1) + 3, (s - 265) / 4 + 1)
def disB (d : Nat) : Nat × Nat := if d < 4 then (d + 1, 0) else ((2 + d % 2) * 2 ^ (d / 2 - 1) + 1, d / 2 - 1)
/-- n bytes from dist back. -/
def cpD (al : List Int) (dist n : Nat) : List Int := (List.range n).map fun k => al.getD (al.length - dist + k % dist) 0
/-- A copy: its length, its distance. -/
def cp1 (bs : List Int) (r : Rd) (s : Nat) : Rd × Int := tk bs (lenB s).2 r
def cp2 (bs : List Int) (cd : List (Nat × Nat)) (r : Rd) (s : Nat) : Rd × Int := sy bs cd (cp1 bs r s).1
def cp3 (bs : List Int) (cd : List (Nat × Nat)) (r : Rd) (s : Nat) : Rd := bd (decide (29 < (cp2 bs cd r s).2)) (cp2 bs cd r s).1
def cp4 (bs : List Int) (cd : List (Nat × Nat)) (r : Rd) (s : Nat) : Rd × Int := tk bs (disB (cp2 bs cd r s).2.toNat).2 (cp3 bs cd r s)
def cpDist (bs : List Int) (cd : List (Nat × Nat)) (r : Rd) (s : Nat) : Nat := (disB (cp2 bs cd r s).2.toNat).1 + (cp4 bs cd r s).2.toNat
def cpLen (bs : List Int) (r : Rd) (s : Nat) : Nat := (lenB s).1 + (cp1 bs r s).2.toNat
def cp5 (bs : List Int) (cd : List (Nat × Nat)) (sz : Nat) (r : Rd) (al : List Int) (s : Nat) : Rd := bd (decide (al.length < cpDist bs cd r s) || decide (sz < cpDist bs cd r s)) (cp4 bs cd r s).1
def cpF (bs : List Int) (cd : List (Nat × Nat)) (dl room sz : Nat) (r : Rd) (al : List Int) (s : Nat) : Rd × List Int :=
  if (cp3 bs cd r s).k ≠ 0 then (cp3 bs cd r s, al)
  else if (cp5 bs cd sz r al s).k ≠ 0 then (cp5 bs cd sz r al s, al)
  else tell dl room (cp5 bs cd sz r al s) al (cpD al (cpDist bs cd r s) (cpLen bs r s))
/-- Behind a symbol that is told or copied. -/
def sy1 (bs : List Int) (cd : List (Nat × Nat)) (dl room sz : Nat) (r : Rd) (al : List Int) (x : Int) : Rd × List Int :=
  if x < 256 then tell dl room r al [x] else if 285 < x then (bd true r, al) else cpF bs cd dl room sz r al x.toNat
def syF (bs : List Int) (cl cd : List (Nat × Nat)) (dl room sz : Nat) : Nat → Rd → List Int → Rd × List Int
  | 0, r, al => (r, al)
  | f + 1, r, al => if r.k = 0 then
      (if (sy bs cl r).1.k ≠ 0 ∨ (sy bs cl r).2 = 256 then ((sy bs cl r).1, al)
       else syF bs cl cd dl room sz f (sy1 bs cd dl room sz (sy bs cl r).1 al (sy bs cl r).2).1 (sy1 bs cd dl room sz (sy bs cl r).1 al (sy bs cl r).2).2)
    else (r, al)

/-! ### Places go forth only -/
def le2 (r r' : Rd) : Prop := r'.k = 0 → r.k = 0 ∧ r.i ≤ r'.i
theorem le2.refl {r : Rd} : le2 r r := fun h => ⟨h, Int.le_refl _⟩
theorem le2.trans {a b c : Rd} (H : le2 a b) (G : le2 b c) : le2 a c := fun h => by
  obtain ⟨h1, h2⟩ := G h
  obtain ⟨h3, h4⟩ := H h1
  exact ⟨h3, Int.le_trans h4 h2⟩
theorem tk_le {bs : List Int} {n : Nat} {r : Rd} : le2 r (tk bs n r).1 := fun h => by
  have h0 := tk_k h
  refine ⟨h0, ?_⟩
  unfold tk at h ⊢
  rw [if_pos h0] at h ⊢
  split
  · rename_i hgt; rw [if_pos hgt] at h; cases h
  · simp only; omega
theorem bd_le {w : Bool} {r : Rd} : le2 r (bd w r) := fun h => by
  obtain ⟨h1, h2⟩ := bd_k.1 h
  refine ⟨h1, ?_⟩
  unfold bd
  rw [if_neg (fun e => by rw [h2] at e; cases e.2)]
  exact Int.le_refl _
theorem tell_le {dl room : Nat} {r : Rd} {al d : List Int} : le2 r (tell dl room r al d).1 := fun h => by
  unfold tell at h ⊢
  split
  · rename_i h0
    rw [if_pos h0] at h
    split
    · rename_i hgt; rw [if_pos hgt] at h; cases h
    · exact ⟨h0, Int.le_refl _⟩
  · rename_i h0; rw [if_neg h0] at h; exact absurd h h0
theorem tell_ok {bs : List Int} {dl room : Nat} {r : Rd} {al d : List Int} (H : okR bs r) : okR bs (tell dl room r al d).1 := by
  unfold tell
  split
  · split
    · intro h; cases h
    · exact H
  · exact H
theorem alg_ok {bs : List Int} {r : Rd} (H : okR bs r) : okR bs (alg r) := by
  unfold alg
  split
  · rename_i h0
    have := H h0
    intro _; simp only; omega
  · exact H
theorem alg_le {r : Rd} : le2 r (alg r) := fun h => by
  unfold alg at h ⊢
  split
  · rename_i h0; exact ⟨h0, by simp only; omega⟩
  · rename_i h0; rw [if_neg h0] at h; exact absurd h h0
/-- A symbol takes a bit at least. -/
theorem sy_lt {bs : List Int} {cs : List (Nat × Nat)} {r : Rd} (h : (sy bs cs r).1.k = 0) : r.k = 0 ∧ r.i + 1 ≤ (sy bs cs r).1.i := by
  unfold sy at h ⊢
  by_cases h0 : r.k = 0
  · rw [if_pos h0] at h ⊢
    refine ⟨h0, ?_⟩
    have hf := nxB_facts (bs := bs) (cs := cs) (i := r.i.toNat)
    simp only at h ⊢
    rcases hf with hf | hf
    · omega
    · rcases hf.1 with e | e
      · rw [e] at h; simp at h
      · rw [e] at h; simp at h
  · rw [if_neg h0] at h; exact absurd h h0
theorem sy_le {bs : List Int} {cs : List (Nat × Nat)} {r : Rd} : le2 r (sy bs cs r).1 := fun h => by
  have := sy_lt h; exact ⟨this.1, by omega⟩
theorem cpF_le {bs : List Int} {cd : List (Nat × Nat)} {dl room sz : Nat} {r : Rd} {al : List Int} {s : Nat} : le2 r (cpF bs cd dl room sz r al s).1 := by
  have h3 : le2 r (cp3 bs cd r s) := (tk_le.trans sy_le).trans bd_le
  have h5 : le2 r (cp5 bs cd sz r al s) := h3.trans (tk_le.trans bd_le)
  unfold cpF
  split
  · exact h3
  · split
    · exact h5
    · exact h5.trans tell_le
theorem cpF_ok {bs : List Int} {cd : List (Nat × Nat)} {dl room sz : Nat} {r : Rd} {al : List Int} {s : Nat} (H : okR bs r) : okR bs (cpF bs cd dl room sz r al s).1 := by
  have h3 : okR bs (cp3 bs cd r s) := bd_ok (sy_ok (tk_ok H))
  have h5 : okR bs (cp5 bs cd sz r al s) := bd_ok (tk_ok h3)
  unfold cpF
  split
  · exact h3
  · split
    · exact h5
    · exact tell_ok h5
theorem sy1_le {bs : List Int} {cd : List (Nat × Nat)} {dl room sz : Nat} {r : Rd} {al : List Int} {x : Int} : le2 r (sy1 bs cd dl room sz r al x).1 := by
  unfold sy1
  split
  · exact tell_le
  · split
    · exact bd_le
    · exact cpF_le
theorem sy1_ok {bs : List Int} {cd : List (Nat × Nat)} {dl room sz : Nat} {r : Rd} {al : List Int} {x : Int} (H : okR bs r) : okR bs (sy1 bs cd dl room sz r al x).1 := by
  unfold sy1
  split
  · exact tell_ok H
  · split
    · exact bd_ok H
    · exact cpF_ok H
theorem stL_ok {bs : List Int} {dl room : Nat} : ∀ {n : Nat} {r : Rd} {al : List Int}, okR bs r → okR bs (stL bs dl room n r al).1
  | 0, r, al, H => H
  | n + 1, r, al, H => by
    unfold stL
    split
    · exact stL_ok (tell_ok (tk_ok H))
    · exact H
theorem stL_le {bs : List Int} {dl room : Nat} : ∀ {n : Nat} {r : Rd} {al : List Int}, le2 r (stL bs dl room n r al).1
  | 0, r, al => le2.refl
  | n + 1, r, al => by
    unfold stL
    split
    · exact (tk_le.trans tell_le).trans stL_le
    · exact le2.refl
end

section
variable {S : Shared} {h h0 : Eng.Heap}

def LB : Nat → Nat × Nat
  | 0 => (3, 0)
  | j + 1 => (if 0 < j then (LB j).1 + 2 ^ (LB j).2 else (LB j).1, if 8 ≤ j then (j - 4) / 4 else 0)
theorem LB_len : ∀ s : Fin 285, 257 ≤ s.1 → LB (s.1 - 257 + 1) = lenB s.1 := by decide +kernel
theorem LB_le : ∀ j : Fin 29, (LB j.1).1 ≤ 300 ∧ (LB j.1).2 ≤ 6 := by decide +kernel
theorem lenB_le : ∀ s : Fin 286, 257 ≤ s.1 → 3 ≤ (lenB s.1).1 ∧ (lenB s.1).1 ≤ 258 ∧ (lenB s.1).2 ≤ 5 := by decide +kernel
theorem disB_le : ∀ d : Fin 30, 1 ≤ (disB d.1).1 ∧ (disB d.1).1 ≤ 24577 ∧ (disB d.1).2 ≤ 13 := by decide +kernel

set_option maxRecDepth 100000 in
set_option maxHeartbeats 1000000 in
theorem k_l5Length (hi : Eng.Inv S h) (s : Nat) (h1 : 257 ≤ s) (h2 : s ≤ 285) :
    CallsH Tryd.prog S F_spec_l5Length #[.int .i64 s] h (fun v h' => v = .tuple #[.int .i64 (lenB s).1, .int .i64 (lenB s).2] ∧ h' = h) := by
  refine run_spec_l5Length (vs := [.int .i64 s]) ⟨rfl, trivial⟩ hi ?_
  simp only [t_spec_l5Length, Tr.wp, mksW, callW, Ex.ev, coerce, toInt_int, toBool_bool, slL_sl, slC_sl, slA_sl, toAddr_ptr, ptrOf_ptr, isNil_sl, isNil_ptr, it_and, it_or, it_int, optN_int, optN_nl, cmpI, arith, Cst.val, SV.den, resShs, resV, resSV, resVals, newVars, runCells, exSh, allSh, cellsAre, storeW, List.flatMap_cons, List.flatMap_nil, List.replicate_one, List.getD_cons_zero, List.getD_cons_succ, List.getElem?_cons_zero, List.getElem?_cons_succ, decide_eq_true_eq, decide_eq_false_iff_not, List.map_cons, List.map_nil, List.cons_append, List.nil_append, List.append_nil, List.length_cons, List.length_nil, Nat.zero_add, Nat.add_zero, and_true, true_and, if_true, if_false, Bool.false_eq_true]
  refine ⟨fun he => ?_, fun hne => ?_⟩
  · obtain rfl : s = 285 := by have : (s : Int) = 285 := beq_iff_eq.1 he; omega
    exact rfl
  · have hne : s ≠ 285 := fun e => by subst e; simp at hne
    refine ⟨fun us h' => ∃ j : Nat, us = [.int .i64 (LB j).1, .int .i64 (LB j).2, .int .i64 ((257 + j : Nat) : Int)] ∧ 257 + j ≤ s + 1 ∧ h' = h, fun us _ => 600 - (toInt (us.getD 2 undef)).toNat, ⟨0, rfl, by omega, rfl⟩, ?_⟩
    rintro x y z h' ⟨j, hx, hj, rfl⟩
    obtain ⟨rfl, rfl, rfl⟩ : x = (LB j).1 ∧ y = (LB j).2 ∧ z = ((257 + j : Nat) : Int) := by simpa using hx
    have hb := LB_le ⟨j, by omega⟩
    simp only at hb
    refine ⟨fun hle => ?_, fun hgt => ?_⟩
    · have w1 : IntKind.i64.wrap (((257 + j : Nat) : Int) + 1) = ((257 + (j + 1) : Nat) : Int) := by rw [i64_in _ (by omega)]; omega
      have hj2 : 257 + j ≤ s := by omega
      have eE : (if ((257 + j : Nat) : Int) ≥ 265 then IntKind.i64.wrap ((IntKind.i64.wrap (((257 + j : Nat) : Int) - 261)).tdiv 4) else 0) = ((LB (j + 1)).2 : Int) := by
        simp only [LB]
        by_cases h8 : 8 ≤ j
        · rw [if_pos (by omega), if_pos h8, i64_in (((257 + j : Nat) : Int) - 261) (by omega), Int.tdiv_eq_ediv_of_nonneg (by omega), i64_in _ (by omega)]; omega
        · rw [if_neg (by omega), if_neg h8]; rfl
      rw [w1, eE]
      have hp : (2 : Nat) ^ (LB j).2 ≤ 64 := Nat.le_trans (Nat.pow_le_pow_right (by decide) hb.2) (by decide)
      refine ⟨fun hgt => ?_, fun hngt _ => ?_⟩
      · refine (k_l3Pow hi _ (by omega) (by omega)).mono ?_
        rintro _ h3 ⟨rfl, rfl⟩
        rw [Int.toNat_natCast]
        refine ⟨_, rfl, fun _ => ⟨⟨j + 1, ?_, by omega, rfl⟩, by simp only [List.getD_cons_succ, List.getD_cons_zero, toInt_int]; omega⟩⟩
        have e1 : (LB (j + 1)).1 = (LB j).1 + 2 ^ (LB j).2 := by simp only [LB]; rw [if_pos (by omega)]
        rw [e1, i64_in _ (by omega)]; push_cast; rfl
      · refine ⟨⟨j + 1, ?_, by omega, rfl⟩, by simp only [List.getD_cons_succ, List.getD_cons_zero, toInt_int]; omega⟩
        have e1 : (LB (j + 1)).1 = (LB j).1 := by simp only [LB]; rw [if_neg (by omega)]
        rw [e1]
    · obtain rfl : j = s - 257 + 1 := by omega
      have := LB_len ⟨s, by omega⟩ h1
      simp only at this
      rw [this]
      exact ⟨rfl, rfl⟩

theorem k_l5Dist (hi : Eng.Inv S h) (d : Nat) (h1 : d ≤ 29) :
    CallsH Tryd.prog S F_spec_l5Dist #[.int .i64 d] h (fun v h' => v = .tuple #[.int .i64 (disB d).1, .int .i64 (disB d).2] ∧ h' = h) := by
  refine run_spec_l5Dist (vs := [.int .i64 d]) ⟨rfl, trivial⟩ hi ?_
  simp only [t_spec_l5Dist, Tr.wp, mksW, callW, Ex.ev, coerce, toInt_int, toBool_bool, slL_sl, slC_sl, slA_sl, toAddr_ptr, ptrOf_ptr, isNil_sl, isNil_ptr, it_and, it_or, it_int, optN_int, optN_nl, cmpI, arith, Cst.val, SV.den, resShs, resV, resSV, resVals, newVars, runCells, exSh, allSh, cellsAre, storeW, List.flatMap_cons, List.flatMap_nil, List.replicate_one, List.getD_cons_zero, List.getD_cons_succ, List.getElem?_cons_zero, List.getElem?_cons_succ, decide_eq_true_eq, decide_eq_false_iff_not, List.map_cons, List.map_nil, List.cons_append, List.nil_append, List.append_nil, List.length_cons, List.length_nil, Nat.zero_add, Nat.add_zero, and_true, true_and, if_true, if_false, Bool.false_eq_true]
  refine ⟨fun hlt => ?_, fun hge => ?_⟩
  · have e : disB d = (d + 1, 0) := by unfold disB; rw [if_pos (by omega)]
    rw [e, i64_in ((d : Int) + 1) (by omega)]
    first | exact rfl | (push_cast; rfl)
  · have e : disB d = ((2 + d % 2) * 2 ^ (d / 2 - 1) + 1, d / 2 - 1) := by unfold disB; rw [if_neg (by omega)]
    have w1 : IntKind.i64.wrap (IntKind.i64.wrap ((d : Int).tdiv 2) - 1) = ((d / 2 - 1 : Nat) : Int) := by
      rw [Int.tdiv_eq_ediv_of_nonneg (by omega), i64_in ((d : Int) / 2) (by omega), i64_in _ (by omega)]; omega
    have hp : (2 : Nat) ^ (d / 2 - 1) ≤ 8192 := Nat.le_trans (Nat.pow_le_pow_right (by decide) (show d / 2 - 1 ≤ 13 by omega)) (by decide)
    rw [w1]
    refine (k_l3Pow hi _ (by omega) (by omega)).mono ?_
    rintro _ h3 ⟨rfl, rfl⟩
    rw [Int.toNat_natCast]
    have wm : (d : Int).tmod 2 = ((d % 2 : Nat) : Int) := by rw [Int.tmod_eq_emod_of_nonneg (by omega)]; omega
    have w2 : IntKind.i64.wrap (2 + ((d % 2 : Nat) : Int)) = ((2 + d % 2 : Nat) : Int) := by rw [i64_in _ (by omega)]; omega
    have hle : (2 + d % 2) * 2 ^ (d / 2 - 1) ≤ 24576 := by
      have := Nat.mul_le_mul (show 2 + d % 2 ≤ 3 by omega) hp
      omega
    have w3 : IntKind.i64.wrap (((2 + d % 2 : Nat) : Int) * ((2 ^ (d / 2 - 1) : Nat) : Int)) = (((2 + d % 2) * 2 ^ (d / 2 - 1) : Nat) : Int) := by
      rw [← Int.natCast_mul]; exact i64_in _ (by omega)
    rw [wm, w2, e]
    refine ⟨_, rfl, ?_, rfl⟩
    rw [w3, i64_in ((((2 + d % 2) * 2 ^ (d / 2 - 1) : Nat) : Int) + 1) (by omega)]
    push_cast; rfl

/-- What was told, as it lies in memory. -/
def toldV (a : Option Addr) (c : Nat) (al : List Int) (dl sz room : Nat) : Value := .agg #[.slice a al.length c, .int .i64 dl, .int .i64 sz, .int .i64 room]
/-- A place and what was told, handed back. -/
def PostT (h0 : Eng.Heap) (a : Option Addr) (c : Nat) (bs : List Int) (dl sz room : Nat) (F : Rd × List Int) (v : Value) (h' : Eng.Heap) : Prop :=
  ∃ a' c', v = .tuple #[rdV a c bs F.1, toldV a' c' F.2 dl sz room] ∧ Part .u8 h' (.slice a' F.2.length c') F.2 ∧ Eng.New h0 (.slice a' F.2.length c') ∧ Eng.Sub h0 h'

set_option maxHeartbeats 1000000 in
theorem k_l5Tell (hi : Eng.Inv S h0) (s : Eng.Sub h0 h) (a : Option Addr) (c : Nat) (bs : List Int) (r : Rd) {aa : Option Addr} {ca : Nat} {al : List Int} (P : Part .u8 h (.slice aa al.length ca) al) (N : Eng.New h0 (.slice aa al.length ca)) {dl sz room : Nat} (hd : dl ≤ al.length) (hl : al.length ≤ 2000000) (hr : room ≤ 2000000)
    {ad : Option Addr} {cd : Nat} {d : List Int} (hx : HInts h .u8 ad d) (hdl : d.length ≤ 2000000) :
    CallsH Tryd.prog S F_spec_l5Tell #[rdV a c bs r, toldV aa ca al dl sz room, .slice ad d.length cd] h (PostT h0 a c bs dl sz room (tell dl room r al d)) := by
  refine run_spec_l5Tell (vs := [.slice a bs.length c, .int .i64 r.i, .int .i64 r.k, .slice aa al.length ca, .int .i64 dl, .int .i64 sz, .int .i64 room, .slice ad d.length cd]) ⟨rfl, rfl, rfl, rfl, rfl, rfl, rfl, rfl, trivial⟩ (hi.sub s) ?_
  simp only [t_spec_l5Tell, Tr.wp, mksW, callW, Ex.ev, coerce, toInt_int, toBool_bool, slL_sl, slC_sl, slA_sl, toAddr_ptr, ptrOf_ptr, isNil_sl, isNil_ptr, it_and, it_or, it_int, optN_int, optN_nl, cmpI, arith, Cst.val, SV.den, resShs, resV, resSV, resVals, newVars, runCells, exSh, allSh, cellsAre, List.flatMap_cons, List.flatMap_nil, List.replicate_one, List.getD_cons_zero, List.getD_cons_succ, List.getElem?_cons_zero, List.getElem?_cons_succ, decide_eq_true_eq, decide_eq_false_iff_not, List.map_cons, List.map_nil, List.cons_append, List.nil_append, List.append_nil, List.length_cons, List.length_nil, Nat.zero_add, Nat.add_zero, and_true, true_and, if_true, if_false, Bool.false_eq_true]
  have w1 : IntKind.i64.wrap ((al.length : Int) - dl) = ((al.length - dl : Nat) : Int) := by rw [i64_in _ (by omega)]; omega
  have w2 : IntKind.i64.wrap (((al.length - dl : Nat) : Int) + d.length) = ((al.length - dl + d.length : Nat) : Int) := by rw [i64_in _ (by omega)]; omega
  rw [w1, w2]
  by_cases h0k : r.k = 0
  · by_cases hroom : room < al.length - dl + d.length
    · have et : tell dl room r al d = (⟨r.i, 6⟩, al) := by unfold tell; rw [if_pos h0k, if_pos hroom]
      have ek : (if (decide ((r.k == 0) = true) && decide (((al.length - dl + d.length : Nat) : Int) > (room : Int))) = true then 6 else r.k) = 6 := by
        rw [if_pos]; simp [h0k]; omega
      rw [ek, et]
      exact ⟨fun h => by simp at h, fun _ _ => ⟨aa, ca, rfl, P, N, s⟩⟩
    · have et : tell dl room r al d = (r, al ++ d) := by unfold tell; rw [if_pos h0k, if_neg hroom]
      have ek : (if (decide ((r.k == 0) = true) && decide (((al.length - dl + d.length : Nat) : Int) > (room : Int))) = true then 6 else r.k) = r.k := by
        rw [if_neg]; simp [h0k]; omega
      rw [ek, et]
      refine ⟨fun _ => ?_, fun h => by rw [h0k] at h; cases h⟩
      refine appW_part hi s P N hx (by omega) fun v5 h5 o5 n5 s5 _ _ _ => ?_
      obtain ⟨a5, c5, rfl, _, _⟩ := o5.ints
      exact ⟨a5, c5, rfl, o5, n5, s5⟩
  · have et : tell dl room r al d = (r, al) := by unfold tell; rw [if_neg h0k]
    have ek : (if (decide ((r.k == 0) = true) && decide (((al.length - dl + d.length : Nat) : Int) > (room : Int))) = true then 6 else r.k) = r.k := by
      rw [if_neg]; simp [h0k]
    rw [ek, et]
    exact ⟨fun h => absurd (beq_iff_eq.1 h) h0k, fun _ _ => ⟨aa, ca, rfl, P, N, s⟩⟩

theorem tell_len {dl room : Nat} {r : Rd} {al d : List Int} (h1 : dl ≤ al.length) (h2 : al.length ≤ dl + room) : dl ≤ (tell dl room r al d).2.length ∧ (tell dl room r al d).2.length ≤ dl + room := by
  unfold tell
  split
  · split
    · exact ⟨h1, h2⟩
    · simp only [List.length_append]; omega
  · exact ⟨h1, h2⟩

set_option maxRecDepth 100000 in
set_option maxHeartbeats 2000000 in
theorem k_l5Stored (hi : Eng.Inv S h0) (s : Eng.Sub h0 h) {a : Option Addr} {c : Nat} {bs : List Int} (hx : HInts h0 .u8 a bs) (L : bs.length ≤ 1048576) (r : Rd) (ok : okR bs r) {aa : Option Addr} {ca : Nat} {al : List Int} (P : Part .u8 h (.slice aa al.length ca) al) (N : Eng.New h0 (.slice aa al.length ca)) {dl sz room : Nat} (hd : dl ≤ al.length) (hl : al.length ≤ dl + room) (hdl : dl ≤ 40000) (hr : room ≤ 100000) :
    CallsH Tryd.prog S F_spec_l5Stored #[rdV a c bs r, toldV aa ca al dl sz room] h (PostT h0 a c bs dl sz room (stF bs dl room r al)) := by
  refine run_spec_l5Stored (vs := [.slice a bs.length c, .int .i64 r.i, .int .i64 r.k, .slice aa al.length ca, .int .i64 dl, .int .i64 sz, .int .i64 room]) ⟨rfl, rfl, rfl, rfl, rfl, rfl, rfl, trivial⟩ (hi.sub s) ?_
  simp only [t_spec_l5Stored, Tr.wp, mksW, callW, Ex.ev, coerce, toInt_int, toBool_bool, slL_sl, slC_sl, slA_sl, toAddr_ptr, ptrOf_ptr, isNil_sl, isNil_ptr, it_and, it_or, it_int, optN_int, optN_nl, cmpI, arith, Cst.val, SV.den, resShs, resV, resSV, resVals, newVars, runCells, exSh, allSh, cellsAre, storeW, List.flatMap_cons, List.flatMap_nil, List.replicate_one, List.getD_cons_zero, List.getD_cons_succ, List.getElem?_cons_zero, List.getElem?_cons_succ, decide_eq_true_eq, decide_eq_false_iff_not, List.map_cons, List.map_nil, List.cons_append, List.nil_append, List.append_nil, List.length_cons, List.length_nil, Nat.zero_add, Nat.add_zero, and_true, true_and, if_true, if_false, Bool.false_eq_true]
  have oka := alg_ok ok
  have ea : (Value.agg #[.slice a bs.length c, .int .i64 (if (r.k == 0) = true then IntKind.i64.wrap (IntKind.i64.wrap ((IntKind.i64.wrap (r.i + 7)).tdiv 8) * 8) else r.i), .int .i64 r.k]) = rdV a c bs (alg r) := by
    unfold alg
    by_cases h0k : r.k = 0
    · have h8 := ok h0k
      rw [if_pos h0k, if_pos (by simpa using h0k), i64_in (r.i + 7) (by omega), Int.tdiv_eq_ediv_of_nonneg (by omega), i64_in ((r.i + 7) / 8) (by omega), i64_in _ (by omega), h0k]; rfl
    · rw [if_neg h0k, if_neg (by simpa using h0k)]; rfl
  rw [ea]
  have n16 := tk_num (bs := bs) (n := 16) (r := alg r)
  have q16 : (2 : Int) ^ 16 = 65536 := by decide
  refine (k_l5Take (hi.sub s) (hx.sub s) L (alg r) oka 16 (by omega)).mono ?_
  rintro _ h1 ⟨rfl, rfl⟩
  refine ⟨_, _, _, _, _, _, rfl, ?_⟩
  refine (k_l5Take (hi.sub s) (hx.sub s) L (tk bs 16 (alg r)).1 (tk_ok oka) 16 (by omega)).mono ?_
  rintro _ h1 ⟨rfl, rfl⟩
  refine ⟨_, _, _, _, _, _, rfl, ?_⟩
  have w1 : IntKind.i64.wrap (65535 - (tk bs 16 (alg r)).2) = 65535 - (tk bs 16 (alg r)).2 := i64_in _ (by omega)
  rw [w1]
  refine (k_l5Bad (hi.sub s) a c bs (tk bs 16 (tk bs 16 (alg r)).1).1 _).mono ?_
  rintro _ h1 ⟨rfl, rfl⟩
  refine ⟨_, _, _, _, _, rfl, ?_⟩
  have okR3 : okR bs (stR bs r) := bd_ok (tk_ok (tk_ok oka))
  have eR : bd ((tk bs 16 (tk bs 16 (alg r)).1).2 != 65535 - (tk bs 16 (alg r)).2) (tk bs 16 (tk bs 16 (alg r)).1).1 = stR bs r := rfl
  obtain ⟨n, hn⟩ : ∃ n : Nat, n = (stN bs r).toNat := ⟨_, rfl⟩
  have en : (tk bs 16 (alg r)).2 = (n : Int) := by rw [hn]; unfold stN; omega
  have hnl : n < 65536 := by omega
  rw [eR, en]
  refine ⟨fun us h' => ∃ (j : Nat) (z : Int) (r' : Rd) (al' : List Int) (a' : Option Addr) (c' : Nat), us = [.int .i64 z, .int .i64 j, .slice a bs.length c, .int .i64 r'.i, .int .i64 r'.k, .slice a' al'.length c', .int .i64 dl, .int .i64 sz, .int .i64 room] ∧ j ≤ n ∧ okR bs r' ∧ Part .u8 h' (.slice a' al'.length c') al' ∧ Eng.New h0 (.slice a' al'.length c') ∧ Eng.Sub h0 h' ∧ (dl ≤ al'.length ∧ al'.length ≤ dl + room) ∧ stF bs dl room r al = stL bs dl room (n - j) r' al',
    fun us _ => n - (toInt (us.getD 1 undef)).toNat, ⟨0, 0, stR bs r, al, aa, ca, rfl, by omega, okR3, P, N, s, ⟨hd, hl⟩, by rw [hn]; rfl⟩, ?_⟩
  rintro z y a1 l1 c1 i1 k1 a2 l2 c2 x4 x5 x6 h' ⟨j, z', r', al', a', c', hx1, hj, ok', P', N', s', hl', e'⟩
  simp only [List.cons.injEq, Value.int.injEq, Value.slice.injEq, true_and, and_true] at hx1
  obtain ⟨rfl, rfl, ⟨rfl, rfl, rfl⟩, rfl, rfl, ⟨rfl, rfl, rfl⟩, rfl, rfl, rfl⟩ := hx1
  rw [e']
  refine ⟨fun hlt => ?_, fun hge => ?_⟩
  · have hlt : j < n ∧ r'.k = 0 := by simp at hlt; omega
    have n8 := tk_num (bs := bs) (n := 8) (r := r')
    have q8 : (2 : Int) ^ 8 = 256 := by decide
    refine (k_l5Take (hi.sub s') (hx.sub s') L r' ok' 8 (by omega)).mono ?_
    rintro _ h2 ⟨rfl, rfl⟩
    refine ⟨_, _, _, _, _, _, rfl, fun b hb => ?_⟩
    have wb : IntKind.u8.wrap (tk bs 8 r').2 = (tk bs 8 r').2 := by rw [IntKind.wrap_u8]; omega
    rw [wb]
    have sb : Eng.Sub h2 (upd h2 b (.cells (ints .u8 [(tk bs 8 r').2]) 5)) := Sub.of_upd hb
    have K := k_l5Tell (d := [(tk bs 8 r').2]) (ad := some ⟨b, 0, none⟩) (cd := 1) (dl := dl) (sz := sz) (room := room) hi (s'.trans sb) a1 c1 bs (tk bs 8 r').1 (P'.sub sb) N' hl'.1 (by omega) (by omega) HInts.new (by simp)
    refine CallsH.mono K ?_
    rintro _ h4 ⟨a4, c4, rfl, P4, N4, s4⟩
    have el : stL bs dl room (n - j) r' al' = stL bs dl room (n - (j + 1)) (tell dl room (tk bs 8 r').1 al' [(tk bs 8 r').2]).1 (tell dl room (tk bs 8 r').1 al' [(tk bs 8 r').2]).2 := by
      rw [show n - j = (n - (j + 1)) + 1 by omega, stL, if_pos hlt.2]
    have wj : IntKind.i64.wrap ((j : Int) + 1) = ((j + 1 : Nat) : Int) := by rw [i64_in _ (by omega)]; omega
    rw [wj]
    exact ⟨_, _, _, _, _, _, _, _, _, _, _, rfl, ⟨j + 1, _, _, _, a4, c4, rfl, by omega, tell_ok (tk_ok ok'), P4, N4, s4, tell_len hl'.1 hl'.2, el⟩, by simp only [List.getD_cons_succ, List.getD_cons_zero, toInt_int, Int.toNat_natCast]; omega⟩
  · have hge : ¬ (j < n ∧ r'.k = 0) := by simp at hge; omega
    have el : stL bs dl room (n - j) r' al' = (r', al') := by
      by_cases hjn : j < n
      · rw [show n - j = (n - (j + 1)) + 1 by omega, stL, if_neg (fun h => hge ⟨hjn, h⟩)]
      · rw [show n - j = 0 by omega, stL]
    rw [el]
    exact ⟨a2, c2, rfl, P', N', s'⟩
end

section
variable {S : Shared} {h h0 : Eng.Heap}

theorem sy_num {bs : List Int} {cs : List (Nat × Nat)} {r : Rd} : 0 ≤ (sy bs cs r).2 ∧ ((sy bs cs r).2 = 0 ∨ (sy bs cs r).2 < cs.length) := by
  have hf := nxB_facts (bs := bs) (cs := cs) (i := r.i.toNat)
  unfold sy
  split
  · simp only; omega
  · exact ⟨Int.le_refl _, .inl rfl⟩
theorem cpD_len {al : List Int} {dist n : Nat} : (cpD al dist n).length = n := by simp [cpD]
theorem cpD_succ {al : List Int} {dist n : Nat} : cpD al dist (n + 1) = cpD al dist n ++ [al.getD (al.length - dist + n % dist) 0] := by simp [cpD, List.range_succ]

set_option maxRecDepth 100000 in
set_option maxHeartbeats 4000000 in
theorem k_l5Copy (hi : Eng.Inv S h0) (s0 : Eng.Sub h0 h) {a : Option Addr} {c : Nat} {bs : List Int} (hx : HInts h0 .u8 a bs) (L : bs.length ≤ 1048576) (r : Rd) (ok : okR bs r) {aa : Option Addr} {ca : Nat} {al : List Int} (P : Part .u8 h (.slice aa al.length ca) al) (N : Eng.New h0 (.slice aa al.length ca)) {dl sz room : Nat} (hd : dl ≤ al.length) (hl : al.length ≤ dl + room) (hdl : dl ≤ 40000) (hr : room ≤ 100000) (hsz : sz ≤ 40000)
    (s : Nat) (hs1 : 257 ≤ s) (hs2 : s ≤ 285) {ac : Option Addr} {lc cc : Nat} {cd : List (Nat × Nat)} (C : CodesAt h ac lc cd) :
    CallsH Tryd.prog S F_spec_l5Copy #[rdV a c bs r, toldV aa ca al dl sz room, .int .i64 s, .slice ac lc cc] h (PostT h0 a c bs dl sz room (cpF bs cd dl room sz r al s)) := by
  refine run_spec_l5Copy (vs := [.slice a bs.length c, .int .i64 r.i, .int .i64 r.k, .slice aa al.length ca, .int .i64 dl, .int .i64 sz, .int .i64 room, .int .i64 s, .slice ac lc cc]) ⟨rfl, rfl, rfl, rfl, rfl, rfl, rfl, rfl, rfl, trivial⟩ (hi.sub s0) ?_
  simp only [t_spec_l5Copy, Tr.wp, mksW, callW, Ex.ev, coerce, toInt_int, toBool_bool, slL_sl, slC_sl, slA_sl, toAddr_ptr, ptrOf_ptr, isNil_sl, isNil_ptr, it_and, it_or, it_int, optN_int, optN_nl, cmpI, arith, Cst.val, SV.den, resShs, resV, resSV, resVals, newVars, runCells, exSh, allSh, cellsAre, List.flatMap_cons, List.flatMap_nil, List.replicate_one, List.getD_cons_zero, List.getD_cons_succ, List.getElem?_cons_zero, List.getElem?_cons_succ, decide_eq_true_eq, decide_eq_false_iff_not, List.map_cons, List.map_nil, List.cons_append, List.nil_append, List.append_nil, List.length_cons, List.length_nil, Nat.zero_add, Nat.add_zero, and_true, true_and, if_true, if_false, Bool.false_eq_true]
  have hxh := hx.sub s0
  have hlen := lenB_le ⟨s, by omega⟩ hs1
  simp only at hlen
  have nn1 := tk_num (bs := bs) (n := (lenB s).2) (r := r)
  have hp5 : (2 : Int) ^ (lenB s).2 ≤ 32 := by
    rw [pow_cast]; exact_mod_cast Nat.le_trans (Nat.pow_le_pow_right (by decide) hlen.2.2) (by decide)
  refine (k_l5Length (hi.sub s0) s hs1 hs2).mono ?_
  rintro _ hq ⟨rfl, rfl⟩
  refine ⟨_, _, rfl, ?_⟩
  refine (k_l5Take (hi.sub s0) hxh L r ok (lenB s).2 (by omega)).mono ?_
  rintro _ hq ⟨rfl, rfl⟩
  refine ⟨_, _, _, _, _, _, rfl, ?_⟩
  have ok1 : okR bs (cp1 bs r s).1 := tk_ok ok
  refine (k_l5Sym (hi.sub s0) hxh L (cp1 bs r s).1 ok1 (fun _ => C)).mono ?_
  rintro _ hq ⟨rfl, rfl⟩
  refine ⟨_, _, _, _, _, _, rfl, ?_⟩
  have ok2 : okR bs (cp2 bs cd r s).1 := sy_ok ok1
  have n2 := sy_num (bs := bs) (cs := cd) (r := (cp1 bs r s).1)
  refine (k_l5Bad (hi.sub s0) a c bs (cp2 bs cd r s).1 (decide ((sy bs cd (cp1 bs r s).1).2 > 29))).mono ?_
  rintro _ hq ⟨rfl, rfl⟩
  refine ⟨_, _, _, _, _, rfl, ?_⟩
  have e3 : bd (decide ((sy bs cd (cp1 bs r s).1).2 > 29)) (cp2 bs cd r s).1 = cp3 bs cd r s := rfl
  rw [e3]
  have ok3 : okR bs (cp3 bs cd r s) := bd_ok ok2
  refine ⟨fun hne => ?_, fun heq => ?_⟩
  · have hk : (cp3 bs cd r s).k ≠ 0 := by simpa using hne
    have e : cpF bs cd dl room sz r al s = (cp3 bs cd r s, al) := if_pos hk
    rw [e]; exact ⟨aa, ca, rfl, P, N, s0⟩
  have hk3 : (cp3 bs cd r s).k = 0 := by simpa using heq
  have hd29 : (cp2 bs cd r s).2 ≤ 29 := by
    have := (bd_k.1 (show (bd (decide (29 < (cp2 bs cd r s).2)) (cp2 bs cd r s).1).k = 0 from hk3)).2
    simpa using this
  have hd0 : 0 ≤ (cp2 bs cd r s).2 := n2.1
  obtain ⟨d, hdd⟩ := Int.eq_ofNat_of_zero_le hd0
  have ed : (sy bs cd (cp1 bs r s).1).2 = (d : Int) := hdd
  have hd29' : d ≤ 29 := by omega
  rw [ed]
  have hdis := disB_le ⟨d, by omega⟩
  simp only at hdis
  refine (k_l5Dist (hi.sub s0) d hd29').mono ?_
  rintro _ hq ⟨rfl, rfl⟩
  refine ⟨_, _, rfl, ?_⟩
  refine (k_l5Take (hi.sub s0) hxh L (cp3 bs cd r s) ok3 (disB d).2 (by omega)).mono ?_
  rintro _ hq ⟨rfl, rfl⟩
  refine ⟨_, _, _, _, _, _, rfl, ?_⟩
  have e4 : tk bs (disB d).2 (cp3 bs cd r s) = cp4 bs cd r s := by unfold cp4; rw [hdd, Int.toNat_natCast]
  rw [e4]
  have n4 := tk_num (bs := bs) (n := (disB d).2) (r := cp3 bs cd r s)
  rw [e4] at n4
  have hp13 : (2 : Int) ^ (disB d).2 ≤ 8192 := by
    rw [pow_cast]; exact_mod_cast Nat.le_trans (Nat.pow_le_pow_right (by decide) hdis.2.2) (by decide)
  obtain ⟨x4, hx4⟩ := Int.eq_ofNat_of_zero_le n4.1
  obtain ⟨x1, hx1⟩ := Int.eq_ofNat_of_zero_le (show 0 ≤ (cp1 bs r s).2 from nn1.1)
  have hx1' : (tk bs (lenB s).2 r).2 = (x1 : Int) := hx1
  have hdist : cpDist bs cd r s = (disB d).1 + x4 := by unfold cpDist; rw [hdd, Int.toNat_natCast, hx4, Int.toNat_natCast]
  have hcl : cpLen bs r s = (lenB s).1 + x1 := by unfold cpLen; rw [hx1, Int.toNat_natCast]
  rw [hx4, hx1']
  have wd : IntKind.i64.wrap (((disB d).1 : Int) + (x4 : Int)) = ((cpDist bs cd r s : Nat) : Int) := by rw [hdist, i64_in _ (by omega)]; omega
  have wl : IntKind.i64.wrap (((lenB s).1 : Int) + (x1 : Int)) = ((cpLen bs r s : Nat) : Int) := by rw [hcl, i64_in _ (by omega)]; omega
  rw [wd, wl]
  have hdp : 1 ≤ cpDist bs cd r s ∧ cpDist bs cd r s ≤ 40000 := by omega
  have hlp : cpLen bs r s ≤ 400 := by omega
  have ew : (decide (((cpDist bs cd r s : Nat) : Int) > (al.length : Int)) || decide (((cpDist bs cd r s : Nat) : Int) > (sz : Int))) = (decide (al.length < cpDist bs cd r s) || decide (sz < cpDist bs cd r s)) := by
    congr 1 <;> (rw [decide_eq_decide]; omega)
  rw [ew]
  refine (k_l5Bad (hi.sub s0) a c bs (cp4 bs cd r s).1 _).mono ?_
  rintro _ hq ⟨rfl, rfl⟩
  refine ⟨_, _, _, _, _, rfl, ?_⟩
  have e5 : bd (decide (al.length < cpDist bs cd r s) || decide (sz < cpDist bs cd r s)) (cp4 bs cd r s).1 = cp5 bs cd sz r al s := rfl
  rw [e5]
  refine ⟨fun hne => ?_, fun heq b hb => ?_⟩
  · have hk : (cp5 bs cd sz r al s).k ≠ 0 := by simpa using hne
    have e : cpF bs cd dl room sz r al s = (cp5 bs cd sz r al s, al) := by unfold cpF; rw [if_neg (by omega), if_pos hk]
    rw [e]; exact ⟨aa, ca, rfl, P, N, s0⟩
  have hk5 : (cp5 bs cd sz r al s).k = 0 := by simpa using heq
  have hle : cpDist bs cd r s ≤ al.length := by
    have := (bd_k.1 (show (bd (decide (al.length < cpDist bs cd r s) || decide (sz < cpDist bs cd r s)) (cp4 bs cd r s).1).k = 0 from hk5)).2
    simp at this; omega
  have e : cpF bs cd dl room sz r al s = tell dl room (cp5 bs cd sz r al s) al (cpD al (cpDist bs cd r s) (cpLen bs r s)) := by unfold cpF; rw [if_neg (by omega), if_neg (by omega)]
  rw [e]
  generalize cpDist bs cd r s = D at hdp hle ⊢
  generalize cpLen bs r s = M at hlp ⊢
  have sb : Eng.Sub hq (upd hq b (.cells (ints .u8 []) 5)) := Sub.of_upd hb
  refine ⟨fun us h' => ∃ (j : Nat) (a' : Option Addr) (c' : Nat), us = [.slice a' (cpD al D j).length c', .int .i64 j] ∧ j ≤ M ∧ Part .u8 h' (.slice a' (cpD al D j).length c') (cpD al D j) ∧ Eng.New hq (.slice a' (cpD al D j).length c') ∧ Eng.Sub hq h',
    fun us _ => M - (toInt (us.getD 1 undef)).toNat, ⟨0, some ⟨b, 0, none⟩, 0, rfl, by omega, (Own.made (k := .u8) (h := hq) (b := b) (T := 5) []).part, New.of hb, sb⟩, ?_⟩
  rintro a1 l1 c1 y h' ⟨j, a', c', hx1, hj, P', N', s'⟩
  simp only [List.cons.injEq, Value.int.injEq, Value.slice.injEq, true_and, and_true] at hx1
  obtain ⟨⟨rfl, rfl, rfl⟩, rfl⟩ := hx1
  refine ⟨fun hlt => ?_, fun hge => ?_⟩
  · have hmod : j % D < D := Nat.mod_lt _ (by omega)
    have wm : (j : Int).tmod (D : Int) = ((j % D : Nat) : Int) := by rw [Int.tmod_eq_emod_of_nonneg (by omega)]; exact (Int.natCast_emod j D).symm
    have w1 : IntKind.i64.wrap ((al.length : Int) - D) = ((al.length - D : Nat) : Int) := by rw [i64_in _ (by omega)]; omega
    have w2 : IntKind.i64.wrap (((al.length - D : Nat) : Int) + ((j % D : Nat) : Int)) = ((al.length - D + j % D : Nat) : Int) := by rw [i64_in _ (by omega)]; omega
    have wj : IntKind.i64.wrap ((j : Int) + 1) = ((j + 1 : Nat) : Int) := by rw [i64_in _ (by omega)]; omega
    rw [wm, w1, w2, wj]
    obtain ⟨_, _, ei, _, gi⟩ := (P.sub s').ints
    cases ei
    have hidx : al.length - D + j % D < al.length := by omega
    have g? : al[al.length - D + j % D]? = some (al.getD (al.length - D + j % D) 0) := by simp [List.getD, List.getElem?_eq_getElem hidx]
    obtain ⟨g1, g2⟩ := gi.cell g?
    refine ⟨by simp; omega, by simpa using g2, by omega, by omega, _, by simp only [Int.toNat_natCast, Nat.mul_one, add_add, Nat.add_zero]; exact g1, fun b' hb' => ?_⟩
    have sb' : Eng.Sub h' (upd h' b' (.cells (ints .u8 [al.getD (al.length - D + j % D) 0]) 5)) := Sub.of_upd hb'
    have hcl2 := cpD_len (al := al) (dist := D) (n := j)
    refine appW_part (ys := [al.getD (al.length - D + j % D) 0]) (a := some ⟨b', 0, none⟩) (c := 1) (hi.sub s0) (s'.trans sb') (P'.sub sb') N' HInts.new (by rw [hcl2]; simp only [List.length_singleton]; omega) fun v5 h5 o5 n5 s5 _ _ => ?_
    rw [← cpD_succ] at o5
    obtain ⟨a5, c5, rfl, _, _⟩ := o5.ints
    simp only [slA_sl, slL_sl, slC_sl]
    exact ⟨⟨j + 1, a5, c5, rfl, by omega, o5, n5, s5⟩, by simp only [List.getD_cons_succ, List.getD_cons_zero, toInt_int, Int.toNat_natCast]; omega⟩
  · obtain rfl : j = M := by omega
    obtain ⟨_, _, ei, _, gi⟩ := P'.ints
    cases ei
    have K := k_l5Tell (dl := dl) (sz := sz) (room := room) hi (s0.trans s') a c bs (cp5 bs cd sz r al s) (P.sub s') N hd (by omega) (by omega) gi (cd := c1) (by rw [cpD_len]; omega)
    refine CallsH.mono K ?_
    rintro _ h4 ⟨a4, c4, rfl, P4, N4, s4⟩
    exact ⟨_, _, _, _, _, _, _, _, _, _, _, rfl, ⟨a4, c4, rfl, P4, N4, s4⟩⟩

theorem syF_end {bs : List Int} {cl cd : List (Nat × Nat)} {dl room sz f : Nat} {r : Rd} {al : List Int} (h : r.k ≠ 0) : syF bs cl cd dl room sz f r al = (r, al) := by
  cases f with
  | zero => rfl
  | succ f => rw [syF, if_neg h]
theorem cpF_len {bs : List Int} {cd : List (Nat × Nat)} {dl room sz : Nat} {r : Rd} {al : List Int} {s : Nat} (h1 : dl ≤ al.length) (h2 : al.length ≤ dl + room) : dl ≤ (cpF bs cd dl room sz r al s).2.length ∧ (cpF bs cd dl room sz r al s).2.length ≤ dl + room := by
  unfold cpF
  split
  · exact ⟨h1, h2⟩
  · split
    · exact ⟨h1, h2⟩
    · exact tell_len h1 h2
theorem sy1_len {bs : List Int} {cd : List (Nat × Nat)} {dl room sz : Nat} {r : Rd} {al : List Int} {x : Int} (h1 : dl ≤ al.length) (h2 : al.length ≤ dl + room) : dl ≤ (sy1 bs cd dl room sz r al x).2.length ∧ (sy1 bs cd dl room sz r al x).2.length ≤ dl + room := by
  unfold sy1
  split
  · exact tell_len h1 h2
  · split
    · exact ⟨h1, h2⟩
    · exact cpF_len h1 h2

/-- A heap without a value's block: what is told may be put behind it in place, all else stays. -/
def without (h : Eng.Heap) (v : Value) : Eng.Heap := fun b => if blkOf v = some b then none else h b
theorem wo_sub {v : Value} : Eng.Sub (without h v) h := fun b o e => by
  unfold without at e
  split at e
  · cases e
  · exact e
theorem wo_new {v : Value} : Eng.New (without h v) v := fun b hb => if_pos hb
theorem wo_base {v : Value} (N : Eng.New h0 v) (s : Eng.Sub h0 h) : Eng.Sub h0 (without h v) := fun b o e => by
  unfold without
  rw [if_neg (fun hb => by rw [N b hb] at e; cases e)]
  exact s b o e
theorem PostT.base {a : Option Addr} {c : Nat} {bs : List Int} {dl sz room : Nat} {F : Rd × List Int} {v : Value} {h' g : Eng.Heap} (H : PostT g a c bs dl sz room F v h') (s : Eng.Sub h0 g) : PostT h0 a c bs dl sz room F v h' := by
  obtain ⟨a', c', e, p, n, t⟩ := H
  exact ⟨a', c', e, p, fun z hz => sub_none s (n z hz), s.trans t⟩
theorem CodesAt.same {h' : Eng.Heap} {a : Option Addr} {l c : Nat} {cs : List (Nat × Nat)} (H : CodesAt h a l cs) (hk : ∀ z, blkOf (.slice a l c) = some z → h' z = h z) : CodesAt h' a l cs := by
  obtain ⟨⟨ps, h1, h2⟩, h3, h4⟩ := H
  refine ⟨⟨ps, fun i p hp => ?_, h2⟩, h3, h4⟩
  obtain ⟨ad, rfl, g1, g2⟩ := h1 i p hp
  have e := hk ad.block rfl
  have blk : ∀ n, (ad.add n).block = ad.block := fun n => by unfold Addr.add; split <;> rfl
  have hh : ∀ n, Eng.hcell h' (ad.add n) = Eng.hcell h (ad.add n) := fun n => by
    unfold Eng.hcell; rw [show h' (ad.add n).block = h (ad.add n).block by rw [blk]; exact e]
  exact ⟨ad, rfl, (hh _).trans g1, (hh _).trans g2⟩

set_option maxRecDepth 100000 in
set_option maxHeartbeats 4000000 in
theorem k_l5Symbols (hi : Eng.Inv S h0) (s0 : Eng.Sub h0 h) {a : Option Addr} {c : Nat} {bs : List Int} (hx : HInts h0 .u8 a bs) (L : bs.length ≤ 1048576) (r : Rd) (ok : okR bs r) {aa : Option Addr} {ca : Nat} {al : List Int} (P : Part .u8 h (.slice aa al.length ca) al) (N : Eng.New h0 (.slice aa al.length ca)) {dl sz room : Nat} (hd : dl ≤ al.length) (hl : al.length ≤ dl + room) (hdl : dl ≤ 40000) (hr : room ≤ 100000) (hsz : sz ≤ 40000)
    {u w : Value} {xs ys : List Int} (O1 : tI.O h u xs) (O2 : tI.O h w ys) (L1 : limI xs) (L2 : limI ys) (hg1 : ¬ (hkind xs = 0 ∨ hkind xs = 2)) (hg2 : ¬ (hkind ys = 0 ∨ hkind ys = 2)) (F0 : Nat) (hF0 : 8 * bs.length + 1 ≤ F0) :
    CallsH Tryd.prog S F_spec_l5Symbols #[rdV a c bs r, toldV aa ca al dl sz room, u, w] h (PostT h0 a c bs dl sz room (syF bs (codesN xs) (codesN ys) dl room sz F0 r al)) := by
  obtain ⟨a1, c1, rfl, _, _⟩ := Part.ints O1
  obtain ⟨a2, c2, rfl, _, _⟩ := Part.ints O2
  refine run_spec_l5Symbols (vs := [.slice a bs.length c, .int .i64 r.i, .int .i64 r.k, .slice aa al.length ca, .int .i64 dl, .int .i64 sz, .int .i64 room, .slice a1 xs.length c1, .slice a2 ys.length c2]) ⟨rfl, rfl, rfl, rfl, rfl, rfl, rfl, rfl, rfl, trivial⟩ (hi.sub s0) ?_
  simp only [t_spec_l5Symbols, Tr.wp, mksW, callW, Ex.ev, coerce, toInt_int, toBool_bool, slL_sl, slC_sl, slA_sl, toAddr_ptr, ptrOf_ptr, isNil_sl, isNil_ptr, it_and, it_or, it_int, optN_int, optN_nl, cmpI, arith, Cst.val, SV.den, resShs, resV, resSV, resVals, newVars, runCells, exSh, allSh, cellsAre, List.flatMap_cons, List.flatMap_nil, List.replicate_one, List.getD_cons_zero, List.getD_cons_succ, List.getElem?_cons_zero, List.getElem?_cons_succ, decide_eq_true_eq, decide_eq_false_iff_not, List.map_cons, List.map_nil, List.cons_append, List.nil_append, List.append_nil, List.length_cons, List.length_nil, Nat.zero_add, Nat.add_zero, and_true, true_and, if_true, if_false, Bool.false_eq_true]
  refine (g_spec_HuffCodes (hi.sub s0) O1 L1).mono ?_
  rintro v3 h3 ⟨OC, NC, s3⟩
  obtain ⟨a3, c3, rfl, C1⟩ := codes_at OC hg1
  have el1 : (ans_HuffCodes xs).length = xs.length := by simp only [ans_HuffCodes, if_neg hg1]; exact codesOf_len
  refine ⟨_, _, _, rfl, ?_⟩
  refine (g_spec_HuffCodes (hi.sub (s0.trans s3)) (Ty.Osub O2 s3) L2).mono ?_
  rintro v4 h4 ⟨OC2, NC2, s4⟩
  obtain ⟨a4, c4, rfl, C2⟩ := codes_at OC2 hg2
  refine ⟨_, _, _, rfl, ?_⟩
  have s34 := s3.trans s4
  have C1' := C1.sub s4
  have P4 := P.sub s34
  obtain ⟨g, hg⟩ : ∃ g, g = without h4 (.slice aa al.length ca) := ⟨_, rfl⟩
  have sg : Eng.Sub h0 g := hg ▸ wo_base N (s0.trans s34)
  have g4 : Eng.Sub g h4 := hg ▸ wo_sub
  have Ng : Eng.New g (.slice aa al.length ca) := hg ▸ wo_new
  have Cg1 : CodesAt g a3 xs.length (codesN xs) := by
    rw [hg]
    refine C1'.same (c := c3) fun z hz => if_neg fun hz2 => ?_
    exact tB.Oheld P (show tB.B _ z from hz2) (NC z (by rw [show tCodes.B (.slice a3 xs.length c3) z = (blkOf (.slice a3 xs.length c3) = some z) from rfl]; exact hz))
  have Cg2 : CodesAt g a4 ys.length (codesN ys) := by
    rw [hg]
    refine C2.same (c := c4) fun z hz => if_neg fun hz2 => ?_
    exact tB.Oheld (P.sub s3) (show tB.B _ z from hz2) (NC2 z (by rw [show tCodes.B (.slice a4 ys.length c4) z = (blkOf (.slice a4 ys.length c4) = some z) from rfl]; exact hz))
  have hi0 := hi
  have hx0 := hx
  replace hi := hi0.sub sg
  replace hx := hx0.sub sg
  refine ⟨fun us h' => ∃ (r' : Rd) (al' : List Int) (a' : Option Addr) (c' f : Nat), us = [.slice a bs.length c, .int .i64 r'.i, .int .i64 r'.k, .slice a' al'.length c', .int .i64 dl, .int .i64 sz, .int .i64 room] ∧ okR bs r' ∧ Part .u8 h' (.slice a' al'.length c') al' ∧ Eng.New g (.slice a' al'.length c') ∧ Eng.Sub g h' ∧ (dl ≤ al'.length ∧ al'.length ≤ dl + room) ∧ (r'.k = 0 → 8 * (bs.length : Int) + 1 ≤ r'.i + f) ∧ syF bs (codesN xs) (codesN ys) dl room sz F0 r al = syF bs (codesN xs) (codesN ys) dl room sz f r' al',
    fun us _ => if toInt (us.getD 2 undef) = 0 then (8 * (bs.length : Int) + 1 - toInt (us.getD 1 undef)).toNat + 1 else 0, ⟨r, al, aa, ca, F0, rfl, ok, P4, Ng, g4, ⟨hd, hl⟩, fun hk => by have := ok hk; omega, rfl⟩, ?_⟩
  rintro b1 m1 d1 i1 k1 b2 m2 d2 x4 x5 x6 h' ⟨r', al', a', c', f, hx1, ok', P', N', s', hl', hf, e'⟩
  simp only [List.cons.injEq, Value.int.injEq, Value.slice.injEq, true_and, and_true] at hx1
  obtain ⟨⟨rfl, rfl, rfl⟩, rfl, rfl, ⟨rfl, rfl, rfl⟩, rfl, rfl, rfl⟩ := hx1
  rw [e']
  refine ⟨fun hk => ?_, fun hk => ?_⟩
  · have hk : r'.k = 0 := beq_iff_eq.1 hk
    have hpos := ok' hk
    obtain ⟨f', rfl⟩ : ∃ f', f = f' + 1 := ⟨f - 1, by have := hf hk; omega⟩
    have est : syF bs (codesN xs) (codesN ys) dl room sz (f' + 1) r' al' = (if (sy bs (codesN xs) r').1.k ≠ 0 ∨ (sy bs (codesN xs) r').2 = 256 then ((sy bs (codesN xs) r').1, al')
       else syF bs (codesN xs) (codesN ys) dl room sz f' (sy1 bs (codesN ys) dl room sz (sy bs (codesN xs) r').1 al' (sy bs (codesN xs) r').2).1 (sy1 bs (codesN ys) dl room sz (sy bs (codesN xs) r').1 al' (sy bs (codesN xs) r').2).2) := by rw [syF, if_pos hk]
    refine (k_l5Sym (hi.sub s') (hx.sub s') L r' ok' (fun _ => Cg1.sub s')).mono ?_
    rintro _ h2 ⟨rfl, rfl⟩
    refine ⟨_, _, _, _, _, _, rfl, ?_⟩
    have oks : okR bs (sy bs (codesN xs) r').1 := sy_ok ok'
    have lts : (sy bs (codesN xs) r').1.k = 0 → r'.k = 0 ∧ r'.i + 1 ≤ (sy bs (codesN xs) r').1.i := sy_lt
    have nns := sy_num (bs := bs) (cs := codesN xs) (r := r')
    rw [codesN_len] at nns
    generalize sy bs (codesN xs) r' = q at est oks lts nns ⊢
    obtain ⟨r1, x⟩ := q
    simp only at est oks lts nns ⊢
    refine ⟨fun hstop => ?_, fun hgo => ?_⟩
    · have hst : r1.k ≠ 0 ∨ x = 256 := by simpa using hstop
      rw [est, if_pos hst]
      exact PostT.base ⟨b2, d2, rfl, P', N', s'⟩ sg
    · have hst : ¬ (r1.k ≠ 0 ∨ x = 256) := by simpa using hgo
      rw [if_neg hst] at est
      have hk1 : r1.k = 0 := by omega
      have hx256 : x ≠ 256 := by omega
      -- the round's end
      have fin : ∀ (h'' : Eng.Heap) (a5 : Option Addr) (c5 : Nat), Part .u8 h'' (.slice a5 (sy1 bs (codesN ys) dl room sz r1 al' x).2.length c5) (sy1 bs (codesN ys) dl room sz r1 al' x).2 → Eng.New g (.slice a5 (sy1 bs (codesN ys) dl room sz r1 al' x).2.length c5) → Eng.Sub g h'' →
          (∃ (r2 : Rd) (al2 : List Int) (a' : Option Addr) (c' f : Nat), [Value.slice b1 bs.length d1, .int .i64 (sy1 bs (codesN ys) dl room sz r1 al' x).1.i, .int .i64 (sy1 bs (codesN ys) dl room sz r1 al' x).1.k, .slice a5 (sy1 bs (codesN ys) dl room sz r1 al' x).2.length c5, .int .i64 dl, .int .i64 sz, .int .i64 room] = [.slice b1 bs.length d1, .int .i64 r2.i, .int .i64 r2.k, .slice a' al2.length c', .int .i64 dl, .int .i64 sz, .int .i64 room] ∧ okR bs r2 ∧ Part .u8 h'' (.slice a' al2.length c') al2 ∧ Eng.New g (.slice a' al2.length c') ∧ Eng.Sub g h'' ∧ (dl ≤ al2.length ∧ al2.length ≤ dl + room) ∧ (r2.k = 0 → 8 * (bs.length : Int) + 1 ≤ r2.i + f) ∧ syF bs (codesN xs) (codesN ys) dl room sz (f' + 1) r' al' = syF bs (codesN xs) (codesN ys) dl room sz f r2 al2) ∧
          (if (sy1 bs (codesN ys) dl room sz r1 al' x).1.k = 0 then (8 * (bs.length : Int) + 1 - (sy1 bs (codesN ys) dl room sz r1 al' x).1.i).toNat + 1 else 0) < (if r'.k = 0 then (8 * (bs.length : Int) + 1 - r'.i).toNat + 1 else 0) := by
        intro h'' a5 c5 Q1 Q2 Q3
        have hle : le2 r1 (sy1 bs (codesN ys) dl room sz r1 al' x).1 := sy1_le
        have hl1 := (lts hk1).2
        refine ⟨⟨_, _, a5, c5, f', rfl, sy1_ok oks, Q1, Q2, Q3, sy1_len hl'.1 hl'.2, fun h => ?_, est⟩, ?_⟩
        · have := (hle h).2; have := hf hk; push_cast at this; omega
        · rw [if_pos hk]
          split
          · rename_i h; have := (hle h).2; omega
          · omega
      refine ⟨fun hlt b hb => ?_, fun hge => ⟨fun hgt => ?_, fun hle => ?_⟩⟩
      · have e1 : sy1 bs (codesN ys) dl room sz r1 al' x = tell dl room r1 al' [x] := if_pos hlt
        have wb : IntKind.u8.wrap x = x := by rw [IntKind.wrap_u8]; omega
        rw [wb]
        have sb : Eng.Sub h2 (upd h2 b (.cells (ints .u8 [x]) 5)) := Sub.of_upd hb
        have K := k_l5Tell (d := [x]) (ad := some ⟨b, 0, none⟩) (cd := 1) (dl := dl) (sz := sz) (room := room) hi (s'.trans sb) b1 d1 bs r1 (P'.sub sb) N' hl'.1 (by omega) (by omega) HInts.new (by simp)
        rw [← e1] at K
        refine CallsH.mono K ?_
        rintro _ h4 ⟨a4, c4, rfl, P4, N4, s4⟩
        exact ⟨_, _, _, _, _, _, _, _, _, _, _, rfl, fun _ => fin h4 a4 c4 P4 N4 s4⟩
      · have e1 : sy1 bs (codesN ys) dl room sz r1 al' x = (bd true r1, al') := by unfold sy1; rw [if_neg (by omega), if_pos (by omega)]
        rw [e1] at fin
        refine (k_l5Bad (hi.sub s') b1 d1 bs r1 true).mono ?_
        rintro _ h3 ⟨rfl, rfl⟩
        exact ⟨_, _, _, _, _, rfl, fun _ _ => fin _ b2 d2 P' N' s'⟩
      · have e1 : sy1 bs (codesN ys) dl room sz r1 al' x = cpF bs (codesN ys) dl room sz r1 al' x.toNat := by unfold sy1; rw [if_neg (by omega), if_neg (by omega)]
        obtain ⟨m, rfl⟩ := Int.eq_ofNat_of_zero_le (show 0 ≤ x by omega)
        have K := k_l5Copy (c := d1) (dl := dl) (sz := sz) (room := room) hi s' hx L r1 oks P' N' hl'.1 hl'.2 hdl hr hsz m (by omega) (by omega) (cc := c4) (Cg2.sub s')
        rw [show m = ((m : Int)).toNat from rfl, ← e1] at K
        refine CallsH.mono K ?_
        rintro _ h4 ⟨a4, c4, rfl, P4, N4, s4⟩
        exact ⟨_, _, _, _, _, _, _, _, _, _, _, rfl, fun _ _ => fin h4 a4 c4 P4 N4 s4⟩
  · have hk : r'.k ≠ 0 := by simpa using hk
    rw [syF_end hk]
    exact PostT.base ⟨b2, d2, rfl, P', N', s'⟩ sg
end

section
variable {S : Shared} {h h0 : Eng.Heap}

theorem lg_len2 {bs : List Int} {cs : List (Nat × Nat)} {tot : Nat} : ∀ {n : Nat} {r : Rd} {all : List Int}, tot - all.length ≤ n → all.length ≤ tot → (lg bs cs tot r all).1.k = 0 → (lg bs cs tot r all).2.length ≤ tot
  | 0, r, all, hn, hl, H => by rw [lg_end (fun e => by omega)]; exact hl
  | n + 1, r, all, hn, hl, H => by
    by_cases h : r.k = 0 ∧ all.length < tot
    · rw [lg_step h] at H ⊢
      by_cases hk : (lg1 bs cs tot r all).1.k = 0
      · have := (lg1_len (bs := bs) (cs := cs) (tot := tot) (r := r) (all := all)).2.2 hk
        exact lg_len2 (n := n) (by omega) this.2 H
      · rw [lg_end (fun e => hk e.1)] at H; exact absurd H hk
    · rw [lg_end h]; exact hl
theorem lensF_lens {bs : List Int} {r : Rd} : (lensF bs r).2.1.length ≤ 1000 ∧ (lensF bs r).2.2.length ≤ 1000 := by
  unfold lensF
  split
  · rename_i hk
    have n1 := tk_num (bs := bs) (n := 5) (r := r)
    have n2 := tk_num (bs := bs) (n := 5) (r := lens0 bs r)
    have q5 : (2 : Int) ^ 5 = 32 := by decide
    have h1 : nLit bs r ≤ 288 := by unfold nLit; omega
    have h2 : nDist bs r ≤ 32 := by unfold nDist; omega
    have h3 : (lens4 bs r).2.length ≤ nLit bs r + nDist bs r := lg_len2 (Nat.le_refl _) (by simp) hk
    simp only [List.length_take, List.length_drop]
    omega
  · simp
theorem lensF_okR {bs : List Int} {r : Rd} (ok : okR bs r) : okR bs (lensF bs r).1 := by
  have := (lens_ok ok).2.2.2.2
  unfold lensF
  split
  · exact bd_ok this
  · exact this

section
variable {bs : List Int} {dl room sz : Nat}
theorem stL_len : ∀ {n : Nat} {r : Rd} {al : List Int}, dl ≤ al.length → al.length ≤ dl + room → dl ≤ (stL bs dl room n r al).2.length ∧ (stL bs dl room n r al).2.length ≤ dl + room
  | 0, r, al, h1, h2 => ⟨h1, h2⟩
  | n + 1, r, al, h1, h2 => by
    unfold stL
    split
    · have := tell_len (r := (tk bs 8 r).1) (d := [(tk bs 8 r).2]) h1 h2
      exact stL_len this.1 this.2
    · exact ⟨h1, h2⟩
theorem syF_len {cl cd : List (Nat × Nat)} : ∀ {f : Nat} {r : Rd} {al : List Int}, dl ≤ al.length → al.length ≤ dl + room → dl ≤ (syF bs cl cd dl room sz f r al).2.length ∧ (syF bs cl cd dl room sz f r al).2.length ≤ dl + room
  | 0, r, al, h1, h2 => ⟨h1, h2⟩
  | f + 1, r, al, h1, h2 => by
    unfold syF
    split
    · split
      · exact ⟨h1, h2⟩
      · have := sy1_len (bs := bs) (cd := cd) (sz := sz) (r := (sy bs cl r).1) (x := (sy bs cl r).2) h1 h2
        exact syF_len this.1 this.2
    · exact ⟨h1, h2⟩
theorem syF_le {cl cd : List (Nat × Nat)} : ∀ {f : Nat} {r : Rd} {al : List Int}, le2 r (syF bs cl cd dl room sz f r al).1
  | 0, r, al => le2.refl
  | f + 1, r, al => by
    unfold syF
    split
    · split
      · exact sy_le
      · exact (sy_le.trans sy1_le).trans syF_le
    · exact le2.refl
theorem syF_ok {cl cd : List (Nat × Nat)} : ∀ {f : Nat} {r : Rd} {al : List Int}, okR bs r → okR bs (syF bs cl cd dl room sz f r al).1
  | 0, r, al, H => H
  | f + 1, r, al, H => by
    unfold syF
    split
    · split
      · exact sy_ok H
      · exact syF_ok (sy1_ok (sy_ok H))
    · exact H
theorem sm_le {r : Rd} : ∀ {k : Nat}, le2 r (sm bs r k).1
  | 0 => le2.refl
  | k + 1 => sm_le.trans tk_le
theorem rp_le {r : Rd} {all : List Int} {x : Int} : le2 r (rp bs r all x).1 := by
  unfold rp
  split
  · exact bd_le.trans tk_le
  · split
    · exact tk_le
    · split
      · exact tk_le
      · exact le2.refl
theorem lg1_le {cs : List (Nat × Nat)} {tot : Nat} {r : Rd} {all : List Int} : le2 r (lg1 bs cs tot r all).1 := by
  unfold lg1
  split
  · exact (sy_le.trans rp_le).trans bd_le
  · exact sy_le
theorem lg_le {cs : List (Nat × Nat)} {tot : Nat} : ∀ {n : Nat} {r : Rd} {all : List Int}, tot - all.length ≤ n → le2 r (lg bs cs tot r all).1
  | 0, r, all, hn => by rw [lg_end (fun e => by omega)]; exact le2.refl
  | n + 1, r, all, hn => by
    by_cases h : r.k = 0 ∧ all.length < tot
    · rw [lg_step h]
      by_cases hk : (lg1 bs cs tot r all).1.k = 0
      · have := (lg1_len (bs := bs) (cs := cs) (tot := tot) (r := r) (all := all)).2.2 hk
        exact lg1_le.trans (lg_le (n := n) (by omega))
      · rw [lg_end (fun e => hk e.1)]; exact lg1_le
    · rw [lg_end h]; exact le2.refl
theorem lensF_le {r : Rd} : le2 r (lensF bs r).1 := by
  have h0 : le2 r (lens0 bs r) := tk_le.trans bd_le
  have h1 : le2 r (lens1 bs r) := h0.trans (tk_le.trans bd_le)
  have h2 : le2 r (lens2 bs r).1 := h1.trans (tk_le.trans sm_le)
  have h3 : le2 r (lens3 bs r) := h2.trans bd_le
  have h4 : le2 r (lens4 bs r).1 := h3.trans (lg_le (Nat.le_refl _))
  unfold lensF
  split
  · exact h4.trans bd_le
  · exact h4
theorem lensF_good {r : Rd} (h : (lensF bs r).1.k = 0) : ¬ (hkind (lensF bs r).2.1 = 0 ∨ hkind (lensF bs r).2.1 = 2) ∧ ¬ (hkind (lensF bs r).2.2 = 0 ∨ hkind (lensF bs r).2.2 = 2) := by
  unfold lensF at h ⊢
  split
  · rename_i hk
    rw [if_pos hk] at h
    have hb := (bd_k.1 h).2
    simp only
    unfold badL at hb
    simp only [Bool.or_eq_false_iff, Bool.not_eq_false', Bool.or_eq_true, beq_iff_eq] at hb
    omega
  · rename_i hk
    rw [if_neg hk] at h
    exact absurd h hk
end

/-! ### Blocks -/
def fixD : List Int := List.replicate 32 5
theorem fixD_kind : hkind fixD = 1 := by decide +kernel
def bk1 (bs : List Int) (r : Rd) : Rd × Int := tk bs 1 r
def bk2 (bs : List Int) (r : Rd) : Rd × Int := tk bs 2 (bk1 bs r).1
def bk3 (bs : List Int) (r : Rd) : Rd := bd ((bk2 bs r).2 == 3) (bk2 bs r).1
def blk (bs : List Int) (dl room sz F : Nat) (r : Rd) (al : List Int) : Rd × List Int :=
  if (bk3 bs r).k ≠ 0 then (bk3 bs r, al)
  else if (bk2 bs r).2 = 0 then stF bs dl room (bk3 bs r) al
  else if (bk2 bs r).2 = 1 then syF bs (codesN fixL) (codesN fixD) dl room sz F (bk3 bs r) al
  else if (lensF bs (bk3 bs r)).1.k ≠ 0 then ((lensF bs (bk3 bs r)).1, al)
  else syF bs (codesN (lensF bs (bk3 bs r)).2.1) (codesN (lensF bs (bk3 bs r)).2.2) dl room sz F (lensF bs (bk3 bs r)).1 al
def blF (bs : List Int) (dl room sz F : Nat) : Nat → Rd → List Int → Rd × List Int
  | 0, r, al => (r, al)
  | f + 1, r, al => if r.k = 0 then (if (bk1 bs r).2 ≠ 0 then blk bs dl room sz F r al else blF bs dl room sz F f (blk bs dl room sz F r al).1 (blk bs dl room sz F r al).2) else (r, al)

section
variable {bs : List Int} {dl room sz F : Nat} {r : Rd} {al : List Int}
theorem tk_add {n : Nat} {r : Rd} (h : (tk bs n r).1.k = 0) : (tk bs n r).1.i = r.i + n := by
  have h0 := tk_k h
  unfold tk at h ⊢
  rw [if_pos h0] at h ⊢
  split
  · rename_i hgt; rw [if_pos hgt] at h; cases h
  · rfl
theorem bk3_lt (h : (bk3 bs r).k = 0) : r.k = 0 ∧ r.i + 3 ≤ (bk3 bs r).i := by
  have h3 := bd_le (w := (bk2 bs r).2 == 3) (r := (bk2 bs r).1) h
  have h2 := tk_add (bs := bs) (n := 2) (r := (bk1 bs r).1) h3.1
  have h1 := tk_k (bs := bs) (n := 2) (r := (bk1 bs r).1) h3.1
  have h0 := tk_add (bs := bs) (n := 1) (r := r) h1
  refine ⟨tk_k h1, ?_⟩
  have e1 : (bk2 bs r).1.i = (bk1 bs r).1.i + 2 := h2
  have e0 : (bk1 bs r).1.i = r.i + 1 := h0
  have e3 : (bk2 bs r).1.i ≤ (bk3 bs r).i := h3.2
  omega
theorem stF_le : le2 r (stF bs dl room r al).1 := (((alg_le.trans tk_le).trans tk_le).trans bd_le).trans stL_le
theorem stF_ok (H : okR bs r) : okR bs (stF bs dl room r al).1 := stL_ok (bd_ok (tk_ok (tk_ok (alg_ok H))))
theorem blk_le : le2 (bk3 bs r) (blk bs dl room sz F r al).1 := by
  unfold blk
  split
  · exact le2.refl
  · split
    · exact stF_le
    · split
      · exact syF_le
      · split
        · exact lensF_le
        · exact lensF_le.trans syF_le
theorem bk3_ok (H : okR bs r) : okR bs (bk3 bs r) := bd_ok (tk_ok (tk_ok H))
theorem blk_ok (H : okR bs r) : okR bs (blk bs dl room sz F r al).1 := by
  have h3 := bk3_ok H
  unfold blk
  split
  · exact h3
  · split
    · exact stF_ok h3
    · split
      · exact syF_ok h3
      · split
        · exact lensF_okR h3
        · exact syF_ok (lensF_okR h3)
theorem blk_len (h1 : dl ≤ al.length) (h2 : al.length ≤ dl + room) : dl ≤ (blk bs dl room sz F r al).2.length ∧ (blk bs dl room sz F r al).2.length ≤ dl + room := by
  unfold blk
  split
  · exact ⟨h1, h2⟩
  · split
    · exact stL_len h1 h2
    · split
      · exact syF_len h1 h2
      · split
        · exact ⟨h1, h2⟩
        · exact syF_len h1 h2
theorem blF_end {f : Nat} (h : r.k ≠ 0) : blF bs dl room sz F f r al = (r, al) := by
  cases f with
  | zero => rfl
  | succ f => rw [blF, if_neg h]
end
end

section
variable {S : Shared} {h h0 : Eng.Heap}

section
variable {a : Option Addr} {c : Nat} {bs : List Int} {dl sz room : Nat}
set_option maxRecDepth 100000 in
set_option maxHeartbeats 4000000 in
theorem k_bl4 (hi : Eng.Inv S h0) (s0 : Eng.Sub h0 h) (hx : HInts h0 .u8 a bs) (L : bs.length ≤ 1048576) (r : Rd) (ok : okR bs r) {aa : Option Addr} {ca : Nat} {al : List Int} (P : Part .u8 h (.slice aa al.length ca) al) (N : Eng.New h0 (.slice aa al.length ca)) (hd : dl ≤ al.length) (hl : al.length ≤ dl + room) (hdl : dl ≤ 40000) (hr : room ≤ 100000) (hsz : sz ≤ 40000)
    (F : Nat) (hF : 8 * bs.length + 1 ≤ F) {a1 a2 : Option Addr} {l1 c1 l2 c2 : Nat} {xs ys : List Int} (hO : r.k = 0 → Part .i64 h (.slice a1 l1 c1) xs ∧ Part .i64 h (.slice a2 l2 c2) ys ∧ limI xs ∧ limI ys ∧ ¬ (hkind xs = 0 ∨ hkind xs = 2) ∧ ¬ (hkind ys = 0 ∨ hkind ys = 2)) (K0 K1 K2 : Kt)
    (hK : ∀ a' c' h', Part .u8 h' (.slice a' (if r.k = 0 then syF bs (codesN xs) (codesN ys) dl room sz F r al else (r, al)).2.length c') (if r.k = 0 then syF bs (codesN xs) (codesN ys) dl room sz F r al else (r, al)).2 → Eng.New h0 (.slice a' (if r.k = 0 then syF bs (codesN xs) (codesN ys) dl room sz F r al else (r, al)).2.length c') → Eng.Sub h0 h' →
      K2 [.slice a bs.length c, .int .i64 (if r.k = 0 then syF bs (codesN xs) (codesN ys) dl room sz F r al else (r, al)).1.i, .int .i64 (if r.k = 0 then syF bs (codesN xs) (codesN ys) dl room sz F r al else (r, al)).1.k, .slice a' (if r.k = 0 then syF bs (codesN xs) (codesN ys) dl room sz F r al else (r, al)).2.length c', .int .i64 dl, .int .i64 sz, .int .i64 room] h')
    {Q : Value → Eng.Heap → Prop} (e0 e1 e2 e3 e4 e5 e6 e7 e8 e9 e10 e11 e12 e13 e14 e15 e16 e17 e18 e19 e20 e21 e22 e23 e24 e25 e26 e27 e28 e29 e34 e35 : Value) :
    bl4.wp Tryd.prog S noLeaf Q [e0, e1, e2, e3, e4, e5, e6, e7, e8, e9, e10, e11, e12, e13, e14, e15, e16, e17, e18, e19, e20, e21, e22, e23, e24, e25, e26, e27, e28, e29, .slice aa al.length ca, .int .i64 dl, .int .i64 sz, .int .i64 room, e34, e35, .slice a1 l1 c1, .slice a2 l2 c2, .slice a bs.length c, .int .i64 r.i, .int .i64 r.k] h [K0, K1, K2] := by
  simp only [bl4, Tr.wp, mksW, callW, Ex.ev, coerce, toInt_int, toBool_bool, slL_sl, slC_sl, slA_sl, toAddr_ptr, ptrOf_ptr, isNil_sl, isNil_ptr, it_and, it_or, it_int, optN_int, optN_nl, cmpI, arith, Cst.val, SV.den, resShs, resV, resSV, resVals, newVars, runCells, exSh, allSh, cellsAre, storeW, List.flatMap_cons, List.flatMap_nil, List.replicate_one, List.getD_cons_zero, List.getD_cons_succ, List.getElem?_cons_zero, List.getElem?_cons_succ, decide_eq_true_eq, decide_eq_false_iff_not, List.map_cons, List.map_nil, List.cons_append, List.nil_append, List.append_nil, List.length_cons, List.length_nil, Nat.zero_add, Nat.add_zero, and_true, true_and, if_true, if_false, Bool.false_eq_true]
  refine ⟨fun hk => ?_, fun hk _ => ?_⟩
  · have hk : r.k = 0 := beq_iff_eq.1 hk
    obtain ⟨O1, O2, L1, L2, g1, g2⟩ := hO hk
    simp only [if_pos hk] at hK
    refine CallsH.mono (k_l5Symbols hi s0 hx L r ok P N hd hl hdl hr hsz O1 O2 L1 L2 g1 g2 F hF (c := c)) ?_
    rintro _ h4 ⟨a4, c4, rfl, P4, N4, s4⟩
    exact ⟨_, _, _, _, _, _, _, _, _, _, _, rfl, fun _ => hK a4 c4 h4 P4 N4 s4⟩
  · have hk : r.k ≠ 0 := by simpa using hk
    simp only [if_neg hk] at hK
    exact hK aa ca h P N s0

/-- Behind a stored block, or before a coded one. -/
def bl2F (bs : List Int) (dl room sz F : Nat) (r : Rd) (kd : Int) (al : List Int) : Rd × List Int :=
  if r.k = 0 ∧ 0 < kd then
    (if kd = 2 then (if (lensF bs r).1.k = 0 then syF bs (codesN (lensF bs r).2.1) (codesN (lensF bs r).2.2) dl room sz F (lensF bs r).1 al else ((lensF bs r).1, al))
     else (if r.k = 0 then syF bs (codesN fixL) (codesN fixD) dl room sz F r al else (r, al)))
  else (r, al)

set_option maxRecDepth 100000 in
set_option maxHeartbeats 4000000 in
theorem k_bl2 (hi : Eng.Inv S h0) (s0 : Eng.Sub h0 h) (hx : HInts h0 .u8 a bs) (L : bs.length ≤ 1048576) (r : Rd) (ok : okR bs r) {aa : Option Addr} {ca : Nat} {al : List Int} (P : Part .u8 h (.slice aa al.length ca) al) (N : Eng.New h0 (.slice aa al.length ca)) (hd : dl ≤ al.length) (hl : al.length ≤ dl + room) (hdl : dl ≤ 40000) (hr : room ≤ 100000) (hsz : sz ≤ 40000)
    (F : Nat) (hF : 8 * bs.length + 1 ≤ F) (kd ls : Int) (K0 K1 : Kt)
    (hK : ∀ a' c' h', Part .u8 h' (.slice a' (bl2F bs dl room sz F r kd al).2.length c') (bl2F bs dl room sz F r kd al).2 → Eng.New h0 (.slice a' (bl2F bs dl room sz F r kd al).2.length c') → Eng.Sub h0 h' →
      K0 [.int .i64 ls, .int .i64 kd, .slice a bs.length c, .int .i64 (bl2F bs dl room sz F r kd al).1.i, .int .i64 (bl2F bs dl room sz F r kd al).1.k, .slice a' (bl2F bs dl room sz F r kd al).2.length c', .int .i64 dl, .int .i64 sz, .int .i64 room] h')
    {Q : Value → Eng.Heap → Prop} (e0 e1 e2 e3 e4 e5 e6 e7 e8 e9 e10 e11 e12 e13 e14 e15 e16 e17 e18 e20 e21 e22 e24 e25 e26 : Value) :
    bl2.wp Tryd.prog S noLeaf Q [e0, e1, e2, e3, e4, e5, e6, e7, e8, e9, e10, e11, e12, e13, e14, e15, e16, e17, e18, .int .i64 ls, e20, e21, e22, .int .i64 kd, e24, e25, e26, .slice a bs.length c, .int .i64 r.i, .int .i64 r.k, .slice aa al.length ca, .int .i64 dl, .int .i64 sz, .int .i64 room] h [K0, K1] := by
  simp only [bl2, Tr.wp, mksW, callW, Ex.ev, coerce, toInt_int, toBool_bool, slL_sl, slC_sl, slA_sl, toAddr_ptr, ptrOf_ptr, isNil_sl, isNil_ptr, it_and, it_or, it_int, optN_int, optN_nl, cmpI, arith, Cst.val, SV.den, resShs, resV, resSV, resVals, newVars, runCells, exSh, allSh, cellsAre, storeW, List.flatMap_cons, List.flatMap_nil, List.replicate_one, List.getD_cons_zero, List.getD_cons_succ, List.getElem?_cons_zero, List.getElem?_cons_succ, decide_eq_true_eq, decide_eq_false_iff_not, List.map_cons, List.map_nil, List.cons_append, List.nil_append, List.append_nil, List.length_cons, List.length_nil, Nat.zero_add, Nat.add_zero, and_true, true_and, if_true, if_false, Bool.false_eq_true]
  refine ⟨fun hc => ?_, fun hc _ => ?_⟩
  · have hc : r.k = 0 ∧ 0 < kd := by simpa using hc
    have eF : bl2F bs dl room sz F r kd al = (if kd = 2 then (if (lensF bs r).1.k = 0 then syF bs (codesN (lensF bs r).2.1) (codesN (lensF bs r).2.2) dl room sz F (lensF bs r).1 al else ((lensF bs r).1, al))
     else (if r.k = 0 then syF bs (codesN fixL) (codesN fixD) dl room sz F r al else (r, al))) := if_pos hc
    rw [eF] at hK
    refine (k_l5Fixed (hi.sub s0)).mono ?_
    rintro _ h1 ⟨a1, c1, a2, c2, rfl, P1, P2, N1, N2, s1⟩
    refine ⟨_, _, _, _, _, _, rfl, fun h2 => ?_, fun h2 _ => ?_⟩
    · have h2 : kd = 2 := beq_iff_eq.1 h2
      rw [if_pos h2] at hK
      have okF := lensF_okR ok
      have good := lensF_good (bs := bs) (r := r)
      obtain ⟨lenA, lenB⟩ := lensF_lens (bs := bs) (r := r)
      refine (k_l5Lens (hi.sub (s0.trans s1)) (hx.sub (s0.trans s1)) L r ok).mono ?_
      generalize lensF bs r = G at hK okF good lenA lenB ⊢
      rintro _ h3 ⟨u, w, rfl, hP, ⟨a3, l3, c3, a4, l4, c4, rfl, rfl⟩, s3⟩
      refine ⟨_, _, _, _, _, _, _, _, _, _, _, rfl, fun _ => ?_⟩
      exact k_bl4 (c := c) hi (s0.trans (s1.trans s3)) hx L G.1 okF (P.sub (s1.trans s3)) N hd hl hdl hr hsz F hF (xs := G.2.1) (ys := G.2.2) (fun hk => by
        obtain ⟨p1, p2, _, _⟩ := hP hk
        obtain ⟨g1, g2⟩ := good hk
        exact ⟨p1, p2, Nat.le_trans lenA (by decide), Nat.le_trans lenB (by decide), g1, g2⟩) _ _ _ (fun a' c' h' q1 q2 q3 => fun _ => hK a' c' h' q1 q2 q3) _ _ _ _ _ _ _ _ _ _ _ _ _ _ _ _ _ _ _ _ _ _ _ _ _ _ _ _ _ _ _ _
    · have h2 : kd ≠ 2 := by simpa using h2
      rw [if_neg h2] at hK
      exact k_bl4 (c := c) hi (s0.trans s1) hx L r ok (P.sub s1) N hd hl hdl hr hsz F hF (xs := fixL) (ys := fixD) (fun hk =>
        ⟨P1, P2, fixL_lim, by show (List.replicate 32 (5 : Int)).length ≤ 1048576; simp, fixL_good, by rw [fixD_kind]; decide⟩) _ _ _ (fun a' c' h' q1 q2 q3 => fun _ => hK a' c' h' q1 q2 q3) _ _ _ _ _ _ _ _ _ _ _ _ _ _ _ _ _ _ _ _ _ _ _ _ _ _ _ _ _ _ _ _
  · have hc : ¬ (r.k = 0 ∧ 0 < kd) := by
      intro h; rw [h.1] at hc; simp [h.2] at hc
    have eF : bl2F bs dl room sz F r kd al = (r, al) := if_neg hc
    rw [eF] at hK
    exact hK aa ca h P N s0

/-- A stored block, or none. -/
def bl1F (bs : List Int) (dl room : Nat) (r : Rd) (kd : Int) (al : List Int) : Rd × List Int := if r.k = 0 ∧ kd = 0 then stF bs dl room r al else (r, al)
theorem blk_eq {F : Nat} {r : Rd} {al : List Int} : blk bs dl room sz F r al = bl2F bs dl room sz F (bl1F bs dl room (bk3 bs r) (bk2 bs r).2 al).1 (bk2 bs r).2 (bl1F bs dl room (bk3 bs r) (bk2 bs r).2 al).2 := by
  have n2 := tk_num (bs := bs) (n := 2) (r := (bk1 bs r).1)
  have q2 : (2 : Int) ^ 2 = 4 := by decide
  have e2 : (tk bs 2 (bk1 bs r).1).2 = (bk2 bs r).2 := rfl
  rw [e2, q2] at n2
  have h3 : (bk3 bs r).k = 0 → (bk2 bs r).2 ≠ 3 := fun h e => by
    have := (bd_k.1 (show (bd ((bk2 bs r).2 == 3) (bk2 bs r).1).k = 0 from h)).2
    rw [e] at this; cases this
  unfold blk bl1F
  by_cases hk : (bk3 bs r).k = 0
  · have h3 := h3 hk
    rw [if_neg (show ¬ (bk3 bs r).k ≠ 0 from fun h => h hk)]
    by_cases h0 : (bk2 bs r).2 = 0
    · rw [if_pos h0, if_pos (show (bk3 bs r).k = 0 ∧ (bk2 bs r).2 = 0 from ⟨hk, h0⟩)]
      unfold bl2F
      rw [if_neg (fun h => by omega)]
    · rw [if_neg h0, if_neg (show ¬ ((bk3 bs r).k = 0 ∧ (bk2 bs r).2 = 0) from fun h => h0 h.2)]
      unfold bl2F
      simp only
      rw [if_pos (show (bk3 bs r).k = 0 ∧ 0 < (bk2 bs r).2 from ⟨hk, by omega⟩)]
      by_cases h1 : (bk2 bs r).2 = 1
      · rw [if_pos h1, if_neg (show ¬ (bk2 bs r).2 = 2 by omega), if_pos hk]
      · rw [if_neg h1, if_pos (show (bk2 bs r).2 = 2 by omega)]
        by_cases hL : (lensF bs (bk3 bs r)).1.k = 0
        · rw [if_neg (show ¬ (lensF bs (bk3 bs r)).1.k ≠ 0 from fun h => h hL), if_pos hL]
        · rw [if_pos (show (lensF bs (bk3 bs r)).1.k ≠ 0 from hL), if_neg hL]
  · rw [if_pos (show (bk3 bs r).k ≠ 0 from hk), if_neg (show ¬ ((bk3 bs r).k = 0 ∧ (bk2 bs r).2 = 0) from fun h => hk h.1)]
    unfold bl2F
    rw [if_neg (fun h => hk h.1)]
end

set_option maxRecDepth 100000 in
set_option maxHeartbeats 4000000 in
theorem k_l5Blocks (hi : Eng.Inv S h0) (s0 : Eng.Sub h0 h) {a : Option Addr} {c : Nat} {bs : List Int} (hx : HInts h0 .u8 a bs) (L : bs.length ≤ 1048576) (r : Rd) (ok : okR bs r) {aa : Option Addr} {ca : Nat} {al : List Int} (P : Part .u8 h (.slice aa al.length ca) al) (N : Eng.New h0 (.slice aa al.length ca)) {dl sz room : Nat} (hd : dl ≤ al.length) (hl : al.length ≤ dl + room) (hdl : dl ≤ 40000) (hr : room ≤ 100000) (hsz : sz ≤ 40000)
    (F : Nat) (hF : 8 * bs.length + 1 ≤ F) (F0 : Nat) (hF0 : 8 * bs.length + 1 ≤ F0) :
    CallsH Tryd.prog S F_spec_l5Blocks #[rdV a c bs r, toldV aa ca al dl sz room] h (PostT h0 a c bs dl sz room (blF bs dl room sz F F0 r al)) := by
  refine run_spec_l5Blocks (vs := [.slice a bs.length c, .int .i64 r.i, .int .i64 r.k, .slice aa al.length ca, .int .i64 dl, .int .i64 sz, .int .i64 room]) ⟨rfl, rfl, rfl, rfl, rfl, rfl, rfl, trivial⟩ (hi.sub s0) ?_
  simp only [spec_l5Blocks_cut, Tr.wp, mksW, callW, Ex.ev, coerce, toInt_int, toBool_bool, slL_sl, slC_sl, slA_sl, toAddr_ptr, ptrOf_ptr, isNil_sl, isNil_ptr, it_and, it_or, it_int, optN_int, optN_nl, cmpI, arith, Cst.val, SV.den, resShs, resV, resSV, resVals, newVars, runCells, exSh, allSh, cellsAre, storeW, List.flatMap_cons, List.flatMap_nil, List.replicate_one, List.getD_cons_zero, List.getD_cons_succ, List.getElem?_cons_zero, List.getElem?_cons_succ, decide_eq_true_eq, decide_eq_false_iff_not, List.map_cons, List.map_nil, List.cons_append, List.nil_append, List.append_nil, List.length_cons, List.length_nil, Nat.zero_add, Nat.add_zero, and_true, true_and, if_true, if_false, Bool.false_eq_true]
  refine ⟨fun us h' => ∃ (ls kd : Int) (r' : Rd) (al' : List Int) (a' : Option Addr) (c' f : Nat), us = [.int .i64 ls, .int .i64 kd, .slice a bs.length c, .int .i64 r'.i, .int .i64 r'.k, .slice a' al'.length c', .int .i64 dl, .int .i64 sz, .int .i64 room] ∧ okR bs r' ∧ Part .u8 h' (.slice a' al'.length c') al' ∧ Eng.New h0 (.slice a' al'.length c') ∧ Eng.Sub h0 h' ∧ (dl ≤ al'.length ∧ al'.length ≤ dl + room) ∧ (r'.k = 0 → ls = 0 → 8 * (bs.length : Int) + 1 ≤ r'.i + f) ∧ blF bs dl room sz F F0 r al = (if ls ≠ 0 then (r', al') else blF bs dl room sz F f r' al'),
    fun us _ => if toInt (us.getD 4 undef) = 0 ∧ toInt (us.getD 0 undef) = 0 then (8 * (bs.length : Int) + 1 - toInt (us.getD 3 undef)).toNat + 1 else 0, ⟨0, 0, r, al, aa, ca, F0, rfl, ok, P, N, s0, ⟨hd, hl⟩, fun hk _ => by have := ok hk; omega, by rw [if_neg (by simp)]⟩, ?_⟩
  rintro x0 x1 b1 m1 d1 i1 k1 b2 m2 d2 x4 x5 x6 h' ⟨ls, kd, r', al', a', c', f, hx1, ok', P', N', s', hl', hf, e'⟩
  simp only [List.cons.injEq, Value.int.injEq, Value.slice.injEq, true_and, and_true] at hx1
  obtain ⟨rfl, rfl, ⟨rfl, rfl, rfl⟩, rfl, rfl, ⟨rfl, rfl, rfl⟩, rfl, rfl, rfl⟩ := hx1
  rw [e']
  refine ⟨fun hgo => ?_, fun hend => ?_⟩
  · have hgo : r'.k = 0 ∧ x0 = 0 := by simpa using hgo
    obtain ⟨hk, rfl⟩ := hgo
    have hpos := ok' hk
    obtain ⟨f', rfl⟩ : ∃ f', f = f' + 1 := ⟨f - 1, by have := hf hk rfl; omega⟩
    have est : (if (0 : Int) ≠ 0 then (r', al') else blF bs dl room sz F (f' + 1) r' al') = (if (bk1 bs r').2 ≠ 0 then blk bs dl room sz F r' al' else blF bs dl room sz F f' (blk bs dl room sz F r' al').1 (blk bs dl room sz F r' al').2) := by rw [if_neg (by simp), blF, if_pos hk]
    have n1 := tk_num (bs := bs) (n := 1) (r := r')
    have n2 := tk_num (bs := bs) (n := 2) (r := (bk1 bs r').1)
    have q1 : (2 : Int) ^ 1 = 2 := by decide
    have q2 : (2 : Int) ^ 2 = 4 := by decide
    refine (k_l5Take (hi.sub s') (hx.sub s') L r' ok' 1 (by omega)).mono ?_
    rintro _ h2 ⟨rfl, rfl⟩
    refine ⟨_, _, _, _, _, _, rfl, ?_⟩
    refine (k_l5Take (hi.sub s') (hx.sub s') L (bk1 bs r').1 (tk_ok ok') 2 (by omega)).mono ?_
    rintro _ h2 ⟨rfl, rfl⟩
    refine ⟨_, _, _, _, _, _, rfl, ?_⟩
    refine (k_l5Bad (hi.sub s') b1 d1 bs (bk2 bs r').1 ((bk2 bs r').2 == 3)).mono ?_
    rintro _ h2 ⟨rfl, rfl⟩
    refine ⟨_, _, _, _, _, rfl, ?_⟩
    have e3 : bd ((bk2 bs r').2 == 3) (bk2 bs r').1 = bk3 bs r' := rfl
    have e2 : (tk bs 2 (bk1 bs r').1).2 = (bk2 bs r').2 := rfl
    rw [e3, e2]
    have e1 : (tk bs 1 r').2 = (bk1 bs r').2 := rfl
    have ok3 : okR bs (bk3 bs r') := bk3_ok ok'
    have lt3 : (bk3 bs r').k = 0 → r'.k = 0 ∧ r'.i + 3 ≤ (bk3 bs r').i := bk3_lt
    -- the round's end
    have fin : ∀ (h'' : Eng.Heap) (a5 : Option Addr) (c5 : Nat), Part .u8 h'' (.slice a5 (blk bs dl room sz F r' al').2.length c5) (blk bs dl room sz F r' al').2 → Eng.New h0 (.slice a5 (blk bs dl room sz F r' al').2.length c5) → Eng.Sub h0 h'' →
        (∃ (ls kd : Int) (r2 : Rd) (al2 : List Int) (a' : Option Addr) (c' f : Nat), [Value.int .i64 (bk1 bs r').2, .int .i64 (bk2 bs r').2, .slice b1 bs.length d1, .int .i64 (blk bs dl room sz F r' al').1.i, .int .i64 (blk bs dl room sz F r' al').1.k, .slice a5 (blk bs dl room sz F r' al').2.length c5, .int .i64 dl, .int .i64 sz, .int .i64 room] = [.int .i64 ls, .int .i64 kd, .slice b1 bs.length d1, .int .i64 r2.i, .int .i64 r2.k, .slice a' al2.length c', .int .i64 dl, .int .i64 sz, .int .i64 room] ∧ okR bs r2 ∧ Part .u8 h'' (.slice a' al2.length c') al2 ∧ Eng.New h0 (.slice a' al2.length c') ∧ Eng.Sub h0 h'' ∧ (dl ≤ al2.length ∧ al2.length ≤ dl + room) ∧ (r2.k = 0 → ls = 0 → 8 * (bs.length : Int) + 1 ≤ r2.i + f) ∧ (if (0 : Int) ≠ 0 then (r', al') else blF bs dl room sz F (f' + 1) r' al') = (if ls ≠ 0 then (r2, al2) else blF bs dl room sz F f r2 al2)) ∧
        (if (blk bs dl room sz F r' al').1.k = 0 ∧ (bk1 bs r').2 = 0 then (8 * (bs.length : Int) + 1 - (blk bs dl room sz F r' al').1.i).toNat + 1 else 0) < (if r'.k = 0 ∧ (0 : Int) = 0 then (8 * (bs.length : Int) + 1 - r'.i).toNat + 1 else 0) := by
      intro h'' a5 c5 Q1 Q2 Q3
      have hle : le2 (bk3 bs r') (blk bs dl room sz F r' al').1 := blk_le
      refine ⟨⟨_, _, _, _, a5, c5, f', rfl, blk_ok ok', Q1, Q2, Q3, blk_len hl'.1 hl'.2, fun h _ => ?_, ?_⟩, ?_⟩
      · have h3 := hle h; have h4 := lt3 h3.1; have := hf hk rfl; push_cast at this; omega
      · rw [est]
      · rw [if_pos (show r'.k = 0 ∧ (0 : Int) = 0 from ⟨hk, rfl⟩)]
        split
        · rename_i h; have h3 := hle h.1; have h4 := lt3 h3.1; omega
        · omega
    have ebl := blk_eq (bs := bs) (dl := dl) (room := room) (sz := sz) (F := F) (r := r') (al := al')
    have hb1 : bl1F bs dl room (bk3 bs r') (bk2 bs r').2 al' = if (bk3 bs r').k = 0 ∧ (bk2 bs r').2 = 0 then stF bs dl room (bk3 bs r') al' else (bk3 bs r', al') := rfl
    rw [ebl] at fin
    refine ⟨fun hc => ?_, fun hc _ => ?_⟩
    · have hc : (bk3 bs r').k = 0 ∧ (bk2 bs r').2 = 0 := by simpa using hc
      rw [if_pos hc] at hb1
      rw [hb1] at fin
      refine CallsH.mono (k_l5Stored (c := d1) (dl := dl) (sz := sz) (room := room) hi s' hx L (bk3 bs r') ok3 P' N' hl'.1 hl'.2 hdl hr) ?_
      rintro _ h4 ⟨a4, c4, rfl, P4, N4, s4⟩
      have hlen := stL_len (bs := bs) (dl := dl) (room := room) (n := (stN bs (bk3 bs r')).toNat) (r := stR bs (bk3 bs r')) hl'.1 hl'.2
      refine ⟨_, _, _, _, _, _, _, _, _, _, _, rfl, fun _ => ?_⟩
      exact k_bl2 (c := d1) hi s4 hx L (stF bs dl room (bk3 bs r') al').1 (stF_ok ok3) P4 N4 hlen.1 hlen.2 hdl hr hsz F hF (bk2 bs r').2 (bk1 bs r').2 _ _ (fun a' c' h' q1 q2 q3 => fin h' a' c' q1 q2 q3) _ _ _ _ _ _ _ _ _ _ _ _ _ _ _ _ _ _ _ _ _ _ _ _ _
    · have hc : ¬ ((bk3 bs r').k = 0 ∧ (bk2 bs r').2 = 0) := by
        intro h; rw [h.1, h.2] at hc; simp at hc
      rw [if_neg hc] at hb1
      rw [hb1] at fin
      exact k_bl2 (c := d1) hi s' hx L (bk3 bs r') ok3 P' N' hl'.1 hl'.2 hdl hr hsz F hF (bk2 bs r').2 (bk1 bs r').2 _ _ (fun a' c' h' q1 q2 q3 => fin h' a' c' q1 q2 q3) _ _ _ _ _ _ _ _ _ _ _ _ _ _ _ _ _ _ _ _ _ _ _ _ _
  · have hend : ¬ (r'.k = 0 ∧ x0 = 0) := by
      intro h; rw [h.1, h.2] at hend; simp at hend
    have el : (if x0 ≠ 0 then (r', al') else blF bs dl room sz F f r' al') = (r', al') := by
      by_cases h0 : x0 ≠ 0
      · rw [if_pos h0]
      · rw [if_neg h0, blF_end (fun h => hend ⟨h, by omega⟩)]
    rw [el]
    exact ⟨b2, d2, rfl, P', N', s'⟩
end

section
variable {S : Shared} {h h0 : Eng.Heap}

/-- The whole stream: the last place, and what is told with the dictionary's part ahead. -/
def infF (bs : List Int) (n : Nat) (ds : List Int) : Rd × List Int := blF bs (lastN n ds).length 100000 n (8 * bs.length + 1) (8 * bs.length + 1) ⟨0, 0⟩ (lastN n ds)
def ans_Inflate (bs : List Int) (n : Int) (ds : List Int) : XInfRes :=
  if bs.length > 65536 then (7, [], 0, ())
  else if n < 1 ∨ n > 32768 then (3, [], 0, ())
  else if (infF bs n.toNat ds).1.k ≠ 0 then ((infF bs n.toNat ds).1.k, (infF bs n.toNat ds).2.drop (lastN n.toNat ds).length, 0, ())
  else (1, (infF bs n.toNat ds).2.drop (lastN n.toNat ds).length, (infF bs n.toNat ds).1.i, ())

theorem blF_len {bs : List Int} {dl room sz F : Nat} : ∀ {f : Nat} {r : Rd} {al : List Int}, dl ≤ al.length → al.length ≤ dl + room → dl ≤ (blF bs dl room sz F f r al).2.length ∧ (blF bs dl room sz F f r al).2.length ≤ dl + room
  | 0, r, al, h1, h2 => ⟨h1, h2⟩
  | f + 1, r, al, h1, h2 => by
    have := blk_len (bs := bs) (sz := sz) (F := F) (r := r) h1 h2
    unfold blF
    split
    · split
      · exact this
      · exact blF_len this.1 this.2
    · exact ⟨h1, h2⟩
theorem blF_ok {bs : List Int} {dl room sz F : Nat} : ∀ {f : Nat} {r : Rd} {al : List Int}, okR bs r → okR bs (blF bs dl room sz F f r al).1
  | 0, r, al, H => H
  | f + 1, r, al, H => by
    unfold blF
    split
    · split
      · exact blk_ok H
      · exact blF_ok (blk_ok H)
    · exact H

theorem k_l5Out (hi : Eng.Inv S h0) (s : Eng.Sub h0 h) {aa : Option Addr} {ca : Nat} {al : List Int} (P : Part .u8 h (.slice aa al.length ca) al) {dl sz room : Nat} (hd : dl ≤ al.length) (hl : al.length ≤ 2000000) :
    CallsH Tryd.prog S F_spec_l5Out #[toldV aa ca al dl sz room] h (fun v h' => Part .u8 h' v (al.drop dl) ∧ Eng.New h0 v ∧ Eng.Sub h0 h') := by
  refine run_spec_l5Out (vs := [.slice aa al.length ca, .int .i64 dl, .int .i64 sz, .int .i64 room]) ⟨rfl, rfl, rfl, rfl, trivial⟩ (hi.sub s) ?_
  simp only [t_spec_l5Out, Tr.wp, mksW, callW, Ex.ev, coerce, toInt_int, toBool_bool, slL_sl, slC_sl, slA_sl, toAddr_ptr, ptrOf_ptr, isNil_sl, isNil_ptr, it_and, it_or, it_int, optN_int, optN_nl, cmpI, arith, Cst.val, SV.den, resShs, resV, resSV, resVals, newVars, runCells, exSh, allSh, cellsAre, List.flatMap_cons, List.flatMap_nil, List.replicate_one, List.getD_cons_zero, List.getD_cons_succ, List.getElem?_cons_zero, List.getElem?_cons_succ, decide_eq_true_eq, decide_eq_false_iff_not, List.map_cons, List.map_nil, List.cons_append, List.nil_append, List.append_nil, List.length_cons, List.length_nil, Nat.zero_add, Nat.add_zero, and_true, true_and, if_true, if_false, Bool.false_eq_true]
  intro b hb
  obtain ⟨_, _, ei, hca, gx⟩ := P.ints
  cases ei
  obtain ⟨a', e, H'⟩ := slSub_ints gx (lo := dl) (hi := al.length) (m := ca) hd (Nat.le_refl _) hca
  have hdr : (al.drop dl).take (al.length - dl) = al.drop dl := List.take_of_length_le (by rw [List.length_drop]; omega)
  rw [hdr] at e H'
  rw [Int.toNat_natCast, e]
  have sb : Eng.Sub h (upd h b (.cells (ints .u8 []) 5)) := Sub.of_upd hb
  refine ⟨by omega, by omega, ?_⟩
  refine appW_part (xs := []) hi (s.trans sb) (Own.made (k := .u8) (h := h) (b := b) (T := 5) []).part (New.of (sub_none s hb)) (H'.sub sb) (by simp only [List.length_nil, List.length_drop]; omega) fun v' h' o n' s' _ _ => ?_
  obtain ⟨a4, c4, rfl, _, _⟩ := o.ints
  rw [List.nil_append] at o n'
  exact ⟨o, n', s'⟩

theorem k_l5Start (hi : Eng.Inv S h) (a : Option Addr) (c : Nat) (ds : List Int) (n room : Nat) (hc : ds.length ≤ c) (hl : ds.length ≤ 1099511627776) (hn : n ≤ 32768) (hx : HInts h .u8 a ds) :
    CallsH Tryd.prog S F_spec_l5Start #[.int .i64 n, .slice a ds.length c, .int .i64 room] h (fun v h' => ∃ a' c', v = toldV a' c' (lastN n ds) (lastN n ds).length n room ∧ Part .u8 h' (.slice a' (lastN n ds).length c') (lastN n ds) ∧ Eng.New h (.slice a' (lastN n ds).length c') ∧ Eng.Sub h h') := by
  refine run_spec_l5Start (vs := [.int .i64 n, .slice a ds.length c, .int .i64 room]) ⟨rfl, rfl, rfl, trivial⟩ hi ?_
  simp only [t_spec_l5Start, Tr.wp, mksW, callW, Ex.ev, coerce, toInt_int, toBool_bool, slL_sl, slC_sl, slA_sl, toAddr_ptr, ptrOf_ptr, isNil_sl, isNil_ptr, it_and, it_or, it_int, optN_int, optN_nl, cmpI, arith, Cst.val, SV.den, resShs, resV, resSV, resVals, newVars, runCells, exSh, allSh, cellsAre, storeW, List.flatMap_cons, List.flatMap_nil, List.replicate_one, List.getD_cons_zero, List.getD_cons_succ, List.getElem?_cons_zero, List.getElem?_cons_succ, decide_eq_true_eq, decide_eq_false_iff_not, List.map_cons, List.map_nil, List.cons_append, List.nil_append, List.append_nil, List.length_cons, List.length_nil, Nat.zero_add, Nat.add_zero, and_true, true_and, if_true, if_false, Bool.false_eq_true]
  refine (k_l4Last hi a c ds n hc hl hn hx).mono ?_
  rintro v1 h1 ⟨O1, N1, s1⟩
  obtain ⟨a1, c1, rfl, _, _⟩ := Part.ints O1
  exact ⟨_, _, _, rfl, a1, c1, rfl, O1, N1, s1⟩

theorem inf_none {k : Int} {h' : Eng.Heap} (s : Eng.Sub h0 h') : tInfRes.O h' (.agg #[.int .i64 k, .slice none 0 0, .int .i64 0]) (k, [], 0, ()) ∧ tInfRes.New h0 (.agg #[.int .i64 k, .slice none 0 0, .int .i64 0]) ∧ Eng.Sub h0 h' :=
  ⟨tInfRes_mkO (x := (k, [], 0, ())) Part.nil, fun b hb => (by have := (tInfRes_B (x := (k, [], 0, ()))).1 hb; cases this), s⟩
theorem inf_mk {k n : Int} {xs : List Int} {v : Value} {h' : Eng.Heap} (P : Part .u8 h' v xs) (N : Eng.New h0 v) (s : Eng.Sub h0 h') : tInfRes.O h' (.agg #[.int .i64 k, v, .int .i64 n]) (k, xs, n, ()) ∧ tInfRes.New h0 (.agg #[.int .i64 k, v, .int .i64 n]) ∧ Eng.Sub h0 h' :=
  ⟨tInfRes_mkO (x := (k, xs, n, ())) P, fun b hb => N b ((tInfRes_B (x := (k, xs, n, ()))).1 hb), s⟩

theorem inf_facts {bs ds : List Int} {n : Nat} (hn : n ≤ 32768) : (lastN n ds).length ≤ 32768 ∧ (lastN n ds).length ≤ (infF bs n ds).2.length ∧ (infF bs n ds).2.length ≤ (lastN n ds).length + 100000 := by
  have h1 : (lastN n ds).length ≤ 32768 := by rw [lastN_len]; omega
  have := blF_len (bs := bs) (dl := (lastN n ds).length) (room := 100000) (sz := n) (F := 8 * bs.length + 1) (f := 8 * bs.length + 1) (r := ⟨0, 0⟩) (al := lastN n ds) (Nat.le_refl _) (by omega)
  exact ⟨h1, this.1, this.2⟩
theorem sm_Inflate {bs ds : List Int} {n : Int} (L : limB bs) (L2 : limB ds) : smInfRes (ans_Inflate bs n ds) := by
  unfold ans_Inflate
  split
  · simp [smInfRes, smB]
  · split
    · simp [smInfRes, smB]
    · obtain ⟨h1, h2, h3⟩ := inf_facts (bs := bs) (ds := ds) (n := n.toNat) (by omega)
      split
      · show List.length (List.drop _ _) ≤ _; rw [List.length_drop]; omega
      · show List.length (List.drop _ _) ≤ _; rw [List.length_drop]; omega

set_option maxRecDepth 100000 in
set_option maxHeartbeats 4000000 in
theorem g_spec_Inflate (hi : Eng.Inv S h) {v u : Value} {bs ds : List Int} (O : tB.O h v bs) (L : limB bs) (n : Int) (wn : (Lit.int .i64 n).wf = true) (O2 : tB.O h u ds) (L2 : limB ds) :
    CallsH Tryd.prog S F_spec_Inflate #[v, .int .i64 n, u] h (fun v h' => tInfRes.O h' v (ans_Inflate bs n ds) ∧ tInfRes.New h v ∧ Eng.Sub h h') := by
  obtain ⟨a, c, rfl, hc, hx⟩ := Part.ints O
  obtain ⟨a2, c2, rfl, hc2, hx2⟩ := Part.ints O2
  have hL : bs.length ≤ 1048576 := L
  have hL2 : ds.length ≤ 1048576 := L2
  refine run_spec_Inflate (vs := [.slice a bs.length c, .int .i64 n, .slice a2 ds.length c2]) ⟨rfl, rfl, rfl, trivial⟩ hi ?_
  simp only [t_spec_Inflate, Tr.wp, mksW, callW, Ex.ev, coerce, toInt_int, toBool_bool, slL_sl, slC_sl, slA_sl, toAddr_ptr, ptrOf_ptr, isNil_sl, isNil_ptr, it_and, it_or, it_int, optN_int, optN_nl, cmpI, arith, Cst.val, SV.den, resShs, resV, resSV, resVals, newVars, runCells, exSh, allSh, cellsAre, storeW, List.flatMap_cons, List.flatMap_nil, List.replicate_one, List.getD_cons_zero, List.getD_cons_succ, List.getElem?_cons_zero, List.getElem?_cons_succ, decide_eq_true_eq, decide_eq_false_iff_not, List.map_cons, List.map_nil, List.cons_append, List.nil_append, List.append_nil, List.length_cons, List.length_nil, Nat.zero_add, Nat.add_zero, and_true, true_and, if_true, if_false, Bool.false_eq_true]
  refine ⟨fun hgt => ?_, fun hle => ⟨fun hbad => ?_, fun hok => ?_⟩⟩
  · have e : ans_Inflate bs n ds = (7, [], 0, ()) := if_pos (by omega)
    rw [e]; exact inf_none (fun _ _ e => e)
  · have e : ans_Inflate bs n ds = (3, [], 0, ()) := by
      unfold ans_Inflate; rw [if_neg (by omega), if_pos (by simp at hbad; omega)]
    rw [e]; exact inf_none (fun _ _ e => e)
  have hok : 1 ≤ n ∧ n ≤ 32768 := by simp at hok; omega
  have e : ans_Inflate bs n ds = if (infF bs n.toNat ds).1.k ≠ 0 then ((infF bs n.toNat ds).1.k, (infF bs n.toNat ds).2.drop (lastN n.toNat ds).length, 0, ()) else (1, (infF bs n.toNat ds).2.drop (lastN n.toNat ds).length, (infF bs n.toNat ds).1.i, ()) := by
    unfold ans_Inflate; rw [if_neg (by omega), if_neg (by omega)]
  rw [e]
  obtain ⟨m, rfl⟩ := Int.eq_ofNat_of_zero_le (show 0 ≤ n by omega)
  rw [Int.toNat_natCast]
  obtain ⟨f1, f2, f3⟩ := inf_facts (bs := bs) (ds := ds) (n := m) (by omega)
  have okr : okR bs ⟨0, 0⟩ := fun _ => ⟨Int.le_refl _, by simp only; omega⟩
  refine (k_l5Start hi a2 c2 ds m 100000 hc2 (by omega) (by omega) hx2).mono ?_
  rintro _ h1 ⟨a3, c3, rfl, P3, N3, s3⟩
  refine ⟨_, _, _, _, _, _, rfl, ?_⟩
  have K := k_l5Blocks (c := c) (dl := (lastN m ds).length) (sz := m) (room := 100000) hi s3 hx hL ⟨0, 0⟩ okr P3 N3 (Nat.le_refl _) (by omega) (by omega) (by omega) (by omega) (8 * bs.length + 1) (Nat.le_refl _) (8 * bs.length + 1) (Nat.le_refl _)
  refine CallsH.mono K ?_
  rintro _ h4 ⟨a4, c4, rfl, P4, N4, s4⟩
  have eF : blF bs (lastN m ds).length 100000 m (8 * bs.length + 1) (8 * bs.length + 1) ⟨0, 0⟩ (lastN m ds) = infF bs m ds := rfl
  rw [eF] at P4 N4 ⊢
  refine ⟨_, _, _, _, _, _, _, _, _, _, _, rfl, fun hne => ?_, fun heq => ?_⟩
  · have hk : (infF bs m ds).1.k ≠ 0 := by simpa using hne
    rw [if_pos hk]
    refine CallsH.mono (k_l5Out (dl := (lastN m ds).length) (sz := m) (room := 100000) hi s4 P4 f2 (by omega)) ?_
    rintro v5 h5 ⟨P5, N5, s5⟩
    obtain ⟨a5, c5, rfl, _, _⟩ := P5.ints
    exact ⟨_, _, _, rfl, inf_mk P5 N5 s5⟩
  · have hk : (infF bs m ds).1.k = 0 := by simpa using heq
    rw [if_neg (by omega)]
    refine CallsH.mono (k_l5Out (dl := (lastN m ds).length) (sz := m) (room := 100000) hi s4 P4 f2 (by omega)) ?_
    rintro v5 h5 ⟨P5, N5, s5⟩
    obtain ⟨a5, c5, rfl, _, _⟩ := P5.ints
    exact ⟨_, _, _, rfl, inf_mk P5 N5 s5⟩
end
end Go.Proofs.YtmnialmphlbmaaaDoor
