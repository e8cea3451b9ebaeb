import Derived.Test.YtmnialmphlbmaaaDoorKBit2
import Derived.Test.YtmnialmphlbmaaaDoorKNext
import Derived.Test.YtmnialmphlbmaaaDoorKTrie
import Derived.Test.YtmnialmphlbmaaaDoorTyI
set_option linter.unusedVariables false
set_option linter.unusedSimpArgs false
namespace Go.Proofs.YtmnialmphlbmaaaDoor
open Go Go.Eng Go.IntWalk
variable {S : Shared} {h : Eng.Heap}

/-! ### The plain reading of bits: a place, and a class (0: nothing wrong so far) -/
structure Rd where
  i : Int
  k : Int

def tk (bs : List Int) (n : Nat) (r : Rd) : Rd × Int :=
  if r.k = 0 then if r.i + n > 8 * (bs.length : Int) then (⟨r.i, 2⟩, 0) else (⟨r.i + n, 0⟩, numAt bs r.i.toNat n) else (r, 0)
def bd (w : Bool) (r : Rd) : Rd := if r.k = 0 ∧ w = true then ⟨r.i, 3⟩ else r
/-- How many bits are looked at for a symbol. -/
def look (bs : List Int) (i : Nat) : Nat := min 15 (8 * bs.length - i)
def nxB (bs : List Int) (cs : List (Nat × Nat)) (i : Nat) : Int × Int × Int := nxt cs (numAt bs i (look bs i)).toNat (look bs i + 1) 0
def sy (bs : List Int) (cs : List (Nat × Nat)) (r : Rd) : Rd × Int :=
  if r.k = 0 then (⟨r.i + (nxB bs cs r.i.toNat).2.2, if (nxB bs cs r.i.toNat).1 = 2 then 2 else if (nxB bs cs r.i.toNat).1 = 0 then 3 else 0⟩, (nxB bs cs r.i.toNat).2.1) else (r, 0)
/-- The place stands within the text. -/
def okR (bs : List Int) (r : Rd) : Prop := r.k = 0 → 0 ≤ r.i ∧ r.i ≤ 8 * (bs.length : Int)

theorem tk_ok {bs : List Int} {n : Nat} {r : Rd} (H : okR bs r) : okR bs (tk bs n r).1 := by
  unfold tk
  by_cases h0 : r.k = 0
  · rw [if_pos h0]
    have := H h0
    split
    · intro h; cases h
    · intro _; simp only; omega
  · rw [if_neg h0]; exact H
theorem tk_num {bs : List Int} {n : Nat} {r : Rd} : 0 ≤ (tk bs n r).2 ∧ (tk bs n r).2 < 2 ^ n := by
  have hp : (0 : Int) < 2 ^ n := Int.pow_pos (by decide)
  unfold tk
  split
  · split
    · exact ⟨by simp, hp⟩
    · exact numAt_lt
  · exact ⟨by simp, hp⟩
theorem tk_k {bs : List Int} {n : Nat} {r : Rd} (h : (tk bs n r).1.k = 0) : r.k = 0 := by
  unfold tk at h
  by_cases h0 : r.k = 0
  · exact h0
  · rw [if_neg h0] at h; exact absurd h h0
theorem bd_ok {bs : List Int} {w : Bool} {r : Rd} (H : okR bs r) : okR bs (bd w r) := by
  unfold bd
  split
  · intro h; cases h
  · exact H
theorem bd_k {w : Bool} {r : Rd} : (bd w r).k = 0 ↔ r.k = 0 ∧ w = false := by
  unfold bd
  split
  · rename_i h; simp [h.2]
  · rename_i h
    by_cases h0 : r.k = 0
    · simp only [h0, true_and] at h ⊢; simpa using h
    · simp [h0]

theorem Em_lt {cs : List (Nat × Nat)} (hM : ∀ c ∈ cs, c.1 ≤ 15) {l v : Nat} (h : Ec cs l v) : l < 15 := Ec_len hM h

/-- What the next symbol is: its bits are at least one, and no more than there are. -/
theorem nxt_facts {cs : List (Nat × Nat)} {b : Nat} : ∀ {f l : Nat}, True →
    let x := nxt cs b f l
    (x.1 = 1 ∧ 0 ≤ x.2.1 ∧ x.2.1 < cs.length ∧ (l : Int) ≤ x.2.2 ∧ x.2.2 + 1 ≤ (l : Int) + f ∧ 1 ≤ x.2.2) ∨ ((x.1 = 0 ∨ x.1 = 2) ∧ x.2.1 = 0 ∧ x.2.2 = 0)
  | 0, l, hy => .inr ⟨.inr rfl, rfl, rfl⟩
  | f + 1, l, hy => by
    simp only [nxt]
    split
    · rename_i hne
      refine .inl ⟨rfl, ?_⟩
      obtain ⟨s, hs, _, hl, e⟩ := Ym_some hne
      simp only [e]
      refine ⟨by omega, by omega, by omega, by push_cast; omega, by omega⟩
    · split
      · rcases nxt_facts (cs := cs) (b := b) (f := f) (l := l + 1) hy with ⟨h1, h2, h3, h4, h5, h6⟩ | h
        · exact .inl ⟨h1, h2, h3, by push_cast at h4; omega, by push_cast at h5 ⊢; omega, h6⟩
        · exact .inr h
      · exact .inr ⟨.inl rfl, rfl, rfl⟩

theorem nxB_facts {bs : List Int} {cs : List (Nat × Nat)} {i : Nat} :
    ((nxB bs cs i).1 = 1 ∧ 0 ≤ (nxB bs cs i).2.1 ∧ (nxB bs cs i).2.1 < cs.length ∧ 1 ≤ (nxB bs cs i).2.2 ∧ (nxB bs cs i).2.2 ≤ look bs i) ∨ (((nxB bs cs i).1 = 0 ∨ (nxB bs cs i).1 = 2) ∧ (nxB bs cs i).2.1 = 0 ∧ (nxB bs cs i).2.2 = 0) := by
  rcases nxt_facts (cs := cs) (b := (numAt bs i (look bs i)).toNat) (f := look bs i + 1) (l := 0) trivial with ⟨h1, h2, h3, h4, h5, h6⟩ | h
  · exact .inl ⟨h1, h2, h3, h6, by unfold nxB; omega⟩
  · exact .inr h

theorem sy_ok {bs : List Int} {cs : List (Nat × Nat)} {r : Rd} (H : okR bs r) : okR bs (sy bs cs r).1 := by
  unfold sy
  by_cases h0 : r.k = 0
  · rw [if_pos h0]
    have := H h0
    intro hk
    simp only at hk ⊢
    rcases nxB_facts (bs := bs) (cs := cs) (i := r.i.toNat) with ⟨h1, h2, h3, h4, h5⟩ | ⟨_, _, h⟩
    · unfold look at h5; omega
    · omega
  · rw [if_neg h0]; exact H
/-- A symbol that was read. -/
theorem sy_k {bs : List Int} {cs : List (Nat × Nat)} {r : Rd} (h : (sy bs cs r).1.k = 0) : r.k = 0 ∧ r.i + 1 ≤ (sy bs cs r).1.i ∧ 0 ≤ (sy bs cs r).2 ∧ (sy bs cs r).2 < cs.length := by
  unfold sy at h ⊢
  by_cases h0 : r.k = 0
  · rw [if_pos h0] at h ⊢
    simp only at h ⊢
    rcases nxB_facts (bs := bs) (cs := cs) (i := r.i.toNat) with ⟨h1, h2, h3, h4, h5⟩ | ⟨h1, _, _⟩
    · exact ⟨h0, by omega, h2, h3⟩
    · rcases h1 with h1 | h1 <;> simp [h1] at h
  · rw [if_neg h0] at h; exact absurd h h0

/-! ### The reference's reading -/
def rdV (a : Option Addr) (c : Nat) (bs : List Int) (r : Rd) : Value := .agg #[.slice a bs.length c, .int .i64 r.i, .int .i64 r.k]

theorem k_l5Bad (hi : Eng.Inv S h) (a : Option Addr) (c : Nat) (bs : List Int) (r : Rd) (w : Bool) :
    CallsH Tryd.prog S F_spec_l5Bad #[rdV a c bs r, .bool w] h (fun v h' => v = rdV a c bs (bd w r) ∧ h' = h) := by
  refine run_spec_l5Bad (vs := [.slice a bs.length c, .int .i64 r.i, .int .i64 r.k, .bool w]) ⟨rfl, rfl, rfl, rfl, trivial⟩ hi ?_
  simp only [t_spec_l5Bad, Tr.wp, mksW, callW, Ex.ev, coerce, toInt_int, toBool_bool, slL_sl, slC_sl, slA_sl, toAddr_ptr, ptrOf_ptr, isNil_sl, isNil_ptr, it_and, it_or, it_int, optN_int, optN_nl, cmpI, arith, Cst.val, SV.den, resShs, resV, resSV, resVals, newVars, runCells, exSh, allSh, cellsAre, storeW, List.flatMap_cons, List.flatMap_nil, List.replicate_one, List.getD_cons_zero, List.getD_cons_succ, List.getElem?_cons_zero, List.getElem?_cons_succ, decide_eq_true_eq, decide_eq_false_iff_not, List.map_cons, List.map_nil, List.cons_append, List.nil_append, List.append_nil, List.length_cons, List.length_nil, Nat.zero_add, Nat.add_zero, and_true, true_and, if_true, if_false, Bool.false_eq_true]
  obtain ⟨i, k⟩ := r
  unfold bd rdV
  by_cases h0 : k = 0
  · subst h0; cases w <;> simp
  · simp [h0]

theorem k_l5Take (hi : Eng.Inv S h) {a : Option Addr} {c : Nat} {bs : List Int} (hx : HInts h .u8 a bs) (L : bs.length ≤ 1048576) (r : Rd) (ok : okR bs r) (n : Nat) (hn : n ≤ 32) :
    CallsH Tryd.prog S F_spec_l5Take #[rdV a c bs r, .int .i64 n] h (fun v h' => v = .tuple #[rdV a c bs (tk bs n r).1, .int .i64 (tk bs n r).2] ∧ h' = h) := by
  refine run_spec_l5Take (vs := [.slice a bs.length c, .int .i64 r.i, .int .i64 r.k, .int .i64 n]) ⟨rfl, rfl, rfl, rfl, trivial⟩ hi ?_
  simp only [t_spec_l5Take, Tr.wp, mksW, callW, Ex.ev, coerce, toInt_int, toBool_bool, slL_sl, slC_sl, slA_sl, toAddr_ptr, ptrOf_ptr, isNil_sl, isNil_ptr, it_and, it_or, it_int, optN_int, optN_nl, cmpI, arith, Cst.val, SV.den, resShs, resV, resSV, resVals, newVars, runCells, exSh, allSh, cellsAre, storeW, List.flatMap_cons, List.flatMap_nil, List.replicate_one, List.getD_cons_zero, List.getD_cons_succ, List.getElem?_cons_zero, List.getElem?_cons_succ, decide_eq_true_eq, decide_eq_false_iff_not, List.map_cons, List.map_nil, List.cons_append, List.nil_append, List.append_nil, List.length_cons, List.length_nil, Nat.zero_add, Nat.add_zero, and_true, true_and, if_true, if_false, Bool.false_eq_true]
  obtain ⟨i, k⟩ := r
  simp only at ok ⊢
  have w8 : IntKind.i64.wrap (8 * (bs.length : Int)) = 8 * (bs.length : Int) := i64_in _ (by omega)
  rw [w8]
  by_cases hk : k = 0
  · subst hk
    have ok := ok rfl
    simp only at ok
    have w1 : IntKind.i64.wrap (i + (n : Int)) = i + (n : Int) := i64_in _ (by omega)
    have w2 : IntKind.i64.wrap ((n : Int) - 1) = (n : Int) - 1 := i64_in _ (by omega)
    rw [w1, w2]
    by_cases hs : i + (n : Int) > 8 * (bs.length : Int)
    · have e : tk bs n ⟨i, 0⟩ = (⟨i, 2⟩, 0) := by unfold tk; rw [if_pos rfl, if_pos hs]
      rw [e]
      simp [hs, rdV]
    · have e : tk bs n ⟨i, 0⟩ = (⟨i + n, 0⟩, numAt bs i.toNat n) := by unfold tk; rw [if_pos rfl, if_neg hs]
      rw [e]
      simp only [hs, rdV]
      refine ⟨fun hne => by simp at hne, fun _ => ?_⟩
      refine ⟨fun us h' => ∃ j : Nat, us = [.int .i64 (numAt bs (i.toNat + j) (n - j)), .int .i64 ((j : Int) - 1)] ∧ j ≤ n ∧ h' = h, fun us _ => (toInt (us.getD 1 undef) + 1).toNat, ⟨n, ?_, by omega, rfl⟩, ?_⟩
      · rw [Nat.sub_self]; rfl
      rintro x y h' ⟨j, hx1, hj, rfl⟩
      obtain ⟨rfl, rfl⟩ : x = numAt bs (i.toNat + j) (n - j) ∧ y = (j : Int) - 1 := by simpa using hx1
      refine ⟨fun hge => ?_, fun hlt => ?_⟩
      · obtain ⟨m, rfl⟩ : ∃ m, j = m + 1 := ⟨j - 1, by omega⟩
        have w3 : IntKind.i64.wrap (i + (((m + 1 : Nat) : Int) - 1)) = ((i.toNat + m : Nat) : Int) := by rw [i64_in _ (by omega)]; omega
        rw [w3]
        refine (k_l2Bit hi a c bs (i.toNat + m) hx L (by omega)).mono ?_
        rintro _ hq ⟨rfl, rfl⟩
        obtain ⟨k, hk⟩ : ∃ k, n - (m + 1) = k := ⟨_, rfl⟩
        have hk2 : n - m = k + 1 := by omega
        have lt := numAt_lt (xs := bs) (a := i.toNat + (m + 1)) (n := k)
        have hp : (2 : Int) ^ k ≤ 2 ^ 32 := by
          rw [pow_cast, pow_cast]; exact_mod_cast Nat.pow_le_pow_right (by decide) (by omega)
        have hp32 : (2 : Int) ^ 32 = 4294967296 := by decide
        have hbit := bitAt_le (xs := bs) (i := i.toNat + m)
        rw [hk]
        have w4 : IntKind.i64.wrap (2 * numAt bs (i.toNat + (m + 1)) k) = 2 * numAt bs (i.toNat + (m + 1)) k := i64_in _ (by omega)
        have w4b : IntKind.i64.wrap (bitAt bs (i.toNat + m)) = bitAt bs (i.toNat + m) := i64_in _ (by omega)
        have w5 : IntKind.i64.wrap (2 * numAt bs (i.toNat + (m + 1)) k + bitAt bs (i.toNat + m)) = numAt bs (i.toNat + m) (k + 1) := by
          rw [i64_in _ (by omega), numAt_low, Nat.add_assoc]
        have w6 : IntKind.i64.wrap (((m + 1 : Nat) : Int) - 1 - 1) = (m : Int) - 1 := by rw [i64_in _ (by omega)]; omega
        refine ⟨_, rfl, ⟨m, ?_, by omega, rfl⟩, ?_⟩
        · rw [hk2, w4, w4b, w5, w6]
        · rw [w6]; simp only [List.getD_cons_succ, List.getD_cons_zero, toInt_int]; omega
      · obtain rfl : j = 0 := by omega
        exact ⟨rfl, rfl⟩
  · have e : tk bs n ⟨i, k⟩ = (⟨i, k⟩, 0) := by unfold tk; rw [if_neg hk]
    rw [e]
    simp [hk, rdV]

/-- What the codes' slice holds. -/
structure CodesAt (h : Eng.Heap) (a : Option Addr) (l : Nat) (cs : List (Nat × Nat)) : Prop where
  hx : ∃ ps : List (Int × Int), HPairs h a ps ∧ ps.length = l ∧ cs.length = ps.length ∧ ∀ (j : Nat) p, ps[j]? = some p → ∃ l b : Nat, p = ((l : Int), (b : Int)) ∧ cs[j]? = some (l, b) ∧ l ≤ 15 ∧ b < 2 ^ l
  un : uniq cs
  ll : l ≤ 1000
theorem CodesAt.sub {h' : Eng.Heap} {a : Option Addr} {l : Nat} {cs : List (Nat × Nat)} (H : CodesAt h a l cs) (s : Eng.Sub h h') : CodesAt h' a l cs := by
  obtain ⟨⟨ps, h1, h2⟩, h3, h4⟩ := H
  exact ⟨⟨ps, h1.sub s, h2⟩, h3, h4⟩

theorem look_le {bs : List Int} {i : Nat} : look bs i ≤ 15 := by unfold look; omega

theorem k_l5Sym (hi : Eng.Inv S h) {a : Option Addr} {c : Nat} {bs : List Int} (hx : HInts h .u8 a bs) (L : bs.length ≤ 1048576) (r : Rd) (ok : okR bs r) {ac : Option Addr} {lc cc : Nat} {cs : List (Nat × Nat)} (C : r.k = 0 → CodesAt h ac lc cs) :
    CallsH Tryd.prog S F_spec_l5Sym #[rdV a c bs r, .slice ac lc cc] h (fun v h' => v = .tuple #[rdV a c bs (sy bs cs r).1, .int .i64 (sy bs cs r).2] ∧ h' = h) := by
  refine run_spec_l5Sym (vs := [.slice a bs.length c, .int .i64 r.i, .int .i64 r.k, .slice ac lc cc]) ⟨rfl, rfl, rfl, rfl, trivial⟩ hi ?_
  simp only [t_spec_l5Sym, Tr.wp, mksW, callW, Ex.ev, coerce, toInt_int, toBool_bool, slL_sl, slC_sl, slA_sl, toAddr_ptr, ptrOf_ptr, isNil_sl, isNil_ptr, it_and, it_or, it_int, optN_int, optN_nl, cmpI, arith, Cst.val, SV.den, resShs, resV, resSV, resVals, newVars, runCells, exSh, allSh, cellsAre, storeW, List.flatMap_cons, List.flatMap_nil, List.replicate_one, List.getD_cons_zero, List.getD_cons_succ, List.getElem?_cons_zero, List.getElem?_cons_succ, decide_eq_true_eq, decide_eq_false_iff_not, List.map_cons, List.map_nil, List.cons_append, List.nil_append, List.append_nil, List.length_cons, List.length_nil, Nat.zero_add, Nat.add_zero, and_true, true_and, if_true, if_false, Bool.false_eq_true]
  obtain ⟨i, k⟩ := r
  simp only at ok C ⊢
  by_cases hk : k = 0
  · subst hk
    have ok := ok rfl
    simp only at ok
    refine ⟨fun hne => by simp at hne, fun _ => ?_⟩
    obtain ⟨m, rfl⟩ := Int.eq_ofNat_of_zero_le ok.1
    have w8 : IntKind.i64.wrap (8 * (bs.length : Int)) = 8 * (bs.length : Int) := i64_in _ (by omega)
    rw [w8]
    refine ⟨fun us h' => ∃ j : Nat, us = [.int .u64 (numAt bs m j), .int .i64 j] ∧ j ≤ look bs m ∧ h' = h, fun us _ => 15 - (toInt (us.getD 1 undef)).toNat, ⟨0, rfl, by omega, rfl⟩, ?_⟩
    rintro x y h' ⟨j, hx1, hj, rfl⟩
    obtain ⟨rfl, rfl⟩ : x = numAt bs m j ∧ y = j := by simpa using hx1
    have hj15 := look_le (bs := bs) (i := m)
    have w1 : IntKind.i64.wrap ((m : Int) + (j : Int)) = ((m + j : Nat) : Int) := by rw [i64_in _ (by omega)]; omega
    rw [w1]
    refine ⟨fun hlt => ?_, fun hge => ?_⟩
    · have hlt : j < 15 ∧ ((m + j : Nat) : Int) < 8 * (bs.length : Int) := by simp at hlt; omega
      refine (k_l2Bit hi a c bs (m + j) hx L (by omega)).mono ?_
      rintro _ hq ⟨rfl, rfl⟩
      have hbit := bitAt_le (xs := bs) (i := m + j)
      have lt := numAt_lt (xs := bs) (a := m) (n := j)
      have hp : (2 : Int) ^ j ≤ 2 ^ 15 := by
        rw [pow_cast, pow_cast]; exact_mod_cast Nat.pow_le_pow_right (by decide) (by omega)
      have hp15 : (2 : Int) ^ 15 = 32768 := by decide
      have wu : IntKind.u64.wrap (j : Int) = j := u64_in _ (by omega)
      have m64 : min (j : Int).toNat IntKind.u64.bits = j := by
        have : IntKind.u64.bits = 64 := rfl
        rw [this]; omega
      rw [wu, m64]
      have hb01 : bitAt bs (m + j) = 0 ∨ bitAt bs (m + j) = 1 := by omega
      have wm : IntKind.u64.wrap (bitAt bs (m + j) * 2 ^ j) = bitAt bs (m + j) * 2 ^ j := by
        rcases hb01 with e | e <;> rw [e] <;> exact u64_in _ (by omega)
      have wa : IntKind.u64.wrap (numAt bs m j + bitAt bs (m + j) * 2 ^ j) = numAt bs m (j + 1) := by
        rw [numAt]
        rcases hb01 with e | e <;> rw [e] <;> exact u64_in _ (by omega)
      have w2 : IntKind.i64.wrap ((j : Int) + 1) = ((j + 1 : Nat) : Int) := by rw [i64_in _ (by omega)]; omega
      refine ⟨bitAt bs (m + j), rfl, by omega, ?_⟩
      rw [wm, wa, w2]
      exact ⟨⟨j + 1, rfl, by unfold look; omega, rfl⟩, by simp only [List.getD_cons_succ, List.getD_cons_zero, toInt_int]; omega⟩
    · have hge : ¬ (j < 15 ∧ ((m + j : Nat) : Int) < 8 * (bs.length : Int)) := by simp at hge; omega
      have hjl : j = look bs m := by unfold look at hj ⊢; omega
      obtain ⟨⟨ps, c1, c2, c3, c4⟩, c5, c6⟩ := C rfl
      subst c2
      have lt := numAt_lt (xs := bs) (a := m) (n := j)
      have hp : (2 : Int) ^ j ≤ 2 ^ 15 := by
        rw [pow_cast, pow_cast]; exact_mod_cast Nat.pow_le_pow_right (by decide) (by omega)
      have hp15 : (2 : Int) ^ 15 = 32768 := by decide
      obtain ⟨b, hb⟩ := Int.eq_ofNat_of_zero_le lt.1
      rw [hb]
      refine (k_l3Next hi ac cc ps cs c1 (by omega) c3 c4 c5 b j (by omega) (by omega)).mono ?_
      rintro _ hq ⟨rfl, rfl⟩
      have eN : nxt cs b (j + 1) 0 = nxB bs cs m := by unfold nxB; rw [← hjl, hb]; rfl
      rw [eN]
      refine ⟨_, _, _, rfl, ?_⟩
      have eS : sy bs cs ⟨(m : Int), 0⟩ = (⟨(m : Int) + (nxB bs cs m).2.2, if (nxB bs cs m).1 = 2 then 2 else if (nxB bs cs m).1 = 0 then 3 else 0⟩, (nxB bs cs m).2.1) := by unfold sy; rw [if_pos rfl]; rfl
      rw [eS]
      have F := nxB_facts (bs := bs) (cs := cs) (i := m)
      generalize nxB bs cs m = x at F ⊢
      obtain ⟨kx, sx, lx⟩ := x
      simp only at F ⊢
      have wl : IntKind.i64.wrap ((m : Int) + lx) = (m : Int) + lx := i64_in _ (by omega)
      have e2 : (if (kx == 2) = true then (2 : Int) else 0) = (⟨(m : Int), if kx = 2 then 2 else 0⟩ : Rd).k := by by_cases h : kx = 2 <;> simp [h]
      rw [e2]
      refine (k_l5Bad hi a c bs ⟨(m : Int), if kx = 2 then 2 else 0⟩ (kx == 0)).mono ?_
      rintro _ hq2 ⟨rfl, rfl⟩
      have e3 : bd (kx == 0) ⟨(m : Int), if kx = 2 then 2 else 0⟩ = ⟨(m : Int), if kx = 2 then 2 else if kx = 0 then 3 else 0⟩ := by
        unfold bd
        by_cases h2 : kx = 2
        · subst h2; simp
        · by_cases h0 : kx = 0
          · subst h0; simp
          · simp [h2, h0]
      rw [e3]
      exact ⟨_, _, _, _, _, rfl, by rw [wl]; exact ⟨rfl, rfl⟩⟩
  · have e : sy bs cs ⟨i, k⟩ = (⟨i, k⟩, 0) := by unfold sy; rw [if_neg hk]
    rw [e]
    simp [hk, rdV]
end Go.Proofs.YtmnialmphlbmaaaDoor
