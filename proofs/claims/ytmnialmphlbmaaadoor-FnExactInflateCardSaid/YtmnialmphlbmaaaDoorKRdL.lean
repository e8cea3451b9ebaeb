import Derived.Test.YtmnialmphlbmaaaDoorKRd
import Derived.Test.YtmnialmphlbmaaaDoorKCodes3
set_option linter.unusedVariables false
set_option linter.unusedSimpArgs false
namespace Go.Proofs.YtmnialmphlbmaaaDoor
open Go Go.Eng Go.IntWalk
variable {S : Shared} {h : Eng.Heap}

/-! ### Lengths of a dynamic block: plain -/
theorem ymRoot {cs : List (Nat × Nat)} : ∀ m, Ym cs m 0 0 = 0
  | 0 => rfl
  | m + 1 => by rw [Ym, if_neg (fun h => by omega)]; exact ymRoot m

/-- What a code-length symbol adds. -/
def rp (bs : List Int) (r : Rd) (all : List Int) (x : Int) : Rd × List Int :=
  if x = 16 then ((tk bs 2 (bd (all.length == 0) r)).1, if (tk bs 2 (bd (all.length == 0) r)).1.k = 0 then all ++ List.replicate ((tk bs 2 (bd (all.length == 0) r)).2 + 3).toNat (all.getD (all.length - 1) 0) else all)
  else if x = 17 then ((tk bs 3 r).1, if (tk bs 3 r).1.k = 0 then all ++ List.replicate ((tk bs 3 r).2 + 3).toNat 0 else all)
  else if x = 18 then ((tk bs 7 r).1, if (tk bs 7 r).1.k = 0 then all ++ List.replicate ((tk bs 7 r).2 + 11).toNat 0 else all)
  else (r, if r.k = 0 then all ++ [x] else all)
theorem rp_ok {bs : List Int} {r : Rd} {all : List Int} {x : Int} (H : okR bs r) : okR bs (rp bs r all x).1 := by
  unfold rp
  split
  · exact tk_ok (bd_ok H)
  · split
    · exact tk_ok H
    · split
      · exact tk_ok H
      · exact H
theorem rp_len {bs : List Int} {r : Rd} {all : List Int} {x : Int} : all.length ≤ (rp bs r all x).2.length ∧ (rp bs r all x).2.length ≤ all.length + 138 ∧ ((rp bs r all x).1.k = 0 → all.length < (rp bs r all x).2.length) := by
  have h2 := tk_num (bs := bs) (n := 2) (r := bd (all.length == 0) r)
  have h3 := tk_num (bs := bs) (n := 3) (r := r)
  have h7 := tk_num (bs := bs) (n := 7) (r := r)
  have e2 : (2 : Int) ^ 2 = 4 := by decide
  have e3 : (2 : Int) ^ 3 = 8 := by decide
  have e7 : (2 : Int) ^ 7 = 128 := by decide
  unfold rp
  split
  · split
    · simp only [List.length_append, List.length_replicate]; exact ⟨by omega, by omega, fun _ => by omega⟩
    · rename_i hk; exact ⟨Nat.le_refl _, Nat.le_add_right _ _, fun h => absurd h hk⟩
  · split
    · split
      · simp only [List.length_append, List.length_replicate]; exact ⟨by omega, by omega, fun _ => by omega⟩
      · rename_i hk; exact ⟨Nat.le_refl _, Nat.le_add_right _ _, fun h => absurd h hk⟩
    · split
      · split
        · simp only [List.length_append, List.length_replicate]; exact ⟨by omega, by omega, fun _ => by omega⟩
        · rename_i hk; exact ⟨Nat.le_refl _, Nat.le_add_right _ _, fun h => absurd h hk⟩
      · split
        · simp only [List.length_append, List.length_singleton]; exact ⟨by omega, by omega, fun _ => by omega⟩
        · rename_i hk; exact ⟨Nat.le_refl _, Nat.le_add_right _ _, fun h => absurd h hk⟩

/-- One round: a symbol, and what it adds. -/
def lg1 (bs : List Int) (cs : List (Nat × Nat)) (tot : Nat) (r : Rd) (all : List Int) : Rd × List Int :=
  if (sy bs cs r).1.k = 0 then (bd (decide (tot < (rp bs (sy bs cs r).1 all (sy bs cs r).2).2.length)) (rp bs (sy bs cs r).1 all (sy bs cs r).2).1, (rp bs (sy bs cs r).1 all (sy bs cs r).2).2) else ((sy bs cs r).1, all)
def lg (bs : List Int) (cs : List (Nat × Nat)) (tot : Nat) (r : Rd) (all : List Int) : Rd × List Int :=
  if h : r.k = 0 ∧ all.length < tot then
    if h2 : all.length < (lg1 bs cs tot r all).2.length then lg bs cs tot (lg1 bs cs tot r all).1 (lg1 bs cs tot r all).2 else lg1 bs cs tot r all
  else (r, all)
termination_by tot - all.length
theorem lg1_ok {bs : List Int} {cs : List (Nat × Nat)} {tot : Nat} {r : Rd} {all : List Int} (H : okR bs r) : okR bs (lg1 bs cs tot r all).1 := by
  unfold lg1
  split
  · exact bd_ok (rp_ok (sy_ok H))
  · exact sy_ok H
theorem lg1_len {bs : List Int} {cs : List (Nat × Nat)} {tot : Nat} {r : Rd} {all : List Int} : all.length ≤ (lg1 bs cs tot r all).2.length ∧ (lg1 bs cs tot r all).2.length ≤ all.length + 138 ∧ ((lg1 bs cs tot r all).1.k = 0 → all.length < (lg1 bs cs tot r all).2.length ∧ (lg1 bs cs tot r all).2.length ≤ tot) := by
  have R := rp_len (bs := bs) (r := (sy bs cs r).1) (all := all) (x := (sy bs cs r).2)
  unfold lg1
  split
  · refine ⟨R.1, R.2.1, fun h => ?_⟩
    obtain ⟨h1, h2⟩ := bd_k.1 h
    exact ⟨R.2.2 h1, by simpa using h2⟩
  · rename_i hk; exact ⟨by simp, by simp, fun h => absurd h hk⟩
theorem lg_step {bs : List Int} {cs : List (Nat × Nat)} {tot : Nat} {r : Rd} {all : List Int} (h : r.k = 0 ∧ all.length < tot) : lg bs cs tot r all = lg bs cs tot (lg1 bs cs tot r all).1 (lg1 bs cs tot r all).2 := by
  rw [lg, dif_pos h]
  split
  · rfl
  · rename_i h2
    have := lg1_len (bs := bs) (cs := cs) (tot := tot) (r := r) (all := all)
    have hk : (lg1 bs cs tot r all).1.k ≠ 0 := fun e => h2 (this.2.2 e).1
    rw [lg, dif_neg (fun e => hk e.1)]
theorem lg_end {bs : List Int} {cs : List (Nat × Nat)} {tot : Nat} {r : Rd} {all : List Int} (h : ¬ (r.k = 0 ∧ all.length < tot)) : lg bs cs tot r all = (r, all) := by rw [lg, dif_neg h]

def ord : List Nat := [16, 17, 18, 0, 8, 7, 9, 6, 10, 5, 11, 4, 12, 3, 13, 2, 14, 1, 15]
/-- The first k lengths of the code of lengths. -/
def sm (bs : List Int) (r : Rd) : Nat → Rd × List Int
  | 0 => (r, List.replicate 19 0)
  | k + 1 => ((tk bs 3 (sm bs r k).1).1, (sm bs r k).2.set (ord.getD k 0) (tk bs 3 (sm bs r k).1).2)
theorem sm_ok {bs : List Int} {r : Rd} (H : okR bs r) : ∀ {k : Nat}, okR bs (sm bs r k).1
  | 0 => H
  | k + 1 => tk_ok (sm_ok H)
theorem sm_len {bs : List Int} {r : Rd} : ∀ {k : Nat}, (sm bs r k).2.length = 19
  | 0 => by simp [sm]
  | k + 1 => by simp only [sm, List.length_set]; exact sm_len

def lens0 (bs : List Int) (r : Rd) : Rd := bd (decide ((tk bs 5 r).2 + 257 > 286)) (tk bs 5 r).1
def lens1 (bs : List Int) (r : Rd) : Rd := bd (decide ((tk bs 5 (lens0 bs r)).2 + 1 > 30)) (tk bs 5 (lens0 bs r)).1
def lens2 (bs : List Int) (r : Rd) : Rd × List Int := sm bs (tk bs 4 (lens1 bs r)).1 ((tk bs 4 (lens1 bs r)).2.toNat + 4)
def lens3 (bs : List Int) (r : Rd) : Rd := bd (hkind (lens2 bs r).2 != 1) (lens2 bs r).1
def nLit (bs : List Int) (r : Rd) : Nat := ((tk bs 5 r).2 + 257).toNat
def nDist (bs : List Int) (r : Rd) : Nat := ((tk bs 5 (lens0 bs r)).2 + 1).toNat
def lens4 (bs : List Int) (r : Rd) : Rd × List Int := lg bs (codesN (lens2 bs r).2) (nLit bs r + nDist bs r) (lens3 bs r) []
def badL (A B : List Int) : Bool := (A.getD 256 0 == 0) || !(hkind A == 1 || hkind A == 4) || !(hkind B == 1 || hkind B == 4 || hkind B == 5)
/-- The lengths of a dynamic block. -/
def lensF (bs : List Int) (r : Rd) : Rd × List Int × List Int :=
  if (lens4 bs r).1.k = 0 then (bd (badL ((lens4 bs r).2.take (nLit bs r)) ((lens4 bs r).2.drop (nLit bs r))) (lens4 bs r).1, (lens4 bs r).2.take (nLit bs r), (lens4 bs r).2.drop (nLit bs r))
  else ((lens4 bs r).1, [], [])

theorem lg_ok {bs : List Int} {cs : List (Nat × Nat)} {tot : Nat} : ∀ {n : Nat} {r : Rd} {all : List Int}, tot - all.length ≤ n → okR bs r → okR bs (lg bs cs tot r all).1
  | 0, r, all, hn, H => by rw [lg_end (fun e => by omega)]; exact H
  | n + 1, r, all, hn, H => by
    by_cases h : r.k = 0 ∧ all.length < tot
    · rw [lg_step h]
      by_cases hk : (lg1 bs cs tot r all).1.k = 0
      · have := (lg1_len (bs := bs) (cs := cs) (tot := tot) (r := r) (all := all)).2.2 hk
        exact lg_ok (n := n) (by omega) (lg1_ok H)
      · rw [lg_end (fun e => hk e.1)]; exact lg1_ok H
    · rw [lg_end h]; exact H
theorem lens_ok {bs : List Int} {r : Rd} (H : okR bs r) : okR bs (lens0 bs r) ∧ okR bs (lens1 bs r) ∧ okR bs (lens2 bs r).1 ∧ okR bs (lens3 bs r) ∧ okR bs (lens4 bs r).1 := by
  have h0 : okR bs (lens0 bs r) := bd_ok (tk_ok H)
  have h1 : okR bs (lens1 bs r) := bd_ok (tk_ok h0)
  have h2 : okR bs (lens2 bs r).1 := sm_ok (tk_ok h1)
  have h3 : okR bs (lens3 bs r) := bd_ok h2
  exact ⟨h0, h1, h2, h3, lg_ok (Nat.le_refl _) h3⟩

/-! ### The reference's side -/
theorem k_l5IsKind (hi : Eng.Inv S h) (a : Option Addr) (c : Nat) (xs : List Int) (hx : HInts h .i64 a xs) (p q s : Int) :
    CallsH Tryd.prog S F_spec_l5IsKind #[.slice a xs.length c, .int .i64 p, .int .i64 q, .int .i64 s] h (fun v h' => v = .bool (hkind xs == p || hkind xs == q || hkind xs == s) ∧ h' = h) := by
  refine run_spec_l5IsKind (vs := [.slice a xs.length c, .int .i64 p, .int .i64 q, .int .i64 s]) ⟨rfl, rfl, rfl, rfl, trivial⟩ hi ?_
  simp only [t_spec_l5IsKind, Tr.wp, mksW, callW, Ex.ev, coerce, toInt_int, toBool_bool, slL_sl, slC_sl, slA_sl, toAddr_ptr, ptrOf_ptr, isNil_sl, isNil_ptr, it_and, it_or, it_int, optN_int, optN_nl, cmpI, arith, Cst.val, SV.den, resShs, resV, resSV, resVals, newVars, runCells, exSh, allSh, cellsAre, storeW, List.flatMap_cons, List.flatMap_nil, List.replicate_one, List.getD_cons_zero, List.getD_cons_succ, List.getElem?_cons_zero, List.getElem?_cons_succ, decide_eq_true_eq, decide_eq_false_iff_not, List.map_cons, List.map_nil, List.cons_append, List.nil_append, List.append_nil, List.length_cons, List.length_nil, Nat.zero_add, Nat.add_zero, and_true, true_and, if_true, if_false, Bool.false_eq_true]
  refine (k_spec_HuffKind hi a c xs hx).mono ?_
  rintro _ hq ⟨rfl, rfl⟩
  refine ⟨_, rfl, ?_, rfl⟩
  congr 1
  cases (hkind xs == p) <;> cases (hkind xs == q) <;> rfl

theorem k_l5Order (hi : Eng.Inv S h) : CallsH Tryd.prog S F_spec_l5Order #[] h (fun v h' => ∃ b T, h b = none ∧ v = .slice (some ⟨b, 0, none⟩) 19 19 ∧ h' = upd h b (.cells (ints .i64 (ord.map Int.ofNat)) T)) := by
  refine run_spec_l5Order (vs := []) trivial hi ?_
  simp only [t_spec_l5Order, Tr.wp, mksW, callW, Ex.ev, coerce, toInt_int, toBool_bool, slL_sl, slC_sl, slA_sl, toAddr_ptr, ptrOf_ptr, isNil_sl, isNil_ptr, it_and, it_or, it_int, optN_int, optN_nl, cmpI, arith, Cst.val, SV.den, resShs, resV, resSV, resVals, newVars, runCells, exSh, allSh, cellsAre, storeW, List.flatMap_cons, List.flatMap_nil, List.replicate_one, List.getD_cons_zero, List.getD_cons_succ, List.getElem?_cons_zero, List.getElem?_cons_succ, decide_eq_true_eq, decide_eq_false_iff_not, List.map_cons, List.map_nil, List.cons_append, List.nil_append, List.append_nil, List.length_cons, List.length_nil, Nat.zero_add, Nat.add_zero, and_true, true_and, if_true, if_false, Bool.false_eq_true]
  intro b hb
  exact ⟨b, _, hb, rfl, rfl⟩

theorem rd_three {a : Option Addr} {c : Nat} {bs : List Int} {r : Rd} {x : Value} {v : Value} (h : v = .tuple #[rdV a c bs r, x]) : v = .tuple #[.agg #[.slice a bs.length c, .int .i64 r.i, .int .i64 r.k], x] := h

/-- The loop that puts a number so many times behind (while nothing is wrong). -/
theorem rep_loop {h0 : Eng.Heap} (hi : Eng.Inv S h0) (s0 : Eng.Sub h0 h) {aa : Option Addr} {ca : Nat} {all : List Int} (P : Part .i64 h (.slice aa all.length ca) all) (N : Eng.New h0 (.slice aa all.length ca)) (hl : all.length ≤ 1000) (t : Nat) (ht : t ≤ 1000) (w k : Int) {G : Value → Eng.Heap → Prop}
    (hG : ∀ a l c h', Part .i64 h' (.slice a l c) (if k = 0 then all ++ List.replicate t w else all) → Eng.New h0 (.slice a l c) → Eng.Sub h0 h' → G (.slice a l c) h') :
    ∃ (I : List Value → Eng.Heap → Prop) (μ : List Value → Eng.Heap → Nat), I [.slice aa all.length ca, .int .i64 0] h ∧
      ∀ (a_1 : Option Addr) (l c_1 : Nat) (x_1 : Int) (h' : Eng.Heap), I [.slice a_1 l c_1, .int .i64 x_1] h' →
        ((decide (x_1 < (t : Int)) && k == 0) = true → ∀ (b : Nat), h' b = none →
          appW S 2 1 8 [.int .i64 0] (.slice a_1 l c_1) (.slice (some ⟨b, 0, none⟩) 1 1) (upd h' b (.cells #[.int .i64 w] 2)) fun v h'_1 =>
            I [.slice (slA v) (slL v) (slC v), .int .i64 (IntKind.i64.wrap (x_1 + 1))] h'_1 ∧ μ [.slice (slA v) (slL v) (slC v), .int .i64 (IntKind.i64.wrap (x_1 + 1))] h'_1 < μ [.slice a_1 l c_1, .int .i64 x_1] h') ∧
        ((decide (x_1 < (t : Int)) && k == 0) = false → G (.slice a_1 l c_1) h') := by
  refine ⟨fun us h' => ∃ (i : Nat) (a : Option Addr) (c : Nat), us = [.slice a (all.length + i) c, .int .i64 i] ∧ i ≤ t ∧ (k ≠ 0 → i = 0) ∧ Part .i64 h' (.slice a (all.length + i) c) (all ++ List.replicate i w) ∧ Eng.New h0 (.slice a (all.length + i) c) ∧ Eng.Sub h0 h',
    fun us _ => t - (toInt (us.getD 1 undef)).toNat, ⟨0, aa, ca, by simp, by omega, fun _ => rfl, by simpa using P, by simpa using N, s0⟩, ?_⟩
  rintro a1 l1 c1 y h' ⟨i, a2, c2, hx1, hi2, hk0, P2, N2, s2⟩
  simp only [List.cons.injEq, Value.int.injEq, Value.slice.injEq, true_and, and_true] at hx1
  obtain ⟨⟨rfl, rfl, rfl⟩, rfl⟩ := hx1
  refine ⟨fun hlt b hnb => ?_, fun hge => ?_⟩
  · have hlt : i < t ∧ k = 0 := by simp at hlt; omega
    have w2 : IntKind.i64.wrap ((i : Int) + 1) = ((i + 1 : Nat) : Int) := by rw [i64_in _ (by omega)]; omega
    have sb : Eng.Sub h' (upd h' b (.cells (ints .i64 [w]) 2)) := Sub.of_upd hnb
    have hlen : (all ++ List.replicate i w).length = all.length + i := by simp
    refine appW_part (xs := all ++ List.replicate i w) (a := some ⟨b, 0, none⟩) (c := 1) hi (s2.trans sb) (P2.sub sb) N2 (ys := [w]) HInts.new (by rw [hlen]; simp only [List.length_singleton]; omega) fun v' h3 o n3 s4 _ _ => ?_
    have el : (all ++ List.replicate i w) ++ [w] = all ++ List.replicate (i + 1) w := by rw [List.append_assoc, List.replicate_succ']
    rw [el] at o
    obtain ⟨a4, c4, rfl, _, _⟩ := o.ints
    have hlen2 : (all ++ List.replicate (i + 1) w).length = all.length + (i + 1) := by simp
    rw [hlen2] at o n3
    simp only [slA_sl, slL_sl, slC_sl, w2, hlen2]
    exact ⟨⟨i + 1, a4, c4, rfl, by omega, fun h => absurd hlt.2 h, o, n3, s4⟩, by simp only [List.getD_cons_succ, List.getD_cons_zero, toInt_int, Int.toNat_natCast]; omega⟩
  · have hge : ¬ (i < t ∧ k = 0) := by simp at hge; omega
    refine hG _ _ _ _ ?_ N2 s2
    by_cases h0 : k = 0
    · rw [if_pos h0]
      obtain rfl : i = t := by omega
      exact P2
    · rw [if_neg h0]
      obtain rfl := hk0 h0
      simpa using P2

set_option maxHeartbeats 2000000 in
theorem k_l5Repeat {h0 : Eng.Heap} (hi : Eng.Inv S h0) (s0 : Eng.Sub h0 h) {a : Option Addr} {c : Nat} {bs : List Int} (hx : HInts h0 .u8 a bs) (L : bs.length ≤ 1048576) (r : Rd) (ok : okR bs r) {aa : Option Addr} {ca : Nat} {all : List Int}
    (P : Part .i64 h (.slice aa all.length ca) all) (N : Eng.New h0 (.slice aa all.length ca)) (hl : all.length ≤ 1000) (x : Int) :
    CallsH Tryd.prog S F_spec_l5Repeat #[rdV a c bs r, .slice aa all.length ca, .int .i64 x] h (fun v h' => ∃ u, v = .tuple #[rdV a c bs (rp bs r all x).1, u] ∧ Part .i64 h' u (rp bs r all x).2 ∧ Eng.New h0 u ∧ Eng.Sub h0 h') := by
  refine run_spec_l5Repeat (vs := [.slice a bs.length c, .int .i64 r.i, .int .i64 r.k, .slice aa all.length ca, .int .i64 x]) ⟨rfl, rfl, rfl, rfl, rfl, trivial⟩ (hi.sub s0) ?_
  simp only [t_spec_l5Repeat, Tr.wp, mksW, callW, Ex.ev, coerce, toInt_int, toBool_bool, slL_sl, slC_sl, slA_sl, toAddr_ptr, ptrOf_ptr, isNil_sl, isNil_ptr, it_and, it_or, it_int, optN_int, optN_nl, cmpI, arith, Cst.val, SV.den, resShs, resV, resSV, resVals, newVars, runCells, exSh, allSh, cellsAre, List.flatMap_cons, List.flatMap_nil, List.replicate_one, List.getD_cons_zero, List.getD_cons_succ, List.getElem?_cons_zero, List.getElem?_cons_succ, decide_eq_true_eq, decide_eq_false_iff_not, List.map_cons, List.map_nil, List.cons_append, List.nil_append, List.append_nil, List.length_cons, List.length_nil, Nat.zero_add, Nat.add_zero, and_true, true_and, if_true, if_false, Bool.false_eq_true]
  have hxh := hx.sub s0
  have fin : ∀ (r' : Rd) (t : Nat) (w : Int), rp bs r all x = (r', if r'.k = 0 then all ++ List.replicate t w else all) → ∀ a' l' c' h', Part .i64 h' (.slice a' l' c') (if r'.k = 0 then all ++ List.replicate t w else all) → Eng.New h0 (.slice a' l' c') → Eng.Sub h0 h' →
      ∃ u, Value.tuple #[rdV a c bs r', .slice a' l' c'] = .tuple #[rdV a c bs (rp bs r all x).1, u] ∧ Part .i64 h' u (rp bs r all x).2 ∧ Eng.New h0 u ∧ Eng.Sub h0 h' := by
    intro r' t w e a' l' c' h' p n s
    rw [e]
    exact ⟨_, rfl, p, n, s⟩
  by_cases h16 : x = 16
  · refine ⟨fun _ => ?_, fun e => by simp [h16] at e⟩
    have eb : ((all.length : Int) == 0) = (all.length == 0) := by
      by_cases h : all.length = 0
      · rw [h]; rfl
      · have : ¬ (all.length : Int) = 0 := by omega
        rw [beq_eq_false_iff_ne.2 this, beq_eq_false_iff_ne.2 h]
    rw [eb]
    refine (k_l5Bad (hi.sub s0) a c bs r (all.length == 0)).mono ?_
    rintro _ h1 ⟨rfl, rfl⟩
    refine ⟨_, _, _, _, _, rfl, ?_⟩
    refine (k_l5Take (hi.sub s0) hxh L (bd (all.length == 0) r) (bd_ok ok) 2 (by omega)).mono ?_
    rintro _ h1 ⟨rfl, rfl⟩
    refine ⟨_, _, _, _, _, _, rfl, ?_⟩
    have tn := tk_num (bs := bs) (n := 2) (r := bd (all.length == 0) r)
    have e2 : (2 : Int) ^ 2 = 4 := by decide
    have hrp : rp bs r all x = ((tk bs 2 (bd (all.length == 0) r)).1, if (tk bs 2 (bd (all.length == 0) r)).1.k = 0 then all ++ List.replicate ((tk bs 2 (bd (all.length == 0) r)).2 + 3).toNat (all.getD (all.length - 1) 0) else all) := by unfold rp; rw [if_pos h16]
    obtain ⟨t, ht⟩ := Int.eq_ofNat_of_zero_le tn.1
    have wt : IntKind.i64.wrap ((tk bs 2 (bd (all.length == 0) r)).2 + 3) = ((t + 3 : Nat) : Int) := by rw [ht, i64_in _ (by omega)]; omega
    have et : ((tk bs 2 (bd (all.length == 0) r)).2 + 3).toNat = t + 3 := by omega
    rw [et] at hrp
    have h17 : x ≠ 17 := by omega
    have h18 : x ≠ 18 := by omega
    refine ⟨fun hk => ?_, fun hk => fun _ _ => ⟨fun e => absurd (beq_iff_eq.1 e) h17, fun _ _ => ⟨fun e => absurd (beq_iff_eq.1 e) h18, fun _ _ => ?_⟩⟩⟩
    · have hk : (tk bs 2 (bd (all.length == 0) r)).1.k = 0 := beq_iff_eq.1 hk
      have hne : all.length ≠ 0 := by have := (bd_k.1 (tk_k hk)).2; simpa using this
      have wl : IntKind.i64.wrap ((all.length : Int) - 1) = ((all.length - 1 : Nat) : Int) := by rw [i64_in _ (by omega)]; omega
      have hlt : all.length - 1 < all.length := by omega
      obtain ⟨_, _, ei, _, gi⟩ := P.ints
      cases ei
      obtain ⟨g1, g2⟩ := gi.cell (List.getElem?_eq_getElem hlt)
      rw [wl]
      refine ⟨by simpa using g2, by omega, by omega, all[all.length - 1], by simp only [Int.toNat_natCast, Nat.mul_one, add_add, Nat.add_zero]; exact g1, fun _ _ => ⟨fun e => absurd (beq_iff_eq.1 e) h17, fun _ _ => ⟨fun e => absurd (beq_iff_eq.1 e) h18, fun _ _ => ?_⟩⟩⟩
      rw [wt]
      have eg : all.getD (all.length - 1) 0 = all[all.length - 1] := by simp [List.getD, List.getElem?_eq_getElem hlt]
      rw [eg] at hrp
      exact rep_loop hi s0 P N hl (t + 3) (by omega) all[all.length - 1] (tk bs 2 (bd (all.length == 0) r)).1.k (G := fun v h' => ∃ u, Value.tuple #[rdV a c bs (tk bs 2 (bd (all.length == 0) r)).1, v] = .tuple #[rdV a c bs (rp bs r all x).1, u] ∧ Part .i64 h' u (rp bs r all x).2 ∧ Eng.New h0 u ∧ Eng.Sub h0 h') (fin (tk bs 2 (bd (all.length == 0) r)).1 (t + 3) all[all.length - 1] hrp)
    · have hk : (tk bs 2 (bd (all.length == 0) r)).1.k ≠ 0 := fun e => by simp [e] at hk
      rw [wt]
      have hrp2 : rp bs r all x = ((tk bs 2 (bd (all.length == 0) r)).1, if (tk bs 2 (bd (all.length == 0) r)).1.k = 0 then all ++ List.replicate (t + 3) x else all) := by rw [hrp, if_neg hk, if_neg hk]
      exact rep_loop hi s0 P N hl (t + 3) (by omega) x (tk bs 2 (bd (all.length == 0) r)).1.k (G := fun v h' => ∃ u, Value.tuple #[rdV a c bs (tk bs 2 (bd (all.length == 0) r)).1, v] = .tuple #[rdV a c bs (rp bs r all x).1, u] ∧ Part .i64 h' u (rp bs r all x).2 ∧ Eng.New h0 u ∧ Eng.Sub h0 h') (fin (tk bs 2 (bd (all.length == 0) r)).1 (t + 3) x hrp2)
  by_cases h17 : x = 17
  · refine ⟨fun e => absurd (beq_iff_eq.1 e) h16, fun _ _ => ⟨fun _ => ?_, fun e => by simp [h17] at e⟩⟩
    refine (k_l5Take (hi.sub s0) hxh L r ok 3 (by omega)).mono ?_
    rintro _ h1 ⟨rfl, rfl⟩
    have tn := tk_num (bs := bs) (n := 3) (r := r)
    have e2 : (2 : Int) ^ 3 = 8 := by decide
    have hrp : rp bs r all x = ((tk bs 3 r).1, if (tk bs 3 r).1.k = 0 then all ++ List.replicate ((tk bs 3 r).2 + 3).toNat 0 else all) := by unfold rp; rw [if_neg h16, if_pos h17]
    obtain ⟨t, ht⟩ := Int.eq_ofNat_of_zero_le tn.1
    have wt : IntKind.i64.wrap ((tk bs 3 r).2 + 3) = ((t + 3 : Nat) : Int) := by rw [ht, i64_in _ (by omega)]; omega
    have et : ((tk bs 3 r).2 + 3).toNat = t + 3 := by omega
    rw [et] at hrp
    refine ⟨_, _, _, _, _, _, rfl, fun _ => ⟨fun e => absurd (beq_iff_eq.1 e) (by omega), fun _ _ => ?_⟩⟩
    rw [wt]
    exact rep_loop hi s0 P N hl (t + 3) (by omega) 0 (tk bs 3 r).1.k (G := fun v h' => ∃ u, Value.tuple #[rdV a c bs (tk bs 3 r).1, v] = .tuple #[rdV a c bs (rp bs r all x).1, u] ∧ Part .i64 h' u (rp bs r all x).2 ∧ Eng.New h0 u ∧ Eng.Sub h0 h') (fin (tk bs 3 r).1 (t + 3) 0 hrp)
  by_cases h18 : x = 18
  · refine ⟨fun e => absurd (beq_iff_eq.1 e) h16, fun _ _ => ⟨fun e => absurd (beq_iff_eq.1 e) h17, fun _ _ => ⟨fun _ => ?_, fun e => by simp [h18] at e⟩⟩⟩
    refine (k_l5Take (hi.sub s0) hxh L r ok 7 (by omega)).mono ?_
    rintro _ h1 ⟨rfl, rfl⟩
    have tn := tk_num (bs := bs) (n := 7) (r := r)
    have e2 : (2 : Int) ^ 7 = 128 := by decide
    have hrp : rp bs r all x = ((tk bs 7 r).1, if (tk bs 7 r).1.k = 0 then all ++ List.replicate ((tk bs 7 r).2 + 11).toNat 0 else all) := by unfold rp; rw [if_neg h16, if_neg h17, if_pos h18]
    obtain ⟨t, ht⟩ := Int.eq_ofNat_of_zero_le tn.1
    have wt : IntKind.i64.wrap ((tk bs 7 r).2 + 11) = ((t + 11 : Nat) : Int) := by rw [ht, i64_in _ (by omega)]; omega
    have et : ((tk bs 7 r).2 + 11).toNat = t + 11 := by omega
    rw [et] at hrp
    refine ⟨_, _, _, _, _, _, rfl, fun _ => ?_⟩
    rw [wt]
    exact rep_loop hi s0 P N hl (t + 11) (by omega) 0 (tk bs 7 r).1.k (G := fun v h' => ∃ u, Value.tuple #[rdV a c bs (tk bs 7 r).1, v] = .tuple #[rdV a c bs (rp bs r all x).1, u] ∧ Part .i64 h' u (rp bs r all x).2 ∧ Eng.New h0 u ∧ Eng.Sub h0 h') (fin (tk bs 7 r).1 (t + 11) 0 hrp)
  refine ⟨fun e => absurd (beq_iff_eq.1 e) h16, fun _ _ => ⟨fun e => absurd (beq_iff_eq.1 e) h17, fun _ _ => ⟨fun e => absurd (beq_iff_eq.1 e) h18, fun _ _ => ?_⟩⟩⟩
  refine rep_loop hi s0 P N hl 1 (by omega) x r.k (G := fun v h' => ∃ u, Value.tuple #[rdV a c bs r, v] = .tuple #[rdV a c bs (rp bs r all x).1, u] ∧ Part .i64 h' u (rp bs r all x).2 ∧ Eng.New h0 u ∧ Eng.Sub h0 h') (fin r 1 x ?_)
  unfold rp
  rw [if_neg h16, if_neg h17, if_neg h18]; rfl
end Go.Proofs.YtmnialmphlbmaaaDoor
