import Derived.Test.YtmnialmphlbmaaaDoorKTrie
import Derived.Test.YtmnialmphlbmaaaDoorKCodes3
import Derived.Test.YtmnialmphlbmaaaDoorTrHN
set_option linter.unusedVariables false
set_option linter.unusedSimpArgs false
namespace Go.Proofs.YtmnialmphlbmaaaDoor
open Go Go.Eng Go.IntWalk
variable {S : Shared} {h : Eng.Heap}

def nres (r : Int × Int × Int) : Value := .agg #[.int .i64 r.1, .int .i64 r.2.1, .int .i64 r.2.2]

theorem Ec_len {cs : List (Nat × Nat)} {l v M : Nat} (hM : ∀ c ∈ cs, c.1 ≤ M) (h : Ec cs l v) : l < M := by
  obtain ⟨c, hc, h1, _⟩ := h
  have := hM c hc
  omega

theorem Em_succ {cs : List (Nat × Nat)} {s l v L β : Nat} (hs : cs[s]? = some (L, β)) : Em cs (s + 1) l v ↔ Em cs s l v ∨ (l < L ∧ β % 2 ^ l = v) := by
  constructor
  · rintro ⟨t, c, h1, h2, h3⟩
    by_cases h : t = s
    · subst h; rw [hs] at h2; have := Option.some.inj h2; subst this; exact .inr h3
    · exact .inl ⟨t, c, by omega, h2, h3⟩
  · rintro (⟨t, c, h1, h2, h3⟩ | h3)
    · exact ⟨t, c, by omega, h2, h3⟩
    · exact ⟨s, _, by omega, hs, h3⟩

set_option maxHeartbeats 4000000 in
theorem k_l3Next (hi : Eng.Inv S h) (a : Option Addr) (c : Nat) (ps : List (Int × Int)) (cs : List (Nat × Nat)) (hx : HPairs h a ps) (hlen : ps.length ≤ 1048576) (hcl : cs.length = ps.length)
    (hcs : ∀ (j : Nat) p, ps[j]? = some p → ∃ l b : Nat, p = ((l : Int), (b : Int)) ∧ cs[j]? = some (l, b) ∧ l ≤ 15 ∧ b < 2 ^ l) (U : uniq cs) (b n : Nat) (hb : b < 18446744073709551616) (hn : n ≤ 64) :
    CallsH Tryd.prog S F_spec_l3Next #[.slice a ps.length c, .int .u64 b, .int .i64 n] h (fun v h' => v = nres (nxt cs b (n + 1) 0) ∧ h' = h) := by
  refine run_spec_l3Next (vs := [.slice a ps.length c, .int .u64 b, .int .i64 n]) ⟨rfl, rfl, rfl, trivial⟩ hi ?_
  simp only [t_spec_l3Next, Tr.wp, mksW, callW, Ex.ev, coerce, toInt_int, toBool_bool, slL_sl, slC_sl, slA_sl, toAddr_ptr, ptrOf_ptr, isNil_sl, isNil_ptr, it_and, it_or, it_int, optN_int, optN_nl, cmpI, arith, Cst.val, SV.den, resShs, resV, resSV, resVals, newVars, runCells, exSh, allSh, cellsAre, storeW, List.flatMap_cons, List.flatMap_nil, List.replicate_one, List.getD_cons_zero, List.getD_cons_succ, List.getElem?_cons_zero, List.getElem?_cons_succ, decide_eq_true_eq, decide_eq_false_iff_not, List.map_cons, List.map_nil, List.cons_append, List.nil_append, List.append_nil, List.length_cons, List.length_nil, Nat.zero_add, Nat.add_zero, and_true, true_and, if_true, if_false, Bool.false_eq_true]
  have hM : ∀ c ∈ cs, c.1 ≤ 15 := fun c hc => by
    obtain ⟨j, hj⟩ := List.getElem?_of_mem hc
    have hj2 : j < ps.length := by rw [← hcl]; exact (List.getElem?_eq_some_iff.1 hj).1
    obtain ⟨l, b, _, h2, h3, _⟩ := hcs j _ (List.getElem?_eq_getElem hj2)
    rw [hj] at h2
    have := Option.some.inj h2
    rw [this]; exact h3
  refine ⟨fun us h' => ∃ l : Nat, us = [.int .i64 l] ∧ l ≤ n + 1 ∧ l ≤ 15 ∧ nxt cs b (n + 1) 0 = nxt cs b (n + 1 - l) l ∧ h' = h, fun us _ => n + 1 - (toInt (us.getD 0 undef)).toNat, ⟨0, rfl, by omega, by omega, rfl, rfl⟩, ?_⟩
  rintro x h' ⟨l, hx1, hl1, hl15, hnx, rfl⟩
  obtain rfl : x = l := by simpa using hx1
  refine ⟨fun hle => ?_, fun hgt => ?_⟩
  · refine (k_l3Pow hi l (by omega) (by omega)).mono ?_
    rintro _ hq ⟨rfl, eq⟩
    rw [eq]
    have hp : 2 ^ l ≤ 2 ^ 15 := Nat.pow_le_pow_right (by decide) hl15
    have hp0 : 0 < 2 ^ l := Nat.two_pow_pos l
    have e15 : 2 ^ 15 = 32768 := by decide
    have hpne : (((2 ^ l : Nat) : Int) != 0) = true := by
      have : ((2 ^ l : Nat) : Int) ≠ 0 := by omega
      exact bne_iff_ne.2 this
    have wP : IntKind.u64.wrap ((2 ^ (l : Int).toNat : Nat) : Int) = ((2 ^ l : Nat) : Int) := by rw [Int.toNat_natCast]; exact u64_in _ (by omega)
    obtain ⟨low, hlow⟩ : ∃ low, low = b % 2 ^ l := ⟨_, rfl⟩
    have wlow : (b : Int).tmod ((2 ^ l : Nat) : Int) = (low : Int) := by rw [Int.tmod_eq_emod_of_nonneg (by omega), hlow]; push_cast; rfl
    obtain ⟨f, hf⟩ : ∃ f, n + 1 - l = f + 1 := ⟨n - l, by omega⟩
    have hnx2 : nxt cs b (n + 1) 0 = (if Ym cs cs.length l low ≠ 0 then (1, (Ym cs cs.length l low : Int) - 1, (l : Int)) else if Ec cs l low then nxt cs b f (l + 1) else (0, 0, 0)) := by rw [hnx, hf, nxt, hlow]
    refine ⟨_, rfl, ?_⟩
    rw [wP, wlow]
    refine ⟨hpne, fun us h'' => ∃ (s : Nat) (B : Bool), us = [.bool B, .int .i64 s] ∧ s ≤ ps.length ∧ (B = true ↔ Em cs s l low) ∧ (∀ t, t < s → cs[t]? = some (l, low) → ¬ 0 < l) ∧ h'' = h', fun us _ => ps.length - (toInt (us.getD 1 undef)).toNat, ⟨0, false, rfl, by omega, ⟨fun h => (by cases h), fun ⟨t, _, h, _⟩ => (by omega)⟩, fun t h => by omega, rfl⟩, ?_⟩
    rintro B' x h'' ⟨s, B, hx2, hs, hB, hnone, rfl⟩
    obtain ⟨rfl, rfl⟩ : B' = B ∧ x = s := by simpa using hx2
    refine ⟨fun hlt => ?_, fun hge => ?_⟩
    · have hs3 : s < ps.length := by omega
      obtain ⟨L, β, hp1, hc1, hL15, hβ⟩ := hcs s _ (List.getElem?_eq_getElem hs3)
      obtain ⟨g1, g2, g3⟩ := hx.cell (List.getElem?_eq_getElem hs3)
      rw [hp1] at g1 g2
      have w2 : IntKind.i64.wrap ((s : Int) + 1) = ((s + 1 : Nat) : Int) := by rw [i64_in _ (by omega)]; omega
      refine ⟨by simpa using g3, by omega, hlt, (L : Int), (β : Int), ⟨by simpa [add_add] using g1, by simpa [add_add] using g2⟩, fun hm => ?_, fun hm => ?_⟩
      · have hm : L = l ∧ 0 < L ∧ β = low := by simp at hm; omega
        obtain ⟨rfl, hL0, rfl⟩ := hm
        have hy := Ym_at U hc1 hL0 (m := cs.length) (by omega)
        rw [hnx2, hy, if_pos (by omega)]
        refine ⟨?_, rfl⟩
        unfold nres
        simp only
        rw [show ((s + 1 : Nat) : Int) - 1 = (s : Int) by omega]
      · have hm : ¬ (L = l ∧ 0 < L ∧ β = low) := by
          rintro ⟨rfl, hL0, rfl⟩
          simp at hm; omega
        have hnone' : ∀ t, t < s + 1 → cs[t]? = some (l, low) → ¬ 0 < l := fun t ht hc => by
          by_cases h : t = s
          · subst h; rw [hc1] at hc; simp only [Option.some.injEq, Prod.mk.injEq] at hc; intro h0; exact hm ⟨hc.1, by omega, hc.2⟩
          · exact hnone t (by omega) hc
        have hms : (fun (us : List Value) (_ : Eng.Heap) => ps.length - (toInt (us.getD 1 undef)).toNat) [.bool B', .int .i64 (IntKind.i64.wrap ((s : Int) + 1))] h'' < (fun (us : List Value) (_ : Eng.Heap) => ps.length - (toInt (us.getD 1 undef)).toNat) [.bool B', .int .i64 s] h'' := by
          rw [w2]; simp only [List.getD_cons_succ, List.getD_cons_zero, toInt_int]; omega
        refine ⟨fun hB0 => ⟨fun hLl => ?_, fun hLl _ => ?_⟩, fun hB1 _ => ?_⟩
        · have hB0 : B' = false := by simpa using hB0
          refine (k_l3Pow hi l (by omega) (by omega)).mono ?_
          rintro _ hq ⟨rfl, eq⟩
          rw [eq]
          refine ⟨_, rfl, ?_⟩
          rw [wP]
          refine ⟨hpne, fun _ => ⟨?_, hms⟩⟩
          have wβ : (β : Int).tmod ((2 ^ l : Nat) : Int) = ((β % 2 ^ l : Nat) : Int) := by rw [Int.tmod_eq_emod_of_nonneg (by omega)]; push_cast; rfl
          rw [wβ]
          refine ⟨s + 1, _, by rw [w2], by omega, ?_, hnone', rfl⟩
          rw [Em_succ hc1, ← hB, hB0]
          constructor
          · intro h
            have h2 : ((β % 2 ^ l : Nat) : Int) = (low : Int) := beq_iff_eq.1 h
            exact .inr ⟨by omega, by exact_mod_cast h2⟩
          · rintro (h | ⟨_, h⟩)
            · cases h
            · rw [h]; exact beq_iff_eq.2 rfl
        · have hB0 : B' = false := by simpa using hB0
          refine ⟨⟨s + 1, _, by rw [w2], by omega, ?_, hnone', rfl⟩, hms⟩
          rw [Em_succ hc1, ← hB, hB0]
          simp
          omega
        · have hB1 : B' = true := by simpa using hB1
          refine ⟨⟨s + 1, _, by rw [w2], by omega, ?_, hnone', rfl⟩, hms⟩
          rw [Em_succ hc1, ← hB, hB1]
          simp
    · obtain rfl : s = ps.length := by omega
      have hY0 : Ym cs cs.length l low = 0 := Ym_none (by rw [hcl]; exact hnone)
      rw [← hcl, Em_full] at hB
      rw [hY0] at hnx2
      simp only [ne_eq, not_true_eq_false, if_false] at hnx2
      refine ⟨fun hB0 => ?_, fun hB1 => ?_⟩
      · have hB0 : B' = false := by simpa using hB0
        rw [hB0] at hB
        rw [hnx2, if_neg (fun h => by have := hB.2 h; cases this)]
        exact ⟨rfl, rfl⟩
      · have hB1 : B' = true := by simpa using hB1
        have hE := hB.1 hB1
        have hl := Ec_len hM hE
        have w2 : IntKind.i64.wrap ((l : Int) + 1) = ((l + 1 : Nat) : Int) := by rw [i64_in _ (by omega)]; omega
        rw [w2]
        refine ⟨⟨l + 1, rfl, by omega, by omega, ?_, rfl⟩, by simp only [List.getD_cons_zero, toInt_int]; omega⟩
        rw [hnx2, if_pos hE]
        congr 1
        omega
  · have e : n + 1 - l = 0 := by omega
    rw [hnx, e]
    exact ⟨rfl, rfl⟩
end Go.Proofs.YtmnialmphlbmaaaDoor
