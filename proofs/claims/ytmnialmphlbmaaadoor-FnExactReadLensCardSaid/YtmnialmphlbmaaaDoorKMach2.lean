import Derived.Test.YtmnialmphlbmaaaDoorKMach
set_option linter.unusedVariables false
set_option linter.unusedSimpArgs false
namespace Go.Proofs.YtmnialmphlbmaaaDoor
open Go Go.Eng Go.IntWalk
variable {S : Shared} {h h0 : Eng.Heap}

/-- The bits of a number of bits. -/
theorem num_bit {bs : List Int} {p : Nat} : ∀ {n l : Nat}, l < n → (((numAt bs p n).toNat / 2 ^ l % 2 : Nat) : Int) = bitAt bs (p + l)
  | 0, l, h => by omega
  | n + 1, l, h => by
    have lt := numAt_lt (xs := bs) (a := p) (n := n)
    have hb := bitAt_le (xs := bs) (i := p + n)
    obtain ⟨B, hB⟩ := Int.eq_ofNat_of_zero_le hb.1
    obtain ⟨N, hN⟩ := Int.eq_ofNat_of_zero_le lt.1
    have e : (numAt bs p (n + 1)).toNat = N + 2 ^ n * B := by
      have e1 : numAt bs p (n + 1) = ((N + 2 ^ n * B : Nat) : Int) := by
        rw [numAt, hN, hB]; push_cast; rw [Int.mul_comm]
      rw [e1, Int.toNat_natCast]
    have hN2 : N < 2 ^ n := by
      have := lt.2; rw [hN, pow_cast] at this; exact_mod_cast this
    have hp : 0 < 2 ^ n := Nat.two_pow_pos n
    rw [e]
    by_cases hl : l = n
    · subst hl
      rw [Nat.add_mul_div_left _ _ hp, Nat.div_eq_of_lt hN2, hB]; omega
    · have ih := num_bit (bs := bs) (p := p) (n := n) (l := l) (by omega)
      rw [hN, Int.toNat_natCast] at ih
      rw [← ih]
      obtain ⟨d, rfl⟩ : ∃ d, n = l + (d + 1) := ⟨n - l - 1, by omega⟩
      rw [Nat.pow_add, Nat.mul_assoc, Nat.add_mul_div_left _ _ (Nat.two_pow_pos l), Nat.pow_succ]
      have : 2 ^ d * 2 * B = 2 * (2 ^ d * B) := by rw [Nat.mul_comm (2 ^ d) 2, Nat.mul_assoc]
      rw [this]; omega

section
variable {bm : Nat} {a : Option Addr} {c : Nat} {bs : List Int} {m : MC} {T : TypeId}

set_option maxHeartbeats 4000000 in
theorem k_mnext {bt : Nat} {TT PP : List (Nat × Nat)} {a2 : Option Addr} {c2 : Nat} {cs : List (Nat × Nat)} (hi : Eng.Inv S h0) (hx : HInts h0 .u8 a bs) (L : bs.length ≤ 1048576) (p : Nat) (hp : p ≤ 8 * bs.length) (M : MAt h0 h bm a c bs p m T)
    (TV : TabV h0 h bt TT PP a2 c2 (Em cs cs.length) (Ym cs cs.length)) (hTl : TT.length ≤ 20000) (hM : ∀ c ∈ cs, c.1 ≤ 15) (hbt : bt ≠ bm) (hbl : blkOf (.slice a2 TT.length c2) ≠ some bm) (hsl : Ym cs cs.length 0 0 = 0) (hcl : cs.length ≤ 1000) :
    CallsH Tryd.prog S F_impl_codeTable__next #[.pointer (some ⟨bt, 0, none⟩), .func (.func F_impl_machine__bit) #[.pointer (some ⟨bm, 0, none⟩)] #[]] h (fun v h' => v = nres (nxB bs cs p) ∧ ∃ p' : Nat, p' ≤ 8 * bs.length ∧ h' = upd h bm (machO a c bs p' m T) ∧ ((nxB bs cs p).1 = 1 → (p' : Int) = p + (nxB bs cs p).2.2)) := by
  refine run_impl_codeTable__next (vs := [.pointer (some ⟨bt, 0, none⟩), .func (.func F_impl_machine__bit) #[.pointer (some ⟨bm, 0, none⟩)] #[]]) ⟨rfl, rfl, trivial⟩ (hi.sub TV.sb) ?_
  simp only [t_impl_codeTable__next, Tr.wp, mksW, callW, Ex.ev, coerce, toInt_int, toBool_bool, slL_sl, slC_sl, slA_sl, toAddr_ptr, ptrOf_ptr, isNil_sl, isNil_ptr, it_and, it_or, it_int, optN_int, optN_nl, cmpI, arith, Cst.val, SV.den, resShs, resV, resSV, resVals, newVars, runCells, exSh, allSh, cellsAre, storeW, List.flatMap_cons, List.flatMap_nil, List.replicate_one, List.getD_cons_zero, List.getD_cons_succ, List.getElem?_cons_zero, List.getElem?_cons_succ, decide_eq_true_eq, decide_eq_false_iff_not, List.map_cons, List.map_nil, List.cons_append, List.nil_append, List.append_nil, List.length_cons, List.length_nil, Nat.zero_add, Nat.add_zero, and_true, true_and, if_true, if_false, Bool.false_eq_true]
  obtain ⟨s0, q0, hT0⟩ := TV.ti.get TV.ti.root
  have hk0 := (List.getElem?_eq_some_iff.1 hT0).1
  obtain ⟨g1, g2, g3⟩ := TV.cell hT0
  obtain ⟨n, hn⟩ : ∃ n, n = look bs p := ⟨_, rfl⟩
  obtain ⟨b, hb⟩ : ∃ b, b = (numAt bs p n).toNat := ⟨_, rfl⟩
  have hn15 : n ≤ 15 := hn ▸ look_le
  have enx : nxB bs cs p = nxt cs b (n + 1) 0 := by unfold nxB; rw [← hn, ← hb]
  rw [enx]
  refine ⟨by simp, _, _, _, by simpa [addr_add] using TV.ld, by simpa using g3, by simp, by omega, (s0 : Int), (q0 : Int), ⟨by simpa [add_add] using g1, by simpa [add_add] using g2⟩, ?_⟩
  have tv : ∀ q : Int, TabV h0 (upd h bm (machO a c bs q m T)) bt TT PP a2 c2 (Em cs cs.length) (Ym cs cs.length) := fun q =>
    ⟨by obtain ⟨TY, hb⟩ := TV.hb; exact ⟨TY, (upd_ne hbt).trans hb⟩, TV.ow.keep fun z hz => upd_ne fun e => hbl (e ▸ hz), TV.nw, TV.nb, TV.ne, TV.ti, (M.keep (q := q) rfl).sb⟩
  refine ⟨fun us h' => ∃ (l k s q : Nat), us = [.int .i64 l, .int .i64 s, .int .i64 q] ∧ TT[k]? = some (s, q) ∧ PP[k]? = some (l, b % 2 ^ l) ∧ l ≤ n ∧ h' = upd h bm (machO a c bs ((p + l : Nat) : Int) m T) ∧ nxt cs b (n + 1) 0 = nxt cs b (n + 1 - l) l, fun us _ => n - (toInt (us.getD 0 undef)).toNat, ⟨0, 0, s0, q0, rfl, hT0, by rw [TV.ti.root]; simp [Nat.mod_one], by omega, (upd_self M.hb).symm, rfl⟩, ?_⟩
  rintro x y z h' ⟨l, k, s, q, hx1, hT, hP, hl, rfl, hnx⟩
  obtain ⟨rfl, rfl, rfl⟩ : x = l ∧ y = s ∧ z = q := by simpa using hx1
  obtain ⟨f, hf⟩ : ∃ f, n + 1 - l = f + 1 := ⟨n - l, by omega⟩
  have hnx2 : nxt cs b (n + 1) 0 = (if s ≠ 0 then (1, (s : Int) - 1, (l : Int)) else if Ec cs l (b % 2 ^ l) then nxt cs b f (l + 1) else (0, 0, 0)) := by rw [hnx, hf, nxt, ← TV.ti.sym hT hP]
  have hsub := (tv ((p + l : Nat) : Int)).sb
  have hsy : s ≤ cs.length := by
    rw [TV.ti.sym hT hP]
    by_cases h0 : Ym cs cs.length l (b % 2 ^ l) = 0
    · omega
    · obtain ⟨t, ht, _, _, e⟩ := Ym_some h0; omega
  have hpl : p + l ≤ 8 * bs.length := by unfold look at hn; omega
  refine ⟨fun hs => ?_, fun hs => ⟨fun hq => ?_, fun hq => ?_⟩⟩
  · rw [hnx2, if_pos (by omega)]
    refine ⟨?_, p + l, hpl, rfl, fun _ => by simp only; omega⟩
    unfold nres
    simp only
    rw [i64_in _ (by omega)]
  · have hs0 : s = 0 := by omega
    have hq0 : q = 0 := by have : (q : Int) = 0 := beq_iff_eq.1 hq; omega
    have hE : ¬ Ec cs l (b % 2 ^ l) := fun h => by
      have := (TV.ti.ext hT hP).2 (Em_full.2 h)
      exact this hq0
    rw [hnx2, if_neg (by omega), if_neg hE]
    exact ⟨rfl, p + l, hpl, rfl, fun h => by cases h⟩
  · have hs0 : s = 0 := by omega
    have hqn : q ≠ 0 := fun e => by subst e; simp at hq
    have hE : Ec cs l (b % 2 ^ l) := Em_full.1 ((TV.ti.ext hT hP).1 hqn)
    rw [if_neg (by omega), if_pos hE] at hnx2
    obtain ⟨k0, k1⟩ := TV.ti.kid hT hP hqn
    have hkk := (List.getElem?_eq_some_iff.1 k1).1
    rw [TV.ti.len] at hkk
    have hl15 : l < 15 := Em_lt hM hE
    refine ⟨_, _, _, rfl, ?_⟩
    refine (k_mbit hi hx L (p + l) hpl (M.keep (q := ((p + l : Nat) : Int)) rfl)).mono ?_
    rintro _ h4 (⟨e8, rfl, rfl⟩ | ⟨hln, rfl, rfl⟩)
    · refine ⟨_, rfl, fun _ => ?_, fun h => by omega⟩
      have : f = 0 := by unfold look at hn; omega
      rw [hnx2, this]
      exact ⟨rfl, p + l, hpl, rfl, fun h => by cases h⟩
    · rw [upd_upd]
      have hb01 := bitAt_le (xs := bs) (i := p + l)
      have hlt : l < n := by unfold look at hn; omega
      have hbit : bitAt bs (p + l) = ((b / 2 ^ l % 2 : Nat) : Int) := by rw [hb, num_bit hlt]
      rw [hbit] at hb01 ⊢
      refine ⟨_, rfl, fun h => by omega, fun _ => ?_⟩
      have w1 : IntKind.i64.wrap ((q : Int) + ((b / 2 ^ l % 2 : Nat) : Int)) = ((q + b / 2 ^ l % 2 : Nat) : Int) := by rw [i64_in _ (by omega)]; omega
      have w2 : IntKind.i64.wrap ((l : Int) + 1) = ((l + 1 : Nat) : Int) := by rw [i64_in _ (by omega)]; omega
      have hP' : PP[q + b / 2 ^ l % 2]? = some (l + 1, b % 2 ^ (l + 1)) := by
        rw [next_bit]
        rcases (show b / 2 ^ l % 2 = 0 ∨ b / 2 ^ l % 2 = 1 by omega) with h | h <;> rw [h]
        · simpa using k0
        · simpa using k1
      obtain ⟨s', q', hT'⟩ := TV.ti.get hP'
      have TV' := tv ((p + l + 1 : Nat) : Int)
      obtain ⟨g4, g5, g6⟩ := TV'.cell hT'
      rw [w1, w2]
      refine ⟨by simp, _, _, _, by simpa [addr_add] using TV'.ld, by simpa using g6, by omega, by omega, (s' : Int), (q' : Int), ⟨by simp only [Int.toNat_natCast, add_add, Nat.add_zero]; exact g4, by simp only [Int.toNat_natCast, add_add]; exact g5⟩, ⟨l + 1, _, s', q', rfl, hT', hP', by omega, rfl, ?_⟩, by simp only [List.getD_cons_zero, toInt_int]; omega⟩
      rw [hnx2]
      congr 1
      omega

/-- A symbol, by the machine. -/
theorem k_msymbol {bt : Nat} {TT PP : List (Nat × Nat)} {a2 : Option Addr} {c2 : Nat} {cs : List (Nat × Nat)} (hi : Eng.Inv S h0) (G : Errs h0) (hx : HInts h0 .u8 a bs) (L : bs.length ≤ 1048576) (p : Nat) (hp : p ≤ 8 * bs.length) (M : MAt h0 h bm a c bs p m T)
    (TV : TabV h0 h bt TT PP a2 c2 (Em cs cs.length) (Ym cs cs.length)) (hTl : TT.length ≤ 20000) (hM : ∀ c ∈ cs, c.1 ≤ 15) (hbt : bt ≠ bm) (hbl : blkOf (.slice a2 TT.length c2) ≠ some bm) (hsl : Ym cs cs.length 0 0 = 0) (hcl : cs.length ≤ 1000) :
    CallsH Tryd.prog S F_impl_machine__symbol #[.pointer (some ⟨bm, 0, none⟩), .pointer (some ⟨bt, 0, none⟩)] h (fun v h' => v = .tuple #[.int .i64 (sy bs cs ⟨p, 0⟩).2, errI (sy bs cs ⟨p, 0⟩).1.k] ∧ ∃ p' : Nat, p' ≤ 8 * bs.length ∧ h' = upd h bm (machO a c bs p' m T) ∧ ((sy bs cs ⟨p, 0⟩).1.k = 0 → (p' : Int) = (sy bs cs ⟨p, 0⟩).1.i)) := by
  refine run_impl_machine__symbol (vs := [.pointer (some ⟨bm, 0, none⟩), .pointer (some ⟨bt, 0, none⟩)]) ⟨rfl, rfl, trivial⟩ (hi.sub M.sb) ?_
  simp only [t_impl_machine__symbol, Tr.wp, mksW, callW, Ex.ev, coerce, toInt_int, toBool_bool, slL_sl, slC_sl, slA_sl, toAddr_ptr, ptrOf_ptr, isNil_sl, isNil_ptr, it_and, it_or, it_int, optN_int, optN_nl, cmpI, arith, Cst.val, SV.den, resShs, resV, resSV, resVals, newVars, runCells, exSh, allSh, cellsAre, storeW, List.flatMap_cons, List.flatMap_nil, List.replicate_one, List.getD_cons_zero, List.getD_cons_succ, List.getElem?_cons_zero, List.getElem?_cons_succ, decide_eq_true_eq, decide_eq_false_iff_not, List.map_cons, List.map_nil, List.cons_append, List.nil_append, List.append_nil, List.length_cons, List.length_nil, Nat.zero_add, Nat.add_zero, and_true, true_and, if_true, if_false, Bool.false_eq_true]
  refine (k_mnext hi hx L p hp M TV hTl hM hbt hbl hsl hcl).mono ?_
  rintro _ h1 ⟨rfl, p', hp', rfl, hpe⟩
  have hf := nxB_facts (bs := bs) (cs := cs) (i := p)
  have M' := M.keep (q := (p' : Int)) rfl
  have es : sy bs cs ⟨(p : Int), 0⟩ = (⟨(p : Int) + (nxB bs cs p).2.2, if (nxB bs cs p).1 = 2 then 2 else if (nxB bs cs p).1 = 0 then 3 else 0⟩, (nxB bs cs p).2.1) := by unfold sy; rw [if_pos rfl]; rfl
  rw [es]
  obtain ⟨⟨x1, x2, x3⟩, hxx⟩ : ∃ x, nxB bs cs p = x := ⟨_, rfl⟩
  rw [hxx] at hf hpe ⊢
  simp only at hf hpe ⊢
  have ge := G.sub M'.sb
  refine ⟨_, _, _, rfl, fun h1 => ?_, fun h1 => ⟨fun h2 => ?_, fun h2 => ?_⟩⟩
  · obtain rfl : x1 = 0 := beq_iff_eq.1 h1
    obtain ⟨rfl, rfl⟩ : x2 = 0 ∧ x3 = 0 := by rcases hf with hf | hf <;> omega
    exact ⟨3, ge.e3, rfl, p', hp', rfl, fun h => by cases h⟩
  · obtain rfl : x1 = 2 := beq_iff_eq.1 h2
    obtain ⟨rfl, rfl⟩ : x2 = 0 ∧ x3 = 0 := by rcases hf with hf | hf <;> omega
    exact ⟨2, ge.e2, rfl, p', hp', rfl, fun h => by cases h⟩
  · have n0 : x1 ≠ 0 := by simpa using h1
    have n2 : x1 ≠ 2 := by simpa using h2
    obtain rfl : x1 = 1 := by rcases hf with hf | hf <;> omega
    exact ⟨rfl, p', hp', rfl, fun _ => hpe rfl⟩
end
end Go.Proofs.YtmnialmphlbmaaaDoor
