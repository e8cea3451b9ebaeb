import Derived.Test.YtchlnichbaoeaaaKSrcX
import Derived.Test.YtchlnichbaoeaaaTyBitRes
import Derived.Test.YtchlnichbaoeaaaEng4
set_option linter.unusedVariables false
set_option linter.unusedSimpArgs false
namespace Go.Proofs.Ytchlnichbaoeaaa
open Go Go.Eng Go.IntWalk
variable {S : Nat → Prop} {h : Eng.Heap}

def ans_BitsTake (x : XBits) (n : Int) : XBitRes :=
  if vbits x.1.length x.2.1 x.2.2.1 then
    (if n < 0 ∨ 32 < n ∨ ¬ hasX x n then (false, 0, x) else (true, numAt x.1 x.2.1.toNat n.toNat, skipX x n))
  else (false, 0, nilBits)

theorem tBitRes_of {b : Bool} {n : Int} {u : Value} {x : XBits} (H : tBits.O h (.agg #[u, .int .i64 x.2.1, .int .i64 x.2.2.1]) x) : tBitRes.O h (.agg #[.bool b, .int .u64 n, u, .int .i64 x.2.1, .int .i64 x.2.2.1]) (b, n, x) := by
  exact tBitRes_mkO (x := (b, n, x)) (tBits_invO H)

theorem tBitRes_new {b : Bool} {n : Int} {u : Value} {x : XBits} (H : tBits.New h (.agg #[u, .int .i64 x.2.1, .int .i64 x.2.2.1])) : tBitRes.New h (.agg #[.bool b, .int .u64 n, u, .int .i64 x.2.1, .int .i64 x.2.2.1]) :=
  fun c hc => H c (tBits_B.2 ((tBitRes_B (x := (b, n, x))).1 hc))

theorem i64_of_wf {n : Int} (H : (Lit.int .i64 n).wf = true) : -9223372036854775808 ≤ n ∧ n ≤ 9223372036854775807 := by
  have e1 : IntKind.i64.min = -9223372036854775808 := by rfl
  have e2 : IntKind.i64.max = 9223372036854775807 := by rfl
  simp [Lit.wf, e1, e2] at H; exact H

theorem k_l2Bit (hi : Eng.Inv S h) (a : Option Addr) (c : Nat) (xs : List Int) (i : Nat) (hx : HInts h .u8 a xs) (hl : xs.length ≤ 1048576) (hlt : i / 8 < xs.length) :
    CallsH Try.prog S F_spec_l2Bit #[.slice a xs.length c, .int .i64 i] h (fun v h' => v = .int .u64 (bitAt xs i) ∧ h' = h) := by
  refine run_spec_l2Bit (vs := [.slice a xs.length c, .int .i64 i]) ⟨rfl, rfl, trivial⟩ hi ?_
  simp only [t_spec_l2Bit, Tr.wp, mksW, callW, Ex.ev, coerce, toInt_int, toBool_bool, slL_sl, slC_sl, slA_sl, toAddr_ptr, ptrOf_ptr, isNil_sl, isNil_ptr, it_and, it_or, it_int, optN_int, optN_nl, cmpI, arith, Cst.val, SV.den, resShs, resV, resSV, resVals, newVars, runCells, exSh, allSh, cellsAre, storeW, List.flatMap_cons, List.flatMap_nil, List.replicate_one, List.getD_cons_zero, List.getD_cons_succ, List.getElem?_cons_zero, List.getElem?_cons_succ, decide_eq_true_eq, decide_eq_false_iff_not, List.map_cons, List.map_nil, List.cons_append, List.nil_append, List.append_nil, List.length_cons, List.length_nil, Nat.zero_add, Nat.add_zero, and_true, true_and, if_true, if_false, Bool.false_eq_true]
  have w1 : IntKind.i64.wrap ((i : Int).tdiv 8) = ((i / 8 : Nat) : Int) := by rw [Int.tdiv_eq_ediv_of_nonneg (by omega)]; exact i64_in _ (by omega)
  have w2 : (i : Int).tmod 8 = ((i % 8 : Nat) : Int) := by rw [Int.tmod_eq_emod_of_nonneg (by omega)]; omega
  have w3 : IntKind.u64.wrap ((i % 8 : Nat) : Int) = ((i % 8 : Nat) : Int) := u64_in _ (by omega)
  rw [w1, w2, w3]
  obtain ⟨g1, g2⟩ := hx.cell (List.getElem?_eq_getElem hlt)
  refine ⟨by simpa using g2, by omega, by omega, xs[i / 8], by simp only [Int.toNat_natCast, Nat.mul_one, add_add, Nat.add_zero]; exact g1, by simp; omega, ?_⟩
  have e : min ((i % 8 : Nat) : Int).toNat IntKind.u8.bits = i % 8 := by
    have : IntKind.u8.bits = 8 := rfl
    rw [this]; omega
  rw [e]
  congr 1
  have e2 : xs.getD (i / 8) 0 = xs[i / 8] := by simp [List.getD, List.getElem?_eq_getElem hlt]
  rw [bitAt, e2, IntKind.wrap_u64, Int.tmod_eq_emod_of_nonneg (by omega)]
  omega
  
theorem g_spec_BitsTake (hi : Eng.Inv S h) {v : Value} {x : XBits} (O : tBits.O h v x) (L : limBits x) (n : Int) (wn : (Lit.int .i64 n).wf = true) :
    CallsH Try.prog S F_spec_BitsTake #[v, .int .i64 n] h (fun v h' => tBitRes.O h' v (ans_BitsTake x n) ∧ tBitRes.New h v ∧ Eng.Sub h h') := by
  obtain ⟨u, rfl, P⟩ := tBits_O O
  obtain ⟨a, c, rfl, hc, hx⟩ := Part.ints P
  obtain ⟨xs, p, q, ⟨⟩⟩ := x
  simp only at hx hc P
  have L : xs.length ≤ 1048576 := L
  refine run_spec_BitsTake (vs := [.slice a xs.length c, .int .i64 p, .int .i64 q, .int .i64 n]) ⟨rfl, rfl, rfl, rfl, trivial⟩ hi ?_
  simp only [t_spec_BitsTake, Tr.wp, mksW, callW, Ex.ev, coerce, toInt_int, toBool_bool, slL_sl, slC_sl, slA_sl, toAddr_ptr, ptrOf_ptr, isNil_sl, isNil_ptr, it_and, it_or, it_int, optN_int, optN_nl, cmpI, arith, Cst.val, SV.den, resShs, resV, resSV, resVals, newVars, runCells, exSh, allSh, cellsAre, storeW, List.flatMap_cons, List.flatMap_nil, List.replicate_one, List.getD_cons_zero, List.getD_cons_succ, List.getElem?_cons_zero, List.getElem?_cons_succ, decide_eq_true_eq, decide_eq_false_iff_not, List.map_cons, List.map_nil, List.cons_append, List.nil_append, List.append_nil, List.length_cons, List.length_nil, Nat.zero_add, Nat.add_zero, and_true, true_and, if_true, if_false, Bool.false_eq_true]
  refine (k_spec_ValidBits hi a xs.length c p q).mono ?_
  rintro _ hq ⟨rfl, eq⟩
  rw [eq]
  refine ⟨_, rfl, fun hn => ?_, fun hv => ?_⟩
  · have hn : ¬ vbits xs.length p q := by simpa using hn
    simp only [ans_BitsTake, if_neg hn]
    exact ⟨tBitRes_of (x := nilBits) tBits_nil, tBitRes_new (x := nilBits) tBits_nilNew, fun _ _ h => h⟩
  have hv : vbits xs.length p q := by simpa using hv
  obtain ⟨v1, v2, v3, v4, v5, v6, v7⟩ := id hv
  have wn : -9223372036854775808 ≤ n ∧ n ≤ 9223372036854775807 := i64_of_wf wn
  have hcp : (n < 0 ∨ 32 < n ∨ ¬ hasX (xs, p, q, ()) n) → CallsH Try.prog S F_spec_l2Copy #[.agg #[.slice a xs.length c, .int .i64 p, .int .i64 q]] h (fun v h' => ∃ a l c x x_1, v = .agg #[.slice a l c, .int .i64 x, .int .i64 x_1] ∧ tBitRes.O h' (.agg #[.bool false, .int .u64 0, .slice a l c, .int .i64 x, .int .i64 x_1]) (ans_BitsTake (xs, p, q, ()) n) ∧ tBitRes.New h (.agg #[.bool false, .int .u64 0, .slice a l c, .int .i64 x, .int .i64 x_1]) ∧ Eng.Sub h h') := fun hh => by
    simp only [ans_BitsTake, if_pos hv, if_pos hh]
    refine (k_l2Copy hi a c xs p q hx (by omega)).mono ?_
    rintro _ h1 ⟨a', l', c', rfl, o1, n1, s1⟩
    exact ⟨_, _, _, _, _, rfl, tBitRes_of (tBits_mkO (x := (xs, p, q, ())) o1), tBitRes_new (x := (xs, p, q, ())) (fun b hb => n1 b ((tBits_B (x := (xs, p, q, ()))).1 hb)), s1⟩
  refine ⟨fun hn => ?_, fun hn _ => ⟨fun _ => hcp (by simp at hn; omega), fun h => by cases h⟩⟩
  have hn : 0 ≤ n ∧ n ≤ 32 := by simp at hn; omega
  refine (k_l2Has hi a _ c p q n (by omega) ⟨v1, v2⟩ ⟨v5, v6⟩ (by omega)).mono ?_
  rintro _ hq ⟨rfl, eq⟩
  rw [eq]
  refine ⟨_, rfl, fun _ => ⟨fun hb => hcp (.inr (.inr (by simp at hb; simp only [hasX]; omega))), fun hb => ?_⟩⟩
  have hb : hasX (xs, p, q, ()) n := by simpa [hasX] using hb
  have hb1 : n ≤ 8 * (xs.length : Int) - p := hb.1
  have e : ans_BitsTake (xs, p, q, ()) n = (true, numAt xs p.toNat n.toNat, skipX (xs, p, q, ()) n) := by
    have : ¬ (n < 0 ∨ 32 < n ∨ ¬ hasX (xs, p, q, ()) n) := by simp [hb]; omega
    simp only [ans_BitsTake, if_pos hv, if_neg this]
  have w1 : IntKind.i64.wrap (n - 1) = n - 1 := i64_in _ (by omega)
  rw [e, w1]
  refine ⟨fun us h' => ∃ j : Nat, us = [.int .u64 (numAt xs (p.toNat + j) (n.toNat - j)), .int .i64 ((j : Int) - 1)] ∧ j ≤ n.toNat ∧ h' = h, fun us _ => (toInt (us.getD 1 undef) + 1).toNat, ⟨n.toNat, ?_, by omega, rfl⟩, ?_⟩
  · rw [Nat.sub_self]
    have : ((n.toNat : Nat) : Int) - 1 = n - 1 := by omega
    rw [this]; rfl
  rintro x y h' ⟨j, hx1, hj, rfl⟩
  obtain ⟨rfl, rfl⟩ : x = numAt xs (p.toNat + j) (n.toNat - j) ∧ y = (j : Int) - 1 := by simpa using hx1
  refine ⟨fun hge => ?_, fun hlt => ?_⟩
  · obtain ⟨m, rfl⟩ : ∃ m, j = m + 1 := ⟨j - 1, by omega⟩
    have w2 : IntKind.i64.wrap (p + (((m + 1 : Nat) : Int) - 1)) = ((p.toNat + m : Nat) : Int) := by rw [i64_in _ (by omega)]; omega
    rw [w2]
    refine (k_l2Bit hi a c xs (p.toNat + m) hx L (by omega)).mono ?_
    rintro _ hq ⟨rfl, eq⟩
    rw [eq]
    obtain ⟨k, hk⟩ : ∃ k, n.toNat - (m + 1) = k := ⟨_, rfl⟩
    have hk2 : n.toNat - m = k + 1 := by omega
    have lt := numAt_lt (xs := xs) (a := p.toNat + (m + 1)) (n := k)
    have hp : (2 : Int) ^ k ≤ 2 ^ 32 := by
      rw [pow_cast, pow_cast]; exact_mod_cast Nat.pow_le_pow_right (by decide) (by omega)
    have hp32 : (2 : Int) ^ 32 = 4294967296 := by decide
    have hbit := bitAt_le (xs := xs) (i := p.toNat + m)
    rw [hk]
    have w3 : IntKind.u64.wrap (2 * numAt xs (p.toNat + (m + 1)) k) = 2 * numAt xs (p.toNat + (m + 1)) k := u64_in _ (by omega)
    have w4 : IntKind.u64.wrap (2 * numAt xs (p.toNat + (m + 1)) k + bitAt xs (p.toNat + m)) = numAt xs (p.toNat + m) (k + 1) := by
      rw [u64_in _ (by omega), numAt_low, Nat.add_assoc]
    have w5 : IntKind.i64.wrap (((m + 1 : Nat) : Int) - 1 - 1) = (m : Int) - 1 := by rw [i64_in _ (by omega)]; omega
    refine ⟨_, rfl, ⟨m, ?_, by omega, rfl⟩, ?_⟩
    · rw [hk2, w3, w4, w5]
    · rw [w5]; simp only [List.getD_cons_succ, List.getD_cons_zero, toInt_int]; omega
  · obtain rfl : j = 0 := by omega
    refine (k_l2Skip hi a c xs p q n hx hc L ⟨v1, v2⟩ ⟨v5, v6⟩ ⟨by omega, hb.1⟩).mono ?_
    rintro _ h1 ⟨a', l', c', rfl, o1, n1, s1⟩
    exact ⟨_, _, _, _, _, rfl, tBitRes_of (x := skipX (xs, p, q, ()) n) (tBits_mkO o1), tBitRes_new (x := skipX (xs, p, q, ()) n) (fun b hb => n1 b ((tBits_B (x := skipX (xs, p, q, ()) n)).1 hb)), s1⟩

theorem k_take {h0 : Eng.Heap} {b : Nat} {T : TypeId} {x : XBits} (hi : Eng.Inv S h0) (H : SrcAt h0 h b T x) (n : Int) (hl : x.1.length ≤ 1048576) (hp : 0 ≤ x.2.1 ∧ x.2.1 ≤ 7) (hq : 0 ≤ x.2.2.1 ∧ x.2.2.1 ≤ 34359738368) (hn : 0 ≤ n ∧ n ≤ 8 * (x.1.length : Int) - x.2.1) (hn2 : n ≤ 32) :
    CallsH Try.prog S F_impl_bitReader__take #[.pointer (some ⟨b, 0, none⟩), .int .i64 n] h (fun v h' => v = .int .u64 (numAt x.1 x.2.1.toNat n.toNat) ∧ SrcAt h0 h' b T (skipX x n)) := by
  obtain ⟨xs, p, q, ⟨⟩⟩ := x
  obtain ⟨a, c, hb, P, N, s, hne, hbn⟩ := id H
  simp only at hl hp hq hn hb P N hne
  refine run_impl_bitReader__take (vs := [.pointer (some ⟨b, 0, none⟩), .int .i64 n]) ⟨rfl, rfl, trivial⟩ (hi.sub s) ?_
  simp only [t_impl_bitReader__take, Tr.wp, mksW, callW, Ex.ev, coerce, toInt_int, toBool_bool, slL_sl, slC_sl, slA_sl, toAddr_ptr, ptrOf_ptr, isNil_sl, isNil_ptr, it_and, it_or, it_int, optN_int, optN_nl, cmpI, arith, Cst.val, SV.den, resShs, resV, resSV, resVals, newVars, runCells, exSh, allSh, cellsAre, storeW, List.flatMap_cons, List.flatMap_nil, List.replicate_one, List.getD_cons_zero, List.getD_cons_succ, List.getElem?_cons_zero, List.getElem?_cons_succ, decide_eq_true_eq, decide_eq_false_iff_not, List.map_cons, List.map_nil, List.cons_append, List.nil_append, List.append_nil, List.length_cons, List.length_nil, Nat.zero_add, Nat.add_zero, and_true, true_and, if_true, if_false, Bool.false_eq_true]
  obtain ⟨g1, g2, g3⟩ := src_get hb
  obtain ⟨aa, cc, hvv, hcc, hx⟩ := P.ints
  cases hvv
  refine ⟨fun us h' => ∃ i : Nat, us = [.int .u64 (numAt xs p.toNat i), .int .i64 i] ∧ i ≤ n.toNat ∧ h' = h, fun us _ => n.toNat - (toInt (us.getD 1 undef)).toNat, ⟨0, rfl, by omega, rfl⟩, ?_⟩
  rintro u y h' ⟨i, hx1, hi2, eqh⟩
  subst eqh
  obtain ⟨rfl, rfl⟩ : u = numAt xs p.toNat i ∧ y = i := by simpa using hx1
  refine ⟨fun hlt => ?_, fun hge => ?_⟩
  · have w1 : IntKind.i64.wrap (p + i) = ((p.toNat + i : Nat) : Int) := by rw [i64_in _ (by omega)]; omega
    have hlt8 : (p.toNat + i) / 8 < xs.length := by omega
    have w2 : IntKind.i64.wrap (((p.toNat + i : Nat) : Int).tdiv 8) = (((p.toNat + i) / 8 : Nat) : Int) := by rw [Int.tdiv_eq_ediv_of_nonneg (by omega)]; exact i64_in _ (by omega)
    have w3 : ((p.toNat + i : Nat) : Int).tmod 8 = (((p.toNat + i) % 8 : Nat) : Int) := by rw [Int.tmod_eq_emod_of_nonneg (by omega)]; omega
    refine ⟨by simp, p, by simpa [addr_add] using g2, by simp, _, _, _, by simpa [addr_add] using g1, ?_⟩
    rw [w1, w2, w3]
    obtain ⟨e1, e2⟩ := hx.cell (List.getElem?_eq_getElem hlt8)
    refine ⟨by simpa using e2, by omega, by omega, xs[(p.toNat + i) / 8], by simp only [Int.toNat_natCast, Nat.mul_one, add_add, Nat.add_zero]; exact e1, by omega, by omega, ?_, ?_⟩
    · refine ⟨i + 1, ?_, by omega, rfl⟩
      have lt := numAt_lt (xs := xs) (a := p.toNat) (n := i)
      have m1 : min ((((p.toNat + i) % 8 : Nat) : Int)).toNat IntKind.u8.bits = (p.toNat + i) % 8 := by
        have : IntKind.u8.bits = 8 := rfl
        rw [this]; omega
      have m2 : min (i : Int).toNat IntKind.u64.bits = i := by
        have : IntKind.u64.bits = 64 := rfl
        rw [this]; omega
      have hbit := bitAt_le (xs := xs) (i := p.toNat + i)
      have hpi : (2 : Int) ^ i ≤ 2 ^ 32 := by
        rw [pow_cast, pow_cast]; exact_mod_cast Nat.pow_le_pow_right (by decide) (by omega)
      have hp32 : (2 : Int) ^ 32 = 4294967296 := by decide
      have hpp : (0 : Int) < 2 ^ i := Int.pow_pos (by decide)
      have e3 : Go.bits .and .u8 (xs[(p.toNat + i) / 8].fdiv (2 ^ ((p.toNat + i) % 8))) 1 = bitAt xs (p.toNat + i) := by
        rw [and1_u8, bitAt]
        have e2 : xs.getD ((p.toNat + i) / 8) 0 = xs[(p.toNat + i) / 8] := by simp [List.getD, List.getElem?_eq_getElem hlt8]
        rw [e2]
      rw [m1, m2, e3, u64_in (bitAt xs (p.toNat + i)) (by omega)]
      have hm : bitAt xs (p.toNat + i) * 2 ^ i ≤ 2 ^ i ∧ 0 ≤ bitAt xs (p.toNat + i) * 2 ^ i := by
        rcases (show bitAt xs (p.toNat + i) = 0 ∨ bitAt xs (p.toNat + i) = 1 by omega) with h | h <;> rw [h] <;> omega
      rw [u64_in (bitAt xs (p.toNat + i) * 2 ^ i) (by omega), or_u64 _ lt.1 lt.2 hbit (by omega)]
      have w4 : IntKind.i64.wrap ((i : Int) + 1) = ((i + 1 : Nat) : Int) := by rw [i64_in _ (by omega)]; omega
      rw [w4]
      rfl
    · have w4 : IntKind.i64.wrap ((i : Int) + 1) = ((i + 1 : Nat) : Int) := by rw [i64_in _ (by omega)]; omega
      rw [w4]
      simp only [List.getD_cons_succ, List.getD_cons_zero, toInt_int]; omega
  · obtain rfl : i = n.toNat := by omega
    refine ⟨by simp, ?_⟩
    refine (k_skipX hi H n hl hp hq hn).mono ?_
    rintro _ h2 ⟨rfl, SB⟩
    exact ⟨rfl, rfl, SB⟩

theorem g_impl_BitsTake (hi : Eng.Inv S h) {v : Value} {x : XBits} (O : tBits.O h v x) (L : limBits x) (n : Int) (wn : (Lit.int .i64 n).wf = true) :
    CallsH Try.prog S F_impl_BitsTake #[v, .int .i64 n] h (fun v h' => tBitRes.O h' v (ans_BitsTake x n) ∧ tBitRes.New h v ∧ Eng.Sub h h') := by
  obtain ⟨u, rfl, P⟩ := tBits_O O
  obtain ⟨a, c, rfl, hc, hx⟩ := Part.ints P
  obtain ⟨xs, p, q, ⟨⟩⟩ := x
  simp only at hx hc P
  have L : xs.length ≤ 1048576 := L
  have wn := i64_of_wf wn
  refine run_impl_BitsTake (vs := [.slice a xs.length c, .int .i64 p, .int .i64 q, .int .i64 n]) ⟨rfl, rfl, rfl, rfl, trivial⟩ hi ?_
  simp only [t_impl_BitsTake, Tr.wp, mksW, callW, Ex.ev, coerce, toInt_int, toBool_bool, slL_sl, slC_sl, slA_sl, toAddr_ptr, ptrOf_ptr, isNil_sl, isNil_ptr, it_and, it_or, it_int, optN_int, optN_nl, cmpI, arith, Cst.val, SV.den, resShs, resV, resSV, resVals, newVars, runCells, exSh, allSh, cellsAre, storeW, List.flatMap_cons, List.flatMap_nil, List.replicate_one, List.getD_cons_zero, List.getD_cons_succ, List.getElem?_cons_zero, List.getElem?_cons_succ, decide_eq_true_eq, decide_eq_false_iff_not, List.map_cons, List.map_nil, List.cons_append, List.nil_append, List.append_nil, List.length_cons, List.length_nil, Nat.zero_add, Nat.add_zero, and_true, true_and, if_true, if_false, Bool.false_eq_true]
  refine (k_impl_ValidBits hi a xs.length c p q).mono ?_
  rintro _ hq ⟨rfl, eq⟩
  rw [eq]
  refine ⟨_, rfl, fun hn => ?_, fun hv => ?_⟩
  · have hn : ¬ vbits xs.length p q := by simpa using hn
    simp only [ans_BitsTake, if_neg hn]
    exact ⟨tBitRes_of (x := nilBits) tBits_nil, tBitRes_new (x := nilBits) tBits_nilNew, fun _ _ h => h⟩
  have hv : vbits xs.length p q := by simpa using hv
  obtain ⟨v1, v2, v3, v4, v5, v6, v7⟩ := id hv
  refine (k_sourceOf hi a c xs p q hx (by omega)).mono ?_
  rintro _ h1 ⟨a', l', c', rfl, o1, n1, s1⟩
  refine ⟨_, _, _, _, _, rfl, fun b hb => ?_⟩
  simp only [src_zero]
  obtain ⟨f1, f2, f3, f4, SA⟩ := SrcAt.made (p := p) (q := q) hi s1 o1 n1 hb 123
  refine ⟨f1, f2, f3, ?_⟩
  simp only [f4]
  revert SA
  generalize upd h1 b (srcObj (.slice a' l' c') p q 123) = h2
  intro SA
  have hcp : (n < 0 ∨ 32 < n ∨ ¬ hasX (xs, p, q, ()) n) → ans_BitsTake (xs, p, q, ()) n = (false, 0, (xs, p, q, ())) := fun hh => by simp only [ans_BitsTake, if_pos hv, if_pos hh]
  have fin : (n < 0 ∨ 32 < n ∨ ¬ hasX (xs, p, q, ()) n) → ∃ a l c p' q', (hcell h2 ((⟨b, 0, none⟩ : Addr).add 0) = some (.slice a l c) ∧ hcell h2 ((⟨b, 0, none⟩ : Addr).add 1) = some (.int .i64 p') ∧ hcell h2 ((⟨b, 0, none⟩ : Addr).add (1 + 1)) = some (.int .i64 q')) ∧
      CallsH Try.prog S F_impl_source__bits #[.agg #[.slice a l c, .int .i64 p', .int .i64 q']] h2 (fun v h' => ∃ a l c x x_1, v = .agg #[.slice a l c, .int .i64 x, .int .i64 x_1] ∧ tBitRes.O h' (.agg #[.bool false, .int .u64 0, .slice a l c, .int .i64 x, .int .i64 x_1]) (ans_BitsTake (xs, p, q, ()) n) ∧ tBitRes.New h (.agg #[.bool false, .int .u64 0, .slice a l c, .int .i64 x, .int .i64 x_1]) ∧ Eng.Sub h h') := fun hh => by
    rw [hcp hh]
    exact k_bitsX hi SA fun a c O N => ⟨_, _, _, _, _, rfl, tBitRes_of (x := (xs, p, q, ())) O, tBitRes_new (x := (xs, p, q, ())) N, SA.sub⟩
  refine ⟨fun hn => ?_, fun hn _ => ⟨fun _ => fin (by simp at hn; omega), fun h => by cases h⟩⟩
  have hn : 0 ≤ n ∧ n ≤ 32 := by simp at hn; omega
  have ez : (⟨b, 0, none⟩ : Addr).add 0 = ⟨b, 0, none⟩ := addr_add b 0 0
  rw [ez]
  refine (k_leftX hi SA L ⟨v1, v2⟩ ⟨v5, v6⟩).mono ?_
  rintro _ hq ⟨rfl, eq⟩
  rw [eq, ← ez]
  refine ⟨_, rfl, fun _ => ⟨fun hb => fin (.inr (.inr (by simp at hb; simp only [hasX]; omega))), fun hb => ?_⟩⟩
  have hb : hasX (xs, p, q, ()) n := by simp at hb; simp only [hasX]; omega
  have e : ans_BitsTake (xs, p, q, ()) n = (true, numAt xs p.toNat n.toNat, skipX (xs, p, q, ()) n) := by
    have : ¬ (n < 0 ∨ 32 < n ∨ ¬ hasX (xs, p, q, ()) n) := by simp [hb]; omega
    simp only [ans_BitsTake, if_pos hv, if_neg this]
  refine (k_take hi SA n L ⟨v1, v2⟩ ⟨v5, v6⟩ ⟨by omega, hb.1⟩ (by omega)).mono ?_
  rintro _ h3 ⟨rfl, SB⟩
  refine ⟨_, rfl, ?_⟩
  rw [e]
  exact k_bitsX hi SB fun a c O N => ⟨_, _, _, _, _, rfl, tBitRes_of (x := skipX (xs, p, q, ()) n) O, tBitRes_new (x := skipX (xs, p, q, ()) n) N, SB.sub⟩

theorem sm_BitsTake {x : XBits} {n : Int} (L : limBits x) : smBitRes (ans_BitsTake x n) := by
  have L : x.1.length ≤ 1048576 := L
  unfold ans_BitsTake smBitRes smBits
  split
  · split
    · show x.1.length ≤ _; omega
    · simp [skipX]; omega
  · simp [nilBits]
end Go.Proofs.Ytchlnichbaoeaaa
