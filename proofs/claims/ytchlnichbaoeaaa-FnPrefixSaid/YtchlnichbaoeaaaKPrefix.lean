import Derived.Test.YtchlnichbaoeaaaKDrawLens2
import Derived.Test.YtchlnichbaoeaaaKPref
import Derived.Test.YtchlnichbaoeaaaKCut
import Derived.Test.YtchlnichbaoeaaaCutlawsFnPrefix
set_option linter.unusedVariables false
set_option linter.unusedSimpArgs false
namespace Go.Proofs.Ytchlnichbaoeaaa
open Go Go.Eng Go.IntWalk
variable {S : Nat → Prop} {h : Eng.Heap}

theorem pow15 {l : Nat} (h : l ≤ 15) : 0 < (2 : Nat) ^ l ∧ (2 : Nat) ^ l ≤ 32768 := ⟨Nat.pow_pos (by decide), by have := Nat.pow_le_pow_right (show 0 < 2 by decide) h; simpa using this⟩

/-- 1<<uint(l), as it is reckoned. -/
theorem shl1 {l : Nat} (h : l ≤ 15) : IntKind.u64.wrap (1 * 2 ^ min (IntKind.u64.wrap (l : Int)).toNat IntKind.u64.bits) = ((2 ^ l : Nat) : Int) := by
  have hp := pow15 h
  rw [u64_in (l : Int) (by omega), Int.toNat_natCast, show min l IntKind.u64.bits = l from Nat.min_eq_left (by show l ≤ 64; omega)]
  rw [← pow_cast, Int.one_mul, pow_cast, u64_in _ (by omega)]

theorem shlx {l : Nat} (h : l ≤ 15) (J : Int) : IntKind.u64.wrap (J * 2 ^ min (IntKind.u64.wrap (l : Int)).toNat IntKind.u64.bits) = (J * 2 ^ l) % 18446744073709551616 := by
  rw [u64_in (l : Int) (by omega), Int.toNat_natCast, show min l IntKind.u64.bits = l from Nat.min_eq_left (by show l ≤ 64; omega)]
  rfl

theorem wrap_wf64 (z : Int) : (Lit.int .u64 (IntKind.u64.wrap z)).wf = true := by
  have e : IntKind.u64.wrap z = z % 18446744073709551616 := rfl
  rw [e]
  have e1 : IntKind.u64.min = 0 := by rfl
  have e2 : IntKind.u64.max = 18446744073709551615 := by rfl
  simp [Lit.wf, e1, e2]; omega

/-- What comes behind a code does not disturb it. -/
theorem junk_mod {l v : Nat} (h : l ≤ 15) (hv : v < 2 ^ l) (J : Int) : (IntKind.u64.wrap ((v : Int) + (J * 2 ^ l) % 18446744073709551616)).toNat % 2 ^ l = v ∧ (Lit.int .u64 (IntKind.u64.wrap ((v : Int) + (J * 2 ^ l) % 18446744073709551616))).wf = true := by
  have e : IntKind.u64.wrap ((v : Int) + (J * 2 ^ l) % 18446744073709551616) = ((v : Int) + (J * 2 ^ l) % 18446744073709551616) % 18446744073709551616 := rfl
  rw [e]
  generalize hz : ((v : Int) + (J * 2 ^ l) % 18446744073709551616) % 18446744073709551616 = z
  have z0 : 0 ≤ z ∧ z < 18446744073709551616 := by omega
  have hd : ((18446744073709551616 : Int)) = 2 ^ l * 2 ^ (64 - l) := by rw [← Int.pow_add, show l + (64 - l) = 64 by omega]; decide
  have hm : z % 2 ^ l = (v : Int) := by
    have hdv : (2 : Int) ^ l ∣ 18446744073709551616 := ⟨_, hd⟩
    rw [← hz, Int.emod_emod_of_dvd _ hdv, Int.add_emod, Int.emod_emod_of_dvd _ hdv, Int.mul_emod_left, Int.add_zero, Int.emod_emod_of_dvd _ (Int.dvd_refl _)]
    exact Int.emod_eq_of_lt (by omega) (by rw [pow_cast]; exact_mod_cast hv)
  constructor
  · obtain ⟨n, rfl⟩ := Int.eq_ofNat_of_zero_le z0.1
    rw [pow_cast] at hm
    exact_mod_cast hm
  · have e1 : IntKind.u64.min = 0 := by rfl
    have e2 : IntKind.u64.max = 18446744073709551615 := by rfl
    simp [Lit.wf, e1, e2]; omega

section
variable {xs : List Int} {al ac : Option Addr} {cl cc : Nat} {v0 v1 u : Value} {J : Int}

theorem k_fpB (hg : ¬ (hkind xs = 0 ∨ hkind xs = 2)) {s t L v M w : Nat} (hs : (codesN xs)[s]? = some (L, v)) (ht : (codesN xs)[t]? = some (M, w)) (hts : t < s) (hL : 0 < L ∧ L ≤ 15) (hM : M ≤ 15) {K0 K1 K2 K3 K4 K5 K6 K7 K8 K9 K10 K11 : Kt}
    {u2 u4 : Value} (hK : K10 [.int .i64 ((t + 1 : Nat) : Int)] h) :
    fpB.wp Try.prog S noLeaf (fun v _ => v = .bool true) [v0, v1, u2, .int .i64 (hkind xs), u4, .int .i64 (hkind xs), .int .u64 J, .int .i64 6, .int .i64 s, .int .i64 L, .int .u64 v, .int .i64 L, .int .i64 t, .int .i64 M, .int .u64 w] h [K0, K1, K2, K3, K4, K5, K6, K7, K8, K9, K10, K11] := by
  simp only [fpB, Tr.wp, mksW, callW, Ex.ev, coerce, toInt_int, toBool_bool, slL_sl, slC_sl, slA_sl, toAddr_ptr, ptrOf_ptr, isNil_sl, isNil_ptr, it_and, it_or, it_int, optN_int, optN_nl, cmpI, arith, Cst.val, SV.den, resShs, resV, resSV, resVals, newVars, runCells, exSh, allSh, cellsAre, storeW, List.flatMap_cons, List.flatMap_nil, List.replicate_one, List.getD_cons_zero, List.getD_cons_succ, List.getElem?_cons_zero, List.getElem?_cons_succ, decide_eq_true_eq, decide_eq_false_iff_not, List.map_cons, List.map_nil, List.cons_append, List.nil_append, List.append_nil, List.length_cons, List.length_nil, Nat.zero_add, Nat.add_zero, and_true, true_and, if_true, if_false, Bool.false_eq_true]
  have A : 0 < M → M ≤ L → (((v : Int).tmod ((2 ^ M : Nat) : Int)) == (w : Int)) = false := fun h0 h1 => by
    have := codes_pfree hg s t L v M w (by omega) hs ht h0 h1
    rw [Int.tmod_eq_emod_of_nonneg (by omega)]
    simp only [beq_eq_false_iff_ne]
    exact fun e => this (by exact_mod_cast e)
  have B : L ≤ M → (((w : Int).tmod ((2 ^ L : Nat) : Int)) == (v : Int)) = false := fun h1 => by
    have := codes_pfree hg t s M w L v (by omega) ht hs hL.1 h1
    rw [Int.tmod_eq_emod_of_nonneg (by omega)]
    simp only [beq_eq_false_iff_ne]
    exact fun e => this (by exact_mod_cast e)
  have nz : ∀ {l : Nat}, l ≤ 15 → (((2 ^ l : Nat) : Int) != 0) = true := fun hl => by
    have := pow15 hl
    simp only [bne_iff_ne]; omega
  have nn : ∀ {l : Nat}, l ≤ 15 → IntKind.u64.wrap (l : Int) ≥ 0 := fun hl => by rw [u64_in _ (by omega)]; omega
  have tlt : t < 320 := by
    have := (List.getElem?_eq_some_iff.1 ht).1
    rw [codesN_len] at this
    have := (hkind_ok hg).1
    omega
  have w4 : IntKind.i64.wrap ((t : Int) + 1) = ((t + 1 : Nat) : Int) := by rw [i64_in _ (by omega)]; omega
  rw [shl1 hM, shl1 hL.2, w4]
  have fin : ∀ {p : Prop}, p → (False → Value.bool false = Value.bool true) ∧ (True → p) := fun hp => ⟨False.elim, fun _ => hp⟩
  have finb : ∀ {q : Bool} {p : Prop}, q = false → p → ((q = true → Value.bool false = Value.bool true) ∧ (q = false → p)) := fun hq hp => ⟨fun h => absurd h (by rw [hq]; decide), fun _ => hp⟩
  have part : L ≤ M → IntKind.u64.wrap (L : Int) ≥ 0 ∧ (((2 ^ L : Nat) : Int) != 0) = true ∧ (shOk [Sh.bool] [Value.bool (((w : Int).tmod ((2 ^ L : Nat) : Int)) == (v : Int))] →
      (((((w : Int).tmod ((2 ^ L : Nat) : Int)) == (v : Int)) = true → Value.bool false = Value.bool true) ∧ ((((w : Int).tmod ((2 ^ L : Nat) : Int)) == (v : Int)) = false → K10 [.int .i64 ((t + 1 : Nat) : Int)] h))) :=
    fun h1 => ⟨nn hL.2, nz hL.2, fun _ => finb (B h1) hK⟩
  refine ⟨fun h0 => ⟨fun h1 => ⟨nn hM, nz hM, ?_, ?_⟩, ?_⟩, fun _ _ => fin hK⟩
  · exact fun _ => ⟨fun h2 => part (by omega), fun _ _ => fin hK⟩
  · intro h2
    rw [A (by omega) (by omega)] at h2
    cases h2
  · exact fun _ => ⟨fun h2 => part (by omega), fun _ _ => fin hK⟩

theorem ans_next {b : Int} {n : Nat} (hg : ¬ (hkind xs = 0 ∨ hkind xs = 2)) (hn : n ≤ 64) : ans_HuffNext xs b n = nxt (codesN xs) b.toNat (n + 1) 0 := by
  unfold ans_HuffNext
  rw [if_neg (by omega), Int.toNat_natCast]

theorem k_fpN (hi : Eng.Inv S h) (O : tI.O h u xs) (L1 : limI xs) (hg : ¬ (hkind xs = 0 ∨ hkind xs = 2)) {s L v : Nat} (hs : (codesN xs)[s]? = some (L, v)) (hL : 0 < L ∧ L ≤ 15) (hv : v < 2 ^ L) {K0 K1 K2 K3 K4 K5 K6 K7 K8 K9 K10 K11 : Kt}
    {v12 u4 : Value} (hK : ∀ h2, Eng.Sub h h2 → K9 [] h2) :
    fpN.wp Try.prog S noLeaf (fun v _ => v = .bool true) [v0, v1, u, .int .i64 (hkind xs), u4, .int .i64 (hkind xs), .int .u64 J, .int .i64 6, .int .i64 s, .int .i64 L, .int .u64 v, .int .i64 L, v12] h [K0, K1, K2, K3, K4, K5, K6, K7, K8, K9, K10, K11] := by
  obtain ⟨a, c, rfl, hc, hx⟩ := Part.ints O
  have hok := (hkind_ok hg).2
  have hu := codes_uniq hg
  have hf := codes_pfree hg
  have hp := pow15 hL.2
  simp only [fpN, Tr.wp, mksW, callW, Ex.ev, coerce, toInt_int, toBool_bool, slL_sl, slC_sl, slA_sl, toAddr_ptr, ptrOf_ptr, isNil_sl, isNil_ptr, it_and, it_or, it_int, optN_int, optN_nl, cmpI, arith, Cst.val, SV.den, resShs, resV, resSV, resVals, newVars, runCells, exSh, allSh, cellsAre, storeW, List.flatMap_cons, List.flatMap_nil, List.replicate_one, List.getD_cons_zero, List.getD_cons_succ, List.getElem?_cons_zero, List.getElem?_cons_succ, decide_eq_true_eq, decide_eq_false_iff_not, List.map_cons, List.map_nil, List.cons_append, List.nil_append, List.append_nil, List.length_cons, List.length_nil, Nat.zero_add, Nat.add_zero, and_true, true_and, if_true, if_false, Bool.false_eq_true]
  rw [shlx hL.2]
  obtain ⟨j1, j2⟩ := junk_mod hL.2 hv J
  refine ⟨by rw [u64_in _ (by omega)]; omega, ?_⟩
  refine (g_impl_HuffNext hi O L1 _ 60 j2 (by decide)).mono ?_
  rintro v1' h1 ⟨e1, s1⟩
  rw [show (60 : Int) = ((60 : Nat) : Int) from rfl, ans_next (n := 60) hg (by omega), nxt_found hu hf hs hL.1 j1 61 0 (by omega) (by omega)] at e1
  have w1 : IntKind.i64.wrap ((L : Int) - 1) = ((L - 1 : Nat) : Int) := by rw [i64_in _ (by omega)]; omega
  rw [w1]
  refine ⟨1, s, L, e1, fun _ => ?_, fun hne => by simp at hne⟩
  have wv : (Lit.int .u64 (v : Int)).wf = true := by
    have e1 : IntKind.u64.min = 0 := by rfl
    have e2 : IntKind.u64.max = 18446744073709551615 := by rfl
    simp [Lit.wf, e1, e2]; omega
  have wn : (Lit.int .i64 ((L - 1 : Nat) : Int)).wf = true := by
    have e1 : IntKind.i64.min = -9223372036854775808 := by rfl
    have e2 : IntKind.i64.max = 9223372036854775807 := by rfl
    simp [Lit.wf, e1, e2]; omega
  refine (g_impl_HuffNext (hi.sub s1) (Ty.Osub O s1) L1 v ((L - 1 : Nat) : Int) wv wn).mono ?_
  rintro v2' h2 ⟨e2, s2⟩
  rw [ans_next (n := L - 1) hg (by omega), Int.toNat_natCast, show L - 1 + 1 = L by omega, nxt_short hf hs (Nat.mod_eq_of_lt hv) L 0 (by omega)] at e2
  exact ⟨2, 0, 0, e2, fun _ => ⟨fun h => by simp at h, fun _ => hK _ (s1.trans s2)⟩⟩

theorem k_fpE (hi : Eng.Inv S h) (O : tI.O h u xs) (L1 : limI xs) (hg : ¬ (hkind xs = 0 ∨ hkind xs = 2)) (hJ : (Lit.int .u64 J).wf = true) {K0 K1 K2 K3 K4 K5 K6 K7 : Kt} {u4 v8 : Value} :
    fpE.wp Try.prog S noLeaf (fun v _ => v = .bool true) [v0, v1, u, .int .i64 (hkind xs), u4, .int .i64 (hkind xs), .int .u64 J, .int .i64 6, v8] h [K0, K1, K2, K3, K4, K5, K6, K7] := by
  obtain ⟨a, c, rfl, hc, hx⟩ := Part.ints O
  simp only [fpE, Tr.wp, mksW, callW, Ex.ev, coerce, toInt_int, toBool_bool, slL_sl, slC_sl, slA_sl, toAddr_ptr, ptrOf_ptr, isNil_sl, isNil_ptr, it_and, it_or, it_int, optN_int, optN_nl, cmpI, arith, Cst.val, SV.den, resShs, resV, resSV, resVals, newVars, runCells, exSh, allSh, cellsAre, storeW, List.flatMap_cons, List.flatMap_nil, List.replicate_one, List.getD_cons_zero, List.getD_cons_succ, List.getElem?_cons_zero, List.getElem?_cons_succ, decide_eq_true_eq, decide_eq_false_iff_not, List.map_cons, List.map_nil, List.cons_append, List.nil_append, List.append_nil, List.length_cons, List.length_nil, Nat.zero_add, Nat.add_zero, and_true, true_and, if_true, if_false, Bool.false_eq_true]
  refine ⟨fun hk => ?_, fun _ _ => trivial⟩
  have hk1 : hkind xs = 1 := by simpa using hk
  refine (g_impl_HuffNext hi O L1 J 40 hJ (by decide)).mono ?_
  rintro v1' h1 ⟨e1, s1⟩
  obtain ⟨s, L, v, f1, f2, f3, f4⟩ := full_code hk1 J.toNat
  rw [show (40 : Int) = ((40 : Nat) : Int) from rfl, ans_next (n := 40) hg (by omega), nxt_found (codes_uniq hg) (codes_pfree hg) f1 f2 f4 41 0 (by omega) (by omega)] at e1
  exact ⟨1, s, L, e1, fun _ => rfl⟩

set_option maxHeartbeats 2000000 in
theorem k_fpS (hi : Eng.Inv S h) (O : tI.O h u xs) (L1 : limI xs) (hg : ¬ (hkind xs = 0 ∨ hkind xs = 2)) (hJ : (Lit.int .u64 J).wf = true) {u4 : Value} (OC : tCodes.O h u4 (codesOf xs)) {K0 K1 K2 K3 K4 K5 : Kt} :
    fpS.wp Try.prog S noLeaf (fun v _ => v = .bool true) [v0, v1, u, .int .i64 (hkind xs), u4, .int .i64 (hkind xs), .int .u64 J, .int .i64 6] h [K0, K1, K2, K3, K4, K5] := by
  obtain ⟨a, c, rfl, hc, hx⟩ := Part.ints O
  obtain ⟨ac, cc, rfl, _, hpx⟩ := OwnP.pairs OC
  obtain ⟨hlen, hok⟩ := hkind_ok hg
  have hcl : (codesOf xs).length = xs.length := codesOf_len
  simp only [fpS, Tr.wp, mksW, callW, Ex.ev, coerce, toInt_int, toBool_bool, slL_sl, slC_sl, slA_sl, toAddr_ptr, ptrOf_ptr, isNil_sl, isNil_ptr, it_and, it_or, it_int, optN_int, optN_nl, cmpI, arith, Cst.val, SV.den, resShs, resV, resSV, resVals, newVars, runCells, exSh, allSh, cellsAre, storeW, List.flatMap_cons, List.flatMap_nil, List.replicate_one, List.getD_cons_zero, List.getD_cons_succ, List.getElem?_cons_zero, List.getElem?_cons_succ, decide_eq_true_eq, decide_eq_false_iff_not, List.map_cons, List.map_nil, List.cons_append, List.nil_append, List.append_nil, List.length_cons, List.length_nil, Nat.zero_add, Nat.add_zero, and_true, true_and, if_true, if_false, Bool.false_eq_true]
  refine ⟨fun us h' => ∃ s : Nat, us = [.int .i64 s] ∧ s ≤ xs.length ∧ Eng.Sub h h', fun us _ => 400 - (toInt (us.getD 0 undef)).toNat, ⟨0, rfl, by omega, fun _ _ h => h⟩, ?_⟩
  rintro s h' ⟨s', e, hs, s1⟩
  simp only [List.cons.injEq, Value.int.injEq, true_and, and_true] at e
  subst e
  refine ⟨fun hlt => ?_, fun _ => k_fpE (hi.sub s1) (Ty.Osub O s1) L1 hg hJ⟩
  have hsl : s' < xs.length := by omega
  obtain ⟨p, hp⟩ : ∃ p, (codesOf xs)[s']? = some p := ⟨_, List.getElem?_eq_getElem (by omega)⟩
  obtain ⟨L, v, rfl, hn, L15, hv⟩ := codesOf_cast hok hp
  obtain ⟨g1, g2, g3⟩ := (hpx.sub s1).cell hp
  obtain ⟨g4, g5⟩ := (hx.sub s1).cell (List.getElem?_eq_getElem hsl)
  have hLx : xs[s'] = (L : Int) := by
    have e2 := codesOf_get (xs := xs) hsl
    rw [hp] at e2
    have hb := hok _ (List.getElem_mem hsl)
    by_cases h1 : 1 ≤ xs[s']
    · rw [if_pos h1] at e2
      have e3 := congrArg Prod.fst (Option.some.inj e2)
      simp only [codeAt, getD_get hsl] at e3
      exact e3.symm
    · rw [if_neg h1] at e2
      have e3 := congrArg Prod.fst (Option.some.inj e2)
      simp only at e3
      omega
  have w4 : IntKind.i64.wrap ((s' : Int) + 1) = ((s' + 1 : Nat) : Int) := by rw [i64_in _ (by omega)]; omega
  have next : ∀ h2, Eng.Sub h' h2 → (∃ s : Nat, ([.int .i64 (IntKind.i64.wrap ((s' : Int) + 1))] : List Value) = [.int .i64 s] ∧ s ≤ xs.length ∧ Eng.Sub h h2) ∧
      400 - (toInt (([.int .i64 (IntKind.i64.wrap ((s' : Int) + 1))] : List Value).getD 0 undef)).toNat < 400 - (toInt (([.int .i64 (s' : Int)] : List Value).getD 0 undef)).toNat := fun h2 s2 => by
    rw [w4]
    refine ⟨⟨s' + 1, rfl, by omega, s1.trans s2⟩, ?_⟩
    show 400 - (toInt (Value.int .i64 ((s' + 1 : Nat) : Int))).toNat < 400 - (toInt (Value.int .i64 (s' : Int))).toNat
    rw [toInt_int, toInt_int]; omega
  refine ⟨by simpa using g3, by omega, by omega, L, v, ⟨by simpa [add_add] using g1, by simpa [add_add] using g2⟩, by simpa using g5, by omega, by omega, xs[s'], by simpa [add_add] using g4, fun hne => ?_, fun _ => ?_⟩
  · rw [hLx] at hne; simp at hne
  rw [hLx]
  refine ⟨fun h0 => ?_, fun _ _ => next h' (fun _ _ h => h)⟩
  have hL0 : 0 < L := by omega
  refine ⟨fun us h2 => ∃ t : Nat, us = [.int .i64 t] ∧ t ≤ s' ∧ h2 = h', fun us _ => 400 - (toInt (us.getD 0 undef)).toNat, ⟨0, rfl, by omega, rfl⟩, ?_⟩
  rintro t h2 ⟨t', e, ht, rfl⟩
  simp only [List.cons.injEq, Value.int.injEq, true_and, and_true] at e
  subst e
  refine ⟨fun hlt2 => ?_, fun _ => ?_⟩
  · have hts : t' < s' := by omega
    obtain ⟨q, hq⟩ : ∃ q, (codesOf xs)[t']? = some q := ⟨_, List.getElem?_eq_getElem (by omega)⟩
    obtain ⟨M, w, rfl, hn2, M15, hw⟩ := codesOf_cast hok hq
    obtain ⟨k1, k2, k3⟩ := (hpx.sub s1).cell hq
    refine ⟨by simpa using k3, by omega, by omega, M, w, ⟨by simpa [add_add] using k1, by simpa [add_add] using k2⟩, ?_⟩
    refine k_fpB hg hn hn2 hts ⟨hL0, L15⟩ M15 ?_
    refine ⟨⟨t' + 1, rfl, by omega, rfl⟩, ?_⟩
    show 400 - (toInt (Value.int .i64 ((t' + 1 : Nat) : Int))).toNat < 400 - (toInt (Value.int .i64 (t' : Int))).toNat
    rw [toInt_int, toInt_int]; omega
  · refine k_fpN (hi.sub s1) (Ty.Osub O s1) L1 hg hn ⟨hL0, L15⟩ hv ?_
    exact fun h2 s2 _ => next h2 s2
end

set_option maxHeartbeats 4000000 in
theorem k_FnPrefix (hi : Eng.Inv S h) (a0 : Option Addr) (c0 : Nat) (xs0 : List Int) (hx0 : HInts h .u8 a0 xs0) (hl0 : xs0.length ≤ maxLen) (hw0 : ∀ x ∈ xs0, (Lit.int .u8 x).wf = true) (a1 : Option Addr) (c1 : Nat) (xs1 : List Int) (hx1 : HInts h .u8 a1 xs1) (hl1 : xs1.length ≤ maxLen) (hw1 : ∀ x ∈ xs1, (Lit.int .u8 x).wf = true) :
    CallsH Try.prog S F_laws_FnPrefix #[.slice a0 xs0.length c0, .slice a1 xs1.length c1] h (fun v _ => v = .bool true) := by
  refine run_laws_FnPrefix (vs := [.slice a0 xs0.length c0, .slice a1 xs1.length c1]) ⟨rfl, rfl, trivial⟩ hi ?_
  rw [laws_FnPrefix_cut]
  simp only [Tr.wp, mksW, callW, Ex.ev, coerce, toInt_int, toBool_bool, slL_sl, slC_sl, slA_sl, toAddr_ptr, ptrOf_ptr, isNil_sl, isNil_ptr, it_and, it_or, it_int, optN_int, optN_nl, cmpI, arith, Cst.val, SV.den, resShs, resV, resSV, resVals, newVars, runCells, exSh, allSh, cellsAre, storeW, List.flatMap_cons, List.flatMap_nil, List.replicate_one, List.getD_cons_zero, List.getD_cons_succ, List.getElem?_cons_zero, List.getElem?_cons_succ, decide_eq_true_eq, decide_eq_false_iff_not, List.map_cons, List.map_nil, List.cons_append, List.nil_append, List.append_nil, List.length_cons, List.length_nil, Nat.zero_add, Nat.add_zero, and_true, true_and, if_true, if_false, Bool.false_eq_true]
  refine ⟨fun _ => trivial, fun hsm => ?_⟩
  have hl : xs0.length ≤ 1048576 ∧ xs1.length ≤ 1048576 := by simp at hsm; omega
  refine (k_DrawHuffCodes hi hx0 hl.1).mono ?_
  rintro v h1 ⟨xs, hxl, O, N, s1⟩
  obtain ⟨a, c, rfl, hc, hx⟩ := Part.ints O
  have L1 : limI xs := by show xs.length ≤ _; omega
  refine ⟨_, _, _, rfl, ?_⟩
  refine (k_spec_HuffKind (hi.sub s1) a c xs hx).mono ?_
  rintro _ hq ⟨rfl, rfl⟩
  refine ⟨_, rfl, ?_⟩
  refine (g_impl_HuffCodes (hi.sub s1) O L1).mono ?_
  rintro cv h2 ⟨OC, NC, s2⟩
  obtain ⟨ac, cc, rfl, _, hpx⟩ := OwnP.pairs OC
  refine ⟨_, _, _, rfl, ?_⟩
  refine (k_impl_HuffKind (hi.sub (s1.trans s2)) a c xs (hx.sub s2)).mono ?_
  rintro _ hq ⟨rfl, rfl⟩
  refine ⟨_, rfl, fun hne => by simp at hne, fun _ => ⟨fun hb => ?_, fun hgd => ?_⟩⟩
  · have hb : hkind xs = 0 ∨ hkind xs = 2 := by simp at hb; omega
    simp [ans_HuffCodes, hb]
  have hg : ¬ (hkind xs = 0 ∨ hkind xs = 2) := by simp at hgd; omega
  simp only [ans_HuffCodes, if_neg hg] at OC ⊢
  refine ⟨fun hne => ?_, fun _ => ?_⟩
  · simp [codesOf_len] at hne
  have hwb : ∀ x ∈ xs1, 0 ≤ x ∧ x ≤ 255 := fun x hx => by
    have H := hw1 x hx
    have e1 : IntKind.u8.min = 0 := by rfl
    have e2 : IntKind.u8.max = 255 := by rfl
    simp [Lit.wf, e1, e2] at H; exact H
  refine ⟨fun us h' => ∃ (J : Int) (i : Nat), us = [.int .u64 J, .int .i64 i] ∧ (Lit.int .u64 J).wf = true ∧ i ≤ 6 ∧ h' = hq, fun us _ => 6 - (toInt (us.getD 1 undef)).toNat, ⟨0, 0, rfl, by decide, by omega, rfl⟩, ?_⟩
  rintro J i h' ⟨J', i', e, hJ, hi6, rfl⟩
  simp only [List.cons.injEq, Value.int.injEq, true_and, and_true] at e
  obtain ⟨rfl, rfl⟩ := e
  refine ⟨fun hlt => ?_, fun hge => ?_⟩
  · refine (k_lwAt (hi.sub (s1.trans s2)) (hx1.sub (s1.trans s2)) hl.2 hwb i' (by omega)).mono ?_
    rintro _ hq ⟨⟨x, rfl, x0, x1⟩, rfl⟩
    have w4 : IntKind.i64.wrap ((i' : Int) + 1) = ((i' + 1 : Nat) : Int) := by rw [i64_in _ (by omega)]; omega
    rw [w4]
    refine ⟨_, rfl, ⟨_, i' + 1, rfl, ?_, by omega, rfl⟩, ?_⟩
    · exact wrap_wf64 _
    · show 6 - (toInt (Value.int .i64 ((i' + 1 : Nat) : Int))).toNat < 6 - (toInt (Value.int .i64 (i' : Int))).toNat
      rw [toInt_int, toInt_int]; omega
  · obtain rfl : i' = 6 := by omega
    exact k_fpS (hi.sub (s1.trans s2)) (Ty.Osub O s2) L1 hg hJ OC
end Go.Proofs.Ytchlnichbaoeaaa
