import Derived.Test.YtchlnichbaoeaaaKTable
import Derived.Test.YtchlnichbaoeaaaTyI
set_option linter.unusedVariables false
set_option linter.unusedSimpArgs false
namespace Go.Proofs.Ytchlnichbaoeaaa
open Go Go.Eng Go.IntWalk
variable {S : Nat → Prop} {h : Eng.Heap}

def one (k : IntKind) (n : Int) (T : TypeId) : Obj := .cells #[.int k n] T
theorem one_get {b : Nat} {k : IntKind} {n : Int} {T : TypeId} (hb : h b = some (one k n T)) : hcell h ⟨b, 0, none⟩ = some (.int k n) := by simp [hcell, hb, one]
theorem one_ok {b : Nat} {k : IntKind} {n : Int} {T : TypeId} (hb : h b = some (one k n T)) (hs : ¬ S b) : okCell S h ⟨b, 0, none⟩ := ⟨⟨_, one_get hb⟩, by simp [hfrozen, hb, one], hs⟩
theorem one_set {b : Nat} {k : IntKind} {n m : Int} {T : TypeId} (hb : h b = some (one k n T)) : hset h ⟨b, 0, none⟩ (.int k m) = upd h b (one k m T) := by
  rw [hset_cells' hb]; rfl

theorem k_bit (hi : Eng.Inv S h) {bi bn bb : Nat} {Ti Tn Tb : TypeId} {i n b : Nat} (h1 : h bi = some (one .i64 i Ti)) (h2 : h bn = some (one .i64 n Tn)) (h3 : h bb = some (one .u64 b Tb)) (hs : ¬ S bi) (hne : bb ≠ bi) (hin : i ≤ n) (hn : n ≤ 64) :
    CallsH Try.prog S F_impl_HuffNext_1 #[.pointer (some ⟨bi, 0, none⟩), .pointer (some ⟨bn, 0, none⟩), .pointer (some ⟨bb, 0, none⟩)] h (fun v h' => (i = n ∧ v = .int .i64 (-1) ∧ h' = h) ∨ (i < n ∧ v = .int .i64 ((b / 2 ^ i % 2 : Nat) : Int) ∧ h' = upd h bi (one .i64 ((i + 1 : Nat) : Int) Ti))) := by
  refine run_impl_HuffNext_1 (vs := [.pointer (some ⟨bi, 0, none⟩), .pointer (some ⟨bn, 0, none⟩), .pointer (some ⟨bb, 0, none⟩)]) ⟨rfl, rfl, rfl, trivial⟩ hi ?_
  simp only [t_impl_HuffNext_1, Tr.wp, mksW, callW, Ex.ev, coerce, toInt_int, toBool_bool, slL_sl, slC_sl, slA_sl, toAddr_ptr, ptrOf_ptr, isNil_sl, isNil_ptr, it_and, it_or, it_int, optN_int, optN_nl, cmpI, arith, Cst.val, SV.den, resShs, resV, resSV, resVals, newVars, runCells, exSh, allSh, cellsAre, storeW, List.flatMap_cons, List.flatMap_nil, List.replicate_one, List.getD_cons_zero, List.getD_cons_succ, List.getElem?_cons_zero, List.getElem?_cons_succ, decide_eq_true_eq, decide_eq_false_iff_not, List.map_cons, List.map_nil, List.cons_append, List.nil_append, List.append_nil, List.length_cons, List.length_nil, Nat.zero_add, Nat.add_zero, and_true, true_and, if_true, if_false, Bool.false_eq_true]
  have ez : ∀ x : Nat, (⟨x, 0, none⟩ : Addr).add 0 = ⟨x, 0, none⟩ := fun x => addr_add x 0 0
  simp only [ez]
  refine ⟨i, one_get h1, n, one_get h2, fun heq => ?_, fun hneq => ?_⟩
  · have : (i : Int) = n := beq_iff_eq.1 heq
    exact .inl (by first | exact ⟨by omega, rfl, rfl⟩ | omega)
  · have hne2 : i ≠ n := fun e => by subst e; simp at hneq
    have w1 : IntKind.i64.wrap ((i : Int) + 1) = ((i + 1 : Nat) : Int) := by rw [i64_in _ (by omega)]; omega
    have w2 : IntKind.i64.wrap (((i + 1 : Nat) : Int) - 1) = (i : Int) := by rw [i64_in _ (by omega)]; omega
    refine ⟨i, one_get h1, one_ok h1 hs, ?_⟩
    rw [w1, one_set h1]
    refine ⟨b, one_get ((upd_ne hne).trans h3), _, one_get upd_same, ?_⟩
    rw [w2]
    have m1 : min (i : Int).toNat IntKind.u64.bits = i := by
      have : IntKind.u64.bits = 64 := rfl
      rw [this]; omega
    have hp : (0 : Int) < 2 ^ i := Int.pow_pos (by decide)
    have e : (b : Int).fdiv (2 ^ i) % 2 = ((b / 2 ^ i % 2 : Nat) : Int) := by
      rw [Int.fdiv_eq_ediv_of_nonneg _ (Int.le_of_lt hp)]; push_cast; rfl
    rw [m1, and1_u64, e]
    have w3 : IntKind.i64.wrap ((b / 2 ^ i % 2 : Nat) : Int) = ((b / 2 ^ i % 2 : Nat) : Int) := i64_in _ (by omega)
    rw [w3]
    exact ⟨by omega, .inr ⟨by omega, rfl, rfl⟩⟩

set_option maxHeartbeats 4000000 in
theorem k_next {h0 : Eng.Heap} {bt bi bn bb : Nat} {T P : List (Nat × Nat)} {a : Option Addr} {c : Nat} {cs : List (Nat × Nat)} {Ti Tn Tb : TypeId} {n b : Nat} (hi : Eng.Inv S h0) (TV : TabV h0 h bt T P a c (Em cs cs.length) (Ym cs cs.length)) (hTl : T.length ≤ 20000) (hM : ∀ c ∈ cs, c.1 ≤ 15)
    (h1 : h bi = some (one .i64 0 Ti)) (h2 : h bn = some (one .i64 n Tn)) (h3 : h bb = some (one .u64 b Tb)) (hib : h0 bi = none) (hne : bb ≠ bi) (hne2 : bn ≠ bi) (hbt : bt ≠ bi) (hbl : blkOf (.slice a T.length c) ≠ some bi) (hn : n ≤ 64) (hsl : Ym cs cs.length 0 0 = 0) (hcl : cs.length ≤ 1000) :
    CallsH Try.prog S F_impl_codeTable__next #[.pointer (some ⟨bt, 0, none⟩), .func (.func F_impl_HuffNext_1) #[] #[.pointer (some ⟨bi, 0, none⟩), .pointer (some ⟨bn, 0, none⟩), .pointer (some ⟨bb, 0, none⟩)]] h (fun v h' => v = nres (nxt cs b (n + 1) 0) ∧ Eng.Sub h0 h') := by
  refine run_impl_codeTable__next (vs := [.pointer (some ⟨bt, 0, none⟩), .func (.func F_impl_HuffNext_1) #[] #[.pointer (some ⟨bi, 0, none⟩), .pointer (some ⟨bn, 0, none⟩), .pointer (some ⟨bb, 0, none⟩)]]) ⟨rfl, rfl, trivial⟩ (hi.sub TV.sb) ?_
  simp only [t_impl_codeTable__next, Tr.wp, mksW, callW, Ex.ev, coerce, toInt_int, toBool_bool, slL_sl, slC_sl, slA_sl, toAddr_ptr, ptrOf_ptr, isNil_sl, isNil_ptr, it_and, it_or, it_int, optN_int, optN_nl, cmpI, arith, Cst.val, SV.den, resShs, resV, resSV, resVals, newVars, runCells, exSh, allSh, cellsAre, storeW, List.flatMap_cons, List.flatMap_nil, List.replicate_one, List.getD_cons_zero, List.getD_cons_succ, List.getElem?_cons_zero, List.getElem?_cons_succ, decide_eq_true_eq, decide_eq_false_iff_not, List.map_cons, List.map_nil, List.cons_append, List.nil_append, List.append_nil, List.length_cons, List.length_nil, Nat.zero_add, Nat.add_zero, and_true, true_and, if_true, if_false, Bool.false_eq_true]
  obtain ⟨s0, q0, hT0⟩ := TV.ti.get TV.ti.root
  have hk0 := (List.getElem?_eq_some_iff.1 hT0).1
  obtain ⟨g1, g2, g3⟩ := TV.cell hT0
  refine ⟨by simp, _, _, _, by simpa [addr_add] using TV.ld, by simpa using g3, by simp, by omega, (s0 : Int), (q0 : Int), ⟨by simpa [add_add] using g1, by simpa [add_add] using g2⟩, ?_⟩
  -- the table as it stands whatever the bits' place is
  have tv : ∀ m : Int, TabV h0 (upd h bi (one .i64 m Ti)) bt T P a c (Em cs cs.length) (Ym cs cs.length) := fun m =>
    ⟨by obtain ⟨TT, hb⟩ := TV.hb; exact ⟨TT, (upd_ne hbt).trans hb⟩, TV.ow.keep fun z hz => upd_ne fun e => hbl (e ▸ hz), TV.nw, TV.nb, TV.ne, TV.ti, fun y o hy => by rw [upd_ne (fun e => by rw [e, hib] at hy; cases hy)]; exact TV.sb y o hy⟩
  refine ⟨fun us h' => ∃ (l k s q : Nat), us = [.int .i64 l, .int .i64 s, .int .i64 q] ∧ T[k]? = some (s, q) ∧ P[k]? = some (l, b % 2 ^ l) ∧ l ≤ n ∧ h' = upd h bi (one .i64 l Ti) ∧ nxt cs b (n + 1) 0 = nxt cs b (n + 1 - l) l, fun us _ => n - (toInt (us.getD 0 undef)).toNat, ⟨0, 0, s0, q0, rfl, hT0, by rw [TV.ti.root]; simp [Nat.mod_one], by omega, (upd_self h1).symm, rfl⟩, ?_⟩
  rintro x y z h' ⟨l, k, s, q, hx1, hT, hP, hl, rfl, hnx⟩
  obtain ⟨rfl, rfl, rfl⟩ : x = l ∧ y = s ∧ z = q := by simpa using hx1
  obtain ⟨f, hf⟩ : ∃ f, n + 1 - l = f + 1 := ⟨n - l, by omega⟩
  have hnx2 : nxt cs b (n + 1) 0 = (if s ≠ 0 then (1, (s : Int) - 1, (l : Int)) else if Ec cs l (b % 2 ^ l) then nxt cs b f (l + 1) else (0, 0, 0)) := by rw [hnx, hf, nxt, ← TV.ti.sym hT hP]
  have hsub := (tv l).sb
  have hsy : s ≤ cs.length := by
    rw [TV.ti.sym hT hP]
    by_cases h0 : Ym cs cs.length l (b % 2 ^ l) = 0
    · omega
    · obtain ⟨t, ht, _, _, e⟩ := Ym_some h0; omega
  refine ⟨fun hs => ?_, fun hs => ⟨fun hq => ?_, fun hq => ?_⟩⟩
  · rw [hnx2, if_pos (by omega)]
    refine ⟨?_, hsub⟩
    unfold nres
    simp only
    rw [i64_in _ (by omega)]
  · have hs0 : s = 0 := by omega
    have hq0 : q = 0 := by have : (q : Int) = 0 := beq_iff_eq.1 hq; omega
    have hE : ¬ Ec cs l (b % 2 ^ l) := fun h => by
      have := (TV.ti.ext hT hP).2 (Em_full.2 h)
      exact this hq0
    rw [hnx2, if_neg (by omega), if_neg hE]
    exact ⟨rfl, hsub⟩
  · have hs0 : s = 0 := by omega
    have hqn : q ≠ 0 := fun e => by subst e; simp at hq
    have hE : Ec cs l (b % 2 ^ l) := Em_full.1 ((TV.ti.ext hT hP).1 hqn)
    rw [if_neg (by omega), if_pos hE] at hnx2
    obtain ⟨k0, k1⟩ := TV.ti.kid hT hP hqn
    have hkk := (List.getElem?_eq_some_iff.1 k1).1
    rw [TV.ti.len] at hkk
    refine ⟨_, _, _, rfl, ?_⟩
    refine (k_bit (hi.sub hsub) (bi := bi) (bn := bn) (bb := bb) (i := l) (n := n) (b := b) upd_same ((upd_ne hne2).trans h2) ((upd_ne hne).trans h3) (fun hs => hi bi hs hib) hne hl hn).mono ?_
    rintro _ h4 (⟨rfl, rfl, rfl⟩ | ⟨hln, rfl, rfl⟩)
    · refine ⟨_, rfl, fun _ => ?_, fun h => by omega⟩
      have : f = 0 := by omega
      rw [hnx2, this]
      exact ⟨rfl, hsub⟩
    · rw [upd_upd]
      refine ⟨_, rfl, fun h => by omega, fun _ => ?_⟩
      have hb01 : b / 2 ^ l % 2 = 0 ∨ b / 2 ^ l % 2 = 1 := by omega
      have w1 : IntKind.i64.wrap ((q : Int) + ((b / 2 ^ l % 2 : Nat) : Int)) = ((q + b / 2 ^ l % 2 : Nat) : Int) := by rw [i64_in _ (by omega)]; omega
      have w2 : IntKind.i64.wrap ((l : Int) + 1) = ((l + 1 : Nat) : Int) := by rw [i64_in _ (by omega)]; omega
      have hP' : P[q + b / 2 ^ l % 2]? = some (l + 1, b % 2 ^ (l + 1)) := by
        rw [next_bit]
        rcases hb01 with h | h <;> rw [h]
        · simpa using k0
        · simpa using k1
      obtain ⟨s', q', hT'⟩ := TV.ti.get hP'
      have TV' := tv ((l + 1 : Nat) : Int)
      obtain ⟨g4, g5, g6⟩ := TV'.cell hT'
      rw [w1, w2]
      refine ⟨by simp, _, _, _, by simpa [addr_add] using TV'.ld, by simpa using g6, by omega, by omega, (s' : Int), (q' : Int), ⟨by simp only [Int.toNat_natCast, add_add, Nat.add_zero]; exact g4, by simp only [Int.toNat_natCast, add_add]; exact g5⟩, ⟨l + 1, _, s', q', rfl, hT', hP', by omega, rfl, ?_⟩, by simp only [List.getD_cons_zero, toInt_int]; omega⟩
      rw [hnx2]
      congr 1
      omega

theorem Ym_root {cs : List (Nat × Nat)} : ∀ m, Ym cs m 0 0 = 0
  | 0 => rfl
  | m + 1 => by rw [Ym, if_neg (fun h => by omega)]; exact Ym_root m

theorem codesN_le {xs : List Int} (hok : hok xs) : ∀ c ∈ codesN xs, c.1 ≤ 15 := fun c hc => by
  obtain ⟨j, hj⟩ := List.getElem?_of_mem hc
  have hj2 : j < (codesOf xs).length := by rw [codesOf_len, ← codesN_len]; exact (List.getElem?_eq_some_iff.1 hj).1
  obtain ⟨l, b, _, h2, h3, _⟩ := codesOf_cast hok (List.getElem?_eq_getElem hj2)
  rw [hj] at h2
  have := Option.some.inj h2
  rw [this]; exact h3

def ans_HuffNext (xs : List Int) (b n : Int) : Int × Int × Int :=
  if hkind xs = 0 ∨ hkind xs = 2 ∨ n < 0 ∨ 64 < n then (0, 0, 0) else nxt (codesN xs) b.toNat (n.toNat + 1) 0

theorem u64_wf {n : Int} (H : (Lit.int .u64 n).wf = true) : 0 ≤ n ∧ n ≤ 18446744073709551615 := by
  have e1 : IntKind.u64.min = 0 := by rfl
  have e2 : IntKind.u64.max = 18446744073709551615 := by rfl
  simp [Lit.wf, e1, e2] at H; exact H

set_option maxHeartbeats 4000000 in
theorem g_spec_HuffNext (hi : Eng.Inv S h) {v : Value} {xs : List Int} (O : tI.O h v xs) (L : limI xs) (b n : Int) (wb : (Lit.int .u64 b).wf = true) (wn : (Lit.int .i64 n).wf = true) :
    CallsH Try.prog S F_spec_HuffNext #[v, .int .u64 b, .int .i64 n] h (fun v h' => v = nres (ans_HuffNext xs b n) ∧ Eng.Sub h h') := by
  obtain ⟨a, c, rfl, hc, hx⟩ := Part.ints O
  have wb := u64_wf wb
  obtain ⟨B, rfl⟩ := Int.eq_ofNat_of_zero_le wb.1
  refine run_spec_HuffNext (vs := [.slice a xs.length c, .int .u64 B, .int .i64 n]) ⟨rfl, rfl, rfl, trivial⟩ hi ?_
  simp only [t_spec_HuffNext, Tr.wp, mksW, callW, Ex.ev, coerce, toInt_int, toBool_bool, slL_sl, slC_sl, slA_sl, toAddr_ptr, ptrOf_ptr, isNil_sl, isNil_ptr, it_and, it_or, it_int, optN_int, optN_nl, cmpI, arith, Cst.val, SV.den, resShs, resV, resSV, resVals, newVars, runCells, exSh, allSh, cellsAre, storeW, List.flatMap_cons, List.flatMap_nil, List.replicate_one, List.getD_cons_zero, List.getD_cons_succ, List.getElem?_cons_zero, List.getElem?_cons_succ, decide_eq_true_eq, decide_eq_false_iff_not, List.map_cons, List.map_nil, List.cons_append, List.nil_append, List.append_nil, List.length_cons, List.length_nil, Nat.zero_add, Nat.add_zero, and_true, true_and, if_true, if_false, Bool.false_eq_true]
  refine (k_spec_HuffKind hi a c xs hx).mono ?_
  rintro _ hq ⟨rfl, eq⟩
  rw [eq]
  refine ⟨_, rfl, fun hbad => ?_, fun hok1 => ?_⟩
  · have hb : hkind xs = 0 ∨ hkind xs = 2 ∨ n < 0 ∨ 64 < n := by simp at hbad; omega
    simp only [ans_HuffNext, if_pos hb]
    exact ⟨rfl, fun _ _ h => h⟩
  have hg : ¬ (hkind xs = 0 ∨ hkind xs = 2 ∨ n < 0 ∨ 64 < n) := by simp at hok1; omega
  have hg2 : ¬ (hkind xs = 0 ∨ hkind xs = 2) := fun h => hg (h.elim .inl fun h => .inr (.inl h))
  obtain ⟨hlen, hok⟩ := hkind_ok hg2
  simp only [ans_HuffNext, if_neg hg]
  obtain ⟨N, rfl⟩ := Int.eq_ofNat_of_zero_le (show 0 ≤ n by omega)
  refine (g_spec_HuffCodes hi O L).mono ?_
  rintro cv h1 ⟨OC, NC, s1⟩
  simp only [ans_HuffCodes, if_neg hg2] at OC
  obtain ⟨ac, cc, rfl, _, hpx⟩ := OwnP.pairs OC
  refine ⟨_, _, _, rfl, ?_⟩
  refine (k_l3Next (hi.sub s1) ac cc (codesOf xs) (codesN xs) hpx (by rw [codesOf_len]; omega) (by rw [codesOf_len, codesN_len]) (fun j p hp => codesOf_cast hok hp) (codes_uniq hg2) B N (by omega) (by omega)).mono ?_
  rintro _ hq ⟨rfl, eq⟩
  exact ⟨_, _, _, rfl, rfl, eq ▸ s1⟩

set_option maxHeartbeats 4000000 in
theorem g_impl_HuffNext (hi : Eng.Inv S h) {v : Value} {xs : List Int} (O : tI.O h v xs) (L : limI xs) (b n : Int) (wb : (Lit.int .u64 b).wf = true) (wn : (Lit.int .i64 n).wf = true) :
    CallsH Try.prog S F_impl_HuffNext #[v, .int .u64 b, .int .i64 n] h (fun v h' => v = nres (ans_HuffNext xs b n) ∧ Eng.Sub h h') := by
  obtain ⟨a, c, rfl, hc, hx⟩ := Part.ints O
  have wb := u64_wf wb
  obtain ⟨B, rfl⟩ := Int.eq_ofNat_of_zero_le wb.1
  refine run_impl_HuffNext (vs := [.slice a xs.length c, .int .u64 B, .int .i64 n]) ⟨rfl, rfl, rfl, trivial⟩ hi ?_
  simp only [t_impl_HuffNext, Tr.wp, mksW, callW, Ex.ev, coerce, toInt_int, toBool_bool, slL_sl, slC_sl, slA_sl, toAddr_ptr, ptrOf_ptr, isNil_sl, isNil_ptr, it_and, it_or, it_int, optN_int, optN_nl, cmpI, arith, Cst.val, SV.den, resShs, resV, resSV, resVals, newVars, runCells, exSh, allSh, cellsAre, storeW, List.flatMap_cons, List.flatMap_nil, List.replicate_one, List.getD_cons_zero, List.getD_cons_succ, List.getElem?_cons_zero, List.getElem?_cons_succ, decide_eq_true_eq, decide_eq_false_iff_not, List.map_cons, List.map_nil, List.cons_append, List.nil_append, List.append_nil, List.length_cons, List.length_nil, Nat.zero_add, Nat.add_zero, and_true, true_and, if_true, if_false, Bool.false_eq_true]
  intro b1 hb1 b2 hb2
  have ez : ∀ x : Nat, (⟨x, 0, none⟩ : Addr).add 0 = ⟨x, 0, none⟩ := fun x => addr_add x 0 0
  simp only [ez]
  obtain ⟨h2, hh2⟩ : ∃ h2, h2 = upd (upd h b1 (.cells #[Value.int .u64 B] 54)) b2 (.cells #[Value.int .i64 n] 2) := ⟨_, rfl⟩
  have s2 : Eng.Sub h h2 := by rw [hh2]; exact (Sub.of_upd hb1).trans (Sub.of_upd hb2)
  have hne12 : b1 ≠ b2 := fun e => by rw [← e, upd_same] at hb2; cases hb2
  have hb2' : h2 b2 = some (one .i64 n 2) := by rw [hh2, upd_same]; rfl
  have hb1' : h2 b1 = some (one .u64 B 54) := by rw [hh2, upd_ne hne12, upd_same]; rfl
  rw [← hh2]
  have O2 : tI.O h2 (.slice a xs.length c) xs := Ty.Osub O s2
  have fin : (hkind xs = 0 ∨ hkind xs = 2 ∨ n < 0 ∨ 64 < n) → (Value.agg #[Value.int .i64 0, Value.int .i64 0, Value.int .i64 0] = nres (ans_HuffNext xs B n) ∧ Eng.Sub h h2) := fun hb => by
    simp only [ans_HuffNext, if_pos hb]
    exact ⟨rfl, s2⟩
  refine (k_impl_HuffKind (hi.sub s2) a c xs (hx.sub s2)).mono ?_
  rintro _ hq ⟨rfl, eq⟩
  rw [eq]
  refine ⟨_, rfl, fun h1 => ?_, fun h1 _ => ⟨fun _ => fin (by simp at h1; omega), fun h => by cases h⟩⟩
  have hk : ¬ (hkind xs = 0 ∨ hkind xs = 2) := by simp at h1; omega
  refine ⟨n, one_get hb2', fun h3 => ?_, fun h3 _ => ⟨fun _ => fin (by simp at h3; omega), fun h => by cases h⟩⟩
  have hn0 : 0 ≤ n := by simp at h3; omega
  refine ⟨n, one_get hb2', fun _ => ⟨fun h4 => fin (by omega), fun h4 b3 hb3 => ?_⟩⟩
  have hg : ¬ (hkind xs = 0 ∨ hkind xs = 2 ∨ n < 0 ∨ 64 < n) := by omega
  obtain ⟨hlen, hok⟩ := hkind_ok hk
  simp only [ans_HuffNext, if_neg hg]
  obtain ⟨N, rfl⟩ := Int.eq_ofNat_of_zero_le hn0
  have hb30 := sub_none s2 hb3
  have hs3 : ¬ S b3 := fun hs => hi b3 hs hb30
  have e3 : (Obj.cells #[Value.int .i64 0] 2) = one .i64 0 2 := rfl
  rw [e3]
  have h3' : hset (upd h2 b3 (one .i64 0 2)) ⟨b3, 0, none⟩ (.int .i64 0) = upd h2 b3 (one .i64 0 2) := by rw [one_set upd_same, upd_upd]
  rw [h3']
  obtain ⟨h5, hh5⟩ : ∃ h5, h5 = upd h2 b3 (one .i64 0 2) := ⟨_, rfl⟩
  refine ⟨one_ok upd_same hs3, ?_⟩
  have s5 : Eng.Sub h2 h5 := by rw [hh5]; exact Sub.of_upd hb3
  rw [← hh5]
  have hb35 : h5 b3 = some (one .i64 0 2) := by rw [hh5, upd_same]
  refine (k_tableOf (hi.sub (s2.trans s5)) a c xs (Ty.Osub O2 s5) L hk).mono ?_
  rintro _ h6 ⟨bt, T, P, a6, c6, rfl, TV, hTl⟩
  refine ⟨_, rfl, ?_⟩
  have n3 : bt ≠ b3 := fun e => by have := TV.nb; rw [e, hb35] at this; cases this
  have n4 : blkOf (.slice a6 T.length c6) ≠ some b3 := fun e => by have := TV.nw b3 e; rw [hb35] at this; cases this
  have hne13 : b1 ≠ b3 := fun e => by rw [← e, hb1'] at hb3; cases hb3
  have hne23 : b2 ≠ b3 := fun e => by rw [← e, hb2'] at hb3; cases hb3
  have s6 := TV.sb
  have eN : ((N : Int).toNat) = N := rfl
  have TV' : TabV h h6 bt T P a6 c6 (Em (codesN xs) (codesN xs).length) (Ym (codesN xs) (codesN xs).length) := by
    rw [codesN_len]
    exact ⟨TV.hb, TV.ow, fun y hy => sub_none (s2.trans s5) (TV.nw y hy), sub_none (s2.trans s5) TV.nb, TV.ne, TV.ti, (s2.trans s5).trans s6⟩
  have K := k_next (n := N) (b := B) hi TV' hTl (codesN_le hok) (s6 b3 _ hb35) (s6 b2 _ (s5 b2 _ hb2')) (s6 b1 _ (s5 b1 _ hb1')) hb30 hne13 hne23 n3 n4 (by omega) (Ym_root _) (by rw [codesN_len]; omega)
  have ecap : ∀ x y z : Value, tupOf (Value.tuple (#[x] ++ tupOf (Value.tuple (#[y] ++ tupOf (Value.tuple (#[z] ++ tupOf (Value.tuple #[]))))))) = #[x, y, z] := fun x y z => rfl
  rw [ecap]
  refine CallsH.mono K ?_
  rintro _ h7 ⟨rfl, s7⟩
  exact ⟨_, _, _, rfl, rfl, s7⟩

set_option maxRecDepth 100000 in
set_option maxHeartbeats 8000000 in
theorem k_HuffNext (hi : Eng.Inv S h) (a0 : Option Addr) (c0 : Nat) (xs0 : List Int) (hx0 : HInts h .i64 a0 xs0) (hl0 : xs0.length ≤ maxLen) (hw0 : ∀ x ∈ xs0, (Lit.int .i64 x).wf = true) (n1 : Int) (w1 : (Lit.int .u64 n1).wf = true) (n2 : Int) (w2 : (Lit.int .i64 n2).wf = true) :
    CallsH Try.prog S F_laws_FnExactHuffNext #[.slice a0 xs0.length c0, .int .u64 n1, .int .i64 n2] h (fun v _ => v = .bool true) := by
  refine run_laws_FnExactHuffNext (vs := [.slice a0 xs0.length c0, .int .u64 n1, .int .i64 n2]) ⟨rfl, rfl, rfl, trivial⟩ hi ?_
  simp (maxSteps := 4000000) only [t_laws_FnExactHuffNext, Tr.wp, mksW, callW, Ex.ev, coerce, toInt_int, toBool_bool, slL_sl, slC_sl, slA_sl, toAddr_ptr, ptrOf_ptr, isNil_sl, isNil_ptr, it_and, it_or, it_int, optN_int, optN_nl, cmpI, arith, Cst.val, SV.den, resShs, resV, resSV, resVals, newVars, runCells, exSh, allSh, cellsAre, storeW, List.flatMap_cons, List.flatMap_nil, List.replicate_one, List.getD_cons_zero, List.getD_cons_succ, List.getElem?_cons_zero, List.getElem?_cons_succ, decide_eq_true_eq, decide_eq_false_iff_not, List.map_cons, List.map_nil, List.cons_append, List.nil_append, List.append_nil, List.length_cons, List.length_nil, Nat.zero_add, Nat.add_zero, and_true, true_and, if_true, if_false, Bool.false_eq_true]
  have R0 : tI.R h (.slice a0 xs0.length c0) xs0 := ⟨_, _, rfl, hx0⟩
  refine ⟨fun _ => trivial, fun hsm0 => ?_⟩
  have L0 : limI xs0 := by show List.length _ ≤ _; omega
  refine (c_toI hi R0 (limI_sm L0)).mono ?_
  rintro v1 h1 ⟨O1, N1, t1⟩
  obtain ⟨_, _, rfl⟩ := tI_F (tI.OR O1)
  refine ⟨_, _, _, rfl, ?_⟩
  refine (g_spec_HuffNext (hi.sub t1) O1 L0 n1 n2 w1 w2).mono ?_
  rintro _ h2 ⟨rfl, t2⟩
  refine ⟨_, _, _, rfl, ?_⟩
  have s2 := t1.trans t2
  refine (c_toI (hi.sub s2) (tI.Rsub R0 s2) (limI_sm L0)).mono ?_
  rintro v3 h3 ⟨O3, N3, t3⟩
  obtain ⟨_, _, rfl⟩ := tI_F (tI.OR O3)
  refine ⟨_, _, _, rfl, ?_⟩
  have s3 := s2.trans t3
  refine (g_impl_HuffNext (hi.sub s3) O3 L0 n1 n2 w1 w2).mono ?_
  rintro _ h4 ⟨rfl, t4⟩
  refine ⟨_, _, _, rfl, ?_⟩
  have s4 := s3.trans t4
  refine (k_eqNextRes (hi.sub s4) _ _ _).mono ?_
  rintro _ hq ⟨rfl, eq⟩
  rw [eq]
  refine ⟨_, rfl, fun hne => by simp at hne, fun _ => ?_⟩
  refine (c_toI (hi.sub s4) (tI.Rsub R0 s4) (limI_sm L0)).mono ?_
  rintro v5 h5 ⟨O5, N5, t5⟩
  obtain ⟨_, _, rfl⟩ := tI_F (tI.OR O5)
  refine ⟨_, _, _, rfl, ?_⟩
  refine (c_eqI (hi.sub (s4.trans t5)) (tI.OR (Ty.Osub O3 (t4.trans t5))) (tI.OR O5) (limI_sm L0)).mono ?_
  rintro _ hq ⟨rfl, eq⟩
  exact ⟨_, rfl, by simp, fun _ => trivial⟩
end Go.Proofs.Ytchlnichbaoeaaa
