import Derived.Test.YtmnialmphlbmaaaDoorKRdL
import Derived.Test.YtmnialmphlbmaaaDoorCutspecl5Lens
set_option linter.unusedVariables false
set_option linter.unusedSimpArgs false
namespace Go.Proofs.YtmnialmphlbmaaaDoor
open Go Go.Eng Go.IntWalk
variable {S : Shared} {h : Eng.Heap}

theorem ord_lt : ∀ k, k < 19 → ord.getD k 0 < 19 := by decide
theorem ord_get {k : Nat} (h : k < 19) : (ord.map Int.ofNat)[k]? = some ((ord.getD k 0 : Nat) : Int) := by
  have hl : ord.length = 19 := rfl
  rw [List.getElem?_map, List.getElem?_eq_getElem (by omega)]
  simp [List.getD, List.getElem?_eq_getElem (show k < ord.length by omega)]

/-- The codes of good lengths, as they lie in memory. -/
theorem codes_at {h' : Eng.Heap} {v : Value} {xs : List Int} (O : OwnP h' v (ans_HuffCodes xs)) (hg : ¬ (hkind xs = 0 ∨ hkind xs = 2)) : ∃ a c, v = .slice a xs.length c ∧ CodesAt h' a xs.length (codesN xs) := by
  obtain ⟨hlen, hok⟩ := hkind_ok hg
  simp only [ans_HuffCodes, if_neg hg] at O
  obtain ⟨a, c, rfl, _, hx⟩ := OwnP.pairs O
  rw [codesOf_len]
  exact ⟨a, c, rfl, ⟨codesOf xs, hx, codesOf_len, by rw [codesN_len, codesOf_len], fun j p hp => codesOf_cast hok hp⟩, codes_uniq hg, by omega⟩

/-- The reference's end: what it hands back. -/
def PostL (h : Eng.Heap) (a : Option Addr) (c : Nat) (bs : List Int) (F : Rd × List Int × List Int) (v : Value) (h' : Eng.Heap) : Prop :=
  ∃ u w, v = .tuple #[rdV a c bs F.1, u, w] ∧ (F.1.k = 0 → Part .i64 h' u F.2.1 ∧ Part .i64 h' w F.2.2 ∧ Eng.New h u ∧ Eng.New h w) ∧ (∃ a1 l1 c1 a2 l2 c2, u = .slice a1 l1 c1 ∧ w = .slice a2 l2 c2) ∧ Eng.Sub h h'

/-- The end of the lengths. -/
def endL (nl : Nat) (r : Rd) (all : List Int) : Rd × List Int × List Int := if r.k = 0 then (bd (badL (all.take nl) (all.drop nl)) r, all.take nl, all.drop nl) else (r, [], [])

theorem getD_take {all : List Int} {nl : Nat} (h : 256 < nl) : (all.take nl).getD 256 0 = all.getD 256 0 := by
  simp [List.getD, List.getElem?_take, h]

set_option maxRecDepth 100000 in
set_option maxHeartbeats 4000000 in
theorem k_lensE {h0 : Eng.Heap} (hi : Eng.Inv S h0) (s0 : Eng.Sub h0 h) {a : Option Addr} {c : Nat} {bs : List Int} {r : Rd} {all : List Int} {aa : Option Addr} {ca : Nat} (P : Part .i64 h (.slice aa all.length ca) all) (N : Eng.New h0 (.slice aa all.length ca)) {x6 x13 z : Int} (hx6 : 0 ≤ x6 ∧ x6 < 32)
    (hlen : r.k = 0 → (x6 + 257).toNat + 1 ≤ all.length ∧ all.length ≤ 1000) (K0 K1 K2 K3 : Kt) (e0 e1 e2 e3 e4 e5 e7 e8 e9 e10 e11 e12 e14 e15 e16 e17 e18 e19 e20 e21 e22 e23 e24 e25 e26 e27 e28 e29 e30 e31 e32 : Value) :
    lensE.wp Tryd.prog S noLeaf (PostL h0 a c bs (endL (x6 + 257).toNat r all)) [e0, e1, e2, e3, e4, e5, .int .i64 x6, e7, e8, e9, e10, e11, e12, .int .i64 x13, e14, e15, e16, e17, e18, e19, e20, e21, e22, e23, e24, e25, e26, e27, e28, e29, e30, e31, e32, .int .i64 z, .slice aa all.length ca, .slice a bs.length c, .int .i64 r.i, .int .i64 r.k] h [K0, K1, K2, K3] := by
  obtain ⟨n6, rfl⟩ := Int.eq_ofNat_of_zero_le hx6.1
  have w6 : IntKind.i64.wrap ((n6 : Int) + 257) = ((n6 + 257 : Nat) : Int) := by rw [i64_in _ (by omega)]; omega
  have e6 : ((n6 : Int) + 257).toNat = n6 + 257 := by omega
  rw [e6] at hlen ⊢
  simp only [lensE, Tr.wp, mksW, callW, Ex.ev, coerce, toInt_int, toBool_bool, slL_sl, slC_sl, slA_sl, toAddr_ptr, ptrOf_ptr, isNil_sl, isNil_ptr, it_and, it_or, it_int, optN_int, optN_nl, cmpI, arith, Cst.val, SV.den, resShs, resV, resSV, resVals, newVars, runCells, exSh, allSh, cellsAre, List.flatMap_cons, List.flatMap_nil, List.replicate_one, List.getD_cons_zero, List.getD_cons_succ, List.getElem?_cons_zero, List.getElem?_cons_succ, decide_eq_true_eq, decide_eq_false_iff_not, List.map_cons, List.map_nil, List.cons_append, List.nil_append, List.append_nil, List.length_cons, List.length_nil, Nat.zero_add, Nat.add_zero, and_true, true_and, if_true, if_false, Bool.false_eq_true, w6]
  refine ⟨fun hne => ?_, fun heq => ?_⟩
  · have hk : r.k ≠ 0 := bne_iff_ne.1 hne
    intro b1 hb1 b2 hb2
    have e : endL (n6 + 257) r all = (r, [], []) := if_neg hk
    rw [e]
    exact ⟨_, _, rfl, fun h => absurd h hk, ⟨_, _, _, _, _, _, rfl, rfl⟩, s0.trans ((Sub.of_upd hb1).trans (Sub.of_upd hb2))⟩
  · have hk : r.k = 0 := by simpa using heq
    obtain ⟨l1, l2⟩ := hlen hk
    have e : endL (n6 + 257) r all = (bd (badL (all.take (n6 + 257)) (all.drop (n6 + 257))) r, all.take (n6 + 257), all.drop (n6 + 257)) := if_pos hk
    rw [e]
    obtain ⟨_, _, ei, hca, gi⟩ := P.ints
    cases ei
    refine ⟨by omega, by omega, by omega, by omega, ?_⟩
    obtain ⟨aL, cL, eL, PL, NL, nL⟩ := P.upTo N (n := n6 + 257) (m := ca) (by omega) (by omega) (Nat.le_refl _)
    obtain ⟨aR, cR, eR, PR, NR⟩ := P.from N (n := n6 + 257) (by omega) hca
    rw [Int.toNat_natCast, eL, eR]
    have lL : (all.take (n6 + 257)).length = n6 + 257 := by rw [List.length_take]; omega
    obtain ⟨_, _, ei, _, gL⟩ := PL.ints
    cases ei
    obtain ⟨_, _, ei, _, gR⟩ := PR.ints
    cases ei
    have g256 : (all.take (n6 + 257))[256]? = some ((all.take (n6 + 257)).getD 256 0) := by simp [List.getD, List.getElem?_take, show 256 < all.length by omega]
    obtain ⟨g1, g2⟩ := gL.cell g256
    have hbad : badL (all.take (n6 + 257)) (all.drop (n6 + 257)) = ((all.take (n6 + 257)).getD 256 0 == 0 || (!(hkind (all.take (n6 + 257)) == 1 || hkind (all.take (n6 + 257)) == 4)) || !(hkind (all.drop (n6 + 257)) == 1 || hkind (all.drop (n6 + 257)) == 4 || hkind (all.drop (n6 + 257)) == 5)) := rfl
    generalize badL (all.take (n6 + 257)) (all.drop (n6 + 257)) = B at hbad ⊢
    generalize (all.take (n6 + 257)).getD 256 0 = y at g1 hbad
    have fin : ∀ w : Bool, w = B → PostL h0 a c bs (bd B r, all.take (n6 + 257), all.drop (n6 + 257)) (.tuple #[rdV a c bs (bd w r), .slice aL (all.take (n6 + 257)).length cL, .slice aR (all.drop (n6 + 257)).length cR]) h := fun w e => by
      subst e
      exact ⟨_, _, rfl, fun _ => ⟨PL, PR, NL, NR⟩, ⟨_, _, _, _, _, _, rfl, rfl⟩, s0⟩
    refine ⟨by rw [isNil_sl, nL (by omega)]; rfl, by simp, by simp only [slL_sl, lL]; omega, y, by simp only [slA_sl, add_add]; exact g1, fun hy => ?_, fun hy => ?_⟩
    · refine (k_l5IsKind (hi.sub s0) aL cL _ gL 1 4 4).mono ?_
      rintro _ h2 ⟨rfl, rfl⟩
      refine ⟨_, rfl, fun hA => ?_, fun hA => ?_⟩
      · refine (k_l5IsKind (hi.sub s0) aR cR _ gR 1 4 5).mono ?_
        rintro _ h3 ⟨rfl, rfl⟩
        refine ⟨_, rfl, ?_⟩
        refine (k_l5Bad (hi.sub s0) a c bs r _).mono ?_
        rintro _ h3 ⟨rfl, rfl⟩
        refine ⟨_, _, _, _, _, rfl, fun _ => fin _ ?_⟩
        rw [hbad]
        revert hy hA
        cases (y == 0) <;> cases (hkind (all.take (n6 + 257)) == 1) <;> cases (hkind (all.take (n6 + 257)) == 4) <;> simp
      · refine (k_l5Bad (hi.sub s0) a c bs r true).mono ?_
        rintro _ h3 ⟨rfl, rfl⟩
        refine ⟨_, _, _, _, _, rfl, fun _ => fin _ ?_⟩
        rw [hbad]
        revert hy hA
        cases (y == 0) <;> cases (hkind (all.take (n6 + 257)) == 1) <;> cases (hkind (all.take (n6 + 257)) == 4) <;> simp
    · refine (k_l5Bad (hi.sub s0) a c bs r true).mono ?_
      rintro _ h3 ⟨rfl, rfl⟩
      refine ⟨_, _, _, _, _, rfl, fun _ => fin _ ?_⟩
      rw [hbad]
      revert hy
      cases (y == 0) <;> simp

set_option maxRecDepth 100000 in
set_option maxHeartbeats 4000000 in
theorem k_lensL {h0 : Eng.Heap} (hi : Eng.Inv S h0) (s0 : Eng.Sub h0 h) {a : Option Addr} {c : Nat} {bs : List Int} (hx : HInts h0 .u8 a bs) (L : bs.length ≤ 1048576) {r : Rd} (ok : okR bs r) {all : List Int} {aa : Option Addr} {ca : Nat} (P : Part .i64 h (.slice aa all.length ca) all) (N : Eng.New h0 (.slice aa all.length ca)) (ha : all = [])
    {x6 x13 z0 : Int} (hx6 : 0 ≤ x6 ∧ x6 < 32) (hx13 : 0 ≤ x13 ∧ x13 < 32) {ac : Option Addr} {lc cc : Nat} {cs : List (Nat × Nat)} (C : r.k = 0 → CodesAt h0 ac lc cs) (K0 K1 : Kt) (e0 e1 e2 e3 e4 e5 e7 e8 e9 e10 e11 e12 e14 e15 e16 e17 e18 e19 e20 e21 e23 e24 e25 e26 e27 : Value) :
    lensL.wp Tryd.prog S noLeaf (PostL h0 a c bs (endL (x6 + 257).toNat (lg bs cs ((x6 + 257).toNat + (x13 + 1).toNat) r all).1 (lg bs cs ((x6 + 257).toNat + (x13 + 1).toNat) r all).2)) [e0, e1, e2, e3, e4, e5, .int .i64 x6, e7, e8, e9, e10, e11, e12, .int .i64 x13, e14, e15, e16, e17, e18, e19, e20, e21, .int .i64 z0, e23, e24, e25, e26, e27, .slice a bs.length c, .int .i64 r.i, .int .i64 r.k, .slice ac lc cc, .slice aa all.length ca] h [K0, K1] := by
  obtain ⟨n6, rfl⟩ := Int.eq_ofNat_of_zero_le hx6.1
  obtain ⟨n13, rfl⟩ := Int.eq_ofNat_of_zero_le hx13.1
  have w6 : IntKind.i64.wrap ((n6 : Int) + 257) = ((n6 + 257 : Nat) : Int) := by rw [i64_in _ (by omega)]; omega
  have w13 : IntKind.i64.wrap ((n13 : Int) + 1) = ((n13 + 1 : Nat) : Int) := by rw [i64_in _ (by omega)]; omega
  have e6 : ((n6 : Int) + 257).toNat = n6 + 257 := by omega
  have e13 : ((n13 : Int) + 1).toNat = n13 + 1 := by omega
  have wt : IntKind.i64.wrap (((n6 + 257 : Nat) : Int) + ((n13 + 1 : Nat) : Int)) = ((n6 + 257 + (n13 + 1) : Nat) : Int) := by rw [i64_in _ (by omega)]; omega
  rw [e6, e13]
  simp only [lensL, Tr.wp, mksW, callW, Ex.ev, coerce, toInt_int, toBool_bool, slL_sl, slC_sl, slA_sl, toAddr_ptr, ptrOf_ptr, isNil_sl, isNil_ptr, it_and, it_or, it_int, optN_int, optN_nl, cmpI, arith, Cst.val, SV.den, resShs, resV, resSV, resVals, newVars, runCells, exSh, allSh, cellsAre, List.flatMap_cons, List.flatMap_nil, List.replicate_one, List.getD_cons_zero, List.getD_cons_succ, List.getElem?_cons_zero, List.getElem?_cons_succ, decide_eq_true_eq, decide_eq_false_iff_not, List.map_cons, List.map_nil, List.cons_append, List.nil_append, List.append_nil, List.length_cons, List.length_nil, Nat.zero_add, Nat.add_zero, and_true, true_and, if_true, if_false, Bool.false_eq_true, w6, w13, wt]
  generalize hT : n6 + 257 + (n13 + 1) = tot
  refine ⟨fun us h' => ∃ (z : Int) (r' : Rd) (all' : List Int) (a' : Option Addr) (c' : Nat), us = [.int .i64 z, .slice a' all'.length c', .slice a bs.length c, .int .i64 r'.i, .int .i64 r'.k] ∧ okR bs r' ∧ Part .i64 h' (.slice a' all'.length c') all' ∧ Eng.New h0 (.slice a' all'.length c') ∧ Eng.Sub h0 h' ∧ (r'.k = 0 → r.k = 0) ∧ (r'.k = 0 → all'.length ≤ tot) ∧ lg bs cs tot r all = lg bs cs tot r' all',
    fun us _ => if toInt (us.getD 4 undef) = 0 then tot + 1 - slL (us.getD 1 undef) else 0, ⟨z0, r, all, aa, ca, rfl, ok, P, N, s0, id, fun _ => by rw [ha]; simp, rfl⟩, ?_⟩
  rintro z a' l' c' ab lb cb i' k' h' ⟨z', r', all', a'', c'', hx1, ok', P', N', s', hk, hal, hlg⟩
  simp only [List.cons.injEq, Value.int.injEq, Value.slice.injEq, true_and, and_true] at hx1
  obtain ⟨rfl, ⟨rfl, rfl, rfl⟩, ⟨rfl, rfl, rfl⟩, rfl, rfl⟩ := hx1
  refine ⟨fun hgo => ?_, fun hend => ?_⟩
  · have hgo : r'.k = 0 ∧ all'.length < tot := by simp at hgo; omega
    refine (k_l5Sym (hi.sub s') (hx.sub s') L r' ok' (fun h => (C (hk h)).sub s')).mono ?_
    rintro _ h2 ⟨rfl, rfl⟩
    refine ⟨_, _, _, _, _, _, rfl, ?_⟩
    have st := lg_step (bs := bs) (cs := cs) hgo
    have len := lg1_len (bs := bs) (cs := cs) (tot := tot) (r := r') (all := all')
    have ok1 : okR bs (lg1 bs cs tot r' all').1 := lg1_ok ok'
    have oks : okR bs (sy bs cs r').1 := sy_ok ok'
    refine ⟨fun hs0 => ?_, fun hs0 _ => ?_⟩
    · have hs0 : (sy bs cs r').1.k = 0 := beq_iff_eq.1 hs0
      have e1 : lg1 bs cs tot r' all' = (bd (decide (tot < (rp bs (sy bs cs r').1 all' (sy bs cs r').2).2.length)) (rp bs (sy bs cs r').1 all' (sy bs cs r').2).1, (rp bs (sy bs cs r').1 all' (sy bs cs r').2).2) := if_pos hs0
      refine (k_l5Repeat hi s' hx L (sy bs cs r').1 oks P' N' (by omega) (sy bs cs r').2).mono ?_
      rintro _ h3 ⟨u, rfl, P3, N3, s3⟩
      obtain ⟨a3, c3, rfl, _, _⟩ := P3.ints
      refine ⟨_, _, _, _, _, _, _, _, rfl, ?_⟩
      have ed : decide (((rp bs (sy bs cs r').1 all' (sy bs cs r').2).2.length : Int) > (tot : Int)) = decide (tot < (rp bs (sy bs cs r').1 all' (sy bs cs r').2).2.length) := by
        by_cases h : tot < (rp bs (sy bs cs r').1 all' (sy bs cs r').2).2.length
        · rw [decide_eq_true (show ((rp bs (sy bs cs r').1 all' (sy bs cs r').2).2.length : Int) > (tot : Int) by omega), decide_eq_true h]
        · rw [decide_eq_false (show ¬ ((rp bs (sy bs cs r').1 all' (sy bs cs r').2).2.length : Int) > (tot : Int) by omega), decide_eq_false h]
      rw [ed]
      refine (k_l5Bad (hi.sub s3) ab cb bs (rp bs (sy bs cs r').1 all' (sy bs cs r').2).1 _).mono ?_
      rintro _ h4 ⟨rfl, rfl⟩
      refine ⟨_, _, _, _, _, rfl, fun _ => ?_⟩
      have e2 : (lg1 bs cs tot r' all').2 = (rp bs (sy bs cs r').1 all' (sy bs cs r').2).2 := by rw [e1]
      have e3 : (lg1 bs cs tot r' all').1 = bd (decide (tot < (rp bs (sy bs cs r').1 all' (sy bs cs r').2).2.length)) (rp bs (sy bs cs r').1 all' (sy bs cs r').2).1 := by rw [e1]
      rw [← e3]
      rw [← e2] at P3 N3 ⊢
      refine ⟨⟨_, (lg1 bs cs tot r' all').1, (lg1 bs cs tot r' all').2, a3, c3, rfl, ok1, P3, N3, s3, fun _ => hk hgo.1, fun h => (len.2.2 h).2, hlg.trans st⟩, ?_⟩
      simp only [List.getD_cons_succ, List.getD_cons_zero, toInt_int, slL_sl, hgo.1, if_true]
      split
      · rename_i h0; have := len.2.2 h0; omega
      · omega
    · have hs0 : (sy bs cs r').1.k ≠ 0 := fun e => by simp [e] at hs0
      have e1 : lg1 bs cs tot r' all' = ((sy bs cs r').1, all') := if_neg hs0
      rw [e1] at st
      refine ⟨⟨_, (sy bs cs r').1, all', a', c', rfl, oks, P', N', s', fun _ => hk hgo.1, fun h => absurd h hs0, hlg.trans st⟩, ?_⟩
      simp only [List.getD_cons_succ, List.getD_cons_zero, toInt_int, slL_sl, hgo.1, if_true, if_neg hs0]
      omega
  · have hend : ¬ (r'.k = 0 ∧ all'.length < tot) := by simp at hend; omega
    rw [lg_end hend] at hlg
    rw [hlg]
    have := k_lensE (x13 := (n13 : Int)) (z := z) hi s' (a := ab) (c := cb) (bs := bs) (r := r') P' N' (x6 := (n6 : Int)) ⟨by omega, by omega⟩ (fun h => ⟨by have := hal h; omega, by have := hal h; omega⟩)
    rw [e6] at this
    exact this _ _ _ _ _ _ _ _ _ _ _ _ _ _ _ _ _ _ _ _ _ _ _ _ _ _ _ _ _ _ _ _ _ _ _

set_option maxRecDepth 100000 in
set_option maxHeartbeats 4000000 in
theorem k_l5Lens (hi : Eng.Inv S h) {a : Option Addr} {c : Nat} {bs : List Int} (hx : HInts h .u8 a bs) (L : bs.length ≤ 1048576) (r : Rd) (ok : okR bs r) :
    CallsH Tryd.prog S F_spec_l5Lens #[rdV a c bs r] h (PostL h a c bs (lensF bs r)) := by
  refine run_spec_l5Lens (vs := [.slice a bs.length c, .int .i64 r.i, .int .i64 r.k]) ⟨rfl, rfl, rfl, trivial⟩ hi ?_
  simp only [spec_l5Lens_cut, Tr.wp, mksW, callW, Ex.ev, coerce, toInt_int, toBool_bool, slL_sl, slC_sl, slA_sl, toAddr_ptr, ptrOf_ptr, isNil_sl, isNil_ptr, it_and, it_or, it_int, optN_int, optN_nl, cmpI, arith, Cst.val, SV.den, resShs, resV, resSV, resVals, newVars, runCells, exSh, allSh, cellsAre, List.flatMap_cons, List.flatMap_nil, List.replicate_one, List.getD_cons_zero, List.getD_cons_succ, List.getElem?_cons_zero, List.getElem?_cons_succ, decide_eq_true_eq, decide_eq_false_iff_not, List.map_cons, List.map_nil, List.cons_append, List.nil_append, List.append_nil, List.length_cons, List.length_nil, Nat.zero_add, Nat.add_zero, and_true, true_and, if_true, if_false, Bool.false_eq_true]
  obtain ⟨ok0, ok1, ok2, ok3, ok4⟩ := lens_ok ok
  have n1 := tk_num (bs := bs) (n := 5) (r := r)
  have n2 := tk_num (bs := bs) (n := 5) (r := lens0 bs r)
  have n3 := tk_num (bs := bs) (n := 4) (r := lens1 bs r)
  have e5 : (2 : Int) ^ 5 = 32 := by decide
  have e4 : (2 : Int) ^ 4 = 16 := by decide
  have w1 : IntKind.i64.wrap ((tk bs 5 r).2 + 257) = (tk bs 5 r).2 + 257 := i64_in _ (by omega)
  have w2 : IntKind.i64.wrap ((tk bs 5 (lens0 bs r)).2 + 1) = (tk bs 5 (lens0 bs r)).2 + 1 := i64_in _ (by omega)
  have w3 : IntKind.i64.wrap ((tk bs 4 (lens1 bs r)).2 + 4) = (((tk bs 4 (lens1 bs r)).2.toNat + 4 : Nat) : Int) := by rw [i64_in _ (by omega)]; omega
  refine (k_l5Take hi hx L r ok 5 (by omega)).mono ?_
  rintro _ h1 ⟨rfl, rfl⟩
  refine ⟨_, _, _, _, _, _, rfl, ?_⟩
  rw [w1]
  refine (k_l5Bad hi a c bs (tk bs 5 r).1 (decide ((tk bs 5 r).2 + 257 > 286))).mono ?_
  rintro _ h1 ⟨rfl, rfl⟩
  refine ⟨_, _, _, _, _, rfl, ?_⟩
  refine (k_l5Take hi hx L (lens0 bs r) ok0 5 (by omega)).mono ?_
  rintro _ h1 ⟨rfl, rfl⟩
  refine ⟨_, _, _, _, _, _, rfl, ?_⟩
  rw [w2]
  refine (k_l5Bad hi a c bs (tk bs 5 (lens0 bs r)).1 (decide ((tk bs 5 (lens0 bs r)).2 + 1 > 30))).mono ?_
  rintro _ h1 ⟨rfl, rfl⟩
  refine ⟨_, _, _, _, _, rfl, ?_⟩
  refine (k_l5Take hi hx L (lens1 bs r) ok1 4 (by omega)).mono ?_
  rintro _ h1 ⟨rfl, rfl⟩
  refine ⟨_, _, _, _, _, _, rfl, ?_⟩
  rw [w3]
  intro b hb
  have hsb := not_shared hi hb
  have sx : ∀ {h' : Eng.Heap}, Eng.Sub h1 h' → HInts h' .u8 a bs := fun s => hx.sub s
  have ez : (#[Value.int .i64 0, .int .i64 0, .int .i64 0, .int .i64 0, .int .i64 0, .int .i64 0, .int .i64 0, .int .i64 0, .int .i64 0, .int .i64 0, .int .i64 0, .int .i64 0, .int .i64 0, .int .i64 0, .int .i64 0, .int .i64 0, .int .i64 0, .int .i64 0, .int .i64 0] : Array Value) = ints .i64 (List.replicate 19 0) := by rfl
  rw [ez]
  generalize hr2 : (tk bs 4 (lens1 bs r)).1 = r2
  generalize hn : (tk bs 4 (lens1 bs r)).2.toNat + 4 = n
  have hn19 : n ≤ 19 := by omega
  have okr2 : okR bs r2 := hr2 ▸ tk_ok ok1
  refine ⟨fun us h' => ∃ (j : Nat) (z : Int), us = [.int .i64 z, .int .i64 j, .slice a bs.length c, .int .i64 (sm bs r2 j).1.i, .int .i64 (sm bs r2 j).1.k] ∧ j ≤ n ∧ h' b = some (.cells (ints .i64 (sm bs r2 j).2) 2) ∧ Eng.Sub h1 h', fun us _ => n - (toInt (us.getD 1 undef)).toNat, ⟨0, 0, rfl, by omega, upd_same, Sub.of_upd hb⟩, ?_⟩
  rintro z y a' l' c' i' k' h' ⟨j, z', hx1, hj, hbj, s1⟩
  simp only [List.cons.injEq, Value.int.injEq, Value.slice.injEq, true_and, and_true] at hx1
  obtain ⟨rfl, rfl, ⟨rfl, rfl, rfl⟩, rfl, rfl⟩ := hx1
  have okj : okR bs (sm bs r2 j).1 := sm_ok okr2
  refine ⟨fun hlt => ?_, fun hge => ?_⟩
  · have hjn : j < n := by omega
    refine (k_l5Take (hi.sub s1) (sx s1) L (sm bs r2 j).1 okj 3 (by omega)).mono ?_
    rintro _ h2 ⟨rfl, rfl⟩
    refine ⟨_, _, _, _, _, _, rfl, ?_⟩
    refine (k_l5Order (hi.sub s1)).mono ?_
    rintro _ h3 ⟨b3, T3, hb3, rfl, rfl⟩
    have s3 : Eng.Sub h2 (upd h2 b3 (.cells (ints .i64 (ord.map Int.ofNat)) T3)) := Sub.of_upd hb3
    have hcell : Eng.hcell (upd h2 b3 (.cells (ints .i64 (ord.map Int.ofNat)) T3)) ((((some (⟨b3, 0, none⟩ : Addr)).getD default).add ((j : Int).toNat * 1)).add 0) = some (.int .i64 ((ord.getD j 0 : Nat) : Int)) := by
      rw [add_add, Option.getD_some, addr0_add]
      simp only [Eng.hcell, upd_same, Int.toNat_natCast, Nat.mul_one, Nat.add_zero]
      simp [Eng.ints, -List.map_map, ord_get (show j < 19 by omega)]
    have hol := ord_lt j (by omega)
    have hne : b3 ≠ b := fun e => by rw [e, hbj] at hb3; cases hb3
    refine ⟨_, _, _, rfl, rfl, by omega, by omega, _, hcell, rfl, by omega, by omega, ?_⟩
    refine store_at (i := ord.getD j 0) (by rw [upd_ne (Ne.symm hne)]; exact hbj) hsb (by rw [sm_len]; exact hol) ?_
    rw [show IntKind.i64.wrap ((j : Int) + 1) = ((j + 1 : Nat) : Int) by rw [i64_in _ (by omega)]; omega]
    refine ⟨⟨j + 1, _, rfl, by omega, upd_same, fun y o hy => ?_⟩, by simp only [List.getD_cons_succ, List.getD_cons_zero, toInt_int, Int.toNat_natCast]; omega⟩
    rw [upd_ne (fun e => by rw [e, hb] at hy; cases hy)]
    exact s3 y o (s1 y o hy)
  · obtain rfl : j = n := by omega
    have e2 : sm bs r2 j = lens2 bs r := by unfold lens2; rw [hr2, hn]
    rw [e2] at hbj okj ⊢
    have hsl : (lens2 bs r).2.length = 19 := by unfold lens2; exact sm_len
    have hxb : HInts h' .i64 (some ⟨b, 0, none⟩) (lens2 bs r).2 := cells_ints hbj
    have kh := k_spec_HuffKind (S := S) (hi.sub s1) (some ⟨b, 0, none⟩) 19 (lens2 bs r).2 hxb
    rw [hsl] at kh
    refine kh.mono ?_
    rintro _ h2 ⟨rfl, rfl⟩
    refine ⟨_, rfl, ?_⟩
    refine (k_l5Bad (hi.sub s1) a' c' bs (lens2 bs r).1 (hkind (lens2 bs r).2 != 1)).mono ?_
    rintro _ h2 ⟨rfl, rfl⟩
    refine ⟨_, _, _, _, _, rfl, ?_⟩
    have O : tI.O h2 (.slice (some ⟨b, 0, none⟩) 19 19) (lens2 bs r).2 := cells_part hbj hsl
    refine (g_spec_HuffCodes (hi.sub s1) O (by show List.length _ ≤ _; omega)).mono ?_
    rintro v3 h3 ⟨OC, NC, s3⟩
    obtain ⟨s13, hs13⟩ : ∃ s, s = s1.trans s3 := ⟨_, rfl⟩
    obtain ⟨a3, c3, rfl, _, _⟩ := OwnP.pairs OC
    refine ⟨_, _, _, rfl, fun b4 hb4 => ?_⟩
    have C : (lens3 bs r).k = 0 → CodesAt h3 a3 (ans_HuffCodes (lens2 bs r).2).length (codesN (lens2 bs r).2) := fun hk => by
      have hk1 : hkind (lens2 bs r).2 = 1 := by have := (bd_k.1 hk).2; simpa using this
      obtain ⟨a3', c3', e, C⟩ := codes_at OC (by rw [hk1]; omega)
      simp only [Value.slice.injEq] at e
      rw [e.1, e.2.1]; exact C
    have s4 : Eng.Sub h3 (upd h3 b4 (.cells (ints .i64 []) 2)) := Sub.of_upd hb4
    have eL : endL (nLit bs r) (lens4 bs r).1 (lens4 bs r).2 = lensF bs r := rfl
    have K := k_lensL (z0 := z) (hi.sub s13) s4 (a := a') (c := c') (hx.sub s13) L (r := lens3 bs r) ok3 (all := []) (aa := some ⟨b4, 0, none⟩) (ca := 0) (Own.made (k := .i64) (h := h3) (b := b4) (T := 2) []).part (New.of hb4) rfl
      (x6 := (tk bs 5 r).2) (x13 := (tk bs 5 (lens0 bs r)).2) ⟨by omega, by omega⟩ ⟨by omega, by omega⟩ (cc := c3) C
    refine Tr.wp_mono (fun v h' hv => ?_) _ _ _ _ _ (KLe.refl _) (K _ _ _ _ _ _ _ _ _ _ _ _ _ _ _ _ _ _ _ _ _ _ _ _ _ _ _) (fun _ _ _ _ _ _ hh => hh)
    obtain ⟨u, w, e1, e2, e3, e4⟩ := hv
    exact ⟨u, w, e1, fun hk => by obtain ⟨p1, p2, p3, p4⟩ := e2 hk; exact ⟨p1, p2, fun y hy => sub_none s13 (p3 y hy), fun y hy => sub_none s13 (p4 y hy)⟩, e3, s13.trans e4⟩
end Go.Proofs.YtmnialmphlbmaaaDoor
