import Derived.Test.YtmnialmphlbmaaaDoorKLens2
set_option linter.unusedVariables false
set_option linter.unusedSimpArgs false
namespace Go.Proofs.YtmnialmphlbmaaaDoor
open Go Go.Eng Go.IntWalk
variable {S : Shared} {h h0 : Eng.Heap}

section
variable {b1 b2 bm : Nat} {a : Option Addr} {c : Nat} {bs : List Int} {m : MC} {T T1 T2 : TypeId} {r : Rd}

theorem codesN_15 {xs : List Int} (hok : hok xs) : ∀ c ∈ codesN xs, c.1 ≤ 15 := fun c hc => by
  obtain ⟨j, hj⟩ := List.getElem?_of_mem hc
  have hj2 : j < (codesOf xs).length := by rw [codesOf_len, ← codesN_len]; exact (List.getElem?_eq_some_iff.1 hj).1
  obtain ⟨l, b, _, h2, h3, _⟩ := codesOf_cast hok (List.getElem?_eq_getElem hj2)
  rw [hj] at h2
  have := Option.some.inj h2
  rw [this]; exact h3

set_option maxRecDepth 100000 in
set_option maxHeartbeats 4000000 in
theorem k_mlC (hi : Eng.Inv S h0) (G : Errs h0) (hx : HInts h0 .u8 a bs) (L : bs.length ≤ 1048576) (H : LS h0 h b1 b2 bm a c bs m T T1 T2 r) {xs : List Int} {bc : Nat} {Tc : TypeId} (hbc : h bc = some (.cells (ints .i64 xs) Tc)) (hxl : xs.length = 19) {n3 n5 : Nat} (h3 : n3 < 32) (h5 : n5 < 32)
    (K0 K1 : Kt) (e0 e4 e6 e7 e8 e10 : Value) :
    mlC.wp Tryd.prog S noLeaf (PostM h0 bm a c bs m T (endL (n3 + 257) (lg bs (codesN xs) (n3 + 257 + (n5 + 1)) (bd (hkind xs != 1) r) []).1 (lg bs (codesN xs) (n3 + 257 + (n5 + 1)) (bd (hkind xs != 1) r) []).2)) [e0, .pointer (some ⟨b1, 0, none⟩), .pointer (some ⟨b2, 0, none⟩), .int .i64 n3, e4, .int .i64 n5, e6, e7, e8, .slice (some ⟨bc, 0, none⟩) 19 19, e10] h [K0, K1] := by
  have w3 : IntKind.i64.wrap ((n3 : Int) + 257) = ((n3 + 257 : Nat) : Int) := by rw [i64_in _ (by omega)]; omega
  have w5 : IntKind.i64.wrap ((n5 : Int) + 1) = ((n5 + 1 : Nat) : Int) := by rw [i64_in _ (by omega)]; omega
  have wt : IntKind.i64.wrap (((n3 + 257 : Nat) : Int) + ((n5 + 1 : Nat) : Int)) = ((n3 + 257 + (n5 + 1) : Nat) : Int) := by rw [i64_in _ (by omega)]; omega
  simp only [mlC, Tr.wp, mksW, callW, Ex.ev, coerce, toInt_int, toBool_bool, slL_sl, slC_sl, slA_sl, toAddr_ptr, ptrOf_ptr, isNil_sl, isNil_ptr, it_and, it_or, it_int, optN_int, optN_nl, cmpI, arith, Cst.val, SV.den, resShs, resV, resSV, resVals, newVars, runCells, exSh, allSh, cellsAre, storeW, List.flatMap_cons, List.flatMap_nil, List.replicate_one, List.getD_cons_zero, List.getD_cons_succ, List.getElem?_cons_zero, List.getElem?_cons_succ, decide_eq_true_eq, decide_eq_false_iff_not, List.map_cons, List.map_nil, List.cons_append, List.nil_append, List.append_nil, List.length_cons, List.length_nil, Nat.zero_add, Nat.add_zero, and_true, true_and, if_true, if_false, Bool.false_eq_true, addr_add, w3, w5, wt]
  obtain ⟨tot, htot⟩ : ∃ tot, tot = n3 + 257 + (n5 + 1) := ⟨_, rfl⟩
  rw [← htot]
  have gi : HInts h .i64 (some ⟨bc, 0, none⟩) xs := cells_ints hbc
  refine ⟨errI r.k, errI_if, cel_ld H.c2, fun hz => ?_, fun hz => ?_⟩
  · rw [errI_if, errI_nil] at hz
    have hk : r.k ≠ 0 := by simpa using hz
    have e1 : bd (hkind xs != 1) r = r := by unfold bd; rw [if_neg (fun h => hk h.1)]
    have e2 : endL (n3 + 257) (lg bs (codesN xs) tot (bd (hkind xs != 1) r) []).1 (lg bs (codesN xs) tot (bd (hkind xs != 1) r) []).2 = (r, [], []) := by
      rw [e1, lg_end (fun h => hk h.1)]; exact if_neg hk
    rw [e2]
    refine ⟨errI r.k, errI_if, cel_ld H.c2, cel_ok H.c2 (fun hs => hi b2 hs H.n2), errI r.k, errI_if, ?_, ?_⟩
    · rw [errI_if, cel_set H.c2]; exact cel_ld upd_same
    · rw [errI_if, cel_set H.c2]
      have H' := H.err (r' := r) (fun h => ⟨h, rfl⟩)
      exact H'.bad hk rfl
  · rw [errI_if, errI_nil] at hz
    have hk : r.k = 0 := by simpa using hz
    have kh := k_impl_HuffKind (S := S) (hi.sub H.sb) (some ⟨bc, 0, none⟩) 19 xs gi
    rw [hxl] at kh
    refine kh.mono ?_
    rintro _ hq ⟨rfl, rfl⟩
    refine ⟨_, rfl, fun hne => ?_, fun heq => ?_⟩
    · have hne : (hkind xs != 1) = true := hne
      have e1 : bd (hkind xs != 1) r = ⟨r.i, 3⟩ := by unfold bd; rw [if_pos ⟨hk, hne⟩]
      have e2 : endL (n3 + 257) (lg bs (codesN xs) tot (bd (hkind xs != 1) r) []).1 (lg bs (codesN xs) tot (bd (hkind xs != 1) r) []).2 = (⟨r.i, 3⟩, [], []) := by
        rw [e1, lg_end (fun h => by cases h.1)]; exact if_neg (by simp)
      rw [e2]
      exact H.fail hi G rfl
    · have hk1 : hkind xs = 1 := by simpa using heq
      have e1 : bd (hkind xs != 1) r = r := by unfold bd; rw [if_neg (fun h => by rw [hk1] at h; cases h.2)]
      rw [e1]
      obtain ⟨_, hok⟩ := hkind_ok (xs := xs) (by rw [hk1]; decide)
      have O : tI.O hq (.slice (some ⟨bc, 0, none⟩) 19 19) xs := cells_part hbc hxl
      have kt := k_tableOf (S := S) (hi.sub H.sb) (some ⟨bc, 0, none⟩) 19 xs (by rw [hxl]; exact O) (by show List.length _ ≤ _; omega) (by rw [hk1]; decide)
      rw [hxl] at kt
      refine kt.mono ?_
      rintro _ h6 ⟨bt, TT, PP, a2, c2, rfl, TV, hTl⟩
      have hcl : (codesN xs).length = 19 := by rw [codesN_len, hxl]
      rw [← hcl] at TV
      have H6 := H.sub TV.sb
      obtain ⟨p', hp, hm, _⟩ := H.mt
      have B6 : Tb h0 h6 b1 b2 bm bt TT PP a2 c2 (codesN xs) := ⟨⟨TV.hb, TV.ow, fun y hy => sub_none H.sb (TV.nw y hy), sub_none H.sb TV.nb, TV.ne, TV.ti, H.sb.trans TV.sb⟩,
        ⟨fun e => (by have := TV.nb; rw [e, H.c1] at this; cases this), fun e => (by have := TV.nb; rw [e, H.c2] at this; cases this), fun e => (by have := TV.nb; rw [e, hm] at this; cases this)⟩,
        fun z hz => ⟨fun e => (by have := TV.nw z hz; rw [e, H.c1] at this; cases this), fun e => (by have := TV.nw z hz; rw [e, H.c2] at this; cases this), fun e => (by have := TV.nw z hz; rw [e, hm] at this; cases this)⟩⟩
      refine ⟨_, rfl, ?_⟩
      intro b hb
      have sb : Eng.Sub h6 (upd h6 b (.cells (ints .i64 []) 2)) := Sub.of_upd hb
      refine ⟨fun us h' => ∃ (r' : Rd) (all' : List Int) (a' : Option Addr) (c' : Nat), us = [.slice a' all'.length c'] ∧ r'.k = 0 ∧ LS h0 h' b1 b2 bm a c bs m T T1 T2 r' ∧ Tb h0 h' b1 b2 bm bt TT PP a2 c2 (codesN xs) ∧ Part .i64 h' (.slice a' all'.length c') all' ∧ Eng.New (mkT h0 b1 b2 bm bt a2 TT.length c2) (.slice a' all'.length c') ∧ all'.length ≤ tot ∧ lg bs (codesN xs) tot r [] = lg bs (codesN xs) tot r' all',
        fun us _ => tot - slL (us.getD 0 undef), ⟨r, [], _, _, rfl, hk, H6.sub sb, B6.sub sb, (Own.made (k := .i64) (h := h6) (b := b) (T := 2) []).part, B6.new H6 hb, by simp, rfl⟩, ?_⟩
      rintro a1 l1 c1 h' ⟨r', all', a', c', hx1, hk', H', B', P', N', hl', hlg⟩
      simp only [List.cons.injEq, Value.slice.injEq, and_true] at hx1
      obtain ⟨rfl, rfl, rfl⟩ := hx1
      rw [hlg]
      refine ⟨fun hlt => ?_, fun hge => ?_⟩
      · have hlt : all'.length < n3 + 257 + (n5 + 1) := by omega
        have len := lg1_len (bs := bs) (cs := codesN xs) (tot := tot) (r := r') (all := all')
        have st := lg_step (bs := bs) (cs := codesN xs) (tot := tot) (r := r') (all := all') ⟨hk', by omega⟩
        rw [st]
        refine k_mlB hi G hx L H' hk' B' (codesN_15 hok) hTl (by omega) P' N' h3 h5 hlt (fun hk2 => ?_) K0 K1 _ _ _ _ (fun hk2 a' c' h'' H2 B2 P2 N2 => ?_) _ _ _ _ _ _ _ _ _ _
        · rw [← htot] at hk2 ⊢
          rw [lg_end (fun h => hk2 h.1)]
          have e3 : endL (n3 + 257) (lg1 bs (codesN xs) tot r' all').1 (lg1 bs (codesN xs) tot r' all').2 = ((lg1 bs (codesN xs) tot r' all').1, [], []) := if_neg hk2
          rw [e3]
        · rw [← htot] at hk2 H2 P2 N2 ⊢
          exact ⟨⟨_, _, a', c', rfl, hk2, H2, B2, P2, N2, (len.2.2 hk2).2, rfl⟩, by simp only [List.getD_cons_zero, slL_sl]; have := len.2.2 hk2; omega⟩
      · have hnl : ¬ (r'.k = 0 ∧ all'.length < tot) := fun h => hge (by omega)
        rw [lg_end hnl]
        have e6 : ((n3 : Int) + 257).toNat = n3 + 257 := by omega
        have K := k_mlE hi G H' hk' P' (mkT_two N') (x3 := (n3 : Int)) ⟨by omega, by omega⟩ (by omega) K0 K1
        rw [e6] at K
        exact K _ _ _ _ _ _ _ _ _ _ _ _ _ _ _ _ _

theorem lens_F {r0 : Rd} {n3 n5 : Nat} (e3 : (tk bs 5 r0).2 = (n3 : Int)) (e5 : (tk bs 5 (lens0 bs r0)).2 = (n5 : Int)) :
    endL (n3 + 257) (lg bs (codesN (lens2 bs r0).2) (n3 + 257 + (n5 + 1)) (bd (hkind (lens2 bs r0).2 != 1) (lens2 bs r0).1) []).1 (lg bs (codesN (lens2 bs r0).2) (n3 + 257 + (n5 + 1)) (bd (hkind (lens2 bs r0).2 != 1) (lens2 bs r0).1) []).2 = lensF bs r0 := by
  have h1 : nLit bs r0 = n3 + 257 := by unfold nLit; rw [e3]; omega
  have h2 : nDist bs r0 = n5 + 1 := by unfold nDist; rw [e5]; omega
  have : lensF bs r0 = endL (nLit bs r0) (lens4 bs r0).1 (lens4 bs r0).2 := rfl
  rw [this]; unfold lens4 lens3; rw [h1, h2]

set_option maxRecDepth 100000 in
set_option maxHeartbeats 4000000 in
/-- From the third number on. -/
theorem k_ml3 (hi : Eng.Inv S h0) (G : Errs h0) (hx : HInts h0 .u8 a bs) (L : bs.length ≤ 1048576) {r0 : Rd} (ok : okR bs r0) (H : LS h0 h b1 b2 bm a c bs m T T1 T2 (lens1 bs r0)) {n3 n5 : Nat} (e3 : (tk bs 5 r0).2 = (n3 : Int)) (e5 : (tk bs 5 (lens0 bs r0)).2 = (n5 : Int))
    (e0 e4 e6 : Value) :
    ml3.wp Tryd.prog S noLeaf (PostM h0 bm a c bs m T (lensF bs r0)) [e0, .pointer (some ⟨b1, 0, none⟩), .pointer (some ⟨b2, 0, none⟩), .int .i64 n3, e4, .int .i64 n5, e6] h [] := by
  obtain ⟨ok0, ok1, ok2, ok3, ok4⟩ := lens_ok ok
  have n1 := tk_num (bs := bs) (n := 5) (r := r0)
  have n2 := tk_num (bs := bs) (n := 5) (r := lens0 bs r0)
  have nn := tk_num (bs := bs) (n := 4) (r := lens1 bs r0)
  have q5 : (2 : Int) ^ 5 = 32 := by decide
  have q4 : (2 : Int) ^ 4 = 16 := by decide
  have w3 : IntKind.i64.wrap ((tk bs 4 (lens1 bs r0)).2 + 4) = (((tk bs 4 (lens1 bs r0)).2.toNat + 4 : Nat) : Int) := by rw [i64_in _ (by omega)]; omega
  simp only [ml3, Tr.wp, mksW, callW, Ex.ev, coerce, toInt_int, toBool_bool, slL_sl, slC_sl, slA_sl, toAddr_ptr, ptrOf_ptr, isNil_sl, isNil_ptr, it_and, it_or, it_int, optN_int, optN_nl, cmpI, arith, Cst.val, SV.den, resShs, resV, resSV, resVals, newVars, runCells, exSh, allSh, cellsAre, List.flatMap_cons, List.flatMap_nil, List.replicate_one, List.getD_cons_zero, List.getD_cons_succ, List.getElem?_cons_zero, List.getElem?_cons_succ, decide_eq_true_eq, decide_eq_false_iff_not, List.map_cons, List.map_nil, List.cons_append, List.nil_append, List.append_nil, List.length_cons, List.length_nil, Nat.zero_add, Nat.add_zero, and_true, true_and, if_true, if_false, Bool.false_eq_true, addr_add]
  refine (k_get hi G hx L ok1 H 4 (by omega)).mono ?_
  rintro _ h1 ⟨rfl, H1, O1⟩
  refine ⟨_, rfl, ?_⟩
  rw [w3]
  intro b8 hb8
  have w19 : IntKind.i64.wrap 19 = 19 := i64_in _ (by omega)
  have t19 : (19 : Int).toNat = 19 := rfl
  have hs8 : ¬ S b8 := fun hs => hi b8 hs (sub_none H1.sb hb8)
  refine storeW_vals hs8 _ 0 _ _ upd_same (by simp) ?_
  rw [upd_upd, w19, t19]
  obtain ⟨T8, hT8⟩ : ∃ T8 : TypeId, T8 = 114 := ⟨_, rfl⟩
  obtain ⟨h2, hh2⟩ : ∃ h2, h2 = upd h1 b8 (.cells (ints .i64 (ord.map Int.ofNat)) 114) := ⟨_, rfl⟩
  have eo : upd h1 b8 (.cells (spliceV (List.replicate 19 (Value.int .i64 0)) (0 + 0) [Value.int .i64 16, Value.int .i64 17, Value.int .i64 18, Value.int .i64 0, Value.int .i64 8, Value.int .i64 7, Value.int .i64 9, Value.int .i64 6, Value.int .i64 10, Value.int .i64 5, Value.int .i64 11, Value.int .i64 4, Value.int .i64 12, Value.int .i64 3, Value.int .i64 13, Value.int .i64 2, Value.int .i64 14, Value.int .i64 1, Value.int .i64 15]).toArray 114) = h2 := by rw [hh2]; rfl
  rw [eo]
  have s2 : Eng.Sub h1 h2 := by rw [hh2]; exact Sub.of_upd hb8
  have h28 : h2 b8 = some (.cells (ints .i64 (ord.map Int.ofNat)) 114) := by rw [hh2, upd_same]
  have H2 := H1.sub s2
  clear eo hh2 hT8
  refine ⟨by omega, by omega, by decide, fun b hb => ?_⟩
  rw [Nat.mul_one, mkCells_ints]
  have sb : Eng.Sub h2 (upd h2 b (.cells (ints .i64 (List.replicate 19 0)) 2)) := Sub.of_upd hb
  have hne8 : b8 ≠ b := fun e => by rw [← e, h28] at hb; cases hb
  have N : Eng.New (mk2 h0 b1 b2 bm) (.slice (some ⟨b, 0, none⟩) 19 19) := H2.new hb
  obtain ⟨nb1, nb2, nb3, nb4⟩ := mk2_none (N b rfl)
  have N8 := H1.free hb8
  obtain ⟨n81, n82, n83, _⟩ := mk2_none N8
  have hsb : ¬ S b := fun hs => hi b hs nb4
  generalize hr2 : (tk bs 4 (lens1 bs r0)).1 = r2 at H1 H2
  generalize hn : (tk bs 4 (lens1 bs r0)).2.toNat + 4 = n
  have hn19 : n ≤ 19 := by omega
  have okr2 : okR bs r2 := hr2 ▸ tk_ok ok1
  refine ⟨fun us h' => ∃ (j : Nat), us = [.int .i64 j] ∧ j ≤ n ∧ h' b = some (.cells (ints .i64 (sm bs r2 j).2) 2) ∧ h' b8 = some (.cells (ints .i64 (ord.map Int.ofNat)) 114) ∧ LS h0 h' b1 b2 bm a c bs m T T1 T2 (sm bs r2 j).1, fun us _ => n - (toInt (us.getD 0 undef)).toNat, ⟨0, rfl, by omega, upd_same, (upd_ne hne8).trans h28, H2.sub sb⟩, ?_⟩
  rintro y h' ⟨j, hx1, hj, hbj, h8j, HJ⟩
  simp only [List.cons.injEq, Value.int.injEq, true_and, and_true] at hx1
  subst hx1
  have okj : okR bs (sm bs r2 j).1 := sm_ok okr2
  refine ⟨fun hlt => ?_, fun hge => ?_⟩
  · have hjn : j < n := by omega
    have hol := ord_lt j (by omega)
    have hc8 : ∀ {g : Eng.Heap}, g b8 = some (.cells (ints .i64 (ord.map Int.ofNat)) 114) → Eng.hcell g ⟨b8, (j : Int).toNat * 1, none⟩ = some (.int .i64 ((ord.getD j 0 : Nat) : Int)) := fun hg => by
      simp only [Eng.hcell, hg, Int.toNat_natCast, Nat.mul_one]
      simp [Eng.ints, -List.map_map, ord_get (show j < 19 by omega)]
    refine ⟨by omega, by omega, _, hc8 h8j, ?_⟩
    refine (k_get hi G hx L okj HJ 3 (by omega)).mono ?_
    rintro _ h3 ⟨rfl, H3, O3⟩
    have h83 := (O3 b8 n81 n82).trans h8j
    have hb3 := (O3 b nb1 nb2).trans hbj
    refine ⟨_, rfl, fun p hp => ?_, rfl, by omega, by omega, ?_⟩
    · obtain rfl := List.mem_singleton.1 hp
      simp only [Tr.wp, mksW, callW, Ex.ev, coerce, toInt_int, toBool_bool, slL_sl, slC_sl, slA_sl, toAddr_ptr, ptrOf_ptr, isNil_sl, isNil_ptr, it_and, it_or, it_int, optN_int, optN_nl, cmpI, arith, Cst.val, SV.den, resShs, resV, resSV, resVals, newVars, runCells, exSh, allSh, cellsAre, storeW, List.flatMap_cons, List.flatMap_nil, List.replicate_one, List.getD_cons_zero, List.getD_cons_succ, List.getElem?_cons_zero, List.getElem?_cons_succ, decide_eq_true_eq, decide_eq_false_iff_not, List.map_cons, List.map_nil, List.cons_append, List.nil_append, List.append_nil, List.length_cons, List.length_nil, Nat.zero_add, Nat.add_zero, and_true, true_and, if_true, if_false, Bool.false_eq_true, addr0_add]
      exact hc8 h83
    · rw [Int.toNat_natCast]
      refine store_at (i := ord.getD j 0) hb3 hsb (by rw [sm_len]; exact hol) ?_
      rw [show IntKind.i64.wrap ((j : Int) + 1) = ((j + 1 : Nat) : Int) by rw [i64_in _ (by omega)]; omega]
      refine ⟨⟨j + 1, rfl, by omega, upd_same, (upd_ne hne8).trans h83, ?_⟩, by simp only [List.getD_cons_zero, toInt_int, Int.toNat_natCast]; omega⟩
      refine H3.kept N (fun y hy hn => upd_ne fun e => hn (by rw [e]; rfl)) fun y o hy => ?_
      rw [upd_ne (fun e => by rw [e, nb4] at hy; cases hy)]
      exact H3.sb y o hy
  · obtain rfl : j = n := by omega
    have e2 : sm bs r2 j = lens2 bs r0 := by unfold lens2; rw [hr2, hn]
    rw [e2] at hbj HJ
    have hsl : (lens2 bs r0).2.length = 19 := by unfold lens2; exact sm_len
    rw [← lens_F e3 e5]
    exact k_mlC hi G hx L HJ hbj hsl (by omega) (by omega) _ _ _ _ _ _ _ _

theorem bd_err {r' : Rd} {w : Bool} : (bd w r').k = 0 → r'.k = 0 ∧ (bd w r').i = r'.i := fun h => by
  obtain ⟨h1, h2⟩ := bd_k.1 h
  exact ⟨h1, by unfold bd; rw [if_neg (fun e => by rw [h2] at e; cases e.2)]⟩

/-- A number too great: an error is put, or not. -/
theorem LS.put3 (hi : Eng.Inv S h0) (G : Errs h0) (H : LS h0 h b1 b2 bm a c bs m T T1 T2 r) {w : Bool} {K : Eng.Heap → Prop}
    (hK : ∀ h', LS h0 h' b1 b2 bm a c bs m T T1 T2 (bd w r) → K h') :
    ((isNilV (ifOf (errI r.k)) && w) = true → ∃ x, hcell h ⟨0, 0, none⟩ = some (Value.int .i64 x) ∧ okCell S h ⟨b2, 0, none⟩ ∧ K (hset h ⟨b2, 0, none⟩ (.iface tCl (.agg (tupOf (.tuple (#[.int .i64 x] ++ tupOf (.tuple #[])))))))) ∧
    ((isNilV (ifOf (errI r.k)) && w) = false → K h) := by
  rw [errI_if, errI_nil]
  refine ⟨fun hy => ?_, fun hn => ?_⟩
  · simp only [Bool.and_eq_true, decide_eq_true_eq] at hy
    have e : bd w r = ⟨r.i, 3⟩ := by unfold bd; rw [if_pos hy]
    have e3 : (.iface tCl (.agg (tupOf (.tuple (#[.int .i64 3] ++ tupOf (.tuple #[]))))) : Value) = errI (3 : Int) := rfl
    refine ⟨3, (G.sub H.sb).e3, cel_ok H.c2 (fun hs => hi b2 hs H.n2), ?_⟩
    rw [e3, cel_set H.c2]
    rw [e] at hK
    exact hK _ (H.err (r' := ⟨r.i, 3⟩) (fun h => by cases h))
  · have e : bd w r = r := by
      unfold bd; rw [if_neg (fun h => by rw [decide_eq_true h.1, h.2] at hn; cases hn)]
    rw [e] at hK
    exact hK _ H

set_option maxRecDepth 100000 in
set_option maxHeartbeats 4000000 in
theorem k_ml2 (hi : Eng.Inv S h0) (G : Errs h0) (hx : HInts h0 .u8 a bs) (L : bs.length ≤ 1048576) {r0 : Rd} (ok : okR bs r0) (H : LS h0 h b1 b2 bm a c bs m T T1 T2 (tk bs 5 (lens0 bs r0)).1) {n3 n5 : Nat} (e3 : (tk bs 5 r0).2 = (n3 : Int)) (e5 : (tk bs 5 (lens0 bs r0)).2 = (n5 : Int))
    (e0 e4 : Value) :
    ml2.wp Tryd.prog S noLeaf (PostM h0 bm a c bs m T (lensF bs r0)) [e0, .pointer (some ⟨b1, 0, none⟩), .pointer (some ⟨b2, 0, none⟩), .int .i64 n3, e4, .int .i64 n5, errI (tk bs 5 (lens0 bs r0)).1.k] h [] := by
  have n2 := tk_num (bs := bs) (n := 5) (r := lens0 bs r0)
  have q5 : (2 : Int) ^ 5 = 32 := by decide
  have w5 : IntKind.i64.wrap ((n5 : Int) + 1) = (n5 : Int) + 1 := i64_in _ (by omega)
  simp only [ml2, Tr.wp, mksW, callW, Ex.ev, coerce, toInt_int, toBool_bool, slL_sl, slC_sl, slA_sl, toAddr_ptr, ptrOf_ptr, isNil_sl, isNil_ptr, it_and, it_or, it_int, optN_int, optN_nl, cmpI, arith, Cst.val, SV.den, resShs, resV, resSV, resVals, newVars, runCells, exSh, allSh, cellsAre, storeW, List.flatMap_cons, List.flatMap_nil, List.replicate_one, List.getD_cons_zero, List.getD_cons_succ, List.getElem?_cons_zero, List.getElem?_cons_succ, decide_eq_true_eq, decide_eq_false_iff_not, List.map_cons, List.map_nil, List.cons_append, List.nil_append, List.append_nil, List.length_cons, List.length_nil, Nat.zero_add, Nat.add_zero, and_true, true_and, if_true, if_false, Bool.false_eq_true, addr_add, w5]
  have := LS.put3 hi G H (w := decide ((n5 : Int) + 1 > 30)) (K := fun h' => ml3.wp Tryd.prog S noLeaf (PostM h0 bm a c bs m T (lensF bs r0)) [e0, .pointer (some ⟨b1, 0, none⟩), .pointer (some ⟨b2, 0, none⟩), .int .i64 n3, e4, .int .i64 n5, errI (tk bs 5 (lens0 bs r0)).1.k] h' [])
    (fun h' H' => by
      rw [← e5] at H'
      exact k_ml3 hi G hx L ok H' e3 e5 _ _ _)
  rw [Bool.decide_eq_true]
  refine ⟨fun hy => ?_, fun hn _ => this.2 hn⟩
  obtain ⟨x, q1, q2, q3⟩ := this.1 hy
  exact ⟨x, q1, q2, fun _ => q3⟩

set_option maxRecDepth 100000 in
set_option maxHeartbeats 4000000 in
theorem k_ml1 (hi : Eng.Inv S h0) (G : Errs h0) (hx : HInts h0 .u8 a bs) (L : bs.length ≤ 1048576) {r0 : Rd} (ok : okR bs r0) (H : LS h0 h b1 b2 bm a c bs m T T1 T2 (tk bs 5 r0).1) {n3 : Nat} (e3 : (tk bs 5 r0).2 = (n3 : Int)) (e0 : Value) :
    ml1.wp Tryd.prog S noLeaf (PostM h0 bm a c bs m T (lensF bs r0)) [e0, .pointer (some ⟨b1, 0, none⟩), .pointer (some ⟨b2, 0, none⟩), .int .i64 n3, errI (tk bs 5 r0).1.k] h [] := by
  obtain ⟨ok0, ok1, ok2, ok3, ok4⟩ := lens_ok ok
  have n1 := tk_num (bs := bs) (n := 5) (r := r0)
  have n2 := tk_num (bs := bs) (n := 5) (r := lens0 bs r0)
  have q5 : (2 : Int) ^ 5 = 32 := by decide
  have w3 : IntKind.i64.wrap ((n3 : Int) + 257) = (n3 : Int) + 257 := i64_in _ (by omega)
  obtain ⟨n5, e5⟩ := Int.eq_ofNat_of_zero_le n2.1
  simp only [ml1, Tr.wp, mksW, callW, Ex.ev, coerce, toInt_int, toBool_bool, slL_sl, slC_sl, slA_sl, toAddr_ptr, ptrOf_ptr, isNil_sl, isNil_ptr, it_and, it_or, it_int, optN_int, optN_nl, cmpI, arith, Cst.val, SV.den, resShs, resV, resSV, resVals, newVars, runCells, exSh, allSh, cellsAre, storeW, List.flatMap_cons, List.flatMap_nil, List.replicate_one, List.getD_cons_zero, List.getD_cons_succ, List.getElem?_cons_zero, List.getElem?_cons_succ, decide_eq_true_eq, decide_eq_false_iff_not, List.map_cons, List.map_nil, List.cons_append, List.nil_append, List.append_nil, List.length_cons, List.length_nil, Nat.zero_add, Nat.add_zero, and_true, true_and, if_true, if_false, Bool.false_eq_true, addr_add, w3]
  obtain ⟨t1, t2⟩ := LS.put3 hi G H (w := decide ((n3 : Int) + 257 > 286)) (K := fun h' => LS h0 h' b1 b2 bm a c bs m T T1 T2 (bd (decide ((n3 : Int) + 257 > 286)) (tk bs 5 r0).1)) (fun _ h => h)
  have el : bd (decide ((n3 : Int) + 257 > 286)) (tk bs 5 r0).1 = lens0 bs r0 := by rw [← e3]; rfl
  rw [el] at t1 t2
  rw [Bool.decide_eq_true]
  refine ⟨fun hy => ?_, fun hn _ => ?_⟩
  · obtain ⟨x, q1, q2, q3⟩ := t1 hy
    refine ⟨x, q1, q2, fun _ => ?_⟩
    refine (k_get hi G hx L ok0 q3 5 (by omega)).mono ?_
    rintro _ h1 ⟨rfl, H1, O1⟩
    refine ⟨_, rfl, errI _, errI_if, cel_ld H1.c2, ?_⟩
    rw [e5]
    exact k_ml2 hi G hx L ok H1 e3 e5 _ _
  · have q3 := t2 hn
    refine (k_get hi G hx L ok0 q3 5 (by omega)).mono ?_
    rintro _ h1 ⟨rfl, H1, O1⟩
    refine ⟨_, rfl, errI _, errI_if, cel_ld H1.c2, ?_⟩
    rw [e5]
    exact k_ml2 hi G hx L ok H1 e3 e5 _ _

/-- The machine's lengths. -/
theorem k_mlens (hi : Eng.Inv S h0) (G : Errs h0) (hx : HInts h0 .u8 a bs) (L : bs.length ≤ 1048576) (p : Nat) (hp : p ≤ 8 * bs.length) (M : MAt h0 h bm a c bs p m T) :
    CallsH Tryd.prog S F_impl_machine__lens #[.pointer (some ⟨bm, 0, none⟩)] h (PostM h0 bm a c bs m T (lensF bs ⟨p, 0⟩)) := by
  refine run_impl_machine__lens (vs := [.pointer (some ⟨bm, 0, none⟩)]) ⟨rfl, trivial⟩ (hi.sub M.sb) ?_
  simp only [impl_machine__lens_cut, Tr.wp, mksW, callW, Ex.ev, coerce, toInt_int, toBool_bool, slL_sl, slC_sl, slA_sl, toAddr_ptr, ptrOf_ptr, isNil_sl, isNil_ptr, it_and, it_or, it_int, optN_int, optN_nl, cmpI, arith, Cst.val, SV.den, resShs, resV, resSV, resVals, newVars, runCells, exSh, allSh, cellsAre, storeW, List.flatMap_cons, List.flatMap_nil, List.replicate_one, List.getD_cons_zero, List.getD_cons_succ, List.getElem?_cons_zero, List.getElem?_cons_succ, decide_eq_true_eq, decide_eq_false_iff_not, List.map_cons, List.map_nil, List.cons_append, List.nil_append, List.append_nil, List.length_cons, List.length_nil, Nat.zero_add, Nat.add_zero, and_true, true_and, if_true, if_false, Bool.false_eq_true, addr_add]
  intro b1 hb1 b2 hb2
  have ok : okR bs ⟨(p : Int), 0⟩ := fun _ => ⟨by simp only; omega, by simp only; omega⟩
  have d12 : b1 ≠ b2 := fun e => by rw [← e, upd_same] at hb2; cases hb2
  have d1m : b1 ≠ bm := fun e => by rw [e, M.hb] at hb1; cases hb1
  have hb2' : h b2 = none := by rw [upd_ne (Ne.symm d12)] at hb2; exact hb2
  have d2m : b2 ≠ bm := fun e => by rw [e, M.hb] at hb2'; cases hb2'
  have H : LS h0 (upd (upd h b1 (.cells #[.pointer (some ⟨bm, 0, none⟩)] 54)) b2 (.cells #[.nilIface] 61)) b1 b2 bm a c bs m T 54 61 ⟨(p : Int), 0⟩ :=
    ⟨(upd_ne d12).trans upd_same, upd_same, ⟨p, hp, (upd_ne (Ne.symm d2m)).trans ((upd_ne (Ne.symm d1m)).trans M.hb), fun _ => rfl⟩, sub_none M.sb hb1, sub_none M.sb hb2', M.nb, d12, d1m, d2m, M.sb.trans ((Sub.of_upd hb1).trans (Sub.of_upd hb2))⟩
  have n1 := tk_num (bs := bs) (n := 5) (r := ⟨(p : Int), 0⟩)
  obtain ⟨n3, e3⟩ := Int.eq_ofNat_of_zero_le n1.1
  refine (k_get hi G hx L ok H 5 (by omega)).mono ?_
  rintro _ h1 ⟨rfl, H1, O1⟩
  refine ⟨_, rfl, errI _, errI_if, cel_ld H1.c2, ?_⟩
  rw [e3]
  exact k_ml1 hi G hx L ok H1 e3 _
end
end Go.Proofs.YtmnialmphlbmaaaDoor
