import Derived.Test.YtmnialmphlbmaaaDoorKLens
set_option linter.unusedVariables false
set_option linter.unusedSimpArgs false
namespace Go.Proofs.YtmnialmphlbmaaaDoor
open Go Go.Eng Go.IntWalk
variable {S : Shared} {h h0 : Eng.Heap}

section
variable {b1 b2 bm bt : Nat} {a : Option Addr} {c : Nat} {bs : List Int} {m : MC} {T T1 T2 : TypeId} {r : Rd} {TT PP : List (Nat × Nat)} {a2 : Option Addr} {c2 : Nat} {cs : List (Nat × Nat)}

/-- The table of the code of lengths, apart from the machine's blocks. -/
structure Tb (h0 h : Eng.Heap) (b1 b2 bm bt : Nat) (TT PP : List (Nat × Nat)) (a2 : Option Addr) (c2 : Nat) (cs : List (Nat × Nat)) : Prop where
  tv : TabV h0 h bt TT PP a2 c2 (Em cs cs.length) (Ym cs cs.length)
  dt : bt ≠ b1 ∧ bt ≠ b2 ∧ bt ≠ bm
  ds : ∀ z, blkOf (.slice a2 TT.length c2) = some z → z ≠ b1 ∧ z ≠ b2 ∧ z ≠ bm

abbrev mkT (h0 : Eng.Heap) (b1 b2 bm bt : Nat) (a2 : Option Addr) (n c2 : Nat) : Eng.Heap := mkL h0 ([b1, b2, bm, bt] ++ (blkOf (.slice a2 n c2)).toList)
theorem mkT_none {z n : Nat} : mkT h0 b1 b2 bm bt a2 n c2 z = none ↔ z ≠ b1 ∧ z ≠ b2 ∧ z ≠ bm ∧ z ≠ bt ∧ blkOf (.slice a2 n c2) ≠ some z ∧ h0 z = none := by
  rw [mkL_none]
  cases blkOf (.slice a2 n c2) with
  | none => simp [and_assoc]
  | some y => simp [and_assoc, eq_comm]
theorem mkT_base {v : Value} {n : Nat} (N : Eng.New (mkT h0 b1 b2 bm bt a2 n c2) v) : Eng.New h0 v := fun z hz => (mkT_none.1 (N z hz)).2.2.2.2.2
theorem mkT_two {v : Value} {n : Nat} (N : Eng.New (mkT h0 b1 b2 bm bt a2 n c2) v) : Eng.New (mk2 h0 b1 b2 bm) v := fun z hz => by
  have := mkT_none.1 (N z hz)
  exact mk2_mk this.2.2.1 this.2.1 this.1 this.2.2.2.2.2
theorem Tb.free (B : Tb h0 h b1 b2 bm bt TT PP a2 c2 cs) (H : LS h0 h b1 b2 bm a c bs m T T1 T2 r) {z : Nat} (hz : h z = none) : mkT h0 b1 b2 bm bt a2 TT.length c2 z = none := by
  obtain ⟨h1, h2, h3, h4⟩ := mk2_none (H.free hz)
  refine mkT_none.2 ⟨h3, h2, h1, fun e => ?_, fun e => B.tv.ow.held z e hz, h4⟩
  obtain ⟨TY, hb⟩ := B.tv.hb
  rw [e, hb] at hz; cases hz
theorem Tb.new (B : Tb h0 h b1 b2 bm bt TT PP a2 c2 cs) (H : LS h0 h b1 b2 bm a c bs m T T1 T2 r) {z l k : Nat} (hz : h z = none) : Eng.New (mkT h0 b1 b2 bm bt a2 TT.length c2) (.slice (some ⟨z, 0, none⟩) l k) := New.of (B.free H hz)
theorem Tb.app (B : Tb h0 h b1 b2 bm bt TT PP a2 c2 cs) (H : LS h0 h b1 b2 bm a c bs m T T1 T2 r) {v v' : Value} (N : Eng.New (mkT h0 b1 b2 bm bt a2 TT.length c2) v) (hr : blkOf v' = blkOf v ∨ Eng.New h v') : Eng.New (mkT h0 b1 b2 bm bt a2 TT.length c2) v' := fun z hz => by
  rcases hr with hr | hr
  · exact N z (hr ▸ hz)
  · exact B.free H (hr z hz)
theorem Tb.same (B : Tb h0 h b1 b2 bm bt TT PP a2 c2 cs) {h' : Eng.Heap} (h1 : h' bt = h bt) (h2 : ∀ z, blkOf (.slice a2 TT.length c2) = some z → h' z = h z) (s : Eng.Sub h0 h') : Tb h0 h' b1 b2 bm bt TT PP a2 c2 cs :=
  ⟨⟨by obtain ⟨TY, hb⟩ := B.tv.hb; exact ⟨TY, h1.trans hb⟩, B.tv.ow.keep h2, B.tv.nw, B.tv.nb, B.tv.ne, B.tv.ti, s⟩, B.dt, B.ds⟩
theorem Tb.sub (B : Tb h0 h b1 b2 bm bt TT PP a2 c2 cs) {h' : Eng.Heap} (s : Eng.Sub h h') : Tb h0 h' b1 b2 bm bt TT PP a2 c2 cs := by
  refine B.same ?_ (fun z hz => ?_) (B.tv.sb.trans s)
  · obtain ⟨TY, hb⟩ := B.tv.hb
    rw [hb]; exact s _ _ hb
  · have := B.tv.ow.held z hz
    cases e : h z with
    | none => exact absurd e this
    | some o => exact s _ _ e
theorem Tb.oth (B : Tb h0 h b1 b2 bm bt TT PP a2 c2 cs) {h' : Eng.Heap} (O : Oth b2 bm h h') (s : Eng.Sub h0 h') : Tb h0 h' b1 b2 bm bt TT PP a2 c2 cs :=
  B.same (O bt B.dt.2.2 B.dt.2.1) (fun z hz => O z (B.ds z hz).2.2 (B.ds z hz).2.1) s
theorem Tb.kept (B : Tb h0 h b1 b2 bm bt TT PP a2 c2 cs) {h' : Eng.Heap} {v : Value} (N : Eng.New (mkT h0 b1 b2 bm bt a2 TT.length c2) v) (hk : ∀ b, h b ≠ none → blkOf v ≠ some b → h' b = h b) (s : Eng.Sub h0 h') : Tb h0 h' b1 b2 bm bt TT PP a2 c2 cs := by
  refine B.same (hk bt ?_ fun e => (mkT_none.1 (N bt e)).2.2.2.1 rfl) (fun z hz => hk z (B.tv.ow.held z hz) fun e => (mkT_none.1 (N z e)).2.2.2.2.1 hz) s
  obtain ⟨TY, hb⟩ := B.tv.hb
  rw [hb]; simp

set_option maxRecDepth 100000 in
set_option maxHeartbeats 4000000 in
theorem k_mlR (hi : Eng.Inv S h0) (G : Errs h0) (H : LS h0 h b1 b2 bm a c bs m T T1 T2 r) (B : Tb h0 h b1 b2 bm bt TT PP a2 c2 cs) {all : List Int} {aa : Option Addr} {ca : Nat} (P : Part .i64 h (.slice aa all.length ca) all) (N : Eng.New (mkT h0 b1 b2 bm bt a2 TT.length c2) (.slice aa all.length ca)) (hl : all.length ≤ 1000) {n3 n5 : Nat} (h3 : n3 < 32) (h5 : n5 < 32) (t : Nat) (ht : t ≤ 1000) (w : Int) {F : Rd × List Int × List Int}
    (hF : r.k ≠ 0 → F.1.k = r.k) (hover : r.k = 0 → n3 + 257 + (n5 + 1) < all.length + t → F.1.k = 3) (K0 K1 K2 K3 K4 K5 K6 : Kt)
    (hgo : r.k = 0 → all.length + t ≤ n3 + 257 + (n5 + 1) → ∀ a' c' h', LS h0 h' b1 b2 bm a c bs m T T1 T2 r → Tb h0 h' b1 b2 bm bt TT PP a2 c2 cs → Part .i64 h' (.slice a' (all ++ List.replicate t w).length c') (all ++ List.replicate t w) → Eng.New (mkT h0 b1 b2 bm bt a2 TT.length c2) (.slice a' (all ++ List.replicate t w).length c') → K4 [.slice a' (all ++ List.replicate t w).length c'] h')
    (e0 e1 e4 e6 e7 e8 e9 e10 e11 e12 e13 e14 e16 e17 e18 : Value) :
    mlR.wp Tryd.prog S noLeaf (PostM h0 bm a c bs m T F) [e0, e1, .pointer (some ⟨b2, 0, none⟩), .int .i64 n3, e4, .int .i64 n5, e6, e7, e8, e9, e10, e11, e12, e13, e14, .slice aa all.length ca, e16, e17, e18, .int .i64 w, .int .i64 t] h [K0, K1, K2, K3, K4, K5, K6] := by
  have w3 : IntKind.i64.wrap ((n3 : Int) + 257) = ((n3 + 257 : Nat) : Int) := by rw [i64_in _ (by omega)]; omega
  have w5 : IntKind.i64.wrap ((n5 : Int) + 1) = ((n5 + 1 : Nat) : Int) := by rw [i64_in _ (by omega)]; omega
  have wt : IntKind.i64.wrap (((n3 + 257 : Nat) : Int) + ((n5 + 1 : Nat) : Int)) = ((n3 + 257 + (n5 + 1) : Nat) : Int) := by rw [i64_in _ (by omega)]; omega
  have ws : IntKind.i64.wrap (((n3 + 257 + (n5 + 1) : Nat) : Int) - (all.length : Int)) = ((n3 + 257 + (n5 + 1) : Nat) : Int) - (all.length : Int) := i64_in _ (by omega)
  simp only [mlR, Tr.wp, mksW, callW, Ex.ev, coerce, toInt_int, toBool_bool, slL_sl, slC_sl, slA_sl, toAddr_ptr, ptrOf_ptr, isNil_sl, isNil_ptr, it_and, it_or, it_int, optN_int, optN_nl, cmpI, arith, Cst.val, SV.den, resShs, resV, resSV, resVals, newVars, runCells, exSh, allSh, cellsAre, storeW, List.flatMap_cons, List.flatMap_nil, List.replicate_one, List.getD_cons_zero, List.getD_cons_succ, List.getElem?_cons_zero, List.getElem?_cons_succ, decide_eq_true_eq, decide_eq_false_iff_not, List.map_cons, List.map_nil, List.cons_append, List.nil_append, List.append_nil, List.length_cons, List.length_nil, Nat.zero_add, Nat.add_zero, and_true, true_and, if_true, if_false, Bool.false_eq_true, addr_add, w3, w5, wt, ws]
  refine ⟨errI r.k, errI_if, cel_ld H.c2, fun hz => ?_, fun hz => ⟨fun hgt => ?_, fun hle => ?_⟩⟩
  · rw [errI_if, errI_nil] at hz
    have hk : r.k ≠ 0 := by simpa using hz
    refine ⟨errI r.k, errI_if, cel_ld H.c2, cel_ok H.c2 (fun hs => hi b2 hs H.n2), errI r.k, errI_if, ?_, ?_⟩
    · rw [errI_if, cel_set H.c2]; exact cel_ld upd_same
    · rw [errI_if, cel_set H.c2]
      have H' := H.err (r' := r) (fun h => ⟨h, rfl⟩)
      exact H'.bad (by rw [hF hk]; exact hk) (by rw [hF hk])
  · rw [errI_if, errI_nil] at hz
    have hk : r.k = 0 := by simpa using hz
    exact H.fail hi G (hover hk (by omega))
  · rw [errI_if, errI_nil] at hz
    have hk : r.k = 0 := by simpa using hz
    have hle2 : all.length + t ≤ n3 + 257 + (n5 + 1) := by omega
    refine ⟨fun us h' => ∃ (i : Nat) (a' : Option Addr) (c' : Nat), us = [.slice a' (all ++ List.replicate i w).length c', .int .i64 i] ∧ i ≤ t ∧ Part .i64 h' (.slice a' (all ++ List.replicate i w).length c') (all ++ List.replicate i w) ∧ Eng.New (mkT h0 b1 b2 bm bt a2 TT.length c2) (.slice a' (all ++ List.replicate i w).length c') ∧ LS h0 h' b1 b2 bm a c bs m T T1 T2 r ∧ Tb h0 h' b1 b2 bm bt TT PP a2 c2 cs,
      fun us _ => t - (toInt (us.getD 1 undef)).toNat, ⟨0, aa, ca, by simp, by omega, by simpa using P, by simpa using N, H, B⟩, ?_⟩
    rintro a1 l1 c1 y h' ⟨i, a2', c2', hx1, hi2, P2, N2, H2, B2⟩
    simp only [List.cons.injEq, Value.int.injEq, Value.slice.injEq, true_and, and_true] at hx1
    obtain ⟨⟨rfl, rfl, rfl⟩, rfl⟩ := hx1
    refine ⟨fun hlt b hnb => ?_, fun hge => ?_⟩
    · have w2 : IntKind.i64.wrap ((i : Int) + 1) = ((i + 1 : Nat) : Int) := by rw [i64_in _ (by omega)]; omega
      have sb : Eng.Sub h' (upd h' b (.cells (ints .i64 [w]) 2)) := Sub.of_upd hnb
      have H3 := H2.sub sb
      have B3 := B2.sub sb
      have hlen : (all ++ List.replicate i w).length = all.length + i := by simp
      refine appW_part (xs := all ++ List.replicate i w) (a := some ⟨b, 0, none⟩) (c := 1) hi H3.sb (P2.sub sb) (mkT_base N2) (ys := [w]) HInts.new (by rw [hlen]; simp only [List.length_singleton]; omega) fun v' h3 o n3 s4 hk4 hr4 => ?_
      have el : (all ++ List.replicate i w) ++ [w] = all ++ List.replicate (i + 1) w := by rw [List.append_assoc, List.replicate_succ']
      rw [el] at o
      have N4 := B3.app H3 N2 hr4
      have H4 := H3.kept (mkT_two N2) hk4 s4
      have B4 := B3.kept N2 hk4 s4
      obtain ⟨a4, c4, rfl, _, _⟩ := o.ints
      simp only [slA_sl, slL_sl, slC_sl, w2]
      exact ⟨⟨i + 1, a4, c4, rfl, by omega, o, N4, H4, B4⟩, by simp only [List.getD_cons_succ, List.getD_cons_zero, toInt_int, Int.toNat_natCast]; omega⟩
    · obtain rfl : i = t := by omega
      exact hgo hk hle2 _ _ _ H2 B2 P2 N2

set_option maxRecDepth 100000 in
set_option maxHeartbeats 4000000 in
theorem k_mlB (hi : Eng.Inv S h0) (G : Errs h0) (hx : HInts h0 .u8 a bs) (L : bs.length ≤ 1048576) (H : LS h0 h b1 b2 bm a c bs m T T1 T2 r) (hk : r.k = 0) (B : Tb h0 h b1 b2 bm bt TT PP a2 c2 cs) (hM : ∀ c ∈ cs, c.1 ≤ 15) (hTl : TT.length ≤ 20000) (hcl : cs.length ≤ 1000)
    {all : List Int} {aa : Option Addr} {ca : Nat} (P : Part .i64 h (.slice aa all.length ca) all) (N : Eng.New (mkT h0 b1 b2 bm bt a2 TT.length c2) (.slice aa all.length ca)) {n3 n5 : Nat} (h3 : n3 < 32) (h5 : n5 < 32) (hl : all.length < n3 + 257 + (n5 + 1)) {F : Rd × List Int × List Int}
    (hF : (lg1 bs cs (n3 + 257 + (n5 + 1)) r all).1.k ≠ 0 → F.1.k = (lg1 bs cs (n3 + 257 + (n5 + 1)) r all).1.k) (K0 K1 K2 K3 K4 K5 : Kt)
    (hgo : (lg1 bs cs (n3 + 257 + (n5 + 1)) r all).1.k = 0 → ∀ a' c' h', LS h0 h' b1 b2 bm a c bs m T T1 T2 (lg1 bs cs (n3 + 257 + (n5 + 1)) r all).1 → Tb h0 h' b1 b2 bm bt TT PP a2 c2 cs → Part .i64 h' (.slice a' (lg1 bs cs (n3 + 257 + (n5 + 1)) r all).2.length c') (lg1 bs cs (n3 + 257 + (n5 + 1)) r all).2 → Eng.New (mkT h0 b1 b2 bm bt a2 TT.length c2) (.slice a' (lg1 bs cs (n3 + 257 + (n5 + 1)) r all).2.length c') → K4 [.slice a' (lg1 bs cs (n3 + 257 + (n5 + 1)) r all).2.length c'] h')
    (e0 e4 e6 e7 e8 e9 e10 e11 e12 e14 : Value) :
    mlB.wp Tryd.prog S noLeaf (PostM h0 bm a c bs m T F) [e0, .pointer (some ⟨b1, 0, none⟩), .pointer (some ⟨b2, 0, none⟩), .int .i64 n3, e4, .int .i64 n5, e6, e7, e8, e9, e10, e11, e12, .pointer (some ⟨bt, 0, none⟩), e14, .slice aa all.length ca] h [K0, K1, K2, K3, K4, K5] := by
  simp only [mlB, Tr.wp, mksW, callW, Ex.ev, coerce, toInt_int, toBool_bool, slL_sl, slC_sl, slA_sl, toAddr_ptr, ptrOf_ptr, isNil_sl, isNil_ptr, it_and, it_or, it_int, optN_int, optN_nl, cmpI, arith, Cst.val, SV.den, resShs, resV, resSV, resVals, newVars, runCells, exSh, allSh, cellsAre, storeW, List.flatMap_cons, List.flatMap_nil, List.replicate_one, List.getD_cons_zero, List.getD_cons_succ, List.getElem?_cons_zero, List.getElem?_cons_succ, decide_eq_true_eq, decide_eq_false_iff_not, List.map_cons, List.map_nil, List.cons_append, List.nil_append, List.append_nil, List.length_cons, List.length_nil, Nat.zero_add, Nat.add_zero, and_true, true_and, if_true, if_false, Bool.false_eq_true, addr_add]
  obtain ⟨p', hp, hm, he⟩ := H.mt
  obtain ⟨i, k⟩ := r
  obtain rfl : k = 0 := hk
  obtain rfl : i = (p' : Int) := he rfl
  refine ⟨_, cel_ld H.c1, ?_⟩
  refine (k_msymbol hi G hx L p' hp ⟨hm, H.nm, H.sb⟩ B.tv hTl hM B.dt.2.2 (fun e => (B.ds bm e).2.2 rfl) (ymRoot _) hcl).mono ?_
  rintro _ h1 ⟨rfl, p2, hp2, rfl, hpe⟩
  have H1 : ∀ r' : Rd, r'.k = 0 → r'.i = (p2 : Int) → LS h0 (upd h bm (machO a c bs p2 m T)) b1 b2 bm a c bs m T T1 T2 r' := fun r' q1 q2 =>
    ⟨(upd_ne H.d1m).trans H.c1, by rw [q1]; exact (upd_ne H.d2m).trans H.c2, ⟨p2, hp2, upd_same, fun _ => q2⟩, H.n1, H.n2, H.nm, H.d12, H.d1m, H.d2m, fun y o hy => by rw [upd_ne (fun e => by rw [e, H.nm] at hy; cases hy)]; exact H.sb y o hy⟩
  have B1 : Tb h0 (upd h bm (machO a c bs p2 m T)) b1 b2 bm bt TT PP a2 c2 cs := B.oth Oth.updm (H1 ⟨p2, 0⟩ rfl rfl).sb
  have P1 : Part .i64 (upd h bm (machO a c bs p2 m T)) (.slice aa all.length ca) all := NM.keep (mkT_two N) P Oth.updm
  generalize upd h bm (machO a c bs p2 m T) = h1 at H1 B1 P1 ⊢
  obtain ⟨tot, htot⟩ : ∃ tot, tot = n3 + 257 + (n5 + 1) := ⟨_, rfl⟩
  rw [← htot] at hF hgo hl
  have elg : lg1 bs cs tot ⟨(p' : Int), 0⟩ all = if (sy bs cs ⟨(p' : Int), 0⟩).1.k = 0 then (bd (decide (tot < (rp bs (sy bs cs ⟨(p' : Int), 0⟩).1 all (sy bs cs ⟨(p' : Int), 0⟩).2).2.length)) (rp bs (sy bs cs ⟨(p' : Int), 0⟩).1 all (sy bs cs ⟨(p' : Int), 0⟩).2).1, (rp bs (sy bs cs ⟨(p' : Int), 0⟩).1 all (sy bs cs ⟨(p' : Int), 0⟩).2).2) else ((sy bs cs ⟨(p' : Int), 0⟩).1, all) := rfl
  obtain ⟨⟨r1, x⟩, hs⟩ : ∃ q, sy bs cs ⟨(p' : Int), 0⟩ = q := ⟨_, rfl⟩
  rw [hs] at elg hpe ⊢
  simp only at elg hpe ⊢
  refine ⟨x, errI r1.k, errI_if, by rw [errI_if], fun hz => ?_, fun hz => ?_⟩
  · rw [errI_if, errI_nil] at hz
    have hk1 : r1.k ≠ 0 := by simpa using hz
    rw [if_neg hk1] at elg
    rw [elg] at hF
    have H2 := H1 ⟨p2, 0⟩ rfl rfl
    refine ⟨cel_ok H2.c2 (fun hs => hi b2 hs H.n2), errI r1.k, errI_if, ?_, ?_⟩
    · rw [errI_if, cel_set H2.c2]; exact cel_ld upd_same
    · rw [errI_if, cel_set H2.c2]
      have H' := H2.err (r' := r1) (fun h => absurd h hk1)
      exact H'.bad (by rw [hF hk1]; exact hk1) (by rw [hF hk1])
  · rw [errI_if, errI_nil] at hz
    have hk1 : r1.k = 0 := by simpa using hz
    rw [if_pos hk1] at elg
    have H2 := H1 r1 hk1 (hpe hk1).symm
    have ok1 : okR bs r1 := fun _ => by rw [← hpe hk1]; omega
    -- the rest of the round
    have fin : ∀ (r2 : Rd) (t : Nat) (w : Int) (h' : Eng.Heap), rp bs r1 all x = (r2, if r2.k = 0 then all ++ List.replicate t w else all) → t ≤ 1000 → LS h0 h' b1 b2 bm a c bs m T T1 T2 r2 → Tb h0 h' b1 b2 bm bt TT PP a2 c2 cs → Part .i64 h' (.slice aa all.length ca) all → ∀ e16 e17 e18,
        mlR.wp Tryd.prog S noLeaf (PostM h0 bm a c bs m T F) [e0, .pointer (some ⟨b1, 0, none⟩), .pointer (some ⟨b2, 0, none⟩), .int .i64 n3, e4, .int .i64 n5, e6, e7, e8, e9, e10, e11, e12, .pointer (some ⟨bt, 0, none⟩), e14, .slice aa all.length ca, e16, e17, e18, .int .i64 w, .int .i64 t] h' [K0, K1, K2, K3, K4, K5, fun _ _ => False] := by
      intro r2 t w h' erp ht H3 B3 P3 e16 e17 e18
      rw [erp] at elg
      simp only at elg
      refine k_mlR hi G H3 B3 P3 N (by omega) h3 h5 t ht w (fun hk2 => ?_) (fun hk2 hov => ?_) K0 K1 K2 K3 K4 K5 _ (fun hk2 hle a' c' h'' H4 B4 P4 N4 => ?_) _ _ _ _ _ _ _ _ _ _ _ _ _ _ _
      · have e : bd (decide (tot < (if r2.k = 0 then all ++ List.replicate t w else all).length)) r2 = r2 := by unfold bd; rw [if_neg (fun h => hk2 h.1)]
        rw [e] at elg
        rw [elg] at hF
        exact hF hk2
      · have e : (bd (decide (tot < (if r2.k = 0 then all ++ List.replicate t w else all).length)) r2).k = 3 := by
          rw [if_pos hk2, decide_eq_true (by rw [List.length_append, List.length_replicate]; omega)]; unfold bd; rw [if_pos ⟨hk2, rfl⟩]
        rw [elg] at hF
        rw [hF (by rw [e]; decide), e]
      · have e : lg1 bs cs tot ⟨(p' : Int), 0⟩ all = (r2, all ++ List.replicate t w) := by
          rw [elg, if_pos hk2, decide_eq_false (by rw [List.length_append, List.length_replicate]; omega)]; unfold bd; rw [if_neg (fun h => by cases h.2)]
        rw [e] at hgo
        exact hgo hk2 a' c' h'' H4 B4 P4 N4
    have n2 := tk_num (bs := bs) (n := 2) (r := r1)
    have nn3 := tk_num (bs := bs) (n := 3) (r := r1)
    have n7 := tk_num (bs := bs) (n := 7) (r := r1)
    have q2 : (2 : Int) ^ 2 = 4 := by decide
    have q3 : (2 : Int) ^ 3 = 8 := by decide
    have q7 : (2 : Int) ^ 7 = 128 := by decide
    refine ⟨fun h16 => ⟨fun h0 => ?_, fun h0 => ?_⟩, fun h16 => ⟨fun h17 => ?_, fun h17 => ⟨fun h18 => ?_, fun h18 _ _ _ => ?_⟩⟩⟩
    · obtain rfl : x = 16 := beq_iff_eq.1 h16
      have hall : all.length = 0 := by have : (all.length : Int) = 0 := beq_iff_eq.1 h0; omega
      refine H2.fail hi G ?_
      have e1 : (rp bs r1 all 16).1.k = 3 := by
        unfold rp
        rw [if_pos rfl]
        have eb : bd (all.length == 0) r1 = ⟨r1.i, 3⟩ := by unfold bd; rw [if_pos ⟨hk1, by rw [hall]; rfl⟩]
        rw [eb]; unfold tk; rw [if_neg (by simp)]
      have e2 : (lg1 bs cs tot ⟨(p' : Int), 0⟩ all).1.k = 3 := by
        rw [elg]; simp only; unfold bd; rw [if_neg (fun h => by rw [e1] at h; cases h.1)]; exact e1
      rw [hF (by rw [e2]; decide), e2]
    · obtain rfl : x = 16 := beq_iff_eq.1 h16
      have hall : all.length ≠ 0 := fun e => by rw [e] at h0; cases h0
      have wl : IntKind.i64.wrap ((all.length : Int) - 1) = ((all.length - 1 : Nat) : Int) := by rw [i64_in _ (by omega)]; omega
      have wt : IntKind.i64.wrap ((tk bs 2 r1).2 + 3) = (((tk bs 2 r1).2 + 3).toNat : Int) := by rw [i64_in _ (by omega)]; omega
      obtain ⟨_, _, ei, _, gi⟩ := P1.ints
      cases ei
      have g? : all[all.length - 1]? = some (all.getD (all.length - 1) 0) := by simp [List.getD, List.getElem?_eq_getElem (show all.length - 1 < all.length by omega)]
      obtain ⟨g1, g2⟩ := gi.cell g?
      have eb : bd (all.length == 0) r1 = r1 := by unfold bd; rw [if_neg (fun h => hall (by simpa using h.2))]
      rw [wl]
      refine ⟨by simpa using g2, by omega, by omega, _, by simp only [Int.toNat_natCast, Nat.mul_one, add_add, Nat.add_zero]; exact g1, ?_⟩
      refine (k_get hi G hx L ok1 H2 2 (by omega)).mono ?_
      rintro _ h2 ⟨rfl, H3, O3⟩
      have P3 := NM.keep (mkT_two N) P1 O3
      have B3 := B1.oth O3 H3.sb
      refine ⟨_, rfl, fun p hp => ?_, fun _ => ?_⟩
      · obtain rfl := List.mem_singleton.1 hp
        obtain ⟨_, _, ei, _, gi3⟩ := P3.ints
        cases ei
        obtain ⟨g3, _⟩ := gi3.cell g?
        simp only [Tr.wp, mksW, callW, Ex.ev, coerce, toInt_int, toBool_bool, slL_sl, slC_sl, slA_sl, toAddr_ptr, ptrOf_ptr, isNil_sl, isNil_ptr, it_and, it_or, it_int, optN_int, optN_nl, cmpI, arith, Cst.val, SV.den, resShs, resV, resSV, resVals, newVars, runCells, exSh, allSh, cellsAre, storeW, List.flatMap_cons, List.flatMap_nil, List.replicate_one, List.getD_cons_zero, List.getD_cons_succ, List.getElem?_cons_zero, List.getElem?_cons_succ, decide_eq_true_eq, decide_eq_false_iff_not, List.map_cons, List.map_nil, List.cons_append, List.nil_append, List.append_nil, List.length_cons, List.length_nil, Nat.zero_add, Nat.add_zero, and_true, true_and, if_true, if_false, Bool.false_eq_true, wl, Int.toNat_natCast, Nat.mul_one, add_add]
        exact g3
      · rw [wt]
        refine fin (tk bs 2 r1).1 _ _ h2 ?_ (by omega) H3 B3 P3 _ _ _
        unfold rp
        rw [if_pos rfl, eb]
    · obtain rfl : x = 17 := beq_iff_eq.1 h17
      have wt : IntKind.i64.wrap ((tk bs 3 r1).2 + 3) = (((tk bs 3 r1).2 + 3).toNat : Int) := by rw [i64_in _ (by omega)]; omega
      refine (k_get hi G hx L ok1 H2 3 (by omega)).mono ?_
      rintro _ h2 ⟨rfl, H3, O3⟩
      refine ⟨_, rfl, fun _ _ => ?_⟩
      rw [wt]
      refine fin (tk bs 3 r1).1 _ _ h2 ?_ (by omega) H3 (B1.oth O3 H3.sb) (NM.keep (mkT_two N) P1 O3) _ _ _
      unfold rp
      rw [if_neg (by decide), if_pos rfl]
    · obtain rfl : x = 18 := beq_iff_eq.1 h18
      have wt : IntKind.i64.wrap ((tk bs 7 r1).2 + 11) = (((tk bs 7 r1).2 + 11).toNat : Int) := by rw [i64_in _ (by omega)]; omega
      refine (k_get hi G hx L ok1 H2 7 (by omega)).mono ?_
      rintro _ h2 ⟨rfl, H3, O3⟩
      refine ⟨_, rfl, fun _ _ _ => ?_⟩
      rw [wt]
      refine fin (tk bs 7 r1).1 _ _ h2 ?_ (by omega) H3 (B1.oth O3 H3.sb) (NM.keep (mkT_two N) P1 O3) _ _ _
      unfold rp
      rw [if_neg (by decide), if_neg (by decide), if_pos rfl]
    · refine fin r1 1 x h1 ?_ (by omega) H2 B1 P1 _ _ _
      unfold rp
      rw [if_neg (by simpa using h16), if_neg (by simpa using h17), if_neg (by simpa using h18)]
      rfl
end
end Go.Proofs.YtmnialmphlbmaaaDoor
