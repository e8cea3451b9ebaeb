import Derived.Test.YtchlnichbaoeaaaKDrawLens
import Derived.Test.YtchlnichbaoeaaaCutspecl3Spread
import Derived.Test.YtchlnichbaoeaaaCutspecl3DrawLens
set_option linter.unusedVariables false
set_option linter.unusedSimpArgs false
namespace Go.Proofs.Ytchlnichbaoeaaa
open Go Go.Eng Go.IntWalk
variable {S : Nat → Prop} {h h0 h' : Eng.Heap} {b : Nat} {T : TypeId} {code : List Int} {a : Option Addr} {c : Nat}

theorem blk_add (a : Addr) (n : Nat) : (a.add n).block = a.block := by unfold Addr.add; split <;> rfl
theorem hset_else {h : Eng.Heap} {ad : Addr} {v : Value} {y : Nat} (hy : y ≠ ad.block) : hset h ad v y = h y := by simp [hset, hy]

set_option maxHeartbeats 2000000 in
theorem k_l3Spread (hi : Eng.Inv S h0) (H : CurAt h0 h b T code a c) (hl : code.length ≤ 1048576) (n : Nat) (hn : n ≤ 100) {au : Option Addr} {cu : Nat} {us : List Int} (U : Part .i64 h (.slice au us.length cu) us) (hub : blkOf (.slice au us.length cu) ≠ some b) (hul : us.length ≤ 100) (hur : ∀ y ∈ us, 0 ≤ y ∧ y < (n : Int)) (m : Int) :
    CallsH Try.prog S F_spec_l3Spread #[.pointer (some ⟨b, 0, none⟩), .int .i64 n, .slice au us.length cu, .int .i64 m] h (LPost h0 h b T code a c fun ys => ys.length = n) := by
  refine run_spec_l3Spread (vs := [.pointer (some ⟨b, 0, none⟩), .int .i64 n, .slice au us.length cu, .int .i64 m]) ⟨rfl, rfl, rfl, rfl, trivial⟩ (hi.sub H.sub) ?_
  rw [spec_l3Spread_cut]
  simp only [Tr.wp, mksW, callW, Ex.ev, coerce, toInt_int, toBool_bool, slL_sl, slC_sl, slA_sl, toAddr_ptr, ptrOf_ptr, isNil_sl, isNil_ptr, it_and, it_or, it_int, optN_int, optN_nl, cmpI, arith, Cst.val, SV.den, resShs, resV, resSV, resVals, newVars, runCells, exSh, allSh, cellsAre, storeW, List.flatMap_cons, List.flatMap_nil, List.replicate_one, List.getD_cons_zero, List.getD_cons_succ, List.getElem?_cons_zero, List.getElem?_cons_succ, decide_eq_true_eq, decide_eq_false_iff_not, List.map_cons, List.map_nil, List.cons_append, List.nil_append, List.append_nil, List.length_cons, List.length_nil, Nat.zero_add, Nat.add_zero, and_true, true_and, if_true, if_false, Bool.false_eq_true]
  have useU : ∀ {h' : Eng.Heap}, (∀ y, h y ≠ none → y ≠ b → h' y = h y) → HInts h' .i64 au us := fun f => by
    have := U.keep fun y hy => f y (U.held y hy) fun e => hub (e ▸ hy)
    obtain ⟨_, _, e, _, hx⟩ := this.ints
    cases e
    exact hx
  intro b0 hb0
  refine ⟨fun vs h' => ∃ (a1 : Option Addr) (c1 : Nat) (ys : List Int), vs = [.slice a1 ys.length c1, .int .i64 ys.length] ∧ ys.length ≤ n ∧ LSt h0 h h' b T code a c (.slice a1 ys.length c1) ys,
    fun vs _ => n - (toInt (vs.getD 1 undef)).toNat, ⟨_, _, [], rfl, by simp, LSt.new H hb0 []⟩, ?_⟩
  rintro a1 l1 c1 x h' ⟨a1', c1', ys, hx1, hy, L⟩
  simp only [List.cons.injEq, Value.int.injEq, Value.slice.injEq, true_and, and_true] at hx1
  obtain ⟨⟨rfl, rfl, rfl⟩, rfl⟩ := hx1
  refine ⟨fun hlt b1 hb1 => ?_, fun hge => ?_⟩
  · have w4 : IntKind.i64.wrap ((ys.length : Int) + 1) = ((ys.length + 1 : Nat) : Int) := by rw [i64_in _ (by omega)]; omega
    rw [w4]
    refine LSt.app hi H L (by omega) hb1 fun a2 c2 h2 L4 => ?_
    simp only [slA_sl, slL_sl, slC_sl]
    have el : ys.length + 1 = (ys ++ [(0 : Int)]).length := by simp
    rw [el] at L4 ⊢
    refine ⟨⟨_, _, _, rfl, by rw [← el]; omega, L4⟩, ?_⟩
    show n - (toInt (Value.int .i64 (((ys ++ [(0 : Int)]).length : Nat) : Int))).toNat < n - (toInt (Value.int .i64 (ys.length : Int))).toNat
    rw [toInt_int, toInt_int, ← el]; omega
  obtain rfl : ys.length = n := by omega
  clear hge hy
  have key : ∀ (zs : List Int) (h2 : Eng.Heap) (Ks : List Kt), zs.length = ys.length → LSt h0 h h2 b T code a c (.slice a1 ys.length c1) zs →
      sprT.wp Try.prog S noLeaf (LPost h0 h b T code a c fun ys_1 => ys_1.length = ys.length)
        [.pointer (some ⟨b, 0, none⟩), .int .i64 ys.length, .slice au us.length cu, .int .i64 m, .slice (some ⟨b0, 0, none⟩) 0 0, .slice a1 ys.length c1, .int .i64 ys.length] h2 ([Ks.getD 0 (fun _ _ => False), Ks.getD 1 (fun _ _ => False)]) := by
    intro zs h2 Ks hz L
    simp only [sprT, Tr.wp, mksW, callW, Ex.ev, coerce, toInt_int, toBool_bool, slL_sl, slC_sl, slA_sl, toAddr_ptr, ptrOf_ptr, isNil_sl, isNil_ptr, it_and, it_or, it_int, optN_int, optN_nl, cmpI, arith, Cst.val, SV.den, resShs, resV, resSV, resVals, newVars, runCells, exSh, allSh, cellsAre, storeW, List.flatMap_cons, List.flatMap_nil, List.replicate_one, List.getD_cons_zero, List.getD_cons_succ, List.getElem?_cons_zero, List.getElem?_cons_succ, decide_eq_true_eq, decide_eq_false_iff_not, List.map_cons, List.map_nil, List.cons_append, List.nil_append, List.append_nil, List.length_cons, List.length_nil, Nat.zero_add, Nat.add_zero, and_true, true_and, if_true, if_false, Bool.false_eq_true]
    refine ⟨fun hg => ?_, fun _ _ => ⟨zs, hz, L⟩⟩
    refine (k_l3Leaves hi L.C hl us.length hul m).mono ?_
    rintro v h3 ⟨ls, hls, M⟩
    obtain ⟨al, cl, rfl, _, _⟩ := M.P.ints
    refine ⟨al, ls.length, cl, rfl, ?_⟩
    refine ⟨fun vs h' => ∃ (i : Nat) (qs : List Int), vs = [.int .i64 i] ∧ i ≤ us.length ∧ qs.length = ys.length ∧ LSt h0 h h' b T code a c (.slice a1 ys.length c1) qs ∧ Part .i64 h' (.slice al ls.length cl) ls ∧ (∀ y, blkOf (.slice al ls.length cl) = some y → blkOf (.slice a1 ys.length c1) ≠ some y),
      fun vs _ => us.length - (toInt (vs.getD 0 undef)).toNat, ?_, ?_⟩
    · obtain ⟨a1', c1', e1, _, _⟩ := L.P.ints
      have hb1 : ∀ y, blkOf (.slice a1 ys.length c1) = some y → h2 y ≠ none := L.P.held
      refine ⟨0, zs, rfl, by omega, hz, ⟨L.P.keep fun y hy => M.F y (hb1 y hy) fun e => L.ne H (e ▸ hy), L.N, M.C, fun y hy hne => ?_⟩, M.P, fun y e1 e2 => hb1 y e2 (M.N y e1)⟩
      rw [M.F y (by rw [L.F y hy hne]; exact hy) hne, L.F y hy hne]
    rintro i h4 ⟨i', qs, hx2, hi2, hq, L4, P4, hne⟩
    simp only [List.cons.injEq, Value.int.injEq, true_and, and_true] at hx2
    subst hx2
    refine ⟨fun hc => ?_, fun _ _ => ⟨qs, hq, L4⟩⟩
    have hlt : i' < us.length ∧ i' < ls.length := by simp at hc; omega
    obtain ⟨g1, g2⟩ := (useU (h' := h4) L4.F).cell (List.getElem?_eq_getElem hlt.1)
    obtain ⟨al2, cl2, e2, _, hl4⟩ := P4.ints
    simp only [Value.slice.injEq, true_and] at e2
    obtain ⟨rfl, rfl⟩ := e2
    obtain ⟨g3, g4⟩ := hl4.cell (List.getElem?_eq_getElem hlt.2)
    have hr := hur us[i'] (List.getElem_mem hlt.1)
    obtain ⟨q, hq0⟩ := Int.eq_ofNat_of_zero_le hr.1
    have hql : q < qs.length := by omega
    obtain ⟨o1, L5⟩ := L4.set hi H hql ls[i']
    have hl1 := L4.cell hql
    have nz : (!au.isNone) = true := by simpa using g2
    have nz2 : (!al.isNone) = true := by simpa using g4
    have w4 : IntKind.i64.wrap ((i' : Int) + 1) = ((i' + 1 : Nat) : Int) := by rw [i64_in _ (by omega)]; omega
    refine ⟨nz, by omega, by omega, us[i'], by simpa [add_add] using g1, nz2, by omega, by omega, ls[i'], by simpa [add_add] using g3, hl1.2.1, hr.1, by omega, ?_, ?_, ?_⟩
    · rw [hq0]; exact o1
    · rw [hq0, w4]
      refine ⟨i' + 1, qs.set q ls[i'], rfl, by omega, by rw [List.length_set]; exact hq, L5, P4.keep fun y hy => ?_, hne⟩
      cases a1 with
      | none => simp at hl1
      | some A => rw [hset_else fun e => hne y hy (by rw [e]; simp [blkOf, blk_add])]
    · rw [w4]
      show us.length - (toInt (Value.int .i64 ((i' + 1 : Nat) : Int))).toNat < us.length - (toInt (Value.int .i64 (i' : Int))).toNat
      rw [toInt_int, toInt_int]; omega
  refine ⟨fun h1 => ?_, fun _ _ => key ys h' [_, _] rfl L⟩
  have h1 : us.length = 1 := by simp at h1; omega
  have hlt : 0 < us.length := by omega
  obtain ⟨g1, g2⟩ := (useU (h' := h') L.F).cell (List.getElem?_eq_getElem hlt)
  have nz : (!au.isNone) = true := by simpa using g2
  have hr := hur us[0] (List.getElem_mem hlt)
  obtain ⟨q, hq0⟩ := Int.eq_ofNat_of_zero_le hr.1
  have hql : q < ys.length := by omega
  obtain ⟨o1, L5⟩ := L.set hi H hql 1
  refine ⟨nz, by simp, by omega, us[0], by simpa [add_add] using g1, (L.cell hql).2.1, hr.1, hr.2, by rw [hq0]; exact o1, fun _ => ?_⟩
  rw [hq0]
  exact key (ys.set q 1) _ [_, _] (by rw [List.length_set]) L5

theorem k_l1Once (hi : Eng.Inv S h0) (H : CurAt h0 h b T code a c) (hl : code.length ≤ 1048576) (n : Int) (h1 : 1 ≤ n) (h2 : n ≤ 1000000) :
    CallsH Try.prog S F_spec_l1Once #[.pointer (some ⟨b, 0, none⟩), .int .i64 n] h (fun v h' => ∃ x, v = .bool x ∧ CurAt h0 h' b T code a c ∧ ∀ y, y ≠ b → h' y = h y) := by
  refine run_spec_l1Once (vs := [.pointer (some ⟨b, 0, none⟩), .int .i64 n]) ⟨rfl, rfl, trivial⟩ (hi.sub H.sub) ?_
  simp only [t_spec_l1Once, Tr.wp, mksW, callW, Ex.ev, coerce, toInt_int, toBool_bool, slL_sl, slC_sl, slA_sl, toAddr_ptr, ptrOf_ptr, isNil_sl, isNil_ptr, it_and, it_or, it_int, optN_int, optN_nl, cmpI, arith, Cst.val, SV.den, resShs, resV, resSV, resVals, newVars, runCells, exSh, allSh, cellsAre, storeW, List.flatMap_cons, List.flatMap_nil, List.replicate_one, List.getD_cons_zero, List.getD_cons_succ, List.getElem?_cons_zero, List.getElem?_cons_succ, decide_eq_true_eq, decide_eq_false_iff_not, List.map_cons, List.map_nil, List.cons_append, List.nil_append, List.append_nil, List.length_cons, List.length_nil, Nat.zero_add, Nat.add_zero, and_true, true_and, if_true, if_false, Bool.false_eq_true]
  refine (k_l1Below hi H hl n h1 h2).mono ?_
  rintro _ h3 ⟨x, rfl, x0, x1, C, f⟩
  exact ⟨_, rfl, _, rfl, C, f⟩

theorem LSt.base {g : Eng.Heap} {v : Value} {ys : List Int} (L : LSt h0 g h' b T code a c v ys) (hg : ∀ y, h y ≠ none → y ≠ b → g y = h y) (hb : g b ≠ none) : LSt h0 h h' b T code a c v ys := by
  refine ⟨L.P, fun y hy => ?_, L.C, fun y hy hne => ?_⟩
  · have h1 := L.N y hy
    cases hh : h y with
    | none => rfl
    | some o =>
      by_cases e : y = b
      · subst e; exact absurd h1 hb
      · rw [hg y (by rw [hh]; simp) e, hh] at h1; cases h1
  · rw [L.F y (by rw [hg y hy hne]; exact hy) hne, hg y hy hne]

section
variable {g : Eng.Heap} {a1 : Option Addr} {c1 : Nat} {v1 v2 v3 v4 : Value} {n i : Nat} {j : Int}

def LGood (n : Nat) (ys : List Int) : Prop := ys.length ≤ 400

set_option maxHeartbeats 2000000 in
theorem k_dlD (hi : Eng.Inv S h0) (Hg : CurAt h0 g b T code a c) (hl : code.length ≤ 1048576) {zs : List Int} (hn : n ≤ 100) (hz : zs.length = n) (L : LSt h0 g h b T code a c (.slice a1 n c1) zs) {w8 : Value} :
    dlD.wp Try.prog S noLeaf (LPost h0 g b T code a c (LGood n)) [.pointer (some ⟨b, 0, none⟩), v1, v2, v3, v4, .slice a1 n c1, .int .i64 j, .int .i64 i, w8] h [] := by
  simp only [dlD, Tr.wp, mksW, callW, Ex.ev, coerce, toInt_int, toBool_bool, slL_sl, slC_sl, slA_sl, toAddr_ptr, ptrOf_ptr, isNil_sl, isNil_ptr, it_and, it_or, it_int, optN_int, optN_nl, cmpI, arith, Cst.val, SV.den, resShs, resV, resSV, resVals, newVars, runCells, exSh, allSh, cellsAre, storeW, List.flatMap_cons, List.flatMap_nil, List.replicate_one, List.getD_cons_zero, List.getD_cons_succ, List.getElem?_cons_zero, List.getElem?_cons_succ, decide_eq_true_eq, decide_eq_false_iff_not, List.map_cons, List.map_nil, List.cons_append, List.nil_append, List.append_nil, List.length_cons, List.length_nil, Nat.zero_add, Nat.add_zero, and_true, true_and, if_true, if_false, Bool.false_eq_true]
  refine (k_l1Once hi L.C hl 40 (by omega) (by omega)).mono ?_
  rintro _ h3 ⟨x, rfl, C3, f3⟩
  have L3 := L.cur Hg C3 f3
  refine ⟨_, rfl, fun _ => ?_, fun _ _ => ⟨zs, by simp [LGood]; omega, L3⟩⟩
  refine ⟨fun us h' => ∃ (a2 : Option Addr) (c2 : Nat) (ys : List Int), us = [.slice a2 ys.length c2] ∧ ys.length ≤ 400 ∧ LSt h0 g h' b T code a c (.slice a2 ys.length c2) ys,
    fun us _ => 400 - slL (us.getD 0 undef), ⟨a1, c1, zs, by rw [hz], by omega, by rw [hz]; exact L3⟩, ?_⟩
  rintro a2 l2 c2 h4 ⟨a2', c2', ys, hx, hy, L4⟩
  simp only [List.cons.injEq, Value.slice.injEq, and_true] at hx
  obtain ⟨rfl, rfl, rfl⟩ := hx
  refine (k_l1Below hi L4.C hl 2 (by omega) (by omega)).mono ?_
  rintro _ h5 ⟨x, rfl, x0, x1, C5, f5⟩
  have L5 := L4.cur Hg C5 f5
  have w4 : IntKind.i64.wrap (320 + x) = 320 + x := i64_in _ (by omega)
  refine ⟨_, rfl, fun hlt b1 hb1 => ?_, fun _ _ => ⟨ys, hy, L5⟩⟩
  rw [w4] at hlt
  have hlt2 : ys.length < 322 := by omega
  refine LSt.app hi Hg L5 (by omega) hb1 fun a3 c3 h6 L6 => ?_
  simp only [slA_sl, slL_sl, slC_sl]
  have el : ys.length + 1 = (ys ++ [(0 : Int)]).length := by simp
  rw [el] at L6 ⊢
  refine ⟨⟨_, _, _, rfl, by rw [← el]; omega, L6⟩, ?_⟩
  show 400 - slL (Value.slice a3 (ys ++ [(0 : Int)]).length c3) < 400 - slL (Value.slice a2 ys.length c2)
  rw [slL_sl, slL_sl, ← el]; omega

theorem k_dlC (hi : Eng.Inv S h0) (Hg : CurAt h0 g b T code a c) (hl : code.length ≤ 1048576) {zs : List Int} (hn : n ≤ 100) (hin : i < n) (hz : zs.length = n) (L : LSt h0 g h b T code a c (.slice a1 n c1) zs) {w8 : Value} :
    dlC.wp Try.prog S noLeaf (LPost h0 g b T code a c (LGood n)) [.pointer (some ⟨b, 0, none⟩), v1, v2, v3, v4, .slice a1 n c1, .int .i64 j, .int .i64 i, w8] h [] := by
  simp only [dlC, Tr.wp, mksW, callW, Ex.ev, coerce, toInt_int, toBool_bool, slL_sl, slC_sl, slA_sl, toAddr_ptr, ptrOf_ptr, isNil_sl, isNil_ptr, it_and, it_or, it_int, optN_int, optN_nl, cmpI, arith, Cst.val, SV.den, resShs, resV, resSV, resVals, newVars, runCells, exSh, allSh, cellsAre, storeW, List.flatMap_cons, List.flatMap_nil, List.replicate_one, List.getD_cons_zero, List.getD_cons_succ, List.getElem?_cons_zero, List.getElem?_cons_succ, decide_eq_true_eq, decide_eq_false_iff_not, List.map_cons, List.map_nil, List.cons_append, List.nil_append, List.append_nil, List.length_cons, List.length_nil, Nat.zero_add, Nat.add_zero, and_true, true_and, if_true, if_false, Bool.false_eq_true]
  obtain ⟨e0, e1, e2⟩ := L.cell (i := i) (by omega)
  obtain ⟨o1, L5⟩ := L.set hi Hg (i := i) (by omega) 0
  refine ⟨fun _ => ⟨e1, by omega, by omega, o1, fun _ => ?_⟩, fun _ _ => k_dlD hi Hg hl hn hz L⟩
  exact k_dlD hi Hg hl hn (by rw [List.length_set]; exact hz) L5

theorem k_dlB (hi : Eng.Inv S h0) (Hg : CurAt h0 g b T code a c) (hl : code.length ≤ 1048576) {zs : List Int} (hn : n ≤ 100) (hin : i < n) (hz : zs.length = n) (L : LSt h0 g h b T code a c (.slice a1 n c1) zs) {w8 : Bool} :
    dlB.wp Try.prog S noLeaf (LPost h0 g b T code a c (LGood n)) [.pointer (some ⟨b, 0, none⟩), v1, v2, v3, v4, .slice a1 n c1, .int .i64 j, .int .i64 i, .bool w8] h [] := by
  simp only [dlB, Tr.wp, mksW, callW, Ex.ev, coerce, toInt_int, toBool_bool, slL_sl, slC_sl, slA_sl, toAddr_ptr, ptrOf_ptr, isNil_sl, isNil_ptr, it_and, it_or, it_int, optN_int, optN_nl, cmpI, arith, Cst.val, SV.den, resShs, resV, resSV, resVals, newVars, runCells, exSh, allSh, cellsAre, storeW, List.flatMap_cons, List.flatMap_nil, List.replicate_one, List.getD_cons_zero, List.getD_cons_succ, List.getElem?_cons_zero, List.getElem?_cons_succ, decide_eq_true_eq, decide_eq_false_iff_not, List.map_cons, List.map_nil, List.cons_append, List.nil_append, List.append_nil, List.length_cons, List.length_nil, Nat.zero_add, Nat.add_zero, and_true, true_and, if_true, if_false, Bool.false_eq_true]
  obtain ⟨e0, e1, e2⟩ := L.cell (i := i) (by omega)
  obtain ⟨o1, L5⟩ := L.set hi Hg (i := i) (by omega) (IntKind.i64.wrap (zs[i]'(by omega) + 1))
  refine ⟨fun _ => ⟨e1, by omega, by omega, _, e2, e1, by omega, by omega, o1, fun _ => ?_⟩, fun _ _ => k_dlC hi Hg hl hn hin hz L⟩
  exact k_dlC hi Hg hl hn hin (by rw [List.length_set]; exact hz) L5

theorem k_dlA (hi : Eng.Inv S h0) (Hg : CurAt h0 g b T code a c) (hl : code.length ≤ 1048576) {zs : List Int} (hn : n ≤ 100) (hin : i < n) (hz : zs.length = n) (L : LSt h0 g h b T code a c (.slice a1 n c1) zs) :
    dlA.wp Try.prog S noLeaf (LPost h0 g b T code a c (LGood n)) [.pointer (some ⟨b, 0, none⟩), v1, v2, v3, v4, .slice a1 n c1, .int .i64 j, .int .i64 i] h [] := by
  simp only [dlA, Tr.wp, mksW, callW, Ex.ev, coerce, toInt_int, toBool_bool, slL_sl, slC_sl, slA_sl, toAddr_ptr, ptrOf_ptr, isNil_sl, isNil_ptr, it_and, it_or, it_int, optN_int, optN_nl, cmpI, arith, Cst.val, SV.den, resShs, resV, resSV, resVals, newVars, runCells, exSh, allSh, cellsAre, storeW, List.flatMap_cons, List.flatMap_nil, List.replicate_one, List.getD_cons_zero, List.getD_cons_succ, List.getElem?_cons_zero, List.getElem?_cons_succ, decide_eq_true_eq, decide_eq_false_iff_not, List.map_cons, List.map_nil, List.cons_append, List.nil_append, List.append_nil, List.length_cons, List.length_nil, Nat.zero_add, Nat.add_zero, and_true, true_and, if_true, if_false, Bool.false_eq_true]
  obtain ⟨e0, e1, e2⟩ := L.cell (i := i) (by omega)
  refine ⟨fun _ => ⟨e1, by omega, by omega, _, e2, fun _ => ?_⟩, fun _ _ => k_dlB hi Hg hl hn hin hz L⟩
  exact k_dlB hi Hg hl hn hin hz L
end

set_option maxHeartbeats 2000000 in
theorem k_l3DrawLens (hi : Eng.Inv S h0) (H : CurAt h0 h b T code a c) (hl : code.length ≤ 1048576) :
    CallsH Try.prog S F_spec_l3DrawLens #[.pointer (some ⟨b, 0, none⟩)] h (LPost h0 h b T code a c (LGood 0)) := by
  refine run_spec_l3DrawLens (vs := [.pointer (some ⟨b, 0, none⟩)]) ⟨rfl, trivial⟩ (hi.sub H.sub) ?_
  rw [spec_l3DrawLens_cut]
  simp only [Tr.wp, mksW, callW, Ex.ev, coerce, toInt_int, toBool_bool, slL_sl, slC_sl, slA_sl, toAddr_ptr, ptrOf_ptr, isNil_sl, isNil_ptr, it_and, it_or, it_int, optN_int, optN_nl, cmpI, arith, Cst.val, SV.den, resShs, resV, resSV, resVals, newVars, runCells, exSh, allSh, cellsAre, storeW, List.flatMap_cons, List.flatMap_nil, List.replicate_one, List.getD_cons_zero, List.getD_cons_succ, List.getElem?_cons_zero, List.getElem?_cons_succ, decide_eq_true_eq, decide_eq_false_iff_not, List.map_cons, List.map_nil, List.cons_append, List.nil_append, List.append_nil, List.length_cons, List.length_nil, Nat.zero_add, Nat.add_zero, and_true, true_and, if_true, if_false, Bool.false_eq_true]
  refine (k_l1Below hi H hl 24 (by omega) (by omega)).mono ?_
  rintro _ h1 ⟨x, rfl, x0, x1, C1, f1⟩
  obtain ⟨n0, rfl⟩ := Int.eq_ofNat_of_zero_le x0
  have w1 : IntKind.i64.wrap (1 + (n0 : Int)) = ((n0 + 1 : Nat) : Int) := by rw [i64_in _ (by omega)]; omega
  refine ⟨_, rfl, ?_⟩
  rw [w1]
  have w2 : IntKind.i64.wrap (((n0 + 1 : Nat) : Int) + 1) = ((n0 + 2 : Nat) : Int) := by rw [i64_in _ (by omega)]; omega
  rw [w2]
  refine (k_l1Below hi C1 hl ((n0 + 2 : Nat) : Int) (by omega) (by omega)).mono ?_
  rintro _ h2 ⟨k, rfl, k0, k1, C2, f2⟩
  obtain ⟨k, rfl⟩ := Int.eq_ofNat_of_zero_le k0
  refine ⟨_, rfl, ?_⟩
  refine (k_l1Below hi C2 hl 15 (by omega) (by omega)).mono ?_
  rintro _ h3 ⟨m, rfl, m0, m1, C3, f3⟩
  refine ⟨_, rfl, ?_⟩
  have g3 : ∀ y, y ≠ b → h3 y = h y := fun y hy => by rw [f3 y hy, f2 y hy, f1 y hy]
  refine (k_l3Pick hi C3 hl (n0 + 1) k (by omega) (by omega)).mono ?_
  rintro v h4 ⟨us, ⟨hu1, hu2⟩, L4⟩
  obtain ⟨a4, c4, rfl, _, _⟩ := L4.P.ints
  refine ⟨_, _, _, rfl, ?_⟩
  refine (k_l3Spread hi L4.C hl (n0 + 1) (by omega) L4.P (L4.ne C3) (by omega) hu2 _).mono ?_
  rintro v h5 ⟨ls, hls, L5⟩
  obtain ⟨a5, c5, rfl, _, _⟩ := L5.P.ints
  refine ⟨_, _, _, rfl, ?_⟩
  refine (k_l1Below hi L5.C hl 8 (by omega) (by omega)).mono ?_
  rintro _ h6 ⟨j, rfl, j0, j1, C6, f6⟩
  have L6 := L5.cur L4.C C6 f6
  refine ⟨_, rfl, ?_⟩
  refine (k_l1Below hi C6 hl ((n0 + 1 : Nat) : Int) (by omega) (by omega)).mono ?_
  rintro _ h7 ⟨i, rfl, i0, i1, C7, f7⟩
  obtain ⟨i, rfl⟩ := Int.eq_ofNat_of_zero_le i0
  have L7 := L6.cur L4.C C7 f7
  refine ⟨_, rfl, ?_⟩
  rw [hls] at L7 ⊢
  have hg : ∀ y, h y ≠ none → y ≠ b → h4 y = h y := fun y hy hne => by rw [L4.F y (by rw [g3 y hne]; exact hy) hne, g3 y hne]
  have fin : ∀ v h', LPost h0 h4 b T code a c (LGood (n0 + 1)) v h' → LPost h0 h b T code a c (LGood 0) v h' := by
    rintro v h' ⟨ys, hy, L⟩
    exact ⟨ys, hy, L.base hg L4.C.held⟩
  refine ⟨fun _ => ?_, fun _ _ => ?_⟩
  · refine (k_l1Below hi C7 hl 18 (by omega) (by omega)).mono ?_
    rintro _ h8 ⟨q, rfl, q0, q1, C8, f8⟩
    have L8 := L7.cur L4.C C8 f8
    obtain ⟨e0, e1, e2⟩ := L8.cell (i := i) (by omega)
    obtain ⟨o1, L9⟩ := L8.set hi L4.C (i := i) (by omega) (IntKind.i64.wrap (q - 1))
    refine ⟨_, rfl, e1, by omega, by omega, o1, fun _ => ?_⟩
    refine Tr.wp_mono fin dlA _ _ _ _ (KLe.refl _) (k_dlA hi L4.C hl (by omega) (by omega) (by rw [List.length_set]; exact hls) L9) (fun _ _ _ _ _ _ h => h)
  · refine Tr.wp_mono fin dlA _ _ _ _ (KLe.refl _) (k_dlA hi L4.C hl (by omega) (by omega) hls L7) (fun _ _ _ _ _ _ h => h)

theorem k_DrawHuffCodes (hi : Eng.Inv S h) (hx : HInts h .u8 a code) (hl : code.length ≤ 1048576) :
    CallsH Try.prog S F_spec_DrawHuffCodes #[.slice a code.length c] h (fun v h' => ∃ ys, ys.length ≤ 400 ∧ tI.O h' v ys ∧ tI.New h v ∧ Eng.Sub h h') := by
  refine run_spec_DrawHuffCodes (vs := [.slice a code.length c]) ⟨rfl, trivial⟩ hi ?_
  simp only [t_spec_DrawHuffCodes, Tr.wp, mksW, callW, Ex.ev, coerce, toInt_int, toBool_bool, slL_sl, slC_sl, slA_sl, toAddr_ptr, ptrOf_ptr, isNil_sl, isNil_ptr, it_and, it_or, it_int, optN_int, optN_nl, cmpI, arith, Cst.val, SV.den, resShs, resV, resSV, resVals, newVars, runCells, exSh, allSh, cellsAre, storeW, List.flatMap_cons, List.flatMap_nil, List.replicate_one, List.getD_cons_zero, List.getD_cons_succ, List.getElem?_cons_zero, List.getElem?_cons_succ, decide_eq_true_eq, decide_eq_false_iff_not, List.map_cons, List.map_nil, List.cons_append, List.nil_append, List.append_nil, List.length_cons, List.length_nil, Nat.zero_add, Nat.add_zero, and_true, true_and, if_true, if_false, Bool.false_eq_true]
  refine (k_l1New hi hx hl).mono ?_
  rintro _ h1 ⟨b, T, rfl, C⟩
  refine ⟨_, rfl, ?_⟩
  refine (k_l3DrawLens hi C hl).mono ?_
  rintro v h2 ⟨ys, hy, L⟩
  obtain ⟨a5, c5, rfl, _, _⟩ := L.P.ints
  exact ⟨_, _, _, rfl, ys, hy, L.P, Ty.New.mono L.N C.sub, L.C.sub⟩
end Go.Proofs.Ytchlnichbaoeaaa
