import Derived.Test.YtchlnichbaoeaaaTyI
import Derived.Test.YtchlnichbaoeaaaKDraw
import Derived.Test.YtchlnichbaoeaaaTrDL
set_option linter.unusedVariables false
set_option linter.unusedSimpArgs false
namespace Go.Proofs.Ytchlnichbaoeaaa
open Go Go.Eng Go.IntWalk
variable {S : Nat → Prop} {h h0 h' : Eng.Heap} {b : Nat} {T : TypeId} {code : List Int} {a : Option Addr} {c : Nat}

/-- A slice of numbers of one's own, beside a cursor. -/
structure LSt (h0 h h' : Eng.Heap) (b : Nat) (T : TypeId) (code : List Int) (a : Option Addr) (c : Nat) (v : Value) (ys : List Int) : Prop where
  P : Part .i64 h' v ys
  N : ∀ y, blkOf v = some y → h y = none
  C : CurAt h0 h' b T code a c
  F : ∀ y, h y ≠ none → y ≠ b → h' y = h y

theorem LSt.ne {v : Value} {ys : List Int} (H0 : CurAt h0 h b T code a c) (L : LSt h0 h h' b T code a c v ys) : blkOf v ≠ some b := fun e => H0.held (L.N b e)

/-- The cursor has gone on. -/
theorem LSt.cur {v : Value} {ys : List Int} (H0 : CurAt h0 h b T code a c) (L : LSt h0 h h' b T code a c v ys) {h2 : Eng.Heap} (C2 : CurAt h0 h2 b T code a c) (f : ∀ y, y ≠ b → h2 y = h' y) : LSt h0 h h2 b T code a c v ys :=
  ⟨L.P.keep fun y hy => f y fun e => L.ne H0 (e ▸ hy), L.N, C2, fun y hy hne => by rw [f y hne, L.F y hy hne]⟩

theorem LSt.back {v : Value} {ys : List Int} {g : Eng.Heap} (L : LSt h0 h h' b T code a c v ys) (hg : ∀ y, g y ≠ none → h y ≠ none) : ∀ y, blkOf v = some y → g y = none := fun y hy => by
  cases hh : g y with
  | none => rfl
  | some o => exact absurd (L.N y hy) (hg y (by rw [hh]; simp))

/-- One number more. -/
theorem LSt.app (hi : Eng.Inv S h0) (H0 : CurAt h0 h b T code a c) {a1 : Option Addr} {l1 c1 : Nat} {ys : List Int} (L : LSt h0 h h' b T code a c (.slice a1 l1 c1) ys) (hl : ys.length ≤ 100000) {x : Int} {b1 : Nat} (hb1 : h' b1 = none) {K : Value → Eng.Heap → Prop}
    (hK : ∀ a2 c2 h2, LSt h0 h h2 b T code a c (.slice a2 (ys.length + 1) c2) (ys ++ [x]) → K (.slice a2 (ys.length + 1) c2) h2) :
    appW S 2 1 8 [.int .i64 0] (.slice a1 l1 c1) (.slice (some ⟨b1, 0, none⟩) 1 1) (upd h' b1 (.cells #[.int .i64 x] 2)) K := by
  have s3 : Eng.Sub h' (upd h' b1 (.cells (ints .i64 [x]) 2)) := Sub.of_upd hb1
  have hnb := L.ne H0
  refine appW_part hi (L.C.sub.trans s3) (L.P.sub s3) (fun y hy => sub_none H0.sub (L.N y hy)) (ys := [x]) HInts.new (by simp only [List.length_singleton]; omega) fun v' h4 o n4 s4 keep hblk => ?_
  obtain ⟨a4, c4, rfl, _, _⟩ := o.ints
  have keep' : ∀ y, upd h' b1 (.cells (ints .i64 [x]) 2) y ≠ none → blkOf (.slice a1 l1 c1) ≠ some y → h4 y = upd h' b1 (.cells (ints .i64 [x]) 2) y := keep
  have h3b : upd h' b1 (.cells (ints .i64 [x]) 2) b = h' b := upd_ne fun e => L.C.held (e ▸ hb1)
  have el : (ys ++ [x]).length = ys.length + 1 := by simp
  rw [el] at o n4 hblk ⊢
  refine hK _ _ _ ⟨o, ?_, L.C.keep s4 (by rw [keep' b (by rw [h3b]; exact L.C.held) hnb, h3b]), fun y hy1 hy2 => ?_⟩
  · rcases hblk with e | e
    · intro y hy; rw [e] at hy; exact L.N y hy
    · intro y hy2
      have h5 : upd h' b1 (.cells (ints .i64 [x]) 2) y = none := e y hy2
      have h6 := sub_none s3 h5
      by_cases hyb : y = b
      · subst hyb; exact absurd h6 L.C.held
      · cases hh : h y with
        | none => rfl
        | some o => rw [L.F y (by rw [hh]; simp) hyb, hh] at h6; cases h6
  · have h5 : h' y = h y := L.F y hy1 hy2
    have h6 : upd h' b1 (.cells (ints .i64 [x]) 2) y = h' y := upd_ne fun e => hy1 (by rw [← h5, e]; exact hb1)
    rw [keep' y (by rw [h6, h5]; exact hy1) (fun e => hy1 (L.N y e)), h6, h5]

theorem LSt.cell {a1 : Option Addr} {l1 c1 : Nat} {ys : List Int} (L : LSt h0 h h' b T code a c (.slice a1 l1 c1) ys) {i : Nat} (hi : i < ys.length) : l1 = ys.length ∧ (!a1.isNone) = true ∧ hcell h' (((a1.getD default).add (i * 1)).add 0) = some (.int .i64 ys[i]) := by
  obtain ⟨a', c', e, _, hxx⟩ := L.P.ints
  simp only [Value.slice.injEq] at e
  obtain ⟨rfl, rfl, rfl⟩ := e
  obtain ⟨g1, g2⟩ := hxx.cell (List.getElem?_eq_getElem hi)
  exact ⟨rfl, by simpa using g2, by simpa [add_add] using g1⟩

/-- One number set. -/
theorem LSt.set (hi : Eng.Inv S h0) (H0 : CurAt h0 h b T code a c) {a1 : Option Addr} {l1 c1 : Nat} {ys : List Int} (L : LSt h0 h h' b T code a c (.slice a1 l1 c1) ys) {i : Nat} (hil : i < ys.length) (x : Int) :
    okCell S h' (((a1.getD default).add (i * 1)).add 0) ∧ LSt h0 h (hset h' (((a1.getD default).add (i * 1)).add 0) (.int .i64 x)) b T code a c (.slice a1 l1 c1) (ys.set i x) := by
  have hnb := L.ne H0
  have hN := L.N
  rcases L.P with ⟨_, rfl⟩ | ⟨q, pr, sp, re, Ty, e, hb⟩
  · simp at hil
  · cases e
    have hq : h q = none := hN q rfl
    have hq0 : h0 q = none := sub_none H0.sub hq
    have hsb : ¬ S q := fun hs => hi q hs hq0
    have e1 : (((some (⟨q, pr.length, none⟩ : Addr)).getD default).add (i * 1)).add 0 = (⟨q, pr.length + i, none⟩ : Addr) := by
      rw [add_add, Option.getD_some, addr_add]; simp
    have hsz : pr.length + i < (ints .i64 (pr ++ ys ++ sp ++ re)).size := by rw [ints_size]; simp; omega
    rw [e1, hset_cells hb, ints_set]
    have e2 : (pr ++ ys ++ sp ++ re).set (pr.length + i) x = pr ++ ys.set i x ++ sp ++ re := by
      rw [List.append_assoc, List.append_assoc, List.set_append_right _ _ (by omega), Nat.add_sub_cancel_left, List.set_append_left _ _ hil]
      simp [List.append_assoc]
    rw [e2]
    have hqb : q ≠ b := fun e => hnb (by rw [← e]; rfl)
    refine ⟨⟨⟨(ints .i64 (pr ++ ys ++ sp ++ re))[pr.length + i], by simp [hcell, hb, hsz]⟩, by simp [hfrozen, hb], hsb⟩, .inr ⟨q, pr, sp, re, Ty, by simp, upd_same⟩, fun y hy => by cases hy; exact hq, ?_, fun y hy hne => ?_⟩
    · refine L.C.keep (fun y o hy => ?_) (upd_ne (Ne.symm hqb))
      rw [upd_ne (fun e => by rw [e, hq0] at hy; cases hy)]
      exact L.C.sub y o hy
    · rw [upd_ne (fun e => by rw [e] at hy; exact hy hq)]
      exact L.F y hy hne

theorem LSt.new (H0 : CurAt h0 h b T code a c) {b1 : Nat} (hb1 : h b1 = none) (ys : List Int) : LSt h0 h (upd h b1 (.cells (ints .i64 ys) 2)) b T code a c (.slice (some ⟨b1, 0, none⟩) ys.length ys.length) ys :=
  ⟨(Own.made ys).part, New.of hb1, H0.mono (Sub.of_upd hb1), fun y hy _ => upd_ne fun e => hy (e ▸ hb1)⟩

/-- The numbers of a call. -/
def LPost (h0 h : Eng.Heap) (b : Nat) (T : TypeId) (code : List Int) (a : Option Addr) (c : Nat) (P : List Int → Prop) (v : Value) (h' : Eng.Heap) : Prop := ∃ ys, P ys ∧ LSt h0 h h' b T code a c v ys

set_option maxHeartbeats 1000000 in
theorem k_l3Pick (hi : Eng.Inv S h0) (H : CurAt h0 h b T code a c) (hl : code.length ≤ 1048576) (n k : Nat) (hn : n ≤ 100) (hk : k ≤ 1000) :
    CallsH Try.prog S F_spec_l3Pick #[.pointer (some ⟨b, 0, none⟩), .int .i64 n, .int .i64 k] h (LPost h0 h b T code a c fun ys => ys.length ≤ n ∧ ∀ y ∈ ys, 0 ≤ y ∧ y < n) := by
  refine run_spec_l3Pick (vs := [.pointer (some ⟨b, 0, none⟩), .int .i64 n, .int .i64 k]) ⟨rfl, rfl, rfl, trivial⟩ (hi.sub H.sub) ?_
  simp only [t_spec_l3Pick, Tr.wp, mksW, callW, Ex.ev, coerce, toInt_int, toBool_bool, slL_sl, slC_sl, slA_sl, toAddr_ptr, ptrOf_ptr, isNil_sl, isNil_ptr, it_and, it_or, it_int, optN_int, optN_nl, cmpI, arith, Cst.val, SV.den, resShs, resV, resSV, resVals, newVars, runCells, exSh, allSh, cellsAre, storeW, List.flatMap_cons, List.flatMap_nil, List.replicate_one, List.getD_cons_zero, List.getD_cons_succ, List.getElem?_cons_zero, List.getElem?_cons_succ, decide_eq_true_eq, decide_eq_false_iff_not, List.map_cons, List.map_nil, List.cons_append, List.nil_append, List.append_nil, List.length_cons, List.length_nil, Nat.zero_add, Nat.add_zero, and_true, true_and, if_true, if_false, Bool.false_eq_true]
  intro b0 hb0
  refine ⟨fun us h' => ∃ (a1 : Option Addr) (c1 i : Nat) (ys : List Int), us = [.slice a1 ys.length c1, .int .i64 i] ∧ i ≤ n ∧ ys.length ≤ i ∧ (∀ y ∈ ys, 0 ≤ y ∧ y < (n : Int)) ∧ LSt h0 h h' b T code a c (.slice a1 ys.length c1) ys,
    fun us _ => n - (toInt (us.getD 1 undef)).toNat, ⟨_, _, 0, [], rfl, by omega, by simp, by simp, LSt.new H hb0 []⟩, ?_⟩
  rintro a1 l1 c1 x h' ⟨a1', c1', i, ys, hx1, hi2, hy, hr, L⟩
  simp only [List.cons.injEq, Value.int.injEq, Value.slice.injEq, true_and, and_true] at hx1
  obtain ⟨⟨rfl, rfl, rfl⟩, rfl⟩ := hx1
  refine ⟨fun hlt => ?_, fun hge => ⟨ys, ⟨by omega, hr⟩, L⟩⟩
  have hlt : (i : Int) < n := by simp at hlt; omega
  have w1 : IntKind.i64.wrap ((n : Int) - (i : Int)) = ((n - i : Nat) : Int) := by rw [i64_in _ (by omega)]; omega
  have w4 : IntKind.i64.wrap ((i : Int) + 1) = ((i + 1 : Nat) : Int) := by rw [i64_in _ (by omega)]; omega
  rw [w1, w4]
  refine (k_l1Below hi L.C hl ((n - i : Nat) : Int) (by omega) (by omega)).mono ?_
  rintro _ h3 ⟨x, rfl, x0, x1, C3, f3⟩
  have L3 := L.cur H C3 f3
  have meas : n - (toInt (Value.int .i64 ((i + 1 : Nat) : Int))).toNat < n - (toInt (Value.int .i64 (i : Int))).toNat := by rw [toInt_int, toInt_int]; omega
  refine ⟨_, rfl, fun hp b1 hb1 => ?_, fun hp _ => ?_⟩
  · refine LSt.app hi H L3 (by omega) hb1 fun a2 c2 h2 L4 => ?_
    simp only [slA_sl, slL_sl, slC_sl]
    have el : (ys ++ [(i : Int)]).length = ys.length + 1 := by simp
    rw [← el] at L4 ⊢
    exact fun _ => ⟨⟨a2, c2, i + 1, ys ++ [(i : Int)], rfl, by omega, by omega, fun y hy => by
      rcases List.mem_append.1 hy with hy | hy
      · exact hr y hy
      · simp only [List.mem_singleton] at hy; omega, L4⟩, meas⟩
  · exact ⟨⟨_, _, i + 1, ys, rfl, by omega, by omega, hr, L3⟩, meas⟩

set_option maxHeartbeats 2000000 in
theorem k_l3Leaves (hi : Eng.Inv S h0) (H : CurAt h0 h b T code a c) (hl : code.length ≤ 1048576) (n : Nat) (hn : n ≤ 100) (m : Int) :
    CallsH Try.prog S F_spec_l3Leaves #[.pointer (some ⟨b, 0, none⟩), .int .i64 n, .int .i64 m] h (LPost h0 h b T code a c fun ys => ys.length ≤ 1000) := by
  refine run_spec_l3Leaves (vs := [.pointer (some ⟨b, 0, none⟩), .int .i64 n, .int .i64 m]) ⟨rfl, rfl, rfl, trivial⟩ (hi.sub H.sub) ?_
  simp only [t_spec_l3Leaves, Tr.wp, mksW, callW, Ex.ev, coerce, toInt_int, toBool_bool, slL_sl, slC_sl, slA_sl, toAddr_ptr, ptrOf_ptr, isNil_sl, isNil_ptr, it_and, it_or, it_int, optN_int, optN_nl, cmpI, arith, Cst.val, SV.den, resShs, resV, resSV, resVals, newVars, runCells, exSh, allSh, cellsAre, storeW, List.flatMap_cons, List.flatMap_nil, List.replicate_one, List.getD_cons_zero, List.getD_cons_succ, List.getElem?_cons_zero, List.getElem?_cons_succ, decide_eq_true_eq, decide_eq_false_iff_not, List.map_cons, List.map_nil, List.cons_append, List.nil_append, List.append_nil, List.length_cons, List.length_nil, Nat.zero_add, Nat.add_zero, and_true, true_and, if_true, if_false, Bool.false_eq_true]
  intro b0 hb0
  refine ⟨fun us h' => ∃ (a1 : Option Addr) (c1 : Nat) (ys : List Int), us = [.slice a1 ys.length c1] ∧ 2 ≤ ys.length ∧ ys.length ≤ 102 ∧ LSt h0 h h' b T code a c (.slice a1 ys.length c1) ys,
    fun us _ => 200 - slL (us.getD 0 undef), ⟨_, _, [1, 1], rfl, by simp, by simp, LSt.new H hb0 [1, 1]⟩, ?_⟩
  rintro a1 l1 c1 h' ⟨a1', c1', ys, hx1, hy2, hy, L⟩
  simp only [List.cons.injEq, Value.slice.injEq, and_true] at hx1
  obtain ⟨rfl, rfl, rfl⟩ := hx1
  refine ⟨fun hlt => ?_, fun hge => ⟨ys, by omega, L⟩⟩
  refine (k_l1Below hi L.C hl ((ys.length : Nat) : Int) (by omega) (by omega)).mono ?_
  rintro _ h3 ⟨x, rfl, x0, x1, C3, f3⟩
  have L3 := L.cur H C3 f3
  refine ⟨_, rfl, ?_⟩
  refine ⟨fun us h' => ∃ i k : Nat, us = [.int .i64 i, .int .i64 k] ∧ i < ys.length ∧ k ≤ ys.length ∧ h' = h3, fun us _ => 200 - (toInt (us.getD 1 undef)).toNat, ?_, ?_⟩
  · obtain ⟨i, rfl⟩ := Int.eq_ofNat_of_zero_le x0
    exact ⟨i, 0, rfl, by omega, by omega, rfl⟩
  rintro x y h4 ⟨i, k, hx2, hi2, hk2, rfl⟩
  simp only [List.cons.injEq, Value.int.injEq, true_and, and_true] at hx2
  obtain ⟨rfl, rfl⟩ := hx2
  obtain ⟨_, g2, g3⟩ := L3.cell hi2
  refine ⟨g2, by omega, by omega, _, g3, fun hgo => ?_, fun hst => ?_⟩
  · have hkl : (k : Int) < ys.length := by simp at hgo; omega
    have w1 : IntKind.i64.wrap ((i : Int) + 1) = ((i + 1 : Nat) : Int) := by rw [i64_in _ (by omega)]; omega
    have w2 : IntKind.i64.wrap ((k : Int) + 1) = ((k + 1 : Nat) : Int) := by rw [i64_in _ (by omega)]; omega
    have w3 : ((i + 1 : Nat) : Int).tmod ((ys.length : Nat) : Int) = (((i + 1) % ys.length : Nat) : Int) := by rw [Int.tmod_eq_emod_of_nonneg (by omega)]; exact (Int.natCast_emod _ _).symm
    have hz : (ys.length : Int) ≠ 0 := by omega
    rw [w1, w2, w3]
    refine ⟨by simpa using hz, ⟨_, _, rfl, Nat.mod_lt _ (by omega), by omega, rfl⟩, ?_⟩
    show 200 - (toInt (Value.int .i64 ((k + 1 : Nat) : Int))).toNat < 200 - (toInt (Value.int .i64 (k : Int))).toNat
    rw [toInt_int, toInt_int]; omega
  · refine ⟨g2, by omega, by omega, _, g3, fun _ => ⟨ys, by omega, L3⟩, fun _ => ⟨g2, by omega, by omega, _, g3, g2, by omega, by omega, ?_⟩⟩
    obtain ⟨o1, L4⟩ := L3.set hi H hi2 (IntKind.i64.wrap (ys[i] + 1))
    obtain ⟨zs, hzs⟩ : ∃ zs, zs = ys.set i (IntKind.i64.wrap (ys[i] + 1)) := ⟨_, rfl⟩
    rw [← hzs] at L4
    have hl4 : zs.length = ys.length := by rw [hzs, List.length_set]
    have hi4 : i < zs.length := by omega
    refine ⟨o1, g2, by omega, by omega, ?_⟩
    obtain ⟨_, g5, g6⟩ := L4.cell hi4
    refine ⟨_, g6, fun b1 hb1 => ?_⟩
    refine LSt.app hi H L4 (by omega) hb1 fun a2 c2 h2 L5 => ?_
    simp only [slA_sl, slL_sl, slC_sl]
    have hl5 : zs.length + 1 = (zs ++ [zs[i]]).length := by simp
    rw [hl5] at L5 ⊢
    refine ⟨⟨_, _, _, rfl, by rw [← hl5]; omega, by rw [← hl5]; omega, L5⟩, ?_⟩
    show 200 - slL (Value.slice a2 _ c2) < 200 - slL (Value.slice a1 ys.length c1)
    rw [slL_sl, slL_sl, ← hl5]; omega

end Go.Proofs.Ytchlnichbaoeaaa
