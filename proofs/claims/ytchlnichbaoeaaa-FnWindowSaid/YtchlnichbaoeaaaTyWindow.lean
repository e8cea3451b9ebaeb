import Derived.Test.YtchlnichbaoeaaaTyB
import Derived.Test.YtchlnichbaoeaaaTrWN
set_option linter.unusedVariables false
set_option linter.unusedSimpArgs false
namespace Go.Proofs.Ytchlnichbaoeaaa
open Go Go.Eng Go.IntWalk
abbrev XWindow := Int × List Int × Unit
def tWindow : Ty Value XWindow := tyAgg (tyCons (tyInt .i64) (tyCons tB (tyNil)))
theorem tWindow_R {h : Eng.Heap} {v : Value} {x : XWindow} (H : tWindow.R h v x) : ∃ u1, v = .agg #[Value.int .i64 x.1, u1] ∧ tB.R h u1 x.2.1 := by
  obtain ⟨_, rfl, _, _, rfl, (rfl : _ = _), ⟨u1, _, rfl, H1, ⟨rfl⟩⟩⟩ := H
  exact ⟨u1, rfl, H1⟩
theorem tWindow_mkR {h : Eng.Heap} {x : XWindow} {u1 : Value} (H1 : tB.R h u1 x.2.1) : tWindow.R h (.agg #[Value.int .i64 x.1, u1]) x := by
  unfold tWindow; simp only [tyAgg_R, tyCons_R, tyInt_R, tyBool_R, tyNil_R]; exact ⟨by first | rfl | trivial, H1, by first | rfl | trivial⟩
theorem tWindow_O {h : Eng.Heap} {v : Value} {x : XWindow} (H : tWindow.O h v x) : ∃ u1, v = .agg #[Value.int .i64 x.1, u1] ∧ tB.O h u1 x.2.1 := by
  obtain ⟨_, rfl, _, _, rfl, (rfl : _ = _), ⟨u1, _, rfl, H1, ⟨rfl⟩, d1⟩, d0⟩ := H
  exact ⟨u1, rfl, H1⟩
theorem tWindow_mkO {h : Eng.Heap} {x : XWindow} {u1 : Value} (H1 : tB.O h u1 x.2.1) : tWindow.O h (.agg #[Value.int .i64 x.1, u1]) x := by
  unfold tWindow; simp only [tyAgg_O, tyCons_O, tyInt_O, tyBool_O, tyNil_O, tyCons_B, tyNil_B, tyInt_B, tyBool_B, false_or, or_false, not_false_eq_true, implies_true, and_true, true_and, forall_false, false_implies]
  first | exact H1 | simp_all
theorem tWindow_B {u1 : Value} {b : Nat} {x : XWindow} : tWindow.B (.agg #[Value.int .i64 x.1, u1]) b ↔ tB.B u1 b := by
  unfold tWindow; simp only [tyAgg_B, tyCons_B, tyNil_B, tyInt_B, tyBool_B, false_or, or_false]
theorem tWindow_F {h : Eng.Heap} {v : Value} {x : XWindow} (H : tWindow.R h v x) : ∃ a1 c1, v = .agg #[Value.int .i64 x.1, .slice a1 x.2.1.length c1] := by
  obtain ⟨u1, rfl, H1⟩ := tWindow_R H
  obtain ⟨a1, c1, rfl, _⟩ := H1
  exact ⟨_, _, rfl⟩
theorem tWindow_invR {h : Eng.Heap} {e0 e1 : Value} {x : XWindow} (H : tWindow.R h (.agg #[e0, e1]) x) : tB.R h e1 x.2.1 := by
  unfold tWindow at H
  simp only [tyAgg_R, tyCons_R] at H
  exact H.2.1
theorem tWindow_invO {h : Eng.Heap} {e0 e1 : Value} {x : XWindow} (H : tWindow.O h (.agg #[e0, e1]) x) : tB.O h e1 x.2.1 := by
  unfold tWindow at H
  simp only [tyAgg_O, tyCons_O] at H
  exact H.2.1.1
variable {S : Nat → Prop} {h : Eng.Heap} {v w : Value} {x : XWindow}
def smWindow (x : XWindow) : Prop := smB x.2.1
def limWindow (x : XWindow) : Prop := limB x.2.1
theorem limWindow_sm {x : XWindow} (H : limWindow x) : smWindow x := limB_sm H
def cntWindow (x : XWindow) : Nat := cntB x.2.1
theorem cntWindow_le {x : XWindow} (H : smWindow x) : cntWindow x ≤ 1125899906842 := cntB_le H
def mkWindow (k : Int) (x : XWindow) : XWindow := (x.1, mkB k x.2.1, ())

theorem c_toWindow (hi : Eng.Inv S h) (H : tWindow.R h v x) (hs : smWindow x) :
    CallsH Try.prog S F_laws_toWindow #[v] h (fun u h' => tWindow.O h' u x ∧ tWindow.New h u ∧ Eng.Sub h h') := by
  obtain ⟨u0, rfl, H0⟩ := tWindow_R H
  obtain ⟨a, c, rfl⟩ := tB_form H0
  refine run_laws_toWindow (vs := [.int .i64 x.1, .slice a x.2.1.length c]) ⟨rfl, rfl, trivial⟩ hi ?_
  simp only [t_laws_toWindow, Tr.wp, mksW, callW, Ex.ev, coerce, toInt_int, toBool_bool, slL_sl, slC_sl, slA_sl, toAddr_ptr, ptrOf_ptr, isNil_sl, isNil_ptr, it_and, it_or, it_int, optN_int, optN_nl, cmpI, arith, Cst.val, SV.den, resShs, resV, resSV, resVals, newVars, runCells, exSh, allSh, cellsAre, storeW, List.flatMap_cons, List.flatMap_nil, List.replicate_one, List.getD_cons_zero, List.getD_cons_succ, List.getElem?_cons_zero, List.getElem?_cons_succ, decide_eq_true_eq, decide_eq_false_iff_not, List.map_cons, List.map_nil, List.cons_append, List.nil_append, List.append_nil, List.length_cons, List.length_nil, Nat.zero_add, Nat.add_zero, and_true, true_and, if_true, if_false, Bool.false_eq_true]
  refine (c_toB hi H0 hs).mono ?_
  rintro _ h1 ⟨O1, N1, s1⟩
  obtain ⟨b, e, rfl⟩ := tB_form (tB.OR O1)
  exact ⟨_, _, _, rfl, tWindow_mkO O1, fun b hb => N1 b (tWindow_B.1 hb), s1⟩

theorem c_eqWindow (hi : Eng.Inv S h) (H : tWindow.R h v x) (H2 : tWindow.R h w x) (hs : smWindow x) :
    CallsH Try.prog S F_laws_eqWindow #[v, w] h (fun u h' => u = .bool true ∧ h' = h) := by
  obtain ⟨u0, rfl, H0⟩ := tWindow_R H
  obtain ⟨u2, rfl, H3⟩ := tWindow_R H2
  obtain ⟨a, c, rfl⟩ := tB_form H0
  obtain ⟨a2, c2, rfl⟩ := tB_form H3
  refine run_laws_eqWindow (vs := [.int .i64 x.1, .slice a x.2.1.length c, .int .i64 x.1, .slice a2 x.2.1.length c2]) ⟨rfl, rfl, rfl, rfl, trivial⟩ hi ?_
  simp only [t_laws_eqWindow, Tr.wp, mksW, callW, Ex.ev, coerce, toInt_int, toBool_bool, slL_sl, slC_sl, slA_sl, toAddr_ptr, ptrOf_ptr, isNil_sl, isNil_ptr, it_and, it_or, it_int, optN_int, optN_nl, cmpI, arith, Cst.val, SV.den, resShs, resV, resSV, resVals, newVars, runCells, exSh, allSh, cellsAre, storeW, List.flatMap_cons, List.flatMap_nil, List.replicate_one, List.getD_cons_zero, List.getD_cons_succ, List.getElem?_cons_zero, List.getElem?_cons_succ, decide_eq_true_eq, decide_eq_false_iff_not, List.map_cons, List.map_nil, List.cons_append, List.nil_append, List.append_nil, List.length_cons, List.length_nil, Nat.zero_add, Nat.add_zero, and_true, true_and, if_true, if_false, Bool.false_eq_true]
  refine ⟨fun hne => by simp at hne, fun _ => ?_⟩
  refine (c_eqB hi H0 H3 hs).mono ?_
  rintro _ hq ⟨rfl, eq⟩
  rw [eq]
  exact ⟨_, rfl, by simp, by simp⟩

theorem c_markWindow (hi : Eng.Inv S h) (H : tWindow.O h v x) (hb : ∀ b, tWindow.B v b → ¬ S b) (k : Int) (k0 : 0 ≤ k) (k1 : k ≤ 1125899906842624) (hs : smWindow x) :
    CallsH Try.prog S F_laws_markWindow #[v, .int .i64 k] h (fun u h' => u = .int .i64 (k + cntWindow x) ∧ tWindow.O h' v (mkWindow k x) ∧ ∀ b, ¬ tWindow.B v b → h' b = h b) := by
  obtain ⟨u0, rfl, H0⟩ := tWindow_O H
  obtain ⟨a, c, rfl⟩ := tB_form (tB.OR H0)
  refine run_laws_markWindow (vs := [.int .i64 x.1, .slice a x.2.1.length c, .int .i64 k]) ⟨rfl, rfl, rfl, trivial⟩ hi ?_
  simp only [t_laws_markWindow, Tr.wp, mksW, callW, Ex.ev, coerce, toInt_int, toBool_bool, slL_sl, slC_sl, slA_sl, toAddr_ptr, ptrOf_ptr, isNil_sl, isNil_ptr, it_and, it_or, it_int, optN_int, optN_nl, cmpI, arith, Cst.val, SV.den, resShs, resV, resSV, resVals, newVars, runCells, exSh, allSh, cellsAre, storeW, List.flatMap_cons, List.flatMap_nil, List.replicate_one, List.getD_cons_zero, List.getD_cons_succ, List.getElem?_cons_zero, List.getElem?_cons_succ, decide_eq_true_eq, decide_eq_false_iff_not, List.map_cons, List.map_nil, List.cons_append, List.nil_append, List.append_nil, List.length_cons, List.length_nil, Nat.zero_add, Nat.add_zero, and_true, true_and, if_true, if_false, Bool.false_eq_true]
  refine (c_markB hi H0 (fun b hB => hb b (tWindow_B.2 hB)) k k0 k1 hs).mono ?_
  rintro _ h' ⟨rfl, O1, f⟩
  exact ⟨_, rfl, rfl, tWindow_mkO (x := mkWindow k x) O1, fun b hB => f b fun h => hB (tWindow_B.2 h)⟩

theorem c_heldWindow (hi : Eng.Inv S h) (k : Int) (H : tWindow.R h v (mkWindow k x)) (k0 : 0 ≤ k) (k1 : k ≤ 1125899906842624) (hs : smWindow x) :
    CallsH Try.prog S F_laws_heldWindow #[v, .int .i64 k] h (fun u h' => u = .int .i64 (k + cntWindow x) ∧ h' = h) := by
  obtain ⟨u0, rfl, H0⟩ := tWindow_R H
  obtain ⟨a, c, rfl⟩ := tB_form H0
  refine run_laws_heldWindow (vs := [.int .i64 x.1, .slice a (mkWindow k x).2.1.length c, .int .i64 k]) ⟨rfl, rfl, rfl, trivial⟩ hi ?_
  simp only [t_laws_heldWindow, Tr.wp, mksW, callW, Ex.ev, coerce, toInt_int, toBool_bool, slL_sl, slC_sl, slA_sl, toAddr_ptr, ptrOf_ptr, isNil_sl, isNil_ptr, it_and, it_or, it_int, optN_int, optN_nl, cmpI, arith, Cst.val, SV.den, resShs, resV, resSV, resVals, newVars, runCells, exSh, allSh, cellsAre, storeW, List.flatMap_cons, List.flatMap_nil, List.replicate_one, List.getD_cons_zero, List.getD_cons_succ, List.getElem?_cons_zero, List.getElem?_cons_succ, decide_eq_true_eq, decide_eq_false_iff_not, List.map_cons, List.map_nil, List.cons_append, List.nil_append, List.append_nil, List.length_cons, List.length_nil, Nat.zero_add, Nat.add_zero, and_true, true_and, if_true, if_false, Bool.false_eq_true]
  refine (c_heldB hi k H0 k0 k1 hs).mono ?_
  rintro _ hq ⟨rfl, eq⟩
  exact ⟨_, rfl, fun hn => by omega, fun _ => ⟨rfl, eq⟩⟩

theorem c_szWindow (hi : Eng.Inv S h) (H : tWindow.R h v x) (hl : x.2.1.length ≤ maxLen) :
    CallsH Try.prog S F_laws_szWindow #[v, .int .i64 1048576] h (fun u h' => ∃ k, u = .int .i64 k ∧ h' = h ∧ (0 ≤ k → limWindow x)) := by
  obtain ⟨u0, rfl, a, c, rfl, hx⟩ := tWindow_R H
  refine run_laws_szWindow (vs := [.int .i64 x.1, .slice a x.2.1.length c, .int .i64 1048576]) ⟨rfl, rfl, rfl, trivial⟩ hi ?_
  simp only [t_laws_szWindow, Tr.wp, mksW, callW, Ex.ev, coerce, toInt_int, toBool_bool, slL_sl, slC_sl, slA_sl, toAddr_ptr, ptrOf_ptr, isNil_sl, isNil_ptr, it_and, it_or, it_int, optN_int, optN_nl, cmpI, arith, Cst.val, SV.den, resShs, resV, resSV, resVals, newVars, runCells, exSh, allSh, cellsAre, storeW, List.flatMap_cons, List.flatMap_nil, List.replicate_one, List.getD_cons_zero, List.getD_cons_succ, List.getElem?_cons_zero, List.getElem?_cons_succ, decide_eq_true_eq, decide_eq_false_iff_not, List.map_cons, List.map_nil, List.cons_append, List.nil_append, List.append_nil, List.length_cons, List.length_nil, Nat.zero_add, Nat.add_zero, and_true, true_and, if_true, if_false, Bool.false_eq_true]
  refine (k_szByteS hi a _ c _).mono ?_
  rintro _ hq ⟨rfl, eq⟩
  have hml : maxLen = 9223372036854775807 := rfl
  have w1 : IntKind.i64.wrap (1048576 - (x.2.1.length : Int)) = 1048576 - x.2.1.length := i64_in _ (by omega)
  rw [w1]
  refine ⟨_, rfl, fun hlt => ⟨-1, rfl, eq, fun h => by omega⟩, fun hge => ⟨_, rfl, eq, fun hk => ?_⟩⟩
  show x.2.1.length ≤ 1048576
  by_cases h0 : (1048576 : Int) - x.2.1.length < 0
  · rw [if_pos h0] at hk; omega
  · omega
end Go.Proofs.Ytchlnichbaoeaaa
