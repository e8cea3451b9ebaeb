import Derived.Test.YtchlnichbaoeaaaTyWindow
import Derived.Test.YtchlnichbaoeaaaTrWC
set_option linter.unusedVariables false
set_option linter.unusedSimpArgs false
namespace Go.Proofs.Ytchlnichbaoeaaa
open Go Go.Eng Go.IntWalk
abbrev XCopyRes := Bool × List Int × Int × List Int × Unit
def tCopyRes : Ty Value XCopyRes := tyAgg (tyCons tyBool (tyCons tB (tyCons (tyInt .i64) (tyCons tB (tyNil)))))
theorem tCopyRes_R {h : Eng.Heap} {v : Value} {x : XCopyRes} (H : tCopyRes.R h v x) : ∃ u1 u3, v = .agg #[Value.bool x.1, u1, Value.int .i64 x.2.2.1, u3] ∧ tB.R h u1 x.2.1 ∧ tB.R h u3 x.2.2.2.1 := by
  obtain ⟨_, rfl, _, _, rfl, (rfl : _ = _), ⟨u1, _, rfl, H1, ⟨_, _, rfl, (rfl : _ = _), ⟨u3, _, rfl, H3, ⟨rfl⟩⟩⟩⟩⟩ := H
  exact ⟨u1, u3, rfl, H1, H3⟩
theorem tCopyRes_mkR {h : Eng.Heap} {x : XCopyRes} {u1 u3 : Value} (H1 : tB.R h u1 x.2.1) (H3 : tB.R h u3 x.2.2.2.1) : tCopyRes.R h (.agg #[Value.bool x.1, u1, Value.int .i64 x.2.2.1, u3]) x := by
  unfold tCopyRes; simp only [tyAgg_R, tyCons_R, tyInt_R, tyBool_R, tyNil_R]; exact ⟨by first | rfl | trivial, H1, by first | rfl | trivial, H3, by first | rfl | trivial⟩
theorem tCopyRes_O {h : Eng.Heap} {v : Value} {x : XCopyRes} (H : tCopyRes.O h v x) : ∃ u1 u3, v = .agg #[Value.bool x.1, u1, Value.int .i64 x.2.2.1, u3] ∧ tB.O h u1 x.2.1 ∧ tB.O h u3 x.2.2.2.1 ∧ (∀ b, tB.B u1 b → ¬ tB.B u3 b) := by
  obtain ⟨_, rfl, _, _, rfl, (rfl : _ = _), ⟨u1, _, rfl, H1, ⟨_, _, rfl, (rfl : _ = _), ⟨u3, _, rfl, H3, ⟨rfl⟩, d3⟩, d2⟩, d1⟩, d0⟩ := H
  exact ⟨u1, u3, rfl, H1, H3, fun b h1 h2 => d1 b h1 (by simp only [tyCons_B, tyNil_B, tyInt_B, tyBool_B, false_or, or_false]; simp [h2])⟩
theorem tCopyRes_mkO {h : Eng.Heap} {x : XCopyRes} {u1 u3 : Value} (H1 : tB.O h u1 x.2.1) (H3 : tB.O h u3 x.2.2.2.1) (d0 : (∀ b, tB.B u1 b → ¬ tB.B u3 b)) : tCopyRes.O h (.agg #[Value.bool x.1, u1, Value.int .i64 x.2.2.1, u3]) x := by
  unfold tCopyRes; simp only [tyAgg_O, tyCons_O, tyInt_O, tyBool_O, tyNil_O, tyCons_B, tyNil_B, tyInt_B, tyBool_B, false_or, or_false, not_false_eq_true, implies_true, and_true, true_and, forall_false, false_implies]
  first | exact ⟨H1, H3, d0⟩ | simp_all
theorem tCopyRes_B {u1 u3 : Value} {b : Nat} {x : XCopyRes} : tCopyRes.B (.agg #[Value.bool x.1, u1, Value.int .i64 x.2.2.1, u3]) b ↔ tB.B u1 b ∨ tB.B u3 b := by
  unfold tCopyRes; simp only [tyAgg_B, tyCons_B, tyNil_B, tyInt_B, tyBool_B, false_or, or_false]
theorem tCopyRes_F {h : Eng.Heap} {v : Value} {x : XCopyRes} (H : tCopyRes.R h v x) : ∃ a1 c1 a3 c3, v = .agg #[Value.bool x.1, .slice a1 x.2.1.length c1, Value.int .i64 x.2.2.1, .slice a3 x.2.2.2.1.length c3] := by
  obtain ⟨u1, u3, rfl, H1, H3⟩ := tCopyRes_R H
  obtain ⟨a1, c1, rfl, _⟩ := H1
  obtain ⟨a3, c3, rfl, _⟩ := H3
  exact ⟨_, _, _, _, rfl⟩
theorem tCopyRes_invR {h : Eng.Heap} {e0 e1 e2 e3 : Value} {x : XCopyRes} (H : tCopyRes.R h (.agg #[e0, e1, e2, e3]) x) : tB.R h e1 x.2.1 ∧ tB.R h e3 x.2.2.2.1 := by
  unfold tCopyRes at H
  simp only [tyAgg_R, tyCons_R] at H
  exact ⟨H.2.1, H.2.2.2.1⟩
theorem tCopyRes_invO {h : Eng.Heap} {e0 e1 e2 e3 : Value} {x : XCopyRes} (H : tCopyRes.O h (.agg #[e0, e1, e2, e3]) x) : tB.O h e1 x.2.1 ∧ tB.O h e3 x.2.2.2.1 := by
  unfold tCopyRes at H
  simp only [tyAgg_O, tyCons_O] at H
  exact ⟨H.2.1.1, H.2.1.2.1.2.1.1⟩
variable {S : Nat → Prop} {h : Eng.Heap} {v w : Value} {x : XCopyRes}
def smCopyRes (x : XCopyRes) : Prop := smB x.2.1 ∧ smWindow x.2.2
def cntCopyRes (x : XCopyRes) : Nat := cntB x.2.1 + cntWindow x.2.2
theorem cntCopyRes_le {x : XCopyRes} (H : smCopyRes x) : cntCopyRes x ≤ 1125899906842624 := by
  have h1 : x.2.1.length ≤ 1099511627776 := H.1
  have h2 : x.2.2.2.1.length ≤ 1099511627776 := H.2
  show x.2.1.length + x.2.2.2.1.length ≤ _
  omega
def mkCopyRes (k : Int) (x : XCopyRes) : XCopyRes := (x.1, mkB k x.2.1, mkWindow (k + cntB x.2.1) x.2.2)

theorem c_eqCopyRes (hi : Eng.Inv S h) (H : tCopyRes.R h v x) (H2 : tCopyRes.R h w x) (hs : smCopyRes x) :
    CallsH Try.prog S F_laws_eqCopyRes #[v, w] h (fun u h' => u = .bool true ∧ h' = h) := by
  obtain ⟨d0, u0, rfl, D0, H0⟩ := tCopyRes_R H
  obtain ⟨d2, u2, rfl, D2, H3⟩ := tCopyRes_R H2
  obtain ⟨a, c, rfl⟩ := tB_form H0
  obtain ⟨a2, c2, rfl⟩ := tB_form H3
  obtain ⟨a4, c4, rfl⟩ := tB_form D0
  obtain ⟨a5, c5, rfl⟩ := tB_form D2
  refine run_laws_eqCopyRes (vs := [.bool x.1, .slice a4 x.2.1.length c4, .int .i64 x.2.2.1, .slice a x.2.2.2.1.length c, .bool x.1, .slice a5 x.2.1.length c5, .int .i64 x.2.2.1, .slice a2 x.2.2.2.1.length c2]) ⟨rfl, rfl, rfl, rfl, rfl, rfl, rfl, rfl, trivial⟩ hi ?_
  simp only [t_laws_eqCopyRes, Tr.wp, mksW, callW, Ex.ev, coerce, toInt_int, toBool_bool, slL_sl, slC_sl, slA_sl, toAddr_ptr, ptrOf_ptr, isNil_sl, isNil_ptr, it_and, it_or, it_int, optN_int, optN_nl, cmpI, arith, Cst.val, SV.den, resShs, resV, resSV, resVals, newVars, runCells, exSh, allSh, cellsAre, storeW, List.flatMap_cons, List.flatMap_nil, List.replicate_one, List.getD_cons_zero, List.getD_cons_succ, List.getElem?_cons_zero, List.getElem?_cons_succ, decide_eq_true_eq, decide_eq_false_iff_not, List.map_cons, List.map_nil, List.cons_append, List.nil_append, List.append_nil, List.length_cons, List.length_nil, Nat.zero_add, Nat.add_zero, and_true, true_and, if_true, if_false, Bool.false_eq_true]
  refine ⟨fun hne => by simp at hne, fun _ => ?_⟩
  refine (c_eqB hi D0 D2 hs.1).mono ?_
  rintro _ hq ⟨rfl, eq⟩
  rw [eq]
  refine ⟨_, rfl, fun hne => by simp at hne, fun _ => ?_⟩
  refine (c_eqWindow hi (tWindow_mkR (x := x.2.2) H0) (tWindow_mkR (x := x.2.2) H3) hs.2).mono ?_
  rintro _ hq ⟨rfl, eq⟩
  rw [eq]
  exact ⟨_, rfl, by simp, by simp⟩

theorem c_markCopyRes (hi : Eng.Inv S h) (H : tCopyRes.O h v x) (hb : ∀ b, tCopyRes.B v b → ¬ S b) (k : Int) (k0 : 0 ≤ k) (k1 : k ≤ 1) (hs : smCopyRes x) :
    CallsH Try.prog S F_laws_markCopyRes #[v, .int .i64 k] h (fun u h' => u = .int .i64 (k + cntCopyRes x) ∧ tCopyRes.O h' v (mkCopyRes k x) ∧ ∀ b, ¬ tCopyRes.B v b → h' b = h b) := by
  obtain ⟨d0, u0, rfl, D0, H0, dis⟩ := tCopyRes_O H
  obtain ⟨a, c, rfl⟩ := tB_form (tB.OR H0)
  obtain ⟨a4, c4, rfl⟩ := tB_form (tB.OR D0)
  refine run_laws_markCopyRes (vs := [.bool x.1, .slice a4 x.2.1.length c4, .int .i64 x.2.2.1, .slice a x.2.2.2.1.length c, .int .i64 k]) ⟨rfl, rfl, rfl, rfl, rfl, trivial⟩ hi ?_
  simp only [t_laws_markCopyRes, Tr.wp, mksW, callW, Ex.ev, coerce, toInt_int, toBool_bool, slL_sl, slC_sl, slA_sl, toAddr_ptr, ptrOf_ptr, isNil_sl, isNil_ptr, it_and, it_or, it_int, optN_int, optN_nl, cmpI, arith, Cst.val, SV.den, resShs, resV, resSV, resVals, newVars, runCells, exSh, allSh, cellsAre, storeW, List.flatMap_cons, List.flatMap_nil, List.replicate_one, List.getD_cons_zero, List.getD_cons_succ, List.getElem?_cons_zero, List.getElem?_cons_succ, decide_eq_true_eq, decide_eq_false_iff_not, List.map_cons, List.map_nil, List.cons_append, List.nil_append, List.append_nil, List.length_cons, List.length_nil, Nat.zero_add, Nat.add_zero, and_true, true_and, if_true, if_false, Bool.false_eq_true]
  have hB := fun b => tCopyRes_B (x := x) (u1 := .slice a4 x.2.1.length c4) (u3 := .slice a x.2.2.2.1.length c) (b := b)
  refine (c_markB hi D0 (fun b h => hb b ((hB b).2 (.inl h))) k k0 (by omega) hs.1).mono ?_
  rintro _ h1 ⟨rfl, D1, f1⟩
  have hc := cntB_le hs.1
  refine ⟨_, rfl, ?_⟩
  have H1 : tB.O h1 (.slice a x.2.2.2.1.length c) x.2.2.2.1 := tB.Okeep H0 fun b h => f1 b fun h2 => dis b h2 h
  have i1 : Eng.Inv S h1 := fun b hS hn => by
    by_cases hh : tB.B (.slice a4 x.2.1.length c4) b
    · exact hb b ((hB b).2 (.inl hh)) hS
    · rw [f1 b hh] at hn; exact hi b hS hn
  refine (c_markWindow i1 (tWindow_mkO (x := x.2.2) H1) (fun b h => hb b ((hB b).2 (.inr (tWindow_B.1 h)))) (k + cntB x.2.1) (by omega) (by omega) hs.2).mono ?_
  rintro _ h2 ⟨rfl, O1, f⟩
  have O2 := tWindow_invO O1
  have hcc : ((cntCopyRes x : Nat) : Int) = cntB x.2.1 + cntWindow x.2.2 := by unfold cntCopyRes; push_cast; rfl
  refine ⟨_, rfl, by rw [hcc]; congr 1; omega, tCopyRes_mkO (x := mkCopyRes k x) (tB.Okeep D1 fun b h => f b fun h2 => dis b h (tWindow_B.1 h2)) O2 dis, fun b h => ?_⟩
  rw [f b fun h3 => h ((hB b).2 (.inr (tWindow_B.1 h3))), f1 b fun h3 => h ((hB b).2 (.inl h3))]

theorem c_heldCopyRes (hi : Eng.Inv S h) (k : Int) (H : tCopyRes.R h v (mkCopyRes k x)) (k0 : 0 ≤ k) (k1 : k ≤ 1) (hs : smCopyRes x) :
    CallsH Try.prog S F_laws_heldCopyRes #[v, .int .i64 k] h (fun u h' => u = .int .i64 (k + cntCopyRes x) ∧ h' = h) := by
  obtain ⟨d0, u0, rfl, D0, H0⟩ := tCopyRes_R H
  obtain ⟨a, c, rfl⟩ := tB_form H0
  obtain ⟨a4, c4, rfl⟩ := tB_form D0
  refine run_laws_heldCopyRes (vs := [.bool x.1, .slice a4 (mkCopyRes k x).2.1.length c4, .int .i64 x.2.2.1, .slice a (mkCopyRes k x).2.2.2.1.length c, .int .i64 k]) ⟨rfl, rfl, rfl, rfl, rfl, trivial⟩ hi ?_
  simp only [t_laws_heldCopyRes, Tr.wp, mksW, callW, Ex.ev, coerce, toInt_int, toBool_bool, slL_sl, slC_sl, slA_sl, toAddr_ptr, ptrOf_ptr, isNil_sl, isNil_ptr, it_and, it_or, it_int, optN_int, optN_nl, cmpI, arith, Cst.val, SV.den, resShs, resV, resSV, resVals, newVars, runCells, exSh, allSh, cellsAre, storeW, List.flatMap_cons, List.flatMap_nil, List.replicate_one, List.getD_cons_zero, List.getD_cons_succ, List.getElem?_cons_zero, List.getElem?_cons_succ, decide_eq_true_eq, decide_eq_false_iff_not, List.map_cons, List.map_nil, List.cons_append, List.nil_append, List.append_nil, List.length_cons, List.length_nil, Nat.zero_add, Nat.add_zero, and_true, true_and, if_true, if_false, Bool.false_eq_true]
  have hc := cntB_le hs.1
  refine (c_heldB hi k D0 k0 (by omega) hs.1).mono ?_
  rintro _ hq ⟨rfl, eq⟩
  rw [eq]
  refine ⟨_, rfl, fun hn => by omega, fun _ => ?_⟩
  refine (c_heldWindow hi (k + cntB x.2.1) (tWindow_mkR (x := mkWindow (k + cntB x.2.1) x.2.2) H0) (by omega) (by omega) hs.2).mono ?_
  rintro _ hq ⟨rfl, eq⟩
  have hcc : ((cntCopyRes x : Nat) : Int) = cntB x.2.1 + cntWindow x.2.2 := by unfold cntCopyRes; push_cast; rfl
  exact ⟨_, rfl, fun hn => by omega, fun _ => ⟨by rw [hcc]; congr 1; omega, eq⟩⟩
end Go.Proofs.Ytchlnichbaoeaaa
