import Derived.Test.YtmnialmphlbmaaaDoorTyB
import Derived.Test.YtmnialmphlbmaaaDoorTrIL
set_option linter.unusedVariables false
set_option linter.unusedSimpArgs false
namespace Go.Proofs.YtmnialmphlbmaaaDoor
open Go Go.Eng Go.IntWalk
abbrev XInfRes := Int × List Int × Int × Unit
def tInfRes : Ty Value XInfRes := tyAgg (tyCons (tyInt .i64) (tyCons tB (tyCons (tyInt .i64) (tyNil))))
theorem tInfRes_R {h : Eng.Heap} {v : Value} {x : XInfRes} (H : tInfRes.R h v x) : ∃ u1, v = .agg #[Value.int .i64 x.1, u1, Value.int .i64 x.2.2.1] ∧ tB.R h u1 x.2.1 := by
  obtain ⟨_, rfl, _, _, rfl, (rfl : _ = _), ⟨u1, _, rfl, H1, ⟨_, _, rfl, (rfl : _ = _), ⟨rfl⟩⟩⟩⟩ := H
  exact ⟨u1, rfl, H1⟩
theorem tInfRes_mkR {h : Eng.Heap} {x : XInfRes} {u1 : Value} (H1 : tB.R h u1 x.2.1) : tInfRes.R h (.agg #[Value.int .i64 x.1, u1, Value.int .i64 x.2.2.1]) x := by
  unfold tInfRes; simp only [tyAgg_R, tyCons_R, tyInt_R, tyBool_R, tyNil_R]; exact ⟨by first | rfl | trivial, H1, by first | rfl | trivial, by first | rfl | trivial⟩
theorem tInfRes_O {h : Eng.Heap} {v : Value} {x : XInfRes} (H : tInfRes.O h v x) : ∃ u1, v = .agg #[Value.int .i64 x.1, u1, Value.int .i64 x.2.2.1] ∧ tB.O h u1 x.2.1 := by
  obtain ⟨_, rfl, _, _, rfl, (rfl : _ = _), ⟨u1, _, rfl, H1, ⟨_, _, rfl, (rfl : _ = _), ⟨rfl⟩, d2⟩, d1⟩, d0⟩ := H
  exact ⟨u1, rfl, H1⟩
theorem tInfRes_mkO {h : Eng.Heap} {x : XInfRes} {u1 : Value} (H1 : tB.O h u1 x.2.1) : tInfRes.O h (.agg #[Value.int .i64 x.1, u1, Value.int .i64 x.2.2.1]) x := by
  unfold tInfRes; simp only [tyAgg_O, tyCons_O, tyInt_O, tyBool_O, tyNil_O, tyCons_B, tyNil_B, tyInt_B, tyBool_B, false_or, or_false, not_false_eq_true, implies_true, and_true, true_and, forall_false, false_implies]
  first | exact H1 | simp_all
theorem tInfRes_B {u1 : Value} {b : Nat} {x : XInfRes} : tInfRes.B (.agg #[Value.int .i64 x.1, u1, Value.int .i64 x.2.2.1]) b ↔ tB.B u1 b := by
  unfold tInfRes; simp only [tyAgg_B, tyCons_B, tyNil_B, tyInt_B, tyBool_B, false_or, or_false]
theorem tInfRes_F {h : Eng.Heap} {v : Value} {x : XInfRes} (H : tInfRes.R h v x) : ∃ a1 c1, v = .agg #[Value.int .i64 x.1, .slice a1 x.2.1.length c1, Value.int .i64 x.2.2.1] := by
  obtain ⟨u1, rfl, H1⟩ := tInfRes_R H
  obtain ⟨a1, c1, rfl, _⟩ := H1
  exact ⟨_, _, rfl⟩
theorem tInfRes_invR {h : Eng.Heap} {e0 e1 e2 : Value} {x : XInfRes} (H : tInfRes.R h (.agg #[e0, e1, e2]) x) : tB.R h e1 x.2.1 := by
  unfold tInfRes at H
  simp only [tyAgg_R, tyCons_R] at H
  exact H.2.1
theorem tInfRes_invO {h : Eng.Heap} {e0 e1 e2 : Value} {x : XInfRes} (H : tInfRes.O h (.agg #[e0, e1, e2]) x) : tB.O h e1 x.2.1 := by
  unfold tInfRes at H
  simp only [tyAgg_O, tyCons_O] at H
  exact H.2.1.1
variable {S : Shared} {h : Eng.Heap} {v w : Value} {x : XInfRes}
def smInfRes (x : XInfRes) : Prop := smB x.2.1
def cntInfRes (x : XInfRes) : Nat := cntB x.2.1
theorem cntInfRes_le {x : XInfRes} (H : smInfRes x) : cntInfRes x ≤ 1125899906842624 := by
  have h1 : x.2.1.length ≤ 1099511627776 := H
  show x.2.1.length ≤ _
  omega
def mkInfRes (k : Int) (x : XInfRes) : XInfRes := (x.1, mkB k x.2.1, x.2.2.1, ())

theorem c_eqInfRes (hi : Eng.Inv S h) (H : tInfRes.R h v x) (H2 : tInfRes.R h w x) (hs : smInfRes x) :
    CallsH Tryd.prog S F_laws_eqInfRes #[v, w] h (fun u h' => u = .bool true ∧ h' = h) := by
  obtain ⟨u1, rfl, D0⟩ := tInfRes_R H
  obtain ⟨u2, rfl, D2⟩ := tInfRes_R H2
  obtain ⟨a4, c4, rfl⟩ := tB_form D0
  obtain ⟨a5, c5, rfl⟩ := tB_form D2
  refine run_laws_eqInfRes (vs := [.int .i64 x.1, .slice a4 x.2.1.length c4, .int .i64 x.2.2.1, .int .i64 x.1, .slice a5 x.2.1.length c5, .int .i64 x.2.2.1]) ⟨rfl, rfl, rfl, rfl, rfl, rfl, trivial⟩ hi ?_
  simp only [t_laws_eqInfRes, Tr.wp, mksW, callW, Ex.ev, coerce, toInt_int, toBool_bool, slL_sl, slC_sl, slA_sl, toAddr_ptr, ptrOf_ptr, isNil_sl, isNil_ptr, it_and, it_or, it_int, optN_int, optN_nl, cmpI, arith, Cst.val, SV.den, resShs, resV, resSV, resVals, newVars, runCells, exSh, allSh, cellsAre, storeW, List.flatMap_cons, List.flatMap_nil, List.replicate_one, List.getD_cons_zero, List.getD_cons_succ, List.getElem?_cons_zero, List.getElem?_cons_succ, decide_eq_true_eq, decide_eq_false_iff_not, List.map_cons, List.map_nil, List.cons_append, List.nil_append, List.append_nil, List.length_cons, List.length_nil, Nat.zero_add, Nat.add_zero, and_true, true_and, if_true, if_false, Bool.false_eq_true]
  refine ⟨fun hne => by simp at hne, fun _ => ?_⟩
  refine (c_eqB hi D0 D2 hs).mono ?_
  rintro _ hq ⟨rfl, eq⟩
  rw [eq]
  exact ⟨_, rfl, fun hne => by simp at hne, fun _ => ⟨fun hne => by simp at hne, fun _ => rfl⟩⟩

theorem c_markInfRes (hi : Eng.Inv S h) (H : tInfRes.O h v x) (hb : ∀ b, tInfRes.B v b → ¬ S b) (k : Int) (k0 : 0 ≤ k) (k1 : k ≤ 1) (hs : smInfRes x) :
    CallsH Tryd.prog S F_laws_markInfRes #[v, .int .i64 k] h (fun u h' => u = .int .i64 (k + cntInfRes x) ∧ tInfRes.O h' v (mkInfRes k x) ∧ ∀ b, ¬ tInfRes.B v b → h' b = h b) := by
  obtain ⟨u1, rfl, D0⟩ := tInfRes_O H
  obtain ⟨a4, c4, rfl⟩ := tB_form (tB.OR D0)
  refine run_laws_markInfRes (vs := [.int .i64 x.1, .slice a4 x.2.1.length c4, .int .i64 x.2.2.1, .int .i64 k]) ⟨rfl, rfl, rfl, rfl, trivial⟩ hi ?_
  simp only [t_laws_markInfRes, Tr.wp, mksW, callW, Ex.ev, coerce, toInt_int, toBool_bool, slL_sl, slC_sl, slA_sl, toAddr_ptr, ptrOf_ptr, isNil_sl, isNil_ptr, it_and, it_or, it_int, optN_int, optN_nl, cmpI, arith, Cst.val, SV.den, resShs, resV, resSV, resVals, newVars, runCells, exSh, allSh, cellsAre, storeW, List.flatMap_cons, List.flatMap_nil, List.replicate_one, List.getD_cons_zero, List.getD_cons_succ, List.getElem?_cons_zero, List.getElem?_cons_succ, decide_eq_true_eq, decide_eq_false_iff_not, List.map_cons, List.map_nil, List.cons_append, List.nil_append, List.append_nil, List.length_cons, List.length_nil, Nat.zero_add, Nat.add_zero, and_true, true_and, if_true, if_false, Bool.false_eq_true]
  have hB := fun b => tInfRes_B (x := x) (u1 := .slice a4 x.2.1.length c4) (b := b)
  refine (c_markB hi D0 (fun b h => hb b ((hB b).2 h)) k k0 (by omega) hs).mono ?_
  rintro _ h1 ⟨rfl, D1, f1⟩
  exact ⟨_, rfl, rfl, tInfRes_mkO (x := mkInfRes k x) D1, fun b h => f1 b fun h3 => h ((hB b).2 h3)⟩

theorem c_heldInfRes (hi : Eng.Inv S h) (k : Int) (H : tInfRes.R h v (mkInfRes k x)) (k0 : 0 ≤ k) (k1 : k ≤ 1) (hs : smInfRes x) :
    CallsH Tryd.prog S F_laws_heldInfRes #[v, .int .i64 k] h (fun u h' => u = .int .i64 (k + cntInfRes x) ∧ h' = h) := by
  obtain ⟨u1, rfl, D0⟩ := tInfRes_R H
  obtain ⟨a4, c4, rfl⟩ := tB_form D0
  refine run_laws_heldInfRes (vs := [.int .i64 x.1, .slice a4 (mkInfRes k x).2.1.length c4, .int .i64 x.2.2.1, .int .i64 k]) ⟨rfl, rfl, rfl, rfl, trivial⟩ hi ?_
  simp only [t_laws_heldInfRes, Tr.wp, mksW, callW, Ex.ev, coerce, toInt_int, toBool_bool, slL_sl, slC_sl, slA_sl, toAddr_ptr, ptrOf_ptr, isNil_sl, isNil_ptr, it_and, it_or, it_int, optN_int, optN_nl, cmpI, arith, Cst.val, SV.den, resShs, resV, resSV, resVals, newVars, runCells, exSh, allSh, cellsAre, storeW, List.flatMap_cons, List.flatMap_nil, List.replicate_one, List.getD_cons_zero, List.getD_cons_succ, List.getElem?_cons_zero, List.getElem?_cons_succ, decide_eq_true_eq, decide_eq_false_iff_not, List.map_cons, List.map_nil, List.cons_append, List.nil_append, List.append_nil, List.length_cons, List.length_nil, Nat.zero_add, Nat.add_zero, and_true, true_and, if_true, if_false, Bool.false_eq_true]
  have hc := cntB_le hs
  refine (c_heldB hi k D0 k0 (by omega) hs).mono ?_
  rintro _ hq ⟨rfl, eq⟩
  exact ⟨_, rfl, fun hn => by omega, fun _ => ⟨rfl, eq⟩⟩
end Go.Proofs.YtmnialmphlbmaaaDoor
