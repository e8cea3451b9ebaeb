import Derived.Test.YtchlnichbaoeaaaTyBits
import Derived.Test.YtchlnichbaoeaaaTrBT
set_option linter.unusedVariables false
set_option linter.unusedSimpArgs false
namespace Go.Proofs.Ytchlnichbaoeaaa
open Go Go.Eng Go.IntWalk
abbrev XBitRes := Bool × Int × List Int × Int × Int × Unit
def tBitRes : Ty Value XBitRes := tyAgg (tyCons tyBool (tyCons (tyInt .u64) (tyCons tB (tyCons (tyInt .i64) (tyCons (tyInt .i64) (tyNil))))))
theorem tBitRes_R {h : Eng.Heap} {v : Value} {x : XBitRes} (H : tBitRes.R h v x) : ∃ u2, v = .agg #[Value.bool x.1, Value.int .u64 x.2.1, u2, Value.int .i64 x.2.2.2.1, Value.int .i64 x.2.2.2.2.1] ∧ tB.R h u2 x.2.2.1 := by
  obtain ⟨_, rfl, _, _, rfl, (rfl : _ = _), ⟨_, _, rfl, (rfl : _ = _), ⟨u2, _, rfl, H2, ⟨_, _, rfl, (rfl : _ = _), ⟨_, _, rfl, (rfl : _ = _), ⟨rfl⟩⟩⟩⟩⟩⟩ := H
  exact ⟨u2, rfl, H2⟩
theorem tBitRes_mkR {h : Eng.Heap} {x : XBitRes} {u2 : Value} (H2 : tB.R h u2 x.2.2.1) : tBitRes.R h (.agg #[Value.bool x.1, Value.int .u64 x.2.1, u2, Value.int .i64 x.2.2.2.1, Value.int .i64 x.2.2.2.2.1]) x := by
  unfold tBitRes; simp only [tyAgg_R, tyCons_R, tyInt_R, tyBool_R, tyNil_R]; exact ⟨by first | rfl | trivial, by first | rfl | trivial, H2, by first | rfl | trivial, by first | rfl | trivial, by first | rfl | trivial⟩
theorem tBitRes_O {h : Eng.Heap} {v : Value} {x : XBitRes} (H : tBitRes.O h v x) : ∃ u2, v = .agg #[Value.bool x.1, Value.int .u64 x.2.1, u2, Value.int .i64 x.2.2.2.1, Value.int .i64 x.2.2.2.2.1] ∧ tB.O h u2 x.2.2.1 := by
  obtain ⟨_, rfl, _, _, rfl, (rfl : _ = _), ⟨_, _, rfl, (rfl : _ = _), ⟨u2, _, rfl, H2, ⟨_, _, rfl, (rfl : _ = _), ⟨_, _, rfl, (rfl : _ = _), ⟨rfl⟩, d4⟩, d3⟩, d2⟩, d1⟩, d0⟩ := H
  exact ⟨u2, rfl, H2⟩
theorem tBitRes_mkO {h : Eng.Heap} {x : XBitRes} {u2 : Value} (H2 : tB.O h u2 x.2.2.1) : tBitRes.O h (.agg #[Value.bool x.1, Value.int .u64 x.2.1, u2, Value.int .i64 x.2.2.2.1, Value.int .i64 x.2.2.2.2.1]) x := by
  unfold tBitRes; simp only [tyAgg_O, tyCons_O, tyInt_O, tyBool_O, tyNil_O, tyCons_B, tyNil_B, tyInt_B, tyBool_B, false_or, or_false, not_false_eq_true, implies_true, and_true, true_and, forall_false, false_implies]
  first | exact H2 | simp_all
theorem tBitRes_B {u2 : Value} {b : Nat} {x : XBitRes} : tBitRes.B (.agg #[Value.bool x.1, Value.int .u64 x.2.1, u2, Value.int .i64 x.2.2.2.1, Value.int .i64 x.2.2.2.2.1]) b ↔ tB.B u2 b := by
  unfold tBitRes; simp only [tyAgg_B, tyCons_B, tyNil_B, tyInt_B, tyBool_B, false_or, or_false]
theorem tBitRes_F {h : Eng.Heap} {v : Value} {x : XBitRes} (H : tBitRes.R h v x) : ∃ a2 c2, v = .agg #[Value.bool x.1, Value.int .u64 x.2.1, .slice a2 x.2.2.1.length c2, Value.int .i64 x.2.2.2.1, Value.int .i64 x.2.2.2.2.1] := by
  obtain ⟨u2, rfl, H2⟩ := tBitRes_R H
  obtain ⟨a2, c2, rfl, _⟩ := H2
  exact ⟨_, _, rfl⟩
theorem tBitRes_invR {h : Eng.Heap} {e0 e1 e2 e3 e4 : Value} {x : XBitRes} (H : tBitRes.R h (.agg #[e0, e1, e2, e3, e4]) x) : tB.R h e2 x.2.2.1 := by
  unfold tBitRes at H
  simp only [tyAgg_R, tyCons_R] at H
  exact H.2.2.1
theorem tBitRes_invO {h : Eng.Heap} {e0 e1 e2 e3 e4 : Value} {x : XBitRes} (H : tBitRes.O h (.agg #[e0, e1, e2, e3, e4]) x) : tB.O h e2 x.2.2.1 := by
  unfold tBitRes at H
  simp only [tyAgg_O, tyCons_O] at H
  exact H.2.1.2.1.1
variable {S : Nat → Prop} {h : Eng.Heap} {v w : Value} {x : XBitRes}
def smBitRes (x : XBitRes) : Prop := smBits x.2.2
def cntBitRes (x : XBitRes) : Nat := cntBits x.2.2
theorem cntBitRes_le {x : XBitRes} (H : smBitRes x) : cntBitRes x ≤ 1125899906842 := cntBits_le H
def mkBitRes (k : Int) (x : XBitRes) : XBitRes := (x.1, x.2.1, mkBits k x.2.2)

theorem c_eqBitRes (hi : Eng.Inv S h) (H : tBitRes.R h v x) (H2 : tBitRes.R h w x) (hs : smBitRes x) :
    CallsH Try.prog S F_laws_eqBitRes #[v, w] h (fun u h' => u = .bool true ∧ h' = h) := by
  obtain ⟨u0, rfl, H0⟩ := tBitRes_R H
  obtain ⟨u2, rfl, H3⟩ := tBitRes_R H2
  obtain ⟨a, c, rfl⟩ := tB_form H0
  obtain ⟨a2, c2, rfl⟩ := tB_form H3
  refine run_laws_eqBitRes (vs := [.bool x.1, .int .u64 x.2.1, .slice a x.2.2.1.length c, .int .i64 x.2.2.2.1, .int .i64 x.2.2.2.2.1, .bool x.1, .int .u64 x.2.1, .slice a2 x.2.2.1.length c2, .int .i64 x.2.2.2.1, .int .i64 x.2.2.2.2.1]) ⟨rfl, rfl, rfl, rfl, rfl, rfl, rfl, rfl, rfl, rfl, trivial⟩ hi ?_
  simp only [t_laws_eqBitRes, Tr.wp, mksW, callW, Ex.ev, coerce, toInt_int, toBool_bool, slL_sl, slC_sl, slA_sl, toAddr_ptr, ptrOf_ptr, isNil_sl, isNil_ptr, it_and, it_or, it_int, optN_int, optN_nl, cmpI, arith, Cst.val, SV.den, resShs, resV, resSV, resVals, newVars, runCells, exSh, allSh, cellsAre, storeW, List.flatMap_cons, List.flatMap_nil, List.replicate_one, List.getD_cons_zero, List.getD_cons_succ, List.getElem?_cons_zero, List.getElem?_cons_succ, decide_eq_true_eq, decide_eq_false_iff_not, List.map_cons, List.map_nil, List.cons_append, List.nil_append, List.append_nil, List.length_cons, List.length_nil, Nat.zero_add, Nat.add_zero, and_true, true_and, if_true, if_false, Bool.false_eq_true]
  refine ⟨fun hne => by simp at hne, fun _ => ⟨fun hne => by simp at hne, fun _ => ?_⟩⟩
  refine (c_eqBits hi (tBits_mkR (x := x.2.2) H0) (tBits_mkR (x := x.2.2) H3) hs).mono ?_
  rintro _ hq ⟨rfl, eq⟩
  rw [eq]
  exact ⟨_, rfl, by simp, by simp⟩

theorem c_markBitRes (hi : Eng.Inv S h) (H : tBitRes.O h v x) (hb : ∀ b, tBitRes.B v b → ¬ S b) (k : Int) (k0 : 0 ≤ k) (k1 : k ≤ 1125899906842624) (hs : smBitRes x) :
    CallsH Try.prog S F_laws_markBitRes #[v, .int .i64 k] h (fun u h' => u = .int .i64 (k + cntBitRes x) ∧ tBitRes.O h' v (mkBitRes k x) ∧ ∀ b, ¬ tBitRes.B v b → h' b = h b) := by
  obtain ⟨u0, rfl, H0⟩ := tBitRes_O H
  obtain ⟨a, c, rfl⟩ := tB_form (tB.OR H0)
  refine run_laws_markBitRes (vs := [.bool x.1, .int .u64 x.2.1, .slice a x.2.2.1.length c, .int .i64 x.2.2.2.1, .int .i64 x.2.2.2.2.1, .int .i64 k]) ⟨rfl, rfl, rfl, rfl, rfl, rfl, trivial⟩ hi ?_
  simp only [t_laws_markBitRes, Tr.wp, mksW, callW, Ex.ev, coerce, toInt_int, toBool_bool, slL_sl, slC_sl, slA_sl, toAddr_ptr, ptrOf_ptr, isNil_sl, isNil_ptr, it_and, it_or, it_int, optN_int, optN_nl, cmpI, arith, Cst.val, SV.den, resShs, resV, resSV, resVals, newVars, runCells, exSh, allSh, cellsAre, storeW, List.flatMap_cons, List.flatMap_nil, List.replicate_one, List.getD_cons_zero, List.getD_cons_succ, List.getElem?_cons_zero, List.getElem?_cons_succ, decide_eq_true_eq, decide_eq_false_iff_not, List.map_cons, List.map_nil, List.cons_append, List.nil_append, List.append_nil, List.length_cons, List.length_nil, Nat.zero_add, Nat.add_zero, and_true, true_and, if_true, if_false, Bool.false_eq_true]
  refine (c_markBits hi (tBits_mkO (x := x.2.2) H0) (fun b hB => hb b (tBitRes_B.2 (tBits_B.1 hB))) k k0 k1 hs).mono ?_
  rintro _ h' ⟨rfl, O1, f⟩
  have O2 := tBits_invO O1
  exact ⟨_, rfl, rfl, tBitRes_mkO (x := mkBitRes k x) O2, fun b hB => f b fun h => hB (tBitRes_B.2 (tBits_B.1 h))⟩

theorem c_heldBitRes (hi : Eng.Inv S h) (k : Int) (H : tBitRes.R h v (mkBitRes k x)) (k0 : 0 ≤ k) (k1 : k ≤ 1125899906842624) (hs : smBitRes x) :
    CallsH Try.prog S F_laws_heldBitRes #[v, .int .i64 k] h (fun u h' => u = .int .i64 (k + cntBitRes x) ∧ h' = h) := by
  obtain ⟨u0, rfl, H0⟩ := tBitRes_R H
  obtain ⟨a, c, rfl⟩ := tB_form H0
  refine run_laws_heldBitRes (vs := [.bool x.1, .int .u64 x.2.1, .slice a (mkBitRes k x).2.2.1.length c, .int .i64 x.2.2.2.1, .int .i64 x.2.2.2.2.1, .int .i64 k]) ⟨rfl, rfl, rfl, rfl, rfl, rfl, trivial⟩ hi ?_
  simp only [t_laws_heldBitRes, Tr.wp, mksW, callW, Ex.ev, coerce, toInt_int, toBool_bool, slL_sl, slC_sl, slA_sl, toAddr_ptr, ptrOf_ptr, isNil_sl, isNil_ptr, it_and, it_or, it_int, optN_int, optN_nl, cmpI, arith, Cst.val, SV.den, resShs, resV, resSV, resVals, newVars, runCells, exSh, allSh, cellsAre, storeW, List.flatMap_cons, List.flatMap_nil, List.replicate_one, List.getD_cons_zero, List.getD_cons_succ, List.getElem?_cons_zero, List.getElem?_cons_succ, decide_eq_true_eq, decide_eq_false_iff_not, List.map_cons, List.map_nil, List.cons_append, List.nil_append, List.append_nil, List.length_cons, List.length_nil, Nat.zero_add, Nat.add_zero, and_true, true_and, if_true, if_false, Bool.false_eq_true]
  refine (c_heldBits hi k (tBits_mkR (x := mkBits k x.2.2) H0) k0 k1 hs).mono ?_
  rintro _ hq ⟨rfl, eq⟩
  exact ⟨_, rfl, fun hn => by omega, fun _ => ⟨rfl, eq⟩⟩
end Go.Proofs.Ytchlnichbaoeaaa
