import Derived.Test.YtchlnichbaoeaaaTyBits
import Derived.Test.YtchlnichbaoeaaaTrBB
set_option linter.unusedVariables false
set_option linter.unusedSimpArgs false
namespace Go.Proofs.Ytchlnichbaoeaaa
open Go Go.Eng Go.IntWalk
abbrev XByteRes := Bool × List Int × List Int × Int × Int × Unit
def tByteRes : Ty Value XByteRes := tyAgg (tyCons tyBool (tyCons tB (tyCons tB (tyCons (tyInt .i64) (tyCons (tyInt .i64) (tyNil))))))
theorem tByteRes_R {h : Eng.Heap} {v : Value} {x : XByteRes} (H : tByteRes.R h v x) : ∃ u1 u2, v = .agg #[Value.bool x.1, u1, u2, Value.int .i64 x.2.2.2.1, Value.int .i64 x.2.2.2.2.1] ∧ tB.R h u1 x.2.1 ∧ tB.R h u2 x.2.2.1 := by
  obtain ⟨_, rfl, _, _, rfl, (rfl : _ = _), ⟨u1, _, rfl, H1, ⟨u2, _, rfl, H2, ⟨_, _, rfl, (rfl : _ = _), ⟨_, _, rfl, (rfl : _ = _), ⟨rfl⟩⟩⟩⟩⟩⟩ := H
  exact ⟨u1, u2, rfl, H1, H2⟩
theorem tByteRes_mkR {h : Eng.Heap} {x : XByteRes} {u1 u2 : Value} (H1 : tB.R h u1 x.2.1) (H2 : tB.R h u2 x.2.2.1) : tByteRes.R h (.agg #[Value.bool x.1, u1, u2, Value.int .i64 x.2.2.2.1, Value.int .i64 x.2.2.2.2.1]) x := by
  unfold tByteRes; simp only [tyAgg_R, tyCons_R, tyInt_R, tyBool_R, tyNil_R]; exact ⟨by first | rfl | trivial, H1, H2, by first | rfl | trivial, by first | rfl | trivial, by first | rfl | trivial⟩
theorem tByteRes_O {h : Eng.Heap} {v : Value} {x : XByteRes} (H : tByteRes.O h v x) : ∃ u1 u2, v = .agg #[Value.bool x.1, u1, u2, Value.int .i64 x.2.2.2.1, Value.int .i64 x.2.2.2.2.1] ∧ tB.O h u1 x.2.1 ∧ tB.O h u2 x.2.2.1 ∧ (∀ b, tB.B u1 b → ¬ tB.B u2 b) := by
  obtain ⟨_, rfl, _, _, rfl, (rfl : _ = _), ⟨u1, _, rfl, H1, ⟨u2, _, rfl, H2, ⟨_, _, rfl, (rfl : _ = _), ⟨_, _, rfl, (rfl : _ = _), ⟨rfl⟩, d4⟩, d3⟩, d2⟩, d1⟩, d0⟩ := H
  exact ⟨u1, u2, rfl, H1, H2, fun b h1 h2 => d1 b h1 (by simp only [tyCons_B, tyNil_B, tyInt_B, tyBool_B, false_or, or_false]; simp [h2])⟩
theorem tByteRes_mkO {h : Eng.Heap} {x : XByteRes} {u1 u2 : Value} (H1 : tB.O h u1 x.2.1) (H2 : tB.O h u2 x.2.2.1) (d0 : (∀ b, tB.B u1 b → ¬ tB.B u2 b)) : tByteRes.O h (.agg #[Value.bool x.1, u1, u2, Value.int .i64 x.2.2.2.1, Value.int .i64 x.2.2.2.2.1]) x := by
  unfold tByteRes; simp only [tyAgg_O, tyCons_O, tyInt_O, tyBool_O, tyNil_O, tyCons_B, tyNil_B, tyInt_B, tyBool_B, false_or, or_false, not_false_eq_true, implies_true, and_true, true_and, forall_false, false_implies]
  first | exact ⟨H1, H2, d0⟩ | simp_all
theorem tByteRes_B {u1 u2 : Value} {b : Nat} {x : XByteRes} : tByteRes.B (.agg #[Value.bool x.1, u1, u2, Value.int .i64 x.2.2.2.1, Value.int .i64 x.2.2.2.2.1]) b ↔ tB.B u1 b ∨ tB.B u2 b := by
  unfold tByteRes; simp only [tyAgg_B, tyCons_B, tyNil_B, tyInt_B, tyBool_B, false_or, or_false]
theorem tByteRes_F {h : Eng.Heap} {v : Value} {x : XByteRes} (H : tByteRes.R h v x) : ∃ a1 c1 a2 c2, v = .agg #[Value.bool x.1, .slice a1 x.2.1.length c1, .slice a2 x.2.2.1.length c2, Value.int .i64 x.2.2.2.1, Value.int .i64 x.2.2.2.2.1] := by
  obtain ⟨u1, u2, rfl, H1, H2⟩ := tByteRes_R H
  obtain ⟨a1, c1, rfl, _⟩ := H1
  obtain ⟨a2, c2, rfl, _⟩ := H2
  exact ⟨_, _, _, _, rfl⟩
theorem tByteRes_invR {h : Eng.Heap} {e0 e1 e2 e3 e4 : Value} {x : XByteRes} (H : tByteRes.R h (.agg #[e0, e1, e2, e3, e4]) x) : tB.R h e1 x.2.1 ∧ tB.R h e2 x.2.2.1 := by
  unfold tByteRes at H
  simp only [tyAgg_R, tyCons_R] at H
  exact ⟨H.2.1, H.2.2.1⟩
theorem tByteRes_invO {h : Eng.Heap} {e0 e1 e2 e3 e4 : Value} {x : XByteRes} (H : tByteRes.O h (.agg #[e0, e1, e2, e3, e4]) x) : tB.O h e1 x.2.1 ∧ tB.O h e2 x.2.2.1 := by
  unfold tByteRes at H
  simp only [tyAgg_O, tyCons_O] at H
  exact ⟨H.2.1.1, H.2.1.2.1.1⟩
variable {S : Nat → Prop} {h : Eng.Heap} {v w : Value} {x : XByteRes}
def smByteRes (x : XByteRes) : Prop := smB x.2.1 ∧ smBits x.2.2
def cntByteRes (x : XByteRes) : Nat := cntB x.2.1 + cntBits x.2.2
theorem cntByteRes_le {x : XByteRes} (H : smByteRes x) : cntByteRes x ≤ 1125899906842624 := by
  have h1 : x.2.1.length ≤ 1099511627776 := H.1
  have h2 : x.2.2.1.length ≤ 1099511627776 := H.2
  show x.2.1.length + x.2.2.1.length ≤ _
  omega
def mkByteRes (k : Int) (x : XByteRes) : XByteRes := (x.1, mkB k x.2.1, mkBits (k + cntB x.2.1) x.2.2)

theorem c_eqByteRes (hi : Eng.Inv S h) (H : tByteRes.R h v x) (H2 : tByteRes.R h w x) (hs : smByteRes x) :
    CallsH Try.prog S F_laws_eqByteRes #[v, w] h (fun u h' => u = .bool true ∧ h' = h) := by
  obtain ⟨d0, u0, rfl, D0, H0⟩ := tByteRes_R H
  obtain ⟨d2, u2, rfl, D2, H3⟩ := tByteRes_R H2
  obtain ⟨a, c, rfl⟩ := tB_form H0
  obtain ⟨a2, c2, rfl⟩ := tB_form H3
  obtain ⟨a4, c4, rfl⟩ := tB_form D0
  obtain ⟨a5, c5, rfl⟩ := tB_form D2
  refine run_laws_eqByteRes (vs := [.bool x.1, .slice a4 x.2.1.length c4, .slice a x.2.2.1.length c, .int .i64 x.2.2.2.1, .int .i64 x.2.2.2.2.1, .bool x.1, .slice a5 x.2.1.length c5, .slice a2 x.2.2.1.length c2, .int .i64 x.2.2.2.1, .int .i64 x.2.2.2.2.1]) ⟨rfl, rfl, rfl, rfl, rfl, rfl, rfl, rfl, rfl, rfl, trivial⟩ hi ?_
  simp only [t_laws_eqByteRes, Tr.wp, mksW, callW, Ex.ev, coerce, toInt_int, toBool_bool, slL_sl, slC_sl, slA_sl, toAddr_ptr, ptrOf_ptr, isNil_sl, isNil_ptr, it_and, it_or, it_int, optN_int, optN_nl, cmpI, arith, Cst.val, SV.den, resShs, resV, resSV, resVals, newVars, runCells, exSh, allSh, cellsAre, storeW, List.flatMap_cons, List.flatMap_nil, List.replicate_one, List.getD_cons_zero, List.getD_cons_succ, List.getElem?_cons_zero, List.getElem?_cons_succ, decide_eq_true_eq, decide_eq_false_iff_not, List.map_cons, List.map_nil, List.cons_append, List.nil_append, List.append_nil, List.length_cons, List.length_nil, Nat.zero_add, Nat.add_zero, and_true, true_and, if_true, if_false, Bool.false_eq_true]
  refine ⟨fun hne => by simp at hne, fun _ => ?_⟩
  refine (c_eqB hi D0 D2 hs.1).mono ?_
  rintro _ hq ⟨rfl, eq⟩
  rw [eq]
  refine ⟨_, rfl, fun hne => by simp at hne, fun _ => ?_⟩
  refine (c_eqBits hi (tBits_mkR (x := x.2.2) H0) (tBits_mkR (x := x.2.2) H3) hs.2).mono ?_
  rintro _ hq ⟨rfl, eq⟩
  rw [eq]
  exact ⟨_, rfl, by simp, by simp⟩

theorem c_markByteRes (hi : Eng.Inv S h) (H : tByteRes.O h v x) (hb : ∀ b, tByteRes.B v b → ¬ S b) (k : Int) (k0 : 0 ≤ k) (k1 : k ≤ 1) (hs : smByteRes x) :
    CallsH Try.prog S F_laws_markByteRes #[v, .int .i64 k] h (fun u h' => u = .int .i64 (k + cntByteRes x) ∧ tByteRes.O h' v (mkByteRes k x) ∧ ∀ b, ¬ tByteRes.B v b → h' b = h b) := by
  obtain ⟨d0, u0, rfl, D0, H0, dis⟩ := tByteRes_O H
  obtain ⟨a, c, rfl⟩ := tB_form (tB.OR H0)
  obtain ⟨a4, c4, rfl⟩ := tB_form (tB.OR D0)
  refine run_laws_markByteRes (vs := [.bool x.1, .slice a4 x.2.1.length c4, .slice a x.2.2.1.length c, .int .i64 x.2.2.2.1, .int .i64 x.2.2.2.2.1, .int .i64 k]) ⟨rfl, rfl, rfl, rfl, rfl, rfl, trivial⟩ hi ?_
  simp only [t_laws_markByteRes, Tr.wp, mksW, callW, Ex.ev, coerce, toInt_int, toBool_bool, slL_sl, slC_sl, slA_sl, toAddr_ptr, ptrOf_ptr, isNil_sl, isNil_ptr, it_and, it_or, it_int, optN_int, optN_nl, cmpI, arith, Cst.val, SV.den, resShs, resV, resSV, resVals, newVars, runCells, exSh, allSh, cellsAre, storeW, List.flatMap_cons, List.flatMap_nil, List.replicate_one, List.getD_cons_zero, List.getD_cons_succ, List.getElem?_cons_zero, List.getElem?_cons_succ, decide_eq_true_eq, decide_eq_false_iff_not, List.map_cons, List.map_nil, List.cons_append, List.nil_append, List.append_nil, List.length_cons, List.length_nil, Nat.zero_add, Nat.add_zero, and_true, true_and, if_true, if_false, Bool.false_eq_true]
  have hB := fun b => tByteRes_B (x := x) (u1 := .slice a4 x.2.1.length c4) (u2 := .slice a x.2.2.1.length c) (b := b)
  refine (c_markB hi D0 (fun b h => hb b ((hB b).2 (.inl h))) k k0 (by omega) hs.1).mono ?_
  rintro _ h1 ⟨rfl, D1, f1⟩
  have hc := cntB_le hs.1
  refine ⟨_, rfl, ?_⟩
  have H1 : tB.O h1 (.slice a x.2.2.1.length c) x.2.2.1 := tB.Okeep H0 fun b h => f1 b fun h2 => dis b h2 h
  have i1 : Eng.Inv S h1 := fun b hS hn => by
    by_cases hh : tB.B (.slice a4 x.2.1.length c4) b
    · exact hb b ((hB b).2 (.inl hh)) hS
    · rw [f1 b hh] at hn; exact hi b hS hn
  refine (c_markBits i1 (tBits_mkO (x := x.2.2) H1) (fun b h => hb b ((hB b).2 (.inr (tBits_B.1 h)))) (k + cntB x.2.1) (by omega) (by omega) hs.2).mono ?_
  rintro _ h2 ⟨rfl, O1, f⟩
  have O2 := tBits_invO O1
  have hcc : ((cntByteRes x : Nat) : Int) = cntB x.2.1 + cntBits x.2.2 := by unfold cntByteRes; push_cast; rfl
  refine ⟨_, rfl, by rw [hcc]; congr 1; omega, tByteRes_mkO (x := mkByteRes k x) (tB.Okeep D1 fun b h => f b fun h2 => dis b h (tBits_B.1 h2)) O2 dis, fun b h => ?_⟩
  rw [f b fun h3 => h ((hB b).2 (.inr (tBits_B.1 h3))), f1 b fun h3 => h ((hB b).2 (.inl h3))]

theorem c_heldByteRes (hi : Eng.Inv S h) (k : Int) (H : tByteRes.R h v (mkByteRes k x)) (k0 : 0 ≤ k) (k1 : k ≤ 1) (hs : smByteRes x) :
    CallsH Try.prog S F_laws_heldByteRes #[v, .int .i64 k] h (fun u h' => u = .int .i64 (k + cntByteRes x) ∧ h' = h) := by
  obtain ⟨d0, u0, rfl, D0, H0⟩ := tByteRes_R H
  obtain ⟨a, c, rfl⟩ := tB_form H0
  obtain ⟨a4, c4, rfl⟩ := tB_form D0
  refine run_laws_heldByteRes (vs := [.bool x.1, .slice a4 (mkByteRes k x).2.1.length c4, .slice a (mkByteRes k x).2.2.1.length c, .int .i64 x.2.2.2.1, .int .i64 x.2.2.2.2.1, .int .i64 k]) ⟨rfl, rfl, rfl, rfl, rfl, rfl, trivial⟩ hi ?_
  simp only [t_laws_heldByteRes, Tr.wp, mksW, callW, Ex.ev, coerce, toInt_int, toBool_bool, slL_sl, slC_sl, slA_sl, toAddr_ptr, ptrOf_ptr, isNil_sl, isNil_ptr, it_and, it_or, it_int, optN_int, optN_nl, cmpI, arith, Cst.val, SV.den, resShs, resV, resSV, resVals, newVars, runCells, exSh, allSh, cellsAre, storeW, List.flatMap_cons, List.flatMap_nil, List.replicate_one, List.getD_cons_zero, List.getD_cons_succ, List.getElem?_cons_zero, List.getElem?_cons_succ, decide_eq_true_eq, decide_eq_false_iff_not, List.map_cons, List.map_nil, List.cons_append, List.nil_append, List.append_nil, List.length_cons, List.length_nil, Nat.zero_add, Nat.add_zero, and_true, true_and, if_true, if_false, Bool.false_eq_true]
  have hc := cntB_le hs.1
  refine (c_heldB hi k D0 k0 (by omega) hs.1).mono ?_
  rintro _ hq ⟨rfl, eq⟩
  rw [eq]
  refine ⟨_, rfl, fun hn => by omega, fun _ => ?_⟩
  refine (c_heldBits hi (k + cntB x.2.1) (tBits_mkR (x := mkBits (k + cntB x.2.1) x.2.2) H0) (by omega) (by omega) hs.2).mono ?_
  rintro _ hq ⟨rfl, eq⟩
  have hcc : ((cntByteRes x : Nat) : Int) = cntB x.2.1 + cntBits x.2.2 := by unfold cntByteRes; push_cast; rfl
  exact ⟨_, rfl, fun hn => by omega, fun _ => ⟨by rw [hcc]; congr 1; omega, eq⟩⟩
end Go.Proofs.Ytchlnichbaoeaaa
