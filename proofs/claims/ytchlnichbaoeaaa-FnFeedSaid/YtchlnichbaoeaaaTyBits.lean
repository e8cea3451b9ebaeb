import Derived.Test.YtchlnichbaoeaaaTyB
import Derived.Test.YtchlnichbaoeaaaKBits
import Derived.Test.YtchlnichbaoeaaaTrBM
set_option linter.unusedVariables false
set_option linter.unusedSimpArgs false
namespace Go.Proofs.Ytchlnichbaoeaaa
open Go Go.Eng Go.IntWalk
abbrev XBits := List Int × Int × Int × Unit
def tBits : Ty Value XBits := tyAgg (tyCons tB (tyCons (tyInt .i64) (tyCons (tyInt .i64) (tyNil))))
theorem tBits_R {h : Eng.Heap} {v : Value} {x : XBits} (H : tBits.R h v x) : ∃ u0, v = .agg #[u0, Value.int .i64 x.2.1, Value.int .i64 x.2.2.1] ∧ tB.R h u0 x.1 := by
  obtain ⟨_, rfl, u0, _, rfl, H0, ⟨_, _, rfl, (rfl : _ = _), ⟨_, _, rfl, (rfl : _ = _), ⟨rfl⟩⟩⟩⟩ := H
  exact ⟨u0, rfl, H0⟩
theorem tBits_mkR {h : Eng.Heap} {x : XBits} {u0 : Value} (H0 : tB.R h u0 x.1) : tBits.R h (.agg #[u0, Value.int .i64 x.2.1, Value.int .i64 x.2.2.1]) x := by
  unfold tBits; simp only [tyAgg_R, tyCons_R, tyInt_R, tyBool_R, tyNil_R]; exact ⟨H0, by first | rfl | trivial, by first | rfl | trivial, by first | rfl | trivial⟩
theorem tBits_O {h : Eng.Heap} {v : Value} {x : XBits} (H : tBits.O h v x) : ∃ u0, v = .agg #[u0, Value.int .i64 x.2.1, Value.int .i64 x.2.2.1] ∧ tB.O h u0 x.1 := by
  obtain ⟨_, rfl, u0, _, rfl, H0, ⟨_, _, rfl, (rfl : _ = _), ⟨_, _, rfl, (rfl : _ = _), ⟨rfl⟩, d2⟩, d1⟩, d0⟩ := H
  exact ⟨u0, rfl, H0⟩
theorem tBits_mkO {h : Eng.Heap} {x : XBits} {u0 : Value} (H0 : tB.O h u0 x.1) : tBits.O h (.agg #[u0, Value.int .i64 x.2.1, Value.int .i64 x.2.2.1]) x := by
  unfold tBits; simp only [tyAgg_O, tyCons_O, tyInt_O, tyBool_O, tyNil_O, tyCons_B, tyNil_B, tyInt_B, tyBool_B, false_or, or_false, not_false_eq_true, implies_true, and_true, true_and, forall_false, false_implies]
  first | exact H0 | simp_all
theorem tBits_B {u0 : Value} {b : Nat} {x : XBits} : tBits.B (.agg #[u0, Value.int .i64 x.2.1, Value.int .i64 x.2.2.1]) b ↔ tB.B u0 b := by
  unfold tBits; simp only [tyAgg_B, tyCons_B, tyNil_B, tyInt_B, tyBool_B, false_or, or_false]
theorem tBits_F {h : Eng.Heap} {v : Value} {x : XBits} (H : tBits.R h v x) : ∃ a0 c0, v = .agg #[.slice a0 x.1.length c0, Value.int .i64 x.2.1, Value.int .i64 x.2.2.1] := by
  obtain ⟨u0, rfl, H0⟩ := tBits_R H
  obtain ⟨a0, c0, rfl, _⟩ := H0
  exact ⟨_, _, rfl⟩
theorem tBits_invR {h : Eng.Heap} {e0 e1 e2 : Value} {x : XBits} (H : tBits.R h (.agg #[e0, e1, e2]) x) : tB.R h e0 x.1 := by
  unfold tBits at H
  simp only [tyAgg_R, tyCons_R] at H
  exact H.1
theorem tBits_invO {h : Eng.Heap} {e0 e1 e2 : Value} {x : XBits} (H : tBits.O h (.agg #[e0, e1, e2]) x) : tB.O h e0 x.1 := by
  unfold tBits at H
  simp only [tyAgg_O, tyCons_O] at H
  exact H.1
variable {S : Nat → Prop} {h : Eng.Heap} {v w : Value} {x : XBits}
def smBits (x : XBits) : Prop := x.1.length ≤ 1099511627776
def limBits (x : XBits) : Prop := x.1.length ≤ 1048576
theorem limBits_sm {x : XBits} (H : limBits x) : smBits x := Nat.le_trans H (by decide)
def cntBits (x : XBits) : Nat := x.1.length
theorem cntBits_le {x : XBits} (H : smBits x) : cntBits x ≤ 1125899906842 := Nat.le_trans H (by decide)
def mkBits (k : Int) (x : XBits) : XBits := (mkB k x.1, x.2)

theorem c_toBits (hi : Eng.Inv S h) (H : tBits.R h v x) (hs : smBits x) :
    CallsH Try.prog S F_laws_toBits #[v] h (fun u h' => tBits.O h' u x ∧ tBits.New h u ∧ Eng.Sub h h') := by
  obtain ⟨u0, rfl, H0⟩ := tBits_R H
  obtain ⟨a, c, rfl⟩ := tB_form H0
  refine run_laws_toBits (vs := [.slice a x.1.length c, .int .i64 x.2.1, .int .i64 x.2.2.1]) ⟨rfl, rfl, rfl, trivial⟩ hi ?_
  simp only [t_laws_toBits, Tr.wp, mksW, callW, Ex.ev, coerce, toInt_int, toBool_bool, slL_sl, slC_sl, slA_sl, toAddr_ptr, ptrOf_ptr, isNil_sl, isNil_ptr, it_and, it_or, it_int, optN_int, optN_nl, cmpI, arith, Cst.val, SV.den, resShs, resV, resSV, resVals, newVars, runCells, exSh, allSh, cellsAre, storeW, List.flatMap_cons, List.flatMap_nil, List.replicate_one, List.getD_cons_zero, List.getD_cons_succ, List.getElem?_cons_zero, List.getElem?_cons_succ, decide_eq_true_eq, decide_eq_false_iff_not, List.map_cons, List.map_nil, List.cons_append, List.nil_append, List.append_nil, List.length_cons, List.length_nil, Nat.zero_add, Nat.add_zero, and_true, true_and, if_true, if_false, Bool.false_eq_true]
  refine (c_toB hi H0 hs).mono ?_
  rintro _ h1 ⟨O1, N1, s1⟩
  obtain ⟨b, e, rfl⟩ := tB_form (tB.OR O1)
  exact ⟨_, _, _, rfl, tBits_mkO O1, fun b hb => N1 b (tBits_B.1 hb), s1⟩

theorem c_eqBits (hi : Eng.Inv S h) (H : tBits.R h v x) (H2 : tBits.R h w x) (hs : smBits x) :
    CallsH Try.prog S F_laws_eqBits #[v, w] h (fun u h' => u = .bool true ∧ h' = h) := by
  obtain ⟨u0, rfl, a, c, rfl, hx⟩ := tBits_R H
  obtain ⟨u2, rfl, a2, c2, rfl, hx2⟩ := tBits_R H2
  exact k_eqBits hi a a2 c c2 x.1 _ _ hx hx2 (Nat.le_trans hs (by decide))

theorem c_markBits (hi : Eng.Inv S h) (H : tBits.O h v x) (hb : ∀ b, tBits.B v b → ¬ S b) (k : Int) (k0 : 0 ≤ k) (k1 : k ≤ 1125899906842624) (hs : smBits x) :
    CallsH Try.prog S F_laws_markBits #[v, .int .i64 k] h (fun u h' => u = .int .i64 (k + cntBits x) ∧ tBits.O h' v (mkBits k x) ∧ ∀ b, ¬ tBits.B v b → h' b = h b) := by
  obtain ⟨u0, rfl, H0⟩ := tBits_O H
  obtain ⟨a, c, rfl⟩ := tB_form (tB.OR H0)
  refine run_laws_markBits (vs := [.slice a x.1.length c, .int .i64 x.2.1, .int .i64 x.2.2.1, .int .i64 k]) ⟨rfl, rfl, rfl, rfl, trivial⟩ hi ?_
  simp only [t_laws_markBits, Tr.wp, mksW, callW, Ex.ev, coerce, toInt_int, toBool_bool, slL_sl, slC_sl, slA_sl, toAddr_ptr, ptrOf_ptr, isNil_sl, isNil_ptr, it_and, it_or, it_int, optN_int, optN_nl, cmpI, arith, Cst.val, SV.den, resShs, resV, resSV, resVals, newVars, runCells, exSh, allSh, cellsAre, storeW, List.flatMap_cons, List.flatMap_nil, List.replicate_one, List.getD_cons_zero, List.getD_cons_succ, List.getElem?_cons_zero, List.getElem?_cons_succ, decide_eq_true_eq, decide_eq_false_iff_not, List.map_cons, List.map_nil, List.cons_append, List.nil_append, List.append_nil, List.length_cons, List.length_nil, Nat.zero_add, Nat.add_zero, and_true, true_and, if_true, if_false, Bool.false_eq_true]
  refine (c_markB hi H0 (fun b hB => hb b (tBits_B.2 hB)) k k0 k1 hs).mono ?_
  rintro _ h' ⟨rfl, O1, f⟩
  exact ⟨_, rfl, rfl, tBits_mkO (x := mkBits k x) O1, fun b hB => f b fun h => hB (tBits_B.2 h)⟩

theorem c_heldBits (hi : Eng.Inv S h) (k : Int) (H : tBits.R h v (mkBits k x)) (k0 : 0 ≤ k) (k1 : k ≤ 1125899906842624) (hs : smBits x) :
    CallsH Try.prog S F_laws_heldBits #[v, .int .i64 k] h (fun u h' => u = .int .i64 (k + cntBits x) ∧ h' = h) := by
  obtain ⟨u0, rfl, H0⟩ := tBits_R H
  obtain ⟨a, c, rfl⟩ := tB_form H0
  refine run_laws_heldBits (vs := [.slice a (mkBits k x).1.length c, .int .i64 x.2.1, .int .i64 x.2.2.1, .int .i64 k]) ⟨rfl, rfl, rfl, rfl, trivial⟩ hi ?_
  simp only [t_laws_heldBits, Tr.wp, mksW, callW, Ex.ev, coerce, toInt_int, toBool_bool, slL_sl, slC_sl, slA_sl, toAddr_ptr, ptrOf_ptr, isNil_sl, isNil_ptr, it_and, it_or, it_int, optN_int, optN_nl, cmpI, arith, Cst.val, SV.den, resShs, resV, resSV, resVals, newVars, runCells, exSh, allSh, cellsAre, storeW, List.flatMap_cons, List.flatMap_nil, List.replicate_one, List.getD_cons_zero, List.getD_cons_succ, List.getElem?_cons_zero, List.getElem?_cons_succ, decide_eq_true_eq, decide_eq_false_iff_not, List.map_cons, List.map_nil, List.cons_append, List.nil_append, List.append_nil, List.length_cons, List.length_nil, Nat.zero_add, Nat.add_zero, and_true, true_and, if_true, if_false, Bool.false_eq_true]
  refine (c_heldB hi k H0 k0 k1 hs).mono ?_
  rintro _ hq ⟨rfl, eq⟩
  exact ⟨_, rfl, fun hn => by omega, fun _ => ⟨rfl, eq⟩⟩

theorem c_szBits (hi : Eng.Inv S h) (H : tBits.R h v x) (hl : x.1.length ≤ maxLen) :
    CallsH Try.prog S F_laws_szBits #[v, .int .i64 1048576] h (fun u h' => ∃ k, u = .int .i64 k ∧ h' = h ∧ (0 ≤ k → limBits x)) := by
  obtain ⟨u0, rfl, a, c, rfl, hx⟩ := tBits_R H
  refine (k_szBits hi a _ c _ _ _).mono ?_
  rintro _ _ ⟨rfl, rfl⟩
  have hml : maxLen = 9223372036854775807 := rfl
  refine ⟨_, rfl, rfl, fun hk => ?_⟩
  have w1 : IntKind.i64.wrap (1048576 - (x.1.length : Int)) = 1048576 - x.1.length := i64_in _ (by omega)
  rw [w1] at hk
  show x.1.length ≤ 1048576
  by_cases h0 : (1048576 : Int) - x.1.length < 0
  · rw [if_pos h0] at hk; omega
  · omega
end Go.Proofs.Ytchlnichbaoeaaa
