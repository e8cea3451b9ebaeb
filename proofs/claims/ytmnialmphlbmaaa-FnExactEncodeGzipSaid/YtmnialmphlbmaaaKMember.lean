import Derived.Test.YtmnialmphlbmaaaTyB
import Derived.Test.YtmnialmphlbmaaaTrVM
set_option linter.unusedVariables false
set_option linter.unusedSimpArgs false
namespace Go.Proofs.Ytmnialmphlbmaaa
open Go Go.Eng Go.IntWalk
abbrev XMember := Int × Int × Int × Int × List Int × List Int × List Int × Int × Unit
def tMember : Ty Value XMember := tyAgg (tyCons (tyInt .i64) (tyCons (tyInt .i64) (tyCons (tyInt .i64) (tyCons (tyInt .i64) (tyCons tB (tyCons tB (tyCons tB (tyCons (tyInt .i64) (tyNil)))))))))
theorem tMember_R {h : Eng.Heap} {v : Value} {x : XMember} (H : tMember.R h v x) : ∃ u4 u5 u6, v = .agg #[Value.int .i64 x.1, Value.int .i64 x.2.1, Value.int .i64 x.2.2.1, Value.int .i64 x.2.2.2.1, u4, u5, u6, Value.int .i64 x.2.2.2.2.2.2.2.1] ∧ tB.R h u4 x.2.2.2.2.1 ∧ tB.R h u5 x.2.2.2.2.2.1 ∧ tB.R h u6 x.2.2.2.2.2.2.1 := by
  obtain ⟨_, rfl, _, _, rfl, (rfl : _ = _), ⟨_, _, rfl, (rfl : _ = _), ⟨_, _, rfl, (rfl : _ = _), ⟨_, _, rfl, (rfl : _ = _), ⟨u4, _, rfl, H4, ⟨u5, _, rfl, H5, ⟨u6, _, rfl, H6, ⟨_, _, rfl, (rfl : _ = _), ⟨rfl⟩⟩⟩⟩⟩⟩⟩⟩⟩ := H
  exact ⟨u4, u5, u6, rfl, H4, H5, H6⟩
theorem tMember_mkR {h : Eng.Heap} {x : XMember} {u4 u5 u6 : Value} (H4 : tB.R h u4 x.2.2.2.2.1) (H5 : tB.R h u5 x.2.2.2.2.2.1) (H6 : tB.R h u6 x.2.2.2.2.2.2.1) : tMember.R h (.agg #[Value.int .i64 x.1, Value.int .i64 x.2.1, Value.int .i64 x.2.2.1, Value.int .i64 x.2.2.2.1, u4, u5, u6, Value.int .i64 x.2.2.2.2.2.2.2.1]) x := by
  unfold tMember; simp only [tyAgg_R, tyCons_R, tyInt_R, tyBool_R, tyNil_R]; exact ⟨by first | rfl | trivial, by first | rfl | trivial, by first | rfl | trivial, by first | rfl | trivial, H4, H5, H6, by first | rfl | trivial, by first | rfl | trivial⟩
theorem tMember_O {h : Eng.Heap} {v : Value} {x : XMember} (H : tMember.O h v x) : ∃ u4 u5 u6, v = .agg #[Value.int .i64 x.1, Value.int .i64 x.2.1, Value.int .i64 x.2.2.1, Value.int .i64 x.2.2.2.1, u4, u5, u6, Value.int .i64 x.2.2.2.2.2.2.2.1] ∧ tB.O h u4 x.2.2.2.2.1 ∧ tB.O h u5 x.2.2.2.2.2.1 ∧ tB.O h u6 x.2.2.2.2.2.2.1 ∧ (∀ b, tB.B u4 b → ¬ tB.B u5 b) ∧ (∀ b, tB.B u4 b → ¬ tB.B u6 b) ∧ (∀ b, tB.B u5 b → ¬ tB.B u6 b) := by
  obtain ⟨_, rfl, _, _, rfl, (rfl : _ = _), ⟨_, _, rfl, (rfl : _ = _), ⟨_, _, rfl, (rfl : _ = _), ⟨_, _, rfl, (rfl : _ = _), ⟨u4, _, rfl, H4, ⟨u5, _, rfl, H5, ⟨u6, _, rfl, H6, ⟨_, _, rfl, (rfl : _ = _), ⟨rfl⟩, d7⟩, d6⟩, d5⟩, d4⟩, d3⟩, d2⟩, d1⟩, d0⟩ := H
  exact ⟨u4, u5, u6, rfl, H4, H5, H6, fun b h1 h2 => d4 b h1 (by simp only [tyCons_B, tyNil_B, tyInt_B, tyBool_B, false_or, or_false]; simp [h2]), fun b h1 h2 => d4 b h1 (by simp only [tyCons_B, tyNil_B, tyInt_B, tyBool_B, false_or, or_false]; simp [h2]), fun b h1 h2 => d5 b h1 (by simp only [tyCons_B, tyNil_B, tyInt_B, tyBool_B, false_or, or_false]; simp [h2])⟩
theorem tMember_mkO {h : Eng.Heap} {x : XMember} {u4 u5 u6 : Value} (H4 : tB.O h u4 x.2.2.2.2.1) (H5 : tB.O h u5 x.2.2.2.2.2.1) (H6 : tB.O h u6 x.2.2.2.2.2.2.1) (d0 : (∀ b, tB.B u4 b → ¬ tB.B u5 b)) (d1 : (∀ b, tB.B u4 b → ¬ tB.B u6 b)) (d2 : (∀ b, tB.B u5 b → ¬ tB.B u6 b)) : tMember.O h (.agg #[Value.int .i64 x.1, Value.int .i64 x.2.1, Value.int .i64 x.2.2.1, Value.int .i64 x.2.2.2.1, u4, u5, u6, Value.int .i64 x.2.2.2.2.2.2.2.1]) x := by
  unfold tMember; simp only [tyAgg_O, tyCons_O, tyInt_O, tyBool_O, tyNil_O, tyCons_B, tyNil_B, tyInt_B, tyBool_B, false_or, or_false, not_false_eq_true, implies_true, and_true, true_and, forall_false, false_implies]
  first | exact ⟨H4, H5, H6, d0, d1, d2⟩ | simp_all
theorem tMember_B {u4 u5 u6 : Value} {b : Nat} {x : XMember} : tMember.B (.agg #[Value.int .i64 x.1, Value.int .i64 x.2.1, Value.int .i64 x.2.2.1, Value.int .i64 x.2.2.2.1, u4, u5, u6, Value.int .i64 x.2.2.2.2.2.2.2.1]) b ↔ tB.B u4 b ∨ tB.B u5 b ∨ tB.B u6 b := by
  unfold tMember; simp only [tyAgg_B, tyCons_B, tyNil_B, tyInt_B, tyBool_B, false_or, or_false]
theorem tMember_F {h : Eng.Heap} {v : Value} {x : XMember} (H : tMember.R h v x) : ∃ a4 c4 a5 c5 a6 c6, v = .agg #[Value.int .i64 x.1, Value.int .i64 x.2.1, Value.int .i64 x.2.2.1, Value.int .i64 x.2.2.2.1, .slice a4 x.2.2.2.2.1.length c4, .slice a5 x.2.2.2.2.2.1.length c5, .slice a6 x.2.2.2.2.2.2.1.length c6, Value.int .i64 x.2.2.2.2.2.2.2.1] := by
  obtain ⟨u4, u5, u6, rfl, H4, H5, H6⟩ := tMember_R H
  obtain ⟨a4, c4, rfl, _⟩ := H4
  obtain ⟨a5, c5, rfl, _⟩ := H5
  obtain ⟨a6, c6, rfl, _⟩ := H6
  exact ⟨_, _, _, _, _, _, rfl⟩
theorem tMember_invR {h : Eng.Heap} {e0 e1 e2 e3 e4 e5 e6 e7 : Value} {x : XMember} (H : tMember.R h (.agg #[e0, e1, e2, e3, e4, e5, e6, e7]) x) : tB.R h e4 x.2.2.2.2.1 ∧ tB.R h e5 x.2.2.2.2.2.1 ∧ tB.R h e6 x.2.2.2.2.2.2.1 := by
  unfold tMember at H
  simp only [tyAgg_R, tyCons_R] at H
  exact ⟨H.2.2.2.2.1, H.2.2.2.2.2.1, H.2.2.2.2.2.2.1⟩
theorem tMember_invO {h : Eng.Heap} {e0 e1 e2 e3 e4 e5 e6 e7 : Value} {x : XMember} (H : tMember.O h (.agg #[e0, e1, e2, e3, e4, e5, e6, e7]) x) : tB.O h e4 x.2.2.2.2.1 ∧ tB.O h e5 x.2.2.2.2.2.1 ∧ tB.O h e6 x.2.2.2.2.2.2.1 := by
  unfold tMember at H
  simp only [tyAgg_O, tyCons_O] at H
  exact ⟨H.2.1.2.1.2.1.2.1.1, H.2.1.2.1.2.1.2.1.2.1.1, H.2.1.2.1.2.1.2.1.2.1.2.1.1⟩
variable {S : Shared} {h : Eng.Heap} {v w : Value} {x : XMember}
def mE (x : XMember) : List Int := x.2.2.2.2.1
def mN (x : XMember) : List Int := x.2.2.2.2.2.1
def mC (x : XMember) : List Int := x.2.2.2.2.2.2.1
def smMember (x : XMember) : Prop := smB (mE x) ∧ smB (mN x) ∧ smB (mC x)
def limMember (x : XMember) : Prop := limB (mE x) ∧ limB (mN x) ∧ limB (mC x)
theorem limMember_sm {x : XMember} (H : limMember x) : smMember x := ⟨limB_sm H.1, limB_sm H.2.1, limB_sm H.2.2⟩

theorem c_toMember (hi : Eng.Inv S h) (H : tMember.R h v x) (hs : smMember x) :
    CallsH Try.prog S F_laws_toMember #[v] h (fun u h' => tMember.O h' u x ∧ tMember.New h u ∧ Eng.Sub h h') := by
  obtain ⟨u4, u5, u6, rfl, H4, H5, H6⟩ := tMember_R H
  obtain ⟨a4, c4, rfl⟩ := tB_form H4
  obtain ⟨a5, c5, rfl⟩ := tB_form H5
  obtain ⟨a6, c6, rfl⟩ := tB_form H6
  obtain ⟨n0, n1, n2, n3, xs, ys, zs, n7, ⟨⟩⟩ := x
  refine run_laws_toMember (vs := [.int .i64 n0, .int .i64 n1, .int .i64 n2, .int .i64 n3, .slice a4 xs.length c4, .slice a5 ys.length c5, .slice a6 zs.length c6, .int .i64 n7]) ⟨rfl, rfl, rfl, rfl, rfl, rfl, rfl, rfl, trivial⟩ hi ?_
  simp only [t_laws_toMember, Tr.wp, mksW, callW, Ex.ev, coerce, toInt_int, toBool_bool, slL_sl, slC_sl, slA_sl, toAddr_ptr, ptrOf_ptr, isNil_sl, isNil_ptr, it_and, it_or, it_int, optN_int, optN_nl, cmpI, arith, Cst.val, SV.den, resShs, resV, resSV, resVals, newVars, runCells, exSh, allSh, cellsAre, storeW, List.flatMap_cons, List.flatMap_nil, List.replicate_one, List.getD_cons_zero, List.getD_cons_succ, List.getElem?_cons_zero, List.getElem?_cons_succ, decide_eq_true_eq, decide_eq_false_iff_not, List.map_cons, List.map_nil, List.cons_append, List.nil_append, List.append_nil, List.length_cons, List.length_nil, Nat.zero_add, Nat.add_zero, and_true, true_and, if_true, if_false, Bool.false_eq_true]
  refine (c_toB hi H4 hs.1).mono ?_
  rintro _ h1 ⟨O1, N1, s1⟩
  obtain ⟨b1, e1, rfl⟩ := tB_form (tB.OR O1)
  refine ⟨_, _, _, rfl, ?_⟩
  refine (c_toB (hi.sub s1) (tB.Rsub H5 s1) hs.2.1).mono ?_
  rintro _ h2 ⟨O2, N2, s2⟩
  obtain ⟨b2, e2, rfl⟩ := tB_form (tB.OR O2)
  refine ⟨_, _, _, rfl, ?_⟩
  refine (c_toB (hi.sub (s1.trans s2)) (tB.Rsub H6 (s1.trans s2)) hs.2.2).mono ?_
  rintro _ h3 ⟨O3, N3, s3⟩
  obtain ⟨b3, e3, rfl⟩ := tB_form (tB.OR O3)
  refine ⟨_, _, _, rfl, tMember_mkO (x := (n0, n1, n2, n3, xs, ys, zs, n7, ())) (Ty.Osub O1 (s2.trans s3)) (Ty.Osub O2 s3) O3 (fun b h1 h2 => tB.Oheld O1 h1 (N2 b h2)) (fun b h1 h2 => tB.Oheld (Ty.Osub O1 s2) h1 (N3 b h2)) (fun b h1 h2 => tB.Oheld O2 h1 (N3 b h2)), fun b hb => ?_, s1.trans (s2.trans s3)⟩
  rcases (tMember_B (x := (n0, n1, n2, n3, xs, ys, zs, n7, ()))).1 hb with h | h | h
  · exact N1 b h
  · exact sub_none s1 (N2 b h)
  · exact sub_none (s1.trans s2) (N3 b h)

theorem c_eqMember (hi : Eng.Inv S h) (H : tMember.R h v x) (H2 : tMember.R h w x) (hs : smMember x) :
    CallsH Try.prog S F_laws_eqMember #[v, w] h (fun u h' => u = .bool true ∧ h' = h) := by
  obtain ⟨u4, u5, u6, rfl, H4, H5, H6⟩ := tMember_R H
  obtain ⟨a4, c4, rfl⟩ := tB_form H4
  obtain ⟨a5, c5, rfl⟩ := tB_form H5
  obtain ⟨a6, c6, rfl⟩ := tB_form H6
  obtain ⟨v4, v5, v6, rfl, G4, G5, G6⟩ := tMember_R H2
  obtain ⟨d4, f4, rfl⟩ := tB_form G4
  obtain ⟨d5, f5, rfl⟩ := tB_form G5
  obtain ⟨d6, f6, rfl⟩ := tB_form G6
  obtain ⟨n0, n1, n2, n3, xs, ys, zs, n7, ⟨⟩⟩ := x
  refine run_laws_eqMember (vs := [.int .i64 n0, .int .i64 n1, .int .i64 n2, .int .i64 n3, .slice a4 xs.length c4, .slice a5 ys.length c5, .slice a6 zs.length c6, .int .i64 n7, .int .i64 n0, .int .i64 n1, .int .i64 n2, .int .i64 n3, .slice d4 xs.length f4, .slice d5 ys.length f5, .slice d6 zs.length f6, .int .i64 n7]) ⟨rfl, rfl, rfl, rfl, rfl, rfl, rfl, rfl, rfl, rfl, rfl, rfl, rfl, rfl, rfl, rfl, trivial⟩ hi ?_
  simp only [t_laws_eqMember, Tr.wp, mksW, callW, Ex.ev, coerce, toInt_int, toBool_bool, slL_sl, slC_sl, slA_sl, toAddr_ptr, ptrOf_ptr, isNil_sl, isNil_ptr, it_and, it_or, it_int, optN_int, optN_nl, cmpI, arith, Cst.val, SV.den, resShs, resV, resSV, resVals, newVars, runCells, exSh, allSh, cellsAre, storeW, List.flatMap_cons, List.flatMap_nil, List.replicate_one, List.getD_cons_zero, List.getD_cons_succ, List.getElem?_cons_zero, List.getElem?_cons_succ, decide_eq_true_eq, decide_eq_false_iff_not, List.map_cons, List.map_nil, List.cons_append, List.nil_append, List.append_nil, List.length_cons, List.length_nil, Nat.zero_add, Nat.add_zero, and_true, true_and, if_true, if_false, Bool.false_eq_true]
  refine ⟨fun hne => by simp at hne, fun _ => ⟨fun hne => by simp at hne, fun _ => ⟨fun hne => by simp at hne, fun _ => ⟨fun hne => by simp at hne, fun _ => ?_⟩⟩⟩⟩
  refine (c_eqB hi H4 G4 hs.1).mono ?_
  rintro _ hq ⟨rfl, eq⟩
  rw [eq]
  refine ⟨_, rfl, fun hne => by simp at hne, fun _ => ?_⟩
  refine (c_eqB hi H5 G5 hs.2.1).mono ?_
  rintro _ hq ⟨rfl, eq⟩
  rw [eq]
  refine ⟨_, rfl, fun hne => by simp at hne, fun _ => ?_⟩
  refine (c_eqB hi H6 G6 hs.2.2).mono ?_
  rintro _ hq ⟨rfl, eq⟩
  rw [eq]
  exact ⟨_, rfl, fun hne => by simp at hne, fun _ => ⟨fun hne => by simp at hne, fun _ => rfl⟩⟩

theorem szB_neg {n l : Int} (hn : n ≤ 9223372036854775807 ∧ -9223372036854775808 ≤ n) : True := trivial

theorem c_szMember (hi : Eng.Inv S h) (H : tMember.R h v x) (hl4 : (mE x).length ≤ maxLen) (hl5 : (mN x).length ≤ maxLen) (hl6 : (mC x).length ≤ maxLen) :
    CallsH Try.prog S F_laws_szMember #[v, .int .i64 1048576] h (fun u h' => ∃ k, u = .int .i64 k ∧ h' = h ∧ (0 ≤ k → limMember x)) := by
  obtain ⟨u4, u5, u6, rfl, H4, H5, H6⟩ := tMember_R H
  obtain ⟨a4, c4, rfl⟩ := tB_form H4
  obtain ⟨a5, c5, rfl⟩ := tB_form H5
  obtain ⟨a6, c6, rfl⟩ := tB_form H6
  obtain ⟨n0, n1, n2, n3, xs, ys, zs, n7, ⟨⟩⟩ := x
  have hml : maxLen = 9223372036854775807 := rfl
  have hl4 : xs.length ≤ maxLen := hl4
  have hl5 : ys.length ≤ maxLen := hl5
  have hl6 : zs.length ≤ maxLen := hl6
  refine run_laws_szMember (vs := [.int .i64 n0, .int .i64 n1, .int .i64 n2, .int .i64 n3, .slice a4 xs.length c4, .slice a5 ys.length c5, .slice a6 zs.length c6, .int .i64 n7, .int .i64 1048576]) ⟨rfl, rfl, rfl, rfl, rfl, rfl, rfl, rfl, rfl, trivial⟩ hi ?_
  simp only [t_laws_szMember, Tr.wp, mksW, callW, Ex.ev, coerce, toInt_int, toBool_bool, slL_sl, slC_sl, slA_sl, toAddr_ptr, ptrOf_ptr, isNil_sl, isNil_ptr, it_and, it_or, it_int, optN_int, optN_nl, cmpI, arith, Cst.val, SV.den, resShs, resV, resSV, resVals, newVars, runCells, exSh, allSh, cellsAre, storeW, List.flatMap_cons, List.flatMap_nil, List.replicate_one, List.getD_cons_zero, List.getD_cons_succ, List.getElem?_cons_zero, List.getElem?_cons_succ, decide_eq_true_eq, decide_eq_false_iff_not, List.map_cons, List.map_nil, List.cons_append, List.nil_append, List.append_nil, List.length_cons, List.length_nil, Nat.zero_add, Nat.add_zero, and_true, true_and, if_true, if_false, Bool.false_eq_true]
  refine (k_szByteS hi a4 _ c4 _).mono ?_
  rintro _ hq ⟨rfl, eq⟩
  rw [eq]
  have w1 : IntKind.i64.wrap (1048576 - (xs.length : Int)) = 1048576 - xs.length := i64_in _ (by omega)
  rw [w1]
  refine ⟨_, rfl, fun hlt => ⟨-1, rfl, rfl, fun h => by omega⟩, fun hge => ?_⟩
  have h1 : xs.length ≤ 1048576 := by
    by_cases h0 : (1048576 : Int) - xs.length < 0
    · rw [if_pos h0] at hge; omega
    · omega
  have e1 : (if (1048576 : Int) - xs.length < 0 then -1 else (1048576 : Int) - xs.length) = 1048576 - xs.length := if_neg (by omega)
  rw [e1]
  refine (k_szByteS hi a5 _ c5 _).mono ?_
  rintro _ hq ⟨rfl, eq⟩
  rw [eq]
  have w2 : IntKind.i64.wrap (1048576 - (xs.length : Int) - ys.length) = 1048576 - xs.length - ys.length := i64_in _ (by omega)
  rw [w2]
  refine ⟨_, rfl, fun hlt => ⟨-1, rfl, rfl, fun h => by omega⟩, fun hge => ?_⟩
  have h2 : (xs.length : Int) + ys.length ≤ 1048576 := by
    by_cases h0 : (1048576 : Int) - xs.length - ys.length < 0
    · rw [if_pos h0] at hge; omega
    · omega
  have e2 : (if (1048576 : Int) - xs.length - ys.length < 0 then -1 else (1048576 : Int) - xs.length - ys.length) = 1048576 - xs.length - ys.length := if_neg (by omega)
  rw [e2]
  refine (k_szByteS hi a6 _ c6 _).mono ?_
  rintro _ hq ⟨rfl, eq⟩
  rw [eq]
  have w3 : IntKind.i64.wrap (1048576 - (xs.length : Int) - ys.length - zs.length) = 1048576 - xs.length - ys.length - zs.length := i64_in _ (by omega)
  rw [w3]
  refine ⟨_, rfl, fun hlt => ⟨-1, rfl, rfl, fun h => by omega⟩, fun hge => ⟨_, rfl, rfl, fun hk => ?_⟩⟩
  by_cases h0 : (1048576 : Int) - xs.length - ys.length - zs.length < 0
  · rw [if_pos h0] at hk; omega
  · refine ⟨?_, ?_, ?_⟩
    · show xs.length ≤ 1048576; omega
    · show ys.length ≤ 1048576; omega
    · show zs.length ≤ 1048576; omega

def vmem (x : XMember) : Prop :=
  (0 ≤ x.1 ∧ x.1 ≤ 31) ∧ (0 ≤ x.2.1 ∧ x.2.1 ≤ 4294967295) ∧ (0 ≤ x.2.2.1 ∧ x.2.2.1 ≤ 255) ∧ (0 ≤ x.2.2.2.1 ∧ x.2.2.2.1 ≤ 255) ∧ (mE x).length ≤ 65535 ∧ (0 ≤ x.2.2.2.2.2.2.2.1 ∧ x.2.2.2.2.2.2.2.1 ≤ 100000) ∧
  ((mE x).length = 0 ∨ x.1 / 4 % 2 ≠ 0) ∧ ((mN x).length = 0 ∨ x.1 / 8 % 2 ≠ 0) ∧ ((mC x).length = 0 ∨ x.1 / 16 % 2 ≠ 0) ∧ (0 : Int) ∉ mN x ∧ (0 : Int) ∉ mC x ∧ (mE x).length + (mN x).length + (mC x).length ≤ 65536
instance (x : XMember) : Decidable (vmem x) := by unfold vmem; infer_instance

theorem noz {xs : List Int} {i : Nat} (h : (0 : Int) ∉ xs.take i) (hi : i < xs.length) (hx : xs[i] ≠ 0) : (0 : Int) ∉ xs.take (i + 1) := by
  rw [List.take_add_one, List.getElem?_eq_getElem hi]
  simp only [Option.toList_some, List.mem_append, List.mem_singleton, not_or]
  exact ⟨h, fun e => hx e.symm⟩

theorem k_noZero (hi : Eng.Inv S h) (a : Option Addr) (c : Nat) (xs : List Int) (hx : HInts h .u8 a xs) (hl : xs.length ≤ 1048576) :
    CallsH Try.prog S F_spec_l6NoZero #[.slice a xs.length c] h (fun v h' => v = .bool (decide ((0 : Int) ∉ xs)) ∧ h' = h) := by
  refine run_spec_l6NoZero (vs := [.slice a xs.length c]) ⟨rfl, trivial⟩ hi ?_
  simp only [t_spec_l6NoZero, Tr.wp, mksW, callW, Ex.ev, coerce, toInt_int, toBool_bool, slL_sl, slC_sl, slA_sl, toAddr_ptr, ptrOf_ptr, isNil_sl, isNil_ptr, it_and, it_or, it_int, optN_int, optN_nl, cmpI, arith, Cst.val, SV.den, resShs, resV, resSV, resVals, newVars, runCells, exSh, allSh, cellsAre, storeW, List.flatMap_cons, List.flatMap_nil, List.replicate_one, List.getD_cons_zero, List.getD_cons_succ, List.getElem?_cons_zero, List.getElem?_cons_succ, decide_eq_true_eq, decide_eq_false_iff_not, List.map_cons, List.map_nil, List.cons_append, List.nil_append, List.append_nil, List.length_cons, List.length_nil, Nat.zero_add, Nat.add_zero, and_true, true_and, if_true, if_false, Bool.false_eq_true]
  refine ⟨fun us h' => ∃ i : Nat, us = [.int .i64 i] ∧ i ≤ xs.length ∧ h' = h ∧ (0 : Int) ∉ xs.take i, fun us _ => xs.length - (toInt (us.getD 0 undef)).toNat, ⟨0, rfl, by omega, rfl, by simp⟩, ?_⟩
  rintro x h' ⟨i, hx1, hi2, rfl, hz⟩
  obtain rfl : x = i := by simpa using hx1
  refine ⟨fun hlt => ?_, fun hge => ?_⟩
  · have hi3 : i < xs.length := by omega
    obtain ⟨g1, g2⟩ := hx.cell (List.getElem?_eq_getElem hi3)
    have w2 : IntKind.i64.wrap ((i : Int) + 1) = ((i + 1 : Nat) : Int) := by rw [i64_in _ (by omega)]; omega
    refine ⟨by simpa using g2, by omega, hlt, xs[i], by simpa [add_add] using g1, fun h0 => ?_, fun h0 => ?_⟩
    · have h0 : xs[i] = 0 := by simpa using h0
      have hm : (0 : Int) ∈ xs := by rw [← h0]; exact List.getElem_mem hi3
      rw [decide_eq_false (fun h => h hm)]
      exact ⟨rfl, rfl⟩
    · rw [w2]
      exact ⟨⟨i + 1, rfl, by omega, rfl, noz hz hi3 (by simpa using h0)⟩, by simp only [List.getD_cons_zero, toInt_int]; omega⟩
  · obtain rfl : i = xs.length := by omega
    rw [List.take_length] at hz
    simp [hz]

theorem k_plainText (hi : Eng.Inv S h) (a : Option Addr) (c : Nat) (xs : List Int) (hx : HInts h .u8 a xs) (hl : xs.length ≤ 1048576) :
    CallsH Try.prog S F_impl_plainText #[.slice a xs.length c] h (fun v h' => v = .bool (decide ((0 : Int) ∉ xs)) ∧ h' = h) := by
  refine run_impl_plainText (vs := [.slice a xs.length c]) ⟨rfl, trivial⟩ hi ?_
  simp only [t_impl_plainText, Tr.wp, mksW, callW, Ex.ev, coerce, toInt_int, toBool_bool, slL_sl, slC_sl, slA_sl, toAddr_ptr, ptrOf_ptr, isNil_sl, isNil_ptr, it_and, it_or, it_int, optN_int, optN_nl, cmpI, arith, Cst.val, SV.den, resShs, resV, resSV, resVals, newVars, runCells, exSh, allSh, cellsAre, storeW, List.flatMap_cons, List.flatMap_nil, List.replicate_one, List.getD_cons_zero, List.getD_cons_succ, List.getElem?_cons_zero, List.getElem?_cons_succ, decide_eq_true_eq, decide_eq_false_iff_not, List.map_cons, List.map_nil, List.cons_append, List.nil_append, List.append_nil, List.length_cons, List.length_nil, Nat.zero_add, Nat.add_zero, and_true, true_and, if_true, if_false, Bool.false_eq_true]
  refine ⟨fun us h' => ∃ i : Nat, us = [.int .i64 i] ∧ i ≤ xs.length ∧ h' = h ∧ (0 : Int) ∉ xs.take i, fun us _ => xs.length - (toInt (us.getD 0 undef)).toNat, ⟨0, rfl, by omega, rfl, by simp⟩, ?_⟩
  rintro x h' ⟨i, hx1, hi2, rfl, hz⟩
  obtain rfl : x = i := by simpa using hx1
  refine ⟨fun hlt => ?_, fun hge => ?_⟩
  · have hi3 : i < xs.length := by omega
    obtain ⟨g1, g2⟩ := hx.cell (List.getElem?_eq_getElem hi3)
    have w2 : IntKind.i64.wrap ((i : Int) + 1) = ((i + 1 : Nat) : Int) := by rw [i64_in _ (by omega)]; omega
    refine ⟨by simpa using g2, by omega, hlt, xs[i], by simpa [add_add] using g1, fun h0 => ?_, fun h0 => ?_⟩
    · have h0 : xs[i] = 0 := by simpa using h0
      have hm : (0 : Int) ∈ xs := by rw [← h0]; exact List.getElem_mem hi3
      rw [decide_eq_false (fun h => h hm)]
      exact ⟨rfl, rfl⟩
    · rw [w2]
      exact ⟨⟨i + 1, rfl, by omega, rfl, noz hz hi3 (by simpa using h0)⟩, by simp only [List.getD_cons_zero, toInt_int]; omega⟩
  · obtain rfl : i = xs.length := by omega
    rw [List.take_length] at hz
    simp [hz]

theorem k_in (hi : Eng.Inv S h) (n m : Int) : CallsH Try.prog S F_impl_ValidMember_1 #[.int .i64 n, .int .i64 m] h (fun v h' => v = .bool (decide (0 ≤ n ∧ n ≤ m)) ∧ h' = h) := by
  refine run_impl_ValidMember_1 (vs := [.int .i64 n, .int .i64 m]) ⟨rfl, rfl, trivial⟩ hi ?_
  simp only [t_impl_ValidMember_1, Tr.wp, mksW, callW, Ex.ev, coerce, toInt_int, toBool_bool, slL_sl, slC_sl, slA_sl, toAddr_ptr, ptrOf_ptr, isNil_sl, isNil_ptr, it_and, it_or, it_int, optN_int, optN_nl, cmpI, arith, Cst.val, SV.den, resShs, resV, resSV, resVals, newVars, runCells, exSh, allSh, cellsAre, storeW, List.flatMap_cons, List.flatMap_nil, List.replicate_one, List.getD_cons_zero, List.getD_cons_succ, List.getElem?_cons_zero, List.getElem?_cons_succ, decide_eq_true_eq, decide_eq_false_iff_not, List.map_cons, List.map_nil, List.cons_append, List.nil_append, List.append_nil, List.length_cons, List.length_nil, Nat.zero_add, Nat.add_zero, and_true, true_and, if_true, if_false, Bool.false_eq_true]
  simp

theorem and4 : ∀ n : Nat, n < 32 → (Go.bits .and .i64 (n : Int) 4 != 0) = decide ((n : Int) / 4 % 2 ≠ 0) := by decide +kernel
theorem and8 : ∀ n : Nat, n < 32 → (Go.bits .and .i64 (n : Int) 8 != 0) = decide ((n : Int) / 8 % 2 ≠ 0) := by decide +kernel
theorem and16 : ∀ n : Nat, n < 32 → (Go.bits .and .i64 (n : Int) 16 != 0) = decide ((n : Int) / 16 % 2 ≠ 0) := by decide +kernel

theorem k_only (hi : Eng.Inv S h) (a : Option Addr) (l c : Nat) (f g : Int) (b : Nat) (hf : hcell h ⟨b, 0, none⟩ = some (.int .i64 f)) :
    CallsH Try.prog S F_impl_ValidMember_2 #[.slice a l c, .int .i64 g, .pointer (some ⟨b, 0, none⟩)] h (fun v h' => v = .bool (decide (l = 0) || (Go.bits .and .i64 f g != 0)) ∧ h' = h) := by
  refine run_impl_ValidMember_2 (vs := [.slice a l c, .int .i64 g, .pointer (some ⟨b, 0, none⟩)]) ⟨rfl, rfl, rfl, trivial⟩ hi ?_
  simp only [t_impl_ValidMember_2, Tr.wp, mksW, callW, Ex.ev, coerce, toInt_int, toBool_bool, slL_sl, slC_sl, slA_sl, toAddr_ptr, ptrOf_ptr, isNil_sl, isNil_ptr, it_and, it_or, it_int, optN_int, optN_nl, cmpI, arith, Cst.val, SV.den, resShs, resV, resSV, resVals, newVars, runCells, exSh, allSh, cellsAre, storeW, List.flatMap_cons, List.flatMap_nil, List.replicate_one, List.getD_cons_zero, List.getD_cons_succ, List.getElem?_cons_zero, List.getElem?_cons_succ, decide_eq_true_eq, decide_eq_false_iff_not, List.map_cons, List.map_nil, List.cons_append, List.nil_append, List.append_nil, List.length_cons, List.length_nil, Nat.zero_add, Nat.add_zero, and_true, true_and, if_true, if_false, Bool.false_eq_true]
  refine ⟨fun h0 => ⟨f, by simpa [addr_add] using hf, fun _ => ?_⟩, fun h0 _ => ?_⟩
  · have : ¬ l = 0 := by simpa using h0
    simp [this]
  · have : l = 0 := by simpa using h0
    simp [this]
end Go.Proofs.Ytmnialmphlbmaaa
