import Derived.Test.YtmnialmphlbmaaaDoorTyI
import Derived.Test.YtmnialmphlbmaaaDoorTyB
import Derived.Test.YtmnialmphlbmaaaDoorTrRL
set_option linter.unusedVariables false
set_option linter.unusedSimpArgs false
namespace Go.Proofs.YtmnialmphlbmaaaDoor
open Go Go.Eng Go.IntWalk
section
variable {S : Shared} {h : Eng.Heap}
def marksI (k : Int) (n : Nat) : List Int := (List.range n).map fun (i : Nat) => k + (i : Int)
theorem marksI_len (k : Int) (n : Nat) : (marksI k n).length = n := by simp [marksI]
theorem marksI_succ (k : Int) (n : Nat) : marksI k (n + 1) = marksI k n ++ [k + (n : Int)] := by simp [marksI, List.range_succ]
theorem marksI_get {k : Int} {n i : Nat} (h : i < n) : (marksI k n)[i]? = some (k + (i : Int)) := by simp [marksI, h]
theorem markedI_set {xs sp : List Int} {k : Int} {i : Nat} (hi : i < xs.length) :
    (marksI k i ++ xs.drop i ++ sp).set i (k + (i : Int)) = marksI k (i + 1) ++ xs.drop (i + 1) ++ sp := by
  rw [marksI_succ, List.append_assoc, List.set_append_right _ _ (by rw [marksI_len]; omega), marksI_len, Nat.sub_self, List.drop_eq_getElem_cons hi]
  simp only [List.cons_append, List.set_cons_zero, List.append_assoc, List.nil_append]

theorem markedI_set3 {pr xs sp : List Int} {k : Int} {i : Nat} (hi : i < xs.length) :
    (pr ++ (marksI k i ++ xs.drop i ++ sp)).set (pr.length + i) (k + (i : Int)) = pr ++ (marksI k (i + 1) ++ xs.drop (i + 1) ++ sp) := by
  rw [List.set_append_right _ _ (by omega), Nat.add_sub_cancel_left, markedI_set hi]

theorem k_markInt64P (hi : Eng.Inv S h) {v : Value} {xs : List Int} (hs : Part .i64 h v xs) (hb : ∀ b, blkOf v = some b → ¬ S b) (k : Int) (k0 : 0 ≤ k) (k1 : k ≤ 4611686018427387903) (hl : xs.length ≤ 4611686018427387904) :
    CallsH Tryd.prog S F_laws_markInt64S #[v, .int .i64 k] h (fun u h' => u = .int .i64 (k + xs.length) ∧ Part .i64 h' v (marksI k xs.length) ∧ ∀ b, blkOf v ≠ some b → h' b = h b) := by
  rcases hs with ⟨rfl, rfl⟩ | ⟨b, pr, sp, re, T, rfl, hbl⟩
  · refine run_laws_markInt64S (vs := [.slice none 0 0, .int .i64 k]) ⟨rfl, rfl, trivial⟩ hi ?_
    simp only [t_laws_markInt64S, Tr.wp, mksW, callW, Ex.ev, coerce, toInt_int, toBool_bool, slL_sl, slC_sl, slA_sl, toAddr_ptr, ptrOf_ptr, isNil_sl, isNil_ptr, it_and, it_or, it_int, optN_int, optN_nl, cmpI, arith, Cst.val, SV.den, resShs, resV, resSV, resVals, newVars, runCells, exSh, allSh, cellsAre, storeW, List.flatMap_cons, List.flatMap_nil, List.replicate_one, List.getD_cons_zero, List.getD_cons_succ, List.getElem?_cons_zero, List.getElem?_cons_succ, decide_eq_true_eq, decide_eq_false_iff_not, List.map_cons, List.map_nil, List.cons_append, List.nil_append, List.append_nil, List.length_cons, List.length_nil, Nat.zero_add, Nat.add_zero, and_true, true_and, if_true, if_false, Bool.false_eq_true]
    refine ⟨fun us h' => us = [.int .i64 k, .int .i64 0] ∧ h' = h, fun us _ => 0, ⟨rfl, rfl⟩, ?_⟩
    rintro x y h' ⟨hx, rfl⟩
    obtain ⟨rfl, rfl⟩ : x = k ∧ y = 0 := by simpa using hx
    simp only [Tr.wp, mksW, callW, Ex.ev, coerce, toInt_int, toBool_bool, slL_sl, slC_sl, slA_sl, toAddr_ptr, ptrOf_ptr, isNil_sl, isNil_ptr, it_and, it_or, it_int, optN_int, optN_nl, cmpI, arith, Cst.val, SV.den, resShs, resV, resSV, resVals, newVars, runCells, exSh, allSh, cellsAre, storeW, List.flatMap_cons, List.flatMap_nil, List.replicate_one, List.getD_cons_zero, List.getD_cons_succ, List.getElem?_cons_zero, List.getElem?_cons_succ, decide_eq_true_eq, decide_eq_false_iff_not, List.map_cons, List.map_nil, List.cons_append, List.nil_append, List.append_nil, List.length_cons, List.length_nil, Nat.zero_add, Nat.add_zero, and_true, true_and, if_true, if_false, Bool.false_eq_true]
    refine ⟨fun hlt => absurd hlt (by omega), fun _ => ⟨by simp, Part.nil, fun _ _ => trivial⟩⟩
  have hsb := hb b rfl
  refine run_laws_markInt64S (vs := [.slice (some ⟨b, pr.length, none⟩) xs.length (xs.length + sp.length), .int .i64 k]) ⟨rfl, rfl, trivial⟩ hi ?_
  simp only [t_laws_markInt64S, Tr.wp, mksW, callW, Ex.ev, coerce, toInt_int, toBool_bool, slL_sl, slC_sl, slA_sl, toAddr_ptr, ptrOf_ptr, isNil_sl, isNil_ptr, it_and, it_or, it_int, optN_int, optN_nl, cmpI, arith, Cst.val, SV.den, resShs, resV, resSV, resVals, newVars, runCells, exSh, allSh, cellsAre, storeW, List.flatMap_cons, List.flatMap_nil, List.replicate_one, List.getD_cons_zero, List.getD_cons_succ, List.getElem?_cons_zero, List.getElem?_cons_succ, decide_eq_true_eq, decide_eq_false_iff_not, List.map_cons, List.map_nil, List.cons_append, List.nil_append, List.append_nil, List.length_cons, List.length_nil, Nat.zero_add, Nat.add_zero, and_true, true_and, if_true, if_false, Bool.false_eq_true]
  have hbl2 : h b = some (.cells (ints .i64 (pr ++ (xs ++ (sp ++ re)))) T) := by rw [hbl]; simp [List.append_assoc]
  refine ⟨fun us h' => ∃ (i : Nat), us = [.int .i64 (k + (i : Int)), .int .i64 i] ∧ i ≤ xs.length ∧ h' = upd h b (.cells (ints .i64 (pr ++ (marksI k i ++ xs.drop i ++ (sp ++ re)))) T), fun us _ => xs.length - (toInt (us.getD 1 undef)).toNat, ⟨0, by simp, by omega, ?_⟩, ?_⟩
  · simp only [marksI, List.range_zero, List.map_nil, List.nil_append, List.drop_zero]
    exact (upd_self hbl2).symm
  rintro x y h' ⟨i, hx, hi2, rfl⟩
  obtain ⟨rfl, rfl⟩ : x = k + (i : Int) ∧ y = i := by simpa using hx
  simp only [Tr.wp, mksW, callW, Ex.ev, coerce, toInt_int, toBool_bool, slL_sl, slC_sl, slA_sl, toAddr_ptr, ptrOf_ptr, isNil_sl, isNil_ptr, it_and, it_or, it_int, optN_int, optN_nl, cmpI, arith, Cst.val, SV.den, resShs, resV, resSV, resVals, newVars, runCells, exSh, allSh, cellsAre, storeW, List.flatMap_cons, List.flatMap_nil, List.replicate_one, List.getD_cons_zero, List.getD_cons_succ, List.getElem?_cons_zero, List.getElem?_cons_succ, decide_eq_true_eq, decide_eq_false_iff_not, List.map_cons, List.map_nil, List.cons_append, List.nil_append, List.append_nil, List.length_cons, List.length_nil, Nat.zero_add, Nat.add_zero, and_true, true_and, if_true, if_false, Bool.false_eq_true]
  refine ⟨fun hlt => ?_, fun hge => ?_⟩
  · have hi3 : i < xs.length := by omega
    have w1 : IntKind.i64.wrap (k + (i : Int) + 1) = k + ((i + 1 : Nat) : Int) := by rw [i64_in _ (by omega)]; omega
    have w2 : IntKind.i64.wrap ((i : Int) + 1) = ((i + 1 : Nat) : Int) := by rw [i64_in _ (by omega)]; omega
    have hsz : pr.length + i < (ints .i64 (pr ++ (marksI k i ++ xs.drop i ++ (sp ++ re)))).size := by rw [ints_size]; simp [marksI_len]; omega
    have e1 : (((some (⟨b, pr.length, none⟩ : Addr)).getD default).add ((i : Int).toNat * 1)).add 0 = (⟨b, 0, none⟩ : Addr).add (pr.length + i) := by
      rw [addr0_add, add_add, Option.getD_some, addr_add]; simp
    rw [w1, w2, e1]
    refine ⟨rfl, by omega, hlt, okCell_new hsz hsb, ⟨i + 1, rfl, by omega, ?_⟩, by omega⟩
    rw [hset_new, ints_set, markedI_set3 hi3]
  · obtain rfl : i = xs.length := by omega
    refine ⟨rfl, .inr ⟨b, pr, sp, re, T, by rw [marksI_len], ?_⟩, fun b' hb' => upd_ne (fun e => hb' (by rw [e]; rfl))⟩
    simp [upd, List.append_assoc]
theorem k_heldInt64S (hi : Eng.Inv S h) (a : Option Addr) (c : Nat) (k : Int) (n : Nat) (hx : HInts h .i64 a (marksI k n)) (k0 : 0 ≤ k) (k1 : k ≤ 4611686018427387903) (hl : n ≤ 4611686018427387904) :
    CallsH Tryd.prog S F_laws_heldInt64S #[.slice a n c, .int .i64 k] h (fun u h' => u = .int .i64 (k + n) ∧ h' = h) := by
  refine run_laws_heldInt64S (vs := [.slice a n c, .int .i64 k]) ⟨rfl, rfl, trivial⟩ hi ?_
  simp only [t_laws_heldInt64S, Tr.wp, mksW, callW, Ex.ev, coerce, toInt_int, toBool_bool, slL_sl, slC_sl, slA_sl, toAddr_ptr, ptrOf_ptr, isNil_sl, isNil_ptr, it_and, it_or, it_int, optN_int, optN_nl, cmpI, arith, Cst.val, SV.den, resShs, resV, resSV, resVals, newVars, runCells, exSh, allSh, cellsAre, storeW, List.flatMap_cons, List.flatMap_nil, List.replicate_one, List.getD_cons_zero, List.getD_cons_succ, List.getElem?_cons_zero, List.getElem?_cons_succ, decide_eq_true_eq, decide_eq_false_iff_not, List.map_cons, List.map_nil, List.cons_append, List.nil_append, List.append_nil, List.length_cons, List.length_nil, Nat.zero_add, Nat.add_zero, and_true, true_and, if_true, if_false, Bool.false_eq_true]
  refine ⟨fun us h' => ∃ (i : Nat), us = [.int .i64 (k + (i : Int)), .int .i64 i] ∧ i ≤ n ∧ h' = h, fun us _ => n - (toInt (us.getD 1 undef)).toNat, ⟨0, by simp, by omega, rfl⟩, ?_⟩
  rintro x y h' ⟨i, hx1, hi2, rfl⟩
  obtain ⟨rfl, rfl⟩ : x = k + (i : Int) ∧ y = i := by simpa using hx1
  simp only [Tr.wp, mksW, callW, Ex.ev, coerce, toInt_int, toBool_bool, slL_sl, slC_sl, slA_sl, toAddr_ptr, ptrOf_ptr, isNil_sl, isNil_ptr, it_and, it_or, it_int, optN_int, optN_nl, cmpI, arith, Cst.val, SV.den, resShs, resV, resSV, resVals, newVars, runCells, exSh, allSh, cellsAre, storeW, List.flatMap_cons, List.flatMap_nil, List.replicate_one, List.getD_cons_zero, List.getD_cons_succ, List.getElem?_cons_zero, List.getElem?_cons_succ, decide_eq_true_eq, decide_eq_false_iff_not, List.map_cons, List.map_nil, List.cons_append, List.nil_append, List.append_nil, List.length_cons, List.length_nil, Nat.zero_add, Nat.add_zero, and_true, true_and, if_true, if_false, Bool.false_eq_true]
  refine ⟨fun hlt => ?_, fun hge => ?_⟩
  · have hi3 : i < n := by omega
    obtain ⟨g1, g2⟩ := hx.cell (marksI_get (k := k) hi3)
    have w1 : IntKind.i64.wrap (k + (i : Int) + 1) = k + ((i + 1 : Nat) : Int) := by rw [i64_in _ (by omega)]; omega
    have w2 : IntKind.i64.wrap ((i : Int) + 1) = ((i + 1 : Nat) : Int) := by rw [i64_in _ (by omega)]; omega
    rw [w1, w2]
    refine ⟨by simpa using g2, by omega, hlt, _, by simpa [add_add] using g1, fun hne => by simp at hne, fun _ => ⟨⟨i + 1, rfl, by omega⟩, by omega⟩⟩
  · obtain rfl : i = n := by omega
    rfl

def mkI (k : Int) (xs : List Int) : List Int := marksI k xs.length
theorem mkI_len {k : Int} {xs : List Int} : (mkI k xs).length = xs.length := marksI_len _ _
theorem tI_form {h : Eng.Heap} {v : Value} {xs : List Int} (H : tI.R h v xs) : ∃ a c, v = .slice a xs.length c := by obtain ⟨a, c, rfl, _⟩ := H; exact ⟨a, c, rfl⟩
theorem c_markI2 {v : Value} {xs : List Int} (hi : Eng.Inv S h) (H : tI.O h v xs) (hb : ∀ b, tI.B v b → ¬ S b) (k : Int) (k0 : 0 ≤ k) (k1 : k ≤ 1125899906842624) (hl : smI xs) :
    CallsH Tryd.prog S F_laws_markInt64S #[v, .int .i64 k] h (fun u h' => u = .int .i64 (k + cntI xs) ∧ tI.O h' v (mkI k xs) ∧ ∀ b, ¬ tI.B v b → h' b = h b) :=
  k_markInt64P hi H hb k k0 (by omega) (Nat.le_trans hl (by decide))
theorem c_heldI {v : Value} {xs : List Int} (hi : Eng.Inv S h) (k : Int) (H : tI.R h v (mkI k xs)) (k0 : 0 ≤ k) (k1 : k ≤ 1125899906842624) (hl : smI xs) :
    CallsH Tryd.prog S F_laws_heldInt64S #[v, .int .i64 k] h (fun u h' => u = .int .i64 (k + cntI xs) ∧ h' = h) := by
  obtain ⟨a, c, rfl, hx⟩ := H
  rw [mkI_len]
  exact k_heldInt64S hi a c k xs.length hx k0 (by omega) (Nat.le_trans hl (by decide))
end
abbrev XLensRes := Int × List Int × List Int × Int × Unit
def tLensRes : Ty Value XLensRes := tyAgg (tyCons (tyInt .i64) (tyCons tI (tyCons tI (tyCons (tyInt .i64) (tyNil)))))
theorem tLensRes_R {h : Eng.Heap} {v : Value} {x : XLensRes} (H : tLensRes.R h v x) : ∃ u1 u2, v = .agg #[Value.int .i64 x.1, u1, u2, Value.int .i64 x.2.2.2.1] ∧ tI.R h u1 x.2.1 ∧ tI.R h u2 x.2.2.1 := by
  obtain ⟨_, rfl, _, _, rfl, (rfl : _ = _), ⟨u1, _, rfl, H1, ⟨u2, _, rfl, H2, ⟨_, _, rfl, (rfl : _ = _), ⟨rfl⟩⟩⟩⟩⟩ := H
  exact ⟨u1, u2, rfl, H1, H2⟩
theorem tLensRes_mkR {h : Eng.Heap} {x : XLensRes} {u1 u2 : Value} (H1 : tI.R h u1 x.2.1) (H2 : tI.R h u2 x.2.2.1) : tLensRes.R h (.agg #[Value.int .i64 x.1, u1, u2, Value.int .i64 x.2.2.2.1]) x := by
  unfold tLensRes; simp only [tyAgg_R, tyCons_R, tyInt_R, tyBool_R, tyNil_R]; exact ⟨by first | rfl | trivial, H1, H2, by first | rfl | trivial, by first | rfl | trivial⟩
theorem tLensRes_O {h : Eng.Heap} {v : Value} {x : XLensRes} (H : tLensRes.O h v x) : ∃ u1 u2, v = .agg #[Value.int .i64 x.1, u1, u2, Value.int .i64 x.2.2.2.1] ∧ tI.O h u1 x.2.1 ∧ tI.O h u2 x.2.2.1 ∧ (∀ b, tI.B u1 b → ¬ tI.B u2 b) := by
  obtain ⟨_, rfl, _, _, rfl, (rfl : _ = _), ⟨u1, _, rfl, H1, ⟨u2, _, rfl, H2, ⟨_, _, rfl, (rfl : _ = _), ⟨rfl⟩, d3⟩, d2⟩, d1⟩, d0⟩ := H
  exact ⟨u1, u2, rfl, H1, H2, fun b h1 h2 => d1 b h1 (by simp only [tyCons_B, tyNil_B, tyInt_B, tyBool_B, false_or, or_false]; simp [h2])⟩
theorem tLensRes_mkO {h : Eng.Heap} {x : XLensRes} {u1 u2 : Value} (H1 : tI.O h u1 x.2.1) (H2 : tI.O h u2 x.2.2.1) (d0 : (∀ b, tI.B u1 b → ¬ tI.B u2 b)) : tLensRes.O h (.agg #[Value.int .i64 x.1, u1, u2, Value.int .i64 x.2.2.2.1]) x := by
  unfold tLensRes; simp only [tyAgg_O, tyCons_O, tyInt_O, tyBool_O, tyNil_O, tyCons_B, tyNil_B, tyInt_B, tyBool_B, false_or, or_false, not_false_eq_true, implies_true, and_true, true_and, forall_false, false_implies]
  first | exact ⟨H1, H2, d0⟩ | simp_all
theorem tLensRes_B {u1 u2 : Value} {b : Nat} {x : XLensRes} : tLensRes.B (.agg #[Value.int .i64 x.1, u1, u2, Value.int .i64 x.2.2.2.1]) b ↔ tI.B u1 b ∨ tI.B u2 b := by
  unfold tLensRes; simp only [tyAgg_B, tyCons_B, tyNil_B, tyInt_B, tyBool_B, false_or, or_false]
theorem tLensRes_F {h : Eng.Heap} {v : Value} {x : XLensRes} (H : tLensRes.R h v x) : ∃ a1 c1 a2 c2, v = .agg #[Value.int .i64 x.1, .slice a1 x.2.1.length c1, .slice a2 x.2.2.1.length c2, Value.int .i64 x.2.2.2.1] := by
  obtain ⟨u1, u2, rfl, H1, H2⟩ := tLensRes_R H
  obtain ⟨a1, c1, rfl, _⟩ := H1
  obtain ⟨a2, c2, rfl, _⟩ := H2
  exact ⟨_, _, _, _, rfl⟩
theorem tLensRes_invR {h : Eng.Heap} {e0 e1 e2 e3 : Value} {x : XLensRes} (H : tLensRes.R h (.agg #[e0, e1, e2, e3]) x) : tI.R h e1 x.2.1 ∧ tI.R h e2 x.2.2.1 := by
  unfold tLensRes at H
  simp only [tyAgg_R, tyCons_R] at H
  exact ⟨H.2.1, H.2.2.1⟩
theorem tLensRes_invO {h : Eng.Heap} {e0 e1 e2 e3 : Value} {x : XLensRes} (H : tLensRes.O h (.agg #[e0, e1, e2, e3]) x) : tI.O h e1 x.2.1 ∧ tI.O h e2 x.2.2.1 := by
  unfold tLensRes at H
  simp only [tyAgg_O, tyCons_O] at H
  exact ⟨H.2.1.1, H.2.1.2.1.1⟩

variable {S : Shared} {h : Eng.Heap} {v w : Value} {x : XLensRes}
def smLensRes (x : XLensRes) : Prop := smI x.2.1 ∧ smI x.2.2.1
def cntLensRes (x : XLensRes) : Nat := cntI x.2.1 + cntI x.2.2.1
theorem cntLensRes_le {x : XLensRes} (H : smLensRes x) : cntLensRes x ≤ 1125899906842624 := by
  have h1 : x.2.1.length ≤ 1099511627776 := H.1
  have h2 : x.2.2.1.length ≤ 1099511627776 := H.2
  show x.2.1.length + x.2.2.1.length ≤ _
  omega
def mkLensRes (k : Int) (x : XLensRes) : XLensRes := (x.1, mkI k x.2.1, mkI (k + cntI x.2.1) x.2.2.1, x.2.2.2.1, ())

theorem c_eqLensRes (hi : Eng.Inv S h) (H : tLensRes.R h v x) (H2 : tLensRes.R h w x) (hs : smLensRes x) :
    CallsH Tryd.prog S F_laws_eqLensRes #[v, w] h (fun u h' => u = .bool true ∧ h' = h) := by
  obtain ⟨d0, u0, rfl, D0, H0⟩ := tLensRes_R H
  obtain ⟨d2, u2, rfl, D2, H3⟩ := tLensRes_R H2
  obtain ⟨a, c, rfl⟩ := tI_form H0
  obtain ⟨a2, c2, rfl⟩ := tI_form H3
  obtain ⟨a4, c4, rfl⟩ := tI_form D0
  obtain ⟨a5, c5, rfl⟩ := tI_form D2
  refine run_laws_eqLensRes (vs := [.int .i64 x.1, .slice a4 x.2.1.length c4, .slice a x.2.2.1.length c, .int .i64 x.2.2.2.1, .int .i64 x.1, .slice a5 x.2.1.length c5, .slice a2 x.2.2.1.length c2, .int .i64 x.2.2.2.1]) ⟨rfl, rfl, rfl, rfl, rfl, rfl, rfl, rfl, trivial⟩ hi ?_
  simp only [t_laws_eqLensRes, Tr.wp, mksW, callW, Ex.ev, coerce, toInt_int, toBool_bool, slL_sl, slC_sl, slA_sl, toAddr_ptr, ptrOf_ptr, isNil_sl, isNil_ptr, it_and, it_or, it_int, optN_int, optN_nl, cmpI, arith, Cst.val, SV.den, resShs, resV, resSV, resVals, newVars, runCells, exSh, allSh, cellsAre, storeW, List.flatMap_cons, List.flatMap_nil, List.replicate_one, List.getD_cons_zero, List.getD_cons_succ, List.getElem?_cons_zero, List.getElem?_cons_succ, decide_eq_true_eq, decide_eq_false_iff_not, List.map_cons, List.map_nil, List.cons_append, List.nil_append, List.append_nil, List.length_cons, List.length_nil, Nat.zero_add, Nat.add_zero, and_true, true_and, if_true, if_false, Bool.false_eq_true]
  refine ⟨fun hne => by simp at hne, fun _ => ?_⟩
  refine (c_eqI hi D0 D2 hs.1).mono ?_
  rintro _ hq ⟨rfl, eq⟩
  rw [eq]
  refine ⟨_, rfl, fun hne => by simp at hne, fun _ => ?_⟩
  refine (c_eqI hi H0 H3 hs.2).mono ?_
  rintro _ hq ⟨rfl, eq⟩
  rw [eq]
  exact ⟨_, rfl, fun hne => by simp at hne, fun _ => ⟨fun hne => by simp at hne, fun _ => rfl⟩⟩

theorem c_markLensRes (hi : Eng.Inv S h) (H : tLensRes.O h v x) (hb : ∀ b, tLensRes.B v b → ¬ S b) (k : Int) (k0 : 0 ≤ k) (k1 : k ≤ 1) (hs : smLensRes x) :
    CallsH Tryd.prog S F_laws_markLensRes #[v, .int .i64 k] h (fun u h' => u = .int .i64 (k + cntLensRes x) ∧ tLensRes.O h' v (mkLensRes k x) ∧ ∀ b, ¬ tLensRes.B v b → h' b = h b) := by
  obtain ⟨d0, u0, rfl, D0, H0, dis⟩ := tLensRes_O H
  obtain ⟨a, c, rfl⟩ := tI_form (tI.OR H0)
  obtain ⟨a4, c4, rfl⟩ := tI_form (tI.OR D0)
  refine run_laws_markLensRes (vs := [.int .i64 x.1, .slice a4 x.2.1.length c4, .slice a x.2.2.1.length c, .int .i64 x.2.2.2.1, .int .i64 k]) ⟨rfl, rfl, rfl, rfl, rfl, trivial⟩ hi ?_
  simp only [t_laws_markLensRes, Tr.wp, mksW, callW, Ex.ev, coerce, toInt_int, toBool_bool, slL_sl, slC_sl, slA_sl, toAddr_ptr, ptrOf_ptr, isNil_sl, isNil_ptr, it_and, it_or, it_int, optN_int, optN_nl, cmpI, arith, Cst.val, SV.den, resShs, resV, resSV, resVals, newVars, runCells, exSh, allSh, cellsAre, storeW, List.flatMap_cons, List.flatMap_nil, List.replicate_one, List.getD_cons_zero, List.getD_cons_succ, List.getElem?_cons_zero, List.getElem?_cons_succ, decide_eq_true_eq, decide_eq_false_iff_not, List.map_cons, List.map_nil, List.cons_append, List.nil_append, List.append_nil, List.length_cons, List.length_nil, Nat.zero_add, Nat.add_zero, and_true, true_and, if_true, if_false, Bool.false_eq_true]
  have hB := fun b => tLensRes_B (x := x) (u1 := .slice a4 x.2.1.length c4) (u2 := .slice a x.2.2.1.length c) (b := b)
  refine (c_markI2 hi D0 (fun b h => hb b ((hB b).2 (.inl h))) k k0 (by omega) hs.1).mono ?_
  rintro _ h1 ⟨rfl, D1, f1⟩
  have hc := cntI_le hs.1
  refine ⟨_, rfl, ?_⟩
  have H1 : tI.O h1 (.slice a x.2.2.1.length c) x.2.2.1 := tI.Okeep H0 fun b h => f1 b fun h2 => dis b h2 h
  have i1 : Eng.Inv S h1 := fun b hS hn => by
    by_cases hh : tI.B (.slice a4 x.2.1.length c4) b
    · exact hb b ((hB b).2 (.inl hh)) hS
    · rw [f1 b hh] at hn; exact hi b hS hn
  refine (c_markI2 i1 H1 (fun b h => hb b ((hB b).2 (.inr h))) (k + cntI x.2.1) (by omega) (by omega) hs.2).mono ?_
  rintro _ h2 ⟨rfl, O1, f⟩
  have hcc : ((cntLensRes x : Nat) : Int) = cntI x.2.1 + cntI x.2.2.1 := by unfold cntLensRes; push_cast; rfl
  refine ⟨_, rfl, by rw [hcc]; congr 1; omega, tLensRes_mkO (x := mkLensRes k x) (tI.Okeep D1 fun b h => f b fun h2 => dis b h h2) O1 dis, fun b h => ?_⟩
  rw [f b fun h3 => h ((hB b).2 (.inr h3)), f1 b fun h3 => h ((hB b).2 (.inl h3))]

theorem c_heldLensRes (hi : Eng.Inv S h) (k : Int) (H : tLensRes.R h v (mkLensRes k x)) (k0 : 0 ≤ k) (k1 : k ≤ 1) (hs : smLensRes x) :
    CallsH Tryd.prog S F_laws_heldLensRes #[v, .int .i64 k] h (fun u h' => u = .int .i64 (k + cntLensRes x) ∧ h' = h) := by
  obtain ⟨d0, u0, rfl, D0, H0⟩ := tLensRes_R H
  obtain ⟨a, c, rfl⟩ := tI_form H0
  obtain ⟨a4, c4, rfl⟩ := tI_form D0
  refine run_laws_heldLensRes (vs := [.int .i64 x.1, .slice a4 (mkLensRes k x).2.1.length c4, .slice a (mkLensRes k x).2.2.1.length c, .int .i64 x.2.2.2.1, .int .i64 k]) ⟨rfl, rfl, rfl, rfl, rfl, trivial⟩ hi ?_
  simp only [t_laws_heldLensRes, Tr.wp, mksW, callW, Ex.ev, coerce, toInt_int, toBool_bool, slL_sl, slC_sl, slA_sl, toAddr_ptr, ptrOf_ptr, isNil_sl, isNil_ptr, it_and, it_or, it_int, optN_int, optN_nl, cmpI, arith, Cst.val, SV.den, resShs, resV, resSV, resVals, newVars, runCells, exSh, allSh, cellsAre, storeW, List.flatMap_cons, List.flatMap_nil, List.replicate_one, List.getD_cons_zero, List.getD_cons_succ, List.getElem?_cons_zero, List.getElem?_cons_succ, decide_eq_true_eq, decide_eq_false_iff_not, List.map_cons, List.map_nil, List.cons_append, List.nil_append, List.append_nil, List.length_cons, List.length_nil, Nat.zero_add, Nat.add_zero, and_true, true_and, if_true, if_false, Bool.false_eq_true]
  have hc := cntI_le hs.1
  refine (c_heldI hi k D0 k0 (by omega) hs.1).mono ?_
  rintro _ hq ⟨rfl, eq⟩
  rw [eq]
  refine ⟨_, rfl, fun hn => by omega, fun _ => ?_⟩
  refine (c_heldI hi (k + cntI x.2.1) H0 (by omega) (by omega) hs.2).mono ?_
  rintro _ hq ⟨rfl, eq⟩
  have hcc : ((cntLensRes x : Nat) : Int) = cntI x.2.1 + cntI x.2.2.1 := by unfold cntLensRes; push_cast; rfl
  exact ⟨_, rfl, fun hn => by omega, fun _ => ⟨by rw [hcc]; congr 1; omega, eq⟩⟩
end Go.Proofs.YtmnialmphlbmaaaDoor
