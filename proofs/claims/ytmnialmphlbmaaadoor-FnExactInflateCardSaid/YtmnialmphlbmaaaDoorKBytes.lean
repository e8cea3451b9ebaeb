import Derived.Test.YtmnialmphlbmaaaDoorTrBy
import Derived.Test.YtmnialmphlbmaaaDoorEng3
import Derived.IntWalk
set_option linter.unusedVariables false
set_option linter.unusedSimpArgs false
namespace Go.Proofs.YtmnialmphlbmaaaDoor
open Go Go.Eng Go.IntWalk
variable {S : Shared} {h : Eng.Heap}

theorem k_toByteS (hi : Eng.Inv S h) (a : Option Addr) (c : Nat) (xs : List Int) (hx : HInts h .u8 a xs) (hl : xs.length ≤ 2 ^ 48) :
    CallsH Tryd.prog S F_laws_toByteS #[.slice a xs.length c] h (fun v h' => ∃ b T, h b = none ∧ v = .slice (some ⟨b, 0, none⟩) xs.length xs.length ∧ h' = upd h b (.cells (ints .u8 xs) T)) := by
  refine run_laws_toByteS (vs := [.slice a xs.length c]) ⟨rfl, trivial⟩ hi ?_
  have w1 : IntKind.i64.wrap (xs.length : Int) = xs.length := i64_in _ (by omega)
  simp only [t_laws_toByteS, Tr.wp, mksW, callW, Ex.ev, coerce, toInt_int, toBool_bool, slL_sl, slC_sl, slA_sl, toAddr_ptr, ptrOf_ptr, isNil_sl, isNil_ptr, it_and, it_or, it_int, optN_int, optN_nl, cmpI, arith, Cst.val, SV.den, resShs, resV, resSV, resVals, newVars, runCells, exSh, allSh, cellsAre, storeW, List.flatMap_cons, List.flatMap_nil, List.replicate_one, List.getD_cons_zero, List.getD_cons_succ, List.getElem?_cons_zero, List.getElem?_cons_succ, decide_eq_true_eq, decide_eq_false_iff_not, List.map_cons, List.map_nil, List.cons_append, List.nil_append, List.append_nil, List.length_cons, List.length_nil, Nat.zero_add, Nat.add_zero, and_true, true_and, if_true, if_false, Bool.false_eq_true, w1]
  refine ⟨by omega, by omega, by omega, fun b hb => ?_⟩
  simp only [Int.toNat_natCast, Nat.mul_one, mkCells_ints]
  refine ⟨fun us h' => ∃ (i : Nat) (T : TypeId), us = [.int .i64 i] ∧ i ≤ xs.length ∧ h' = upd h b (.cells (ints .u8 (xs.take i ++ List.replicate (xs.length - i) 0)) T), fun us _ => xs.length - (toInt (us.getD 0 undef)).toNat, ⟨0, _, rfl, by omega, rfl⟩, ?_⟩
  rintro x h' ⟨i, T, hx1, hi2, rfl⟩
  obtain rfl : x = i := by simpa using hx1
  simp only [Tr.wp, mksW, callW, Ex.ev, coerce, toInt_int, toBool_bool, slL_sl, slC_sl, slA_sl, toAddr_ptr, ptrOf_ptr, isNil_sl, isNil_ptr, it_and, it_or, it_int, optN_int, optN_nl, cmpI, arith, Cst.val, SV.den, resShs, resV, resSV, resVals, newVars, runCells, exSh, allSh, cellsAre, storeW, List.flatMap_cons, List.flatMap_nil, List.replicate_one, List.getD_cons_zero, List.getD_cons_succ, List.getElem?_cons_zero, List.getElem?_cons_succ, decide_eq_true_eq, decide_eq_false_iff_not, List.map_cons, List.map_nil, List.cons_append, List.nil_append, List.append_nil, List.length_cons, List.length_nil, Nat.zero_add, Nat.add_zero, and_true, true_and, if_true, if_false, Bool.false_eq_true]
  refine ⟨fun hlt => ?_, fun hge => ?_⟩
  · have hi3 : i < xs.length := by omega
    obtain ⟨g1, g2⟩ := hx.cell (List.getElem?_eq_getElem hi3)
    have g3 := hcell_upd (o := .cells (ints .u8 (xs.take i ++ List.replicate (xs.length - i) 0)) T) g1 hb
    have w2 : IntKind.i64.wrap ((i : Int) + 1) = ((i + 1 : Nat) : Int) := by rw [i64_in _ (by omega)]; omega
    have hsz : i < (ints .u8 (xs.take i ++ List.replicate (xs.length - i) 0)).size := by rw [ints_size]; simp; omega
    refine ⟨by simpa using g2, by omega, by omega, xs[i], by simpa [add_add] using g3, rfl, by omega, by omega, ?_, ⟨i + 1, T, ?_, by omega, ?_⟩, ?_⟩
    · simpa [add_add] using okCell_new hsz (not_shared hi hb)
    · rw [w2]
    · simp only [Option.getD_some, Int.toNat_natCast, add_add, Nat.add_zero]
      rw [hset_new, ints_set, take_set xs i hi3]
    · rw [w2]; simp; omega
  · obtain rfl : i = xs.length := by omega
    exact ⟨b, T, hb, rfl, by simp⟩

theorem take_next {xs ys : List Int} {i : Nat} {x : Int} (h : xs.take i = ys.take i) (hx : xs[i]? = some x) (hy : ys[i]? = some x) : xs.take (i + 1) = ys.take (i + 1) := by
  rw [List.take_add_one, List.take_add_one, h, hx, hy]

theorem k_eqByteS (hi : Eng.Inv S h) (a a' : Option Addr) (c c' : Nat) (xs ys : List Int) (hx : HInts h .u8 a xs) (hy : HInts h .u8 a' ys) (hl : xs.length ≤ 2 ^ 48) :
    CallsH Tryd.prog S F_laws_eqByteS #[.slice a xs.length c, .slice a' ys.length c'] h (fun v h' => v = .bool (decide (xs = ys)) ∧ h' = h) := by
  refine run_laws_eqByteS (vs := [.slice a xs.length c, .slice a' ys.length c']) ⟨rfl, rfl, trivial⟩ hi ?_
  simp only [t_laws_eqByteS, Tr.wp, mksW, callW, Ex.ev, coerce, toInt_int, toBool_bool, slL_sl, slC_sl, slA_sl, toAddr_ptr, ptrOf_ptr, isNil_sl, isNil_ptr, it_and, it_or, it_int, optN_int, optN_nl, cmpI, arith, Cst.val, SV.den, resShs, resV, resSV, resVals, newVars, runCells, exSh, allSh, cellsAre, storeW, List.flatMap_cons, List.flatMap_nil, List.replicate_one, List.getD_cons_zero, List.getD_cons_succ, List.getElem?_cons_zero, List.getElem?_cons_succ, decide_eq_true_eq, decide_eq_false_iff_not, List.map_cons, List.map_nil, List.cons_append, List.nil_append, List.append_nil, List.length_cons, List.length_nil, Nat.zero_add, Nat.add_zero, and_true, true_and, if_true, if_false, Bool.false_eq_true, bne_iff_ne, ne_eq, Int.natCast_inj]
  refine ⟨fun hne => ?_, fun heq => ?_⟩
  · rw [decide_eq_false]; intro e; subst e; simp at hne
  have heq : xs.length = ys.length := by simp at heq; omega
  refine ⟨fun us h' => ∃ i : Nat, us = [.int .i64 i] ∧ i ≤ xs.length ∧ h' = h ∧ xs.take i = ys.take i, fun us _ => xs.length - (toInt (us.getD 0 undef)).toNat, ⟨0, rfl, by omega, rfl, rfl⟩, ?_⟩
  rintro x h' ⟨i, hx1, hi2, rfl, htk⟩
  obtain rfl : x = i := by simpa using hx1
  simp only [Tr.wp, mksW, callW, Ex.ev, coerce, toInt_int, toBool_bool, slL_sl, slC_sl, slA_sl, toAddr_ptr, ptrOf_ptr, isNil_sl, isNil_ptr, it_and, it_or, it_int, optN_int, optN_nl, cmpI, arith, Cst.val, SV.den, resShs, resV, resSV, resVals, newVars, runCells, exSh, allSh, cellsAre, storeW, List.flatMap_cons, List.flatMap_nil, List.replicate_one, List.getD_cons_zero, List.getD_cons_succ, List.getElem?_cons_zero, List.getElem?_cons_succ, decide_eq_true_eq, decide_eq_false_iff_not, List.map_cons, List.map_nil, List.cons_append, List.nil_append, List.append_nil, List.length_cons, List.length_nil, Nat.zero_add, Nat.add_zero, and_true, true_and, if_true, if_false, Bool.false_eq_true]
  refine ⟨fun hlt => ?_, fun hge => ?_⟩
  · have hi3 : i < xs.length := by omega
    have ex : xs[i]? = some xs[i] := List.getElem?_eq_getElem hi3
    have ey : ys[i]? = some ys[i] := List.getElem?_eq_getElem (by omega)
    obtain ⟨g1, g2⟩ := hx.cell ex
    obtain ⟨g3, g4⟩ := hy.cell ey
    have w2 : IntKind.i64.wrap ((i : Int) + 1) = ((i + 1 : Nat) : Int) := by rw [i64_in _ (by omega)]; omega
    refine ⟨by simpa using g2, by omega, by omega, xs[i], by simpa [add_add] using g1, by simpa using g4, by omega, by omega, ys[i], by simpa [add_add] using g3, fun hne => ?_, fun he => ⟨⟨i + 1, by rw [w2], by omega, ?_⟩, ?_⟩⟩
    · rw [decide_eq_false]; intro e; subst e; simp at hne
    · have : xs[i] = ys[i] := by simpa using he
      exact take_next htk ex (this ▸ ey)
    · rw [w2]; simp; omega
  · obtain rfl : i = xs.length := by omega
    have : xs = ys := by rw [List.take_length] at htk; rw [htk, heq, List.take_length]
    simp [this]
end Go.Proofs.YtmnialmphlbmaaaDoor
