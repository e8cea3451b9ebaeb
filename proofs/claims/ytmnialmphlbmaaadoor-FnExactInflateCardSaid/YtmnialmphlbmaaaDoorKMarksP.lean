import Derived.Test.YtmnialmphlbmaaaDoorKMarks
set_option linter.unusedVariables false
set_option linter.unusedSimpArgs false
namespace Go.Proofs.YtmnialmphlbmaaaDoor
open Go Go.Eng Go.IntWalk
variable {S : Shared} {h : Eng.Heap}

theorem marked_set3 {pr xs sp : List Int} {k : Int} {i : Nat} (hi : i < xs.length) :
    (pr ++ (marks k i ++ xs.drop i ++ sp)).set (pr.length + i) (IntKind.u8.wrap (k + (i : Int))) = pr ++ (marks k (i + 1) ++ xs.drop (i + 1) ++ sp) := by
  rw [List.set_append_right _ _ (by omega), Nat.add_sub_cancel_left, marked_set hi]

theorem k_markByteP (hi : Eng.Inv S h) {v : Value} {xs : List Int} (hs : Part .u8 h v xs) (hb : ∀ b, blkOf v = some b → ¬ S b) (k : Int) (k0 : 0 ≤ k) (k1 : k ≤ 4611686018427387903) (hl : xs.length ≤ 4611686018427387904) :
    CallsH Tryd.prog S F_laws_markByteS #[v, .int .i64 k] h (fun u h' => u = .int .i64 (k + xs.length) ∧ Part .u8 h' v (marks k xs.length) ∧ ∀ b, blkOf v ≠ some b → h' b = h b) := by
  rcases hs with ⟨rfl, rfl⟩ | ⟨b, pr, sp, re, T, rfl, hbl⟩
  · refine run_laws_markByteS (vs := [.slice none 0 0, .int .i64 k]) ⟨rfl, rfl, trivial⟩ hi ?_
    simp only [t_laws_markByteS, Tr.wp, mksW, callW, Ex.ev, coerce, toInt_int, toBool_bool, slL_sl, slC_sl, slA_sl, toAddr_ptr, ptrOf_ptr, isNil_sl, isNil_ptr, it_and, it_or, it_int, optN_int, optN_nl, cmpI, arith, Cst.val, SV.den, resShs, resV, resSV, resVals, newVars, runCells, exSh, allSh, cellsAre, storeW, List.flatMap_cons, List.flatMap_nil, List.replicate_one, List.getD_cons_zero, List.getD_cons_succ, List.getElem?_cons_zero, List.getElem?_cons_succ, decide_eq_true_eq, decide_eq_false_iff_not, List.map_cons, List.map_nil, List.cons_append, List.nil_append, List.append_nil, List.length_cons, List.length_nil, Nat.zero_add, Nat.add_zero, and_true, true_and, if_true, if_false, Bool.false_eq_true]
    refine ⟨fun us h' => us = [.int .i64 k, .int .i64 0] ∧ h' = h, fun us _ => 0, ⟨rfl, rfl⟩, ?_⟩
    rintro x y h' ⟨hx, rfl⟩
    obtain ⟨rfl, rfl⟩ : x = k ∧ y = 0 := by simpa using hx
    simp only [Tr.wp, mksW, callW, Ex.ev, coerce, toInt_int, toBool_bool, slL_sl, slC_sl, slA_sl, toAddr_ptr, ptrOf_ptr, isNil_sl, isNil_ptr, it_and, it_or, it_int, optN_int, optN_nl, cmpI, arith, Cst.val, SV.den, resShs, resV, resSV, resVals, newVars, runCells, exSh, allSh, cellsAre, storeW, List.flatMap_cons, List.flatMap_nil, List.replicate_one, List.getD_cons_zero, List.getD_cons_succ, List.getElem?_cons_zero, List.getElem?_cons_succ, decide_eq_true_eq, decide_eq_false_iff_not, List.map_cons, List.map_nil, List.cons_append, List.nil_append, List.append_nil, List.length_cons, List.length_nil, Nat.zero_add, Nat.add_zero, and_true, true_and, if_true, if_false, Bool.false_eq_true]
    refine ⟨fun hlt => absurd hlt (by omega), fun _ => ⟨by simp, Part.nil, fun _ _ => trivial⟩⟩
  have hsb := hb b rfl
  refine run_laws_markByteS (vs := [.slice (some ⟨b, pr.length, none⟩) xs.length (xs.length + sp.length), .int .i64 k]) ⟨rfl, rfl, trivial⟩ hi ?_
  simp only [t_laws_markByteS, Tr.wp, mksW, callW, Ex.ev, coerce, toInt_int, toBool_bool, slL_sl, slC_sl, slA_sl, toAddr_ptr, ptrOf_ptr, isNil_sl, isNil_ptr, it_and, it_or, it_int, optN_int, optN_nl, cmpI, arith, Cst.val, SV.den, resShs, resV, resSV, resVals, newVars, runCells, exSh, allSh, cellsAre, storeW, List.flatMap_cons, List.flatMap_nil, List.replicate_one, List.getD_cons_zero, List.getD_cons_succ, List.getElem?_cons_zero, List.getElem?_cons_succ, decide_eq_true_eq, decide_eq_false_iff_not, List.map_cons, List.map_nil, List.cons_append, List.nil_append, List.append_nil, List.length_cons, List.length_nil, Nat.zero_add, Nat.add_zero, and_true, true_and, if_true, if_false, Bool.false_eq_true]
  have hbl2 : h b = some (.cells (ints .u8 (pr ++ (xs ++ (sp ++ re)))) T) := by rw [hbl]; simp [List.append_assoc]
  refine ⟨fun us h' => ∃ (i : Nat), us = [.int .i64 (k + (i : Int)), .int .i64 i] ∧ i ≤ xs.length ∧ h' = upd h b (.cells (ints .u8 (pr ++ (marks k i ++ xs.drop i ++ (sp ++ re)))) T), fun us _ => xs.length - (toInt (us.getD 1 undef)).toNat, ⟨0, by simp, by omega, ?_⟩, ?_⟩
  · simp only [marks, List.range_zero, List.map_nil, List.nil_append, List.drop_zero]
    exact (upd_self hbl2).symm
  rintro x y h' ⟨i, hx, hi2, rfl⟩
  obtain ⟨rfl, rfl⟩ : x = k + (i : Int) ∧ y = i := by simpa using hx
  simp only [Tr.wp, mksW, callW, Ex.ev, coerce, toInt_int, toBool_bool, slL_sl, slC_sl, slA_sl, toAddr_ptr, ptrOf_ptr, isNil_sl, isNil_ptr, it_and, it_or, it_int, optN_int, optN_nl, cmpI, arith, Cst.val, SV.den, resShs, resV, resSV, resVals, newVars, runCells, exSh, allSh, cellsAre, storeW, List.flatMap_cons, List.flatMap_nil, List.replicate_one, List.getD_cons_zero, List.getD_cons_succ, List.getElem?_cons_zero, List.getElem?_cons_succ, decide_eq_true_eq, decide_eq_false_iff_not, List.map_cons, List.map_nil, List.cons_append, List.nil_append, List.append_nil, List.length_cons, List.length_nil, Nat.zero_add, Nat.add_zero, and_true, true_and, if_true, if_false, Bool.false_eq_true]
  refine ⟨fun hlt => ?_, fun hge => ?_⟩
  · have hi3 : i < xs.length := by omega
    have w1 : IntKind.i64.wrap (k + (i : Int) + 1) = k + ((i + 1 : Nat) : Int) := by rw [i64_in _ (by omega)]; omega
    have w2 : IntKind.i64.wrap ((i : Int) + 1) = ((i + 1 : Nat) : Int) := by rw [i64_in _ (by omega)]; omega
    have hsz : pr.length + i < (ints .u8 (pr ++ (marks k i ++ xs.drop i ++ (sp ++ re)))).size := by rw [ints_size]; simp [marks_len]; omega
    have e1 : (((some (⟨b, pr.length, none⟩ : Addr)).getD default).add ((i : Int).toNat * 1)).add 0 = (⟨b, 0, none⟩ : Addr).add (pr.length + i) := by
      rw [addr0_add, add_add, Option.getD_some, addr_add]; simp
    rw [w1, w2, e1]
    refine ⟨rfl, by omega, hlt, okCell_new hsz hsb, ⟨i + 1, rfl, by omega, ?_⟩, by omega⟩
    rw [hset_new, ints_set, marked_set3 hi3]
  · obtain rfl : i = xs.length := by omega
    refine ⟨rfl, .inr ⟨b, pr, sp, re, T, by rw [marks_len], ?_⟩, fun b' hb' => upd_ne (fun e => hb' (by rw [e]; rfl))⟩
    simp [upd, List.append_assoc]
end Go.Proofs.YtmnialmphlbmaaaDoor
