import Derived.Test.YtmnialmphlbmaaaDoorKBytes
set_option linter.unusedVariables false
set_option linter.unusedSimpArgs false
namespace Go.Proofs.YtmnialmphlbmaaaDoor
open Go Go.Eng Go.IntWalk
variable {S : Shared} {h : Eng.Heap}

def marks (k : Int) (n : Nat) : List Int := (List.range n).map fun (i : Nat) => IntKind.u8.wrap (k + (i : Int))

theorem marks_len (k : Int) (n : Nat) : (marks k n).length = n := by simp [marks]
theorem marks_succ (k : Int) (n : Nat) : marks k (n + 1) = marks k n ++ [IntKind.u8.wrap (k + (n : Int))] := by simp [marks, List.range_succ]
theorem marks_get {k : Int} {n i : Nat} (h : i < n) : (marks k n)[i]? = some (IntKind.u8.wrap (k + (i : Int))) := by simp [marks, h]

theorem marked_set {xs sp : List Int} {k : Int} {i : Nat} (hi : i < xs.length) :
    (marks k i ++ xs.drop i ++ sp).set i (IntKind.u8.wrap (k + (i : Int))) = marks k (i + 1) ++ xs.drop (i + 1) ++ sp := by
  rw [marks_succ, List.append_assoc, List.set_append_right _ _ (by rw [marks_len]; omega), marks_len, Nat.sub_self, List.drop_eq_getElem_cons hi]
  simp only [List.cons_append, List.set_cons_zero, List.append_assoc, List.nil_append]

theorem k_markByteS (hi : Eng.Inv S h) {v : Value} {xs : List Int} (hs : Own .u8 h v xs) (hb : ∀ b, blkOf v = some b → ¬ S b) (k : Int) (k0 : 0 ≤ k) (k1 : k ≤ 4611686018427387903) (hl : xs.length ≤ 4611686018427387904) :
    CallsH Tryd.prog S F_laws_markByteS #[v, .int .i64 k] h (fun u h' => u = .int .i64 (k + xs.length) ∧ Own .u8 h' v (marks k xs.length) ∧ ∀ b, blkOf v ≠ some b → h' b = h b) := by
  obtain ⟨b, sp, T, rfl, hbl⟩ := hs
  have hsb := hb b rfl
  refine run_laws_markByteS (vs := [.slice (some ⟨b, 0, none⟩) xs.length (xs.length + sp.length), .int .i64 k]) ⟨rfl, rfl, trivial⟩ hi ?_
  simp only [t_laws_markByteS, Tr.wp, mksW, callW, Ex.ev, coerce, toInt_int, toBool_bool, slL_sl, slC_sl, slA_sl, toAddr_ptr, ptrOf_ptr, isNil_sl, isNil_ptr, it_and, it_or, it_int, optN_int, optN_nl, cmpI, arith, Cst.val, SV.den, resShs, resV, resSV, resVals, newVars, runCells, exSh, allSh, cellsAre, storeW, List.flatMap_cons, List.flatMap_nil, List.replicate_one, List.getD_cons_zero, List.getD_cons_succ, List.getElem?_cons_zero, List.getElem?_cons_succ, decide_eq_true_eq, decide_eq_false_iff_not, List.map_cons, List.map_nil, List.cons_append, List.nil_append, List.append_nil, List.length_cons, List.length_nil, Nat.zero_add, Nat.add_zero, and_true, true_and, if_true, if_false, Bool.false_eq_true]
  refine ⟨fun us h' => ∃ (i : Nat), us = [.int .i64 (k + (i : Int)), .int .i64 i] ∧ i ≤ xs.length ∧ h' = upd h b (.cells (ints .u8 (marks k i ++ xs.drop i ++ sp)) T), fun us _ => xs.length - (toInt (us.getD 1 undef)).toNat, ⟨0, by simp, by omega, ?_⟩, ?_⟩
  · simp only [marks, List.range_zero, List.map_nil, List.nil_append, List.drop_zero]
    exact (upd_self hbl).symm
  rintro x y h' ⟨i, hx, hi2, rfl⟩
  obtain ⟨rfl, rfl⟩ : x = k + (i : Int) ∧ y = i := by simpa using hx
  simp only [Tr.wp, mksW, callW, Ex.ev, coerce, toInt_int, toBool_bool, slL_sl, slC_sl, slA_sl, toAddr_ptr, ptrOf_ptr, isNil_sl, isNil_ptr, it_and, it_or, it_int, optN_int, optN_nl, cmpI, arith, Cst.val, SV.den, resShs, resV, resSV, resVals, newVars, runCells, exSh, allSh, cellsAre, storeW, List.flatMap_cons, List.flatMap_nil, List.replicate_one, List.getD_cons_zero, List.getD_cons_succ, List.getElem?_cons_zero, List.getElem?_cons_succ, decide_eq_true_eq, decide_eq_false_iff_not, List.map_cons, List.map_nil, List.cons_append, List.nil_append, List.append_nil, List.length_cons, List.length_nil, Nat.zero_add, Nat.add_zero, and_true, true_and, if_true, if_false, Bool.false_eq_true]
  refine ⟨fun hlt => ?_, fun hge => ?_⟩
  · have hi3 : i < xs.length := by omega
    have w1 : IntKind.i64.wrap (k + (i : Int) + 1) = k + ((i + 1 : Nat) : Int) := by rw [i64_in _ (by omega)]; omega
    have w2 : IntKind.i64.wrap ((i : Int) + 1) = ((i + 1 : Nat) : Int) := by rw [i64_in _ (by omega)]; omega
    have hsz : i < (ints .u8 (marks k i ++ xs.drop i ++ sp)).size := by rw [ints_size]; simp [marks_len]; omega
    rw [w1, w2]
    refine ⟨rfl, by omega, hlt, by simpa [add_add] using okCell_new hsz hsb, ⟨i + 1, rfl, by omega, ?_⟩, by omega⟩
    simp only [Option.getD_some, Int.toNat_natCast, add_add, Nat.mul_one, Nat.add_zero]
    rw [hset_new, ints_set, marked_set hi3]
  · obtain rfl : i = xs.length := by omega
    refine ⟨rfl, ⟨b, sp, T, by rw [marks_len], ?_⟩, fun b' hb' => upd_ne (fun e => hb' (by rw [e]; rfl))⟩
    simp [upd]

theorem k_heldByteS (hi : Eng.Inv S h) (a : Option Addr) (c : Nat) (k : Int) (n : Nat) (hx : HInts h .u8 a (marks k n)) (k0 : 0 ≤ k) (k1 : k ≤ 4611686018427387903) (hl : n ≤ 4611686018427387904) :
    CallsH Tryd.prog S F_laws_heldByteS #[.slice a n c, .int .i64 k] h (fun u h' => u = .int .i64 (k + n) ∧ h' = h) := by
  refine run_laws_heldByteS (vs := [.slice a n c, .int .i64 k]) ⟨rfl, rfl, trivial⟩ hi ?_
  simp only [t_laws_heldByteS, Tr.wp, mksW, callW, Ex.ev, coerce, toInt_int, toBool_bool, slL_sl, slC_sl, slA_sl, toAddr_ptr, ptrOf_ptr, isNil_sl, isNil_ptr, it_and, it_or, it_int, optN_int, optN_nl, cmpI, arith, Cst.val, SV.den, resShs, resV, resSV, resVals, newVars, runCells, exSh, allSh, cellsAre, storeW, List.flatMap_cons, List.flatMap_nil, List.replicate_one, List.getD_cons_zero, List.getD_cons_succ, List.getElem?_cons_zero, List.getElem?_cons_succ, decide_eq_true_eq, decide_eq_false_iff_not, List.map_cons, List.map_nil, List.cons_append, List.nil_append, List.append_nil, List.length_cons, List.length_nil, Nat.zero_add, Nat.add_zero, and_true, true_and, if_true, if_false, Bool.false_eq_true]
  refine ⟨fun us h' => ∃ (i : Nat), us = [.int .i64 (k + (i : Int)), .int .i64 i] ∧ i ≤ n ∧ h' = h, fun us _ => n - (toInt (us.getD 1 undef)).toNat, ⟨0, by simp, by omega, rfl⟩, ?_⟩
  rintro x y h' ⟨i, hx1, hi2, rfl⟩
  obtain ⟨rfl, rfl⟩ : x = k + (i : Int) ∧ y = i := by simpa using hx1
  simp only [Tr.wp, mksW, callW, Ex.ev, coerce, toInt_int, toBool_bool, slL_sl, slC_sl, slA_sl, toAddr_ptr, ptrOf_ptr, isNil_sl, isNil_ptr, it_and, it_or, it_int, optN_int, optN_nl, cmpI, arith, Cst.val, SV.den, resShs, resV, resSV, resVals, newVars, runCells, exSh, allSh, cellsAre, storeW, List.flatMap_cons, List.flatMap_nil, List.replicate_one, List.getD_cons_zero, List.getD_cons_succ, List.getElem?_cons_zero, List.getElem?_cons_succ, decide_eq_true_eq, decide_eq_false_iff_not, List.map_cons, List.map_nil, List.cons_append, List.nil_append, List.append_nil, List.length_cons, List.length_nil, Nat.zero_add, Nat.add_zero, and_true, true_and, if_true, if_false, Bool.false_eq_true]
  refine ⟨fun hlt => ?_, fun hge => ?_⟩
  · have hi3 : i < n := by omega
    obtain ⟨g1, g2⟩ := hx.cell (marks_get (k := k) hi3)
    have w1 : IntKind.i64.wrap (k + (i : Int) + 1) = k + ((i + 1 : Nat) : Int) := by rw [i64_in _ (by omega)]; omega
    have w2 : IntKind.i64.wrap ((i : Int) + 1) = ((i + 1 : Nat) : Int) := by rw [i64_in _ (by omega)]; omega
    rw [w1, w2]
    refine ⟨by simpa using g2, by omega, hlt, _, by simpa [add_add] using g1, fun hne => by simp at hne, fun _ => ⟨⟨i + 1, rfl, by omega⟩, by omega⟩⟩
  · obtain rfl : i = n := by omega
    rfl
end Go.Proofs.YtmnialmphlbmaaaDoor
