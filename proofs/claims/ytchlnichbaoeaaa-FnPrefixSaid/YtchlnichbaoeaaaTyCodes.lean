import Derived.Test.YtchlnichbaoeaaaTyI
import Derived.Test.YtchlnichbaoeaaaTrHC
import Derived.Test.YtchlnichbaoeaaaEng6
set_option linter.unusedVariables false
set_option linter.unusedSimpArgs false
namespace Go.Proofs.Ytchlnichbaoeaaa
open Go Go.Eng Go.IntWalk
variable {S : Nat → Prop} {h : Eng.Heap} {v w : Value} {ps : List (Int × Int)}

abbrev tCodes : Ty Value (List (Int × Int)) := tySlP
def smCodes (ps : List (Int × Int)) : Prop := ps.length ≤ 1099511627776
def cntCodes (ps : List (Int × Int)) : Nat := 2 * ps.length
theorem cntCodes_le (H : smCodes ps) : cntCodes ps ≤ 1125899906842624 := by have : ps.length ≤ 1099511627776 := H; unfold cntCodes; omega
def mpair (k : Int) (i : Nat) : Int × Int := (k + 2 * i, IntKind.u64.wrap (k + 2 * i + 1))
def mks (k : Int) (n : Nat) : List (Int × Int) := (List.range n).map (mpair k)
theorem mks_len {k : Int} {n : Nat} : (mks k n).length = n := by simp [mks]
theorem mks_get {k : Int} {n i : Nat} (h : i < n) : (mks k n)[i]? = some (mpair k i) := by simp [mks, h]
theorem mks_succ {k : Int} {n : Nat} : mks k (n + 1) = mks k n ++ [mpair k n] := by simp [mks, List.range_succ]
def mkCodes (k : Int) (ps : List (Int × Int)) : List (Int × Int) := mks k ps.length
theorem tCodes_F (H : tCodes.R h v ps) : ∃ a c, v = .slice a ps.length c := by obtain ⟨a, c, rfl, _⟩ := H; exact ⟨a, c, rfl⟩

theorem c_eqCodes (hi : Eng.Inv S h) (H : tCodes.R h v ps) (H2 : tCodes.R h w ps) (hl : smCodes ps) :
    CallsH Try.prog S F_laws_eqHuffCodeS #[v, w] h (fun u h' => u = .bool true ∧ h' = h) := by
  obtain ⟨a, c, rfl, hx⟩ := H
  obtain ⟨a2, c2, rfl, hy⟩ := H2
  have hl : ps.length ≤ 1099511627776 := hl
  refine run_laws_eqHuffCodeS (vs := [.slice a ps.length c, .slice a2 ps.length c2]) ⟨rfl, rfl, trivial⟩ hi ?_
  simp only [t_laws_eqHuffCodeS, Tr.wp, mksW, callW, Ex.ev, coerce, toInt_int, toBool_bool, slL_sl, slC_sl, slA_sl, toAddr_ptr, ptrOf_ptr, isNil_sl, isNil_ptr, it_and, it_or, it_int, optN_int, optN_nl, cmpI, arith, Cst.val, SV.den, resShs, resV, resSV, resVals, newVars, runCells, exSh, allSh, cellsAre, storeW, List.flatMap_cons, List.flatMap_nil, List.replicate_one, List.getD_cons_zero, List.getD_cons_succ, List.getElem?_cons_zero, List.getElem?_cons_succ, decide_eq_true_eq, decide_eq_false_iff_not, List.map_cons, List.map_nil, List.cons_append, List.nil_append, List.append_nil, List.length_cons, List.length_nil, Nat.zero_add, Nat.add_zero, and_true, true_and, if_true, if_false, Bool.false_eq_true]
  refine ⟨fun hne => by simp at hne, fun _ => ?_⟩
  refine ⟨fun us h' => ∃ i : Nat, us = [.int .i64 i] ∧ i ≤ ps.length ∧ h' = h, fun us _ => ps.length - (toInt (us.getD 0 undef)).toNat, ⟨0, rfl, by omega, rfl⟩, ?_⟩
  rintro x h' ⟨i, hx1, hi2, rfl⟩
  obtain rfl : x = i := by simpa using hx1
  refine ⟨fun hlt => ?_, fun hge => rfl⟩
  have hi3 : i < ps.length := by omega
  obtain ⟨g1, g2, g3⟩ := hx.cell (List.getElem?_eq_getElem hi3)
  obtain ⟨g4, g5, g6⟩ := hy.cell (List.getElem?_eq_getElem hi3)
  have w2 : IntKind.i64.wrap ((i : Int) + 1) = ((i + 1 : Nat) : Int) := by rw [i64_in _ (by omega)]; omega
  refine ⟨by simpa using g3, by omega, hlt, _, _, ⟨by simpa [add_add] using g1, by simpa [add_add] using g2⟩, by simpa using g6, by omega, hlt, _, _, ⟨by simpa [add_add] using g4, by simpa [add_add] using g5⟩, ?_⟩
  refine run_laws_eqHuffCode (vs := [.int .i64 ps[i].1, .int .u64 ps[i].2, .int .i64 ps[i].1, .int .u64 ps[i].2]) ⟨rfl, rfl, rfl, rfl, trivial⟩ hi ?_
  simp only [t_laws_eqHuffCode, Tr.wp, mksW, callW, Ex.ev, coerce, toInt_int, toBool_bool, slL_sl, slC_sl, slA_sl, toAddr_ptr, ptrOf_ptr, isNil_sl, isNil_ptr, it_and, it_or, it_int, optN_int, optN_nl, cmpI, arith, Cst.val, SV.den, resShs, resV, resSV, resVals, newVars, runCells, exSh, allSh, cellsAre, storeW, List.flatMap_cons, List.flatMap_nil, List.replicate_one, List.getD_cons_zero, List.getD_cons_succ, List.getElem?_cons_zero, List.getElem?_cons_succ, decide_eq_true_eq, decide_eq_false_iff_not, List.map_cons, List.map_nil, List.cons_append, List.nil_append, List.append_nil, List.length_cons, List.length_nil, Nat.zero_add, Nat.add_zero, and_true, true_and, if_true, if_false, Bool.false_eq_true]
  refine ⟨fun hne => by simp at hne, fun _ => ⟨fun hne => by simp at hne, fun _ => ?_⟩⟩
  exact ⟨_, rfl, fun hne => by simp at hne, fun _ => ⟨⟨i + 1, by rw [w2], by omega⟩, by rw [w2]; omega⟩⟩

theorem c_markCodes (hi : Eng.Inv S h) (H : tCodes.O h v ps) (hb : ∀ b, tCodes.B v b → ¬ S b) (k : Int) (k0 : 0 ≤ k) (k1 : k ≤ 1125899906842624) (hl : smCodes ps) :
    CallsH Try.prog S F_laws_markHuffCodeS #[v, .int .i64 k] h (fun u h' => u = .int .i64 (k + cntCodes ps) ∧ tCodes.O h' v (mkCodes k ps) ∧ ∀ b, ¬ tCodes.B v b → h' b = h b) := by
  have hl : ps.length ≤ 1099511627776 := hl
  have hc : (cntCodes ps : Int) = 2 * ps.length := by unfold cntCodes; push_cast; rfl
  rw [hc]
  obtain ⟨b, sp, T, rfl, hbl⟩ := H
  have hsb := hb b rfl
  refine run_laws_markHuffCodeS (vs := [.slice (some ⟨b, 0, none⟩) ps.length (ps.length + sp.length), .int .i64 k]) ⟨rfl, rfl, trivial⟩ hi ?_
  simp only [t_laws_markHuffCodeS, Tr.wp, mksW, callW, Ex.ev, coerce, toInt_int, toBool_bool, slL_sl, slC_sl, slA_sl, toAddr_ptr, ptrOf_ptr, isNil_sl, isNil_ptr, it_and, it_or, it_int, optN_int, optN_nl, cmpI, arith, Cst.val, SV.den, resShs, resV, resSV, resVals, newVars, runCells, exSh, allSh, cellsAre, storeW, List.flatMap_cons, List.flatMap_nil, List.replicate_one, List.getD_cons_zero, List.getD_cons_succ, List.getElem?_cons_zero, List.getElem?_cons_succ, decide_eq_true_eq, decide_eq_false_iff_not, List.map_cons, List.map_nil, List.cons_append, List.nil_append, List.append_nil, List.length_cons, List.length_nil, Nat.zero_add, Nat.add_zero, and_true, true_and, if_true, if_false, Bool.false_eq_true]
  refine ⟨fun us h' => ∃ (i : Nat), us = [.int .i64 (k + 2 * (i : Int)), .int .i64 i] ∧ i ≤ ps.length ∧ h' = upd h b (.cells (Eng.pairs (mks k i ++ ps.drop i ++ sp)) T), fun us _ => ps.length - (toInt (us.getD 1 undef)).toNat, ⟨0, by simp, by omega, ?_⟩, ?_⟩
  · simp only [mks, List.range_zero, List.map_nil, List.nil_append, List.drop_zero]
    exact (upd_self hbl).symm
  rintro x y h' ⟨i, hx, hi2, rfl⟩
  obtain ⟨rfl, rfl⟩ : x = k + 2 * (i : Int) ∧ y = i := by simpa using hx
  refine ⟨fun hlt => ?_, fun hge => ?_⟩
  · have hi3 : i < ps.length := by omega
    have w0 : IntKind.i64.wrap (k + 2 * (i : Int) + 1) = k + 2 * (i : Int) + 1 := i64_in _ (by omega)
    have w1 : IntKind.i64.wrap (k + 2 * (i : Int) + 1 + 1) = k + 2 * ((i + 1 : Nat) : Int) := by rw [i64_in _ (by omega)]; omega
    have w2 : IntKind.i64.wrap ((i : Int) + 1) = ((i + 1 : Nat) : Int) := by rw [i64_in _ (by omega)]; omega
    have hlen : i < (mks k i ++ ps.drop i ++ sp).length := by simp [mks_len]; omega
    have hsz : i * 2 + 1 < (Eng.pairs (mks k i ++ ps.drop i ++ sp)).size := by rw [pairs_size]; omega
    have e1 : ((((some (⟨b, 0, none⟩ : Addr)).getD default).add ((i : Int).toNat * 2)).add 0).add 0 = (⟨b, 0, none⟩ : Addr).add (i * 2) := by
      rw [addr0_add, add_add, add_add, Option.getD_some, addr_add]; simp
    have e2 : ((((some (⟨b, 0, none⟩ : Addr)).getD default).add ((i : Int).toNat * 2)).add 1).add 0 = (⟨b, 0, none⟩ : Addr).add (i * 2 + 1) := by
      rw [addr0_add, add_add, add_add, Option.getD_some, addr_add]; simp
    rw [w0, w1, w2, e1, e2]
    have s1 : (mks k i ++ ps.drop i ++ sp).set i (mpair k i) = mks k (i + 1) ++ ps.drop (i + 1) ++ sp := by
      rw [List.append_assoc, List.set_append_right _ _ (by rw [mks_len]; omega), mks_len, Nat.sub_self, List.drop_eq_getElem_cons hi3, mks_succ]
      simp only [List.cons_append, List.set_cons_zero, List.append_assoc, List.nil_append]
    refine ⟨rfl, by omega, hlt, okCell_new (by omega) hsb, ?_⟩
    rw [hset_new]
    refine ⟨rfl, by omega, hlt, okCell_new (by rw [Array.size_setIfInBounds]; exact hsz) hsb, ⟨i + 1, rfl, by omega, ?_⟩, by simp only [List.getD_cons_succ, List.getD_cons_zero, toInt_int]; omega⟩
    rw [hset_new, pairs_set _ _ hlen]
    exact congrArg (fun z => upd h b (.cells (Eng.pairs z) T)) s1
  · obtain rfl : i = ps.length := by omega
    refine ⟨rfl, ⟨b, sp, T, by rw [mkCodes, mks_len], ?_⟩, fun b' hb' => upd_ne (fun e => hb' (by rw [e]; rfl))⟩
    rw [upd_same, List.drop_length, List.append_nil]; rfl

theorem c_heldCodes (hi : Eng.Inv S h) (k : Int) (H : tCodes.R h v (mkCodes k ps)) (k0 : 0 ≤ k) (k1 : k ≤ 1125899906842624) (hl : smCodes ps) :
    CallsH Try.prog S F_laws_heldHuffCodeS #[v, .int .i64 k] h (fun u h' => u = .int .i64 (k + cntCodes ps) ∧ h' = h) := by
  have hl : ps.length ≤ 1099511627776 := hl
  have hc : (cntCodes ps : Int) = 2 * ps.length := by unfold cntCodes; push_cast; rfl
  rw [hc]
  obtain ⟨a, c, rfl, hx⟩ := H
  rw [mkCodes, mks_len]
  refine run_laws_heldHuffCodeS (vs := [.slice a ps.length c, .int .i64 k]) ⟨rfl, rfl, trivial⟩ hi ?_
  simp only [t_laws_heldHuffCodeS, Tr.wp, mksW, callW, Ex.ev, coerce, toInt_int, toBool_bool, slL_sl, slC_sl, slA_sl, toAddr_ptr, ptrOf_ptr, isNil_sl, isNil_ptr, it_and, it_or, it_int, optN_int, optN_nl, cmpI, arith, Cst.val, SV.den, resShs, resV, resSV, resVals, newVars, runCells, exSh, allSh, cellsAre, storeW, List.flatMap_cons, List.flatMap_nil, List.replicate_one, List.getD_cons_zero, List.getD_cons_succ, List.getElem?_cons_zero, List.getElem?_cons_succ, decide_eq_true_eq, decide_eq_false_iff_not, List.map_cons, List.map_nil, List.cons_append, List.nil_append, List.append_nil, List.length_cons, List.length_nil, Nat.zero_add, Nat.add_zero, and_true, true_and, if_true, if_false, Bool.false_eq_true]
  refine ⟨fun us h' => ∃ (i : Nat), us = [.int .i64 (k + 2 * (i : Int)), .int .i64 i] ∧ i ≤ ps.length ∧ h' = h, fun us _ => ps.length - (toInt (us.getD 1 undef)).toNat, ⟨0, by simp, by omega, rfl⟩, ?_⟩
  rintro x y h' ⟨i, hx1, hi2, rfl⟩
  obtain ⟨rfl, rfl⟩ : x = k + 2 * (i : Int) ∧ y = i := by simpa using hx1
  refine ⟨fun hlt => ?_, fun hge => ?_⟩
  · have hi3 : i < ps.length := by omega
    have w0 : IntKind.i64.wrap (k + 2 * (i : Int) + 1) = k + 2 * (i : Int) + 1 := i64_in _ (by omega)
    have w1 : IntKind.i64.wrap (k + 2 * (i : Int) + 1 + 1) = k + 2 * ((i + 1 : Nat) : Int) := by rw [i64_in _ (by omega)]; omega
    have w2 : IntKind.i64.wrap ((i : Int) + 1) = ((i + 1 : Nat) : Int) := by rw [i64_in _ (by omega)]; omega
    obtain ⟨g1, g2, g3⟩ := hx.cell (mks_get (k := k) hi3)
    rw [w0, w1, w2]
    refine ⟨by simpa using g3, by omega, hlt, _, by simpa [add_add] using g1, fun hne => by simp [mpair] at hne, fun _ => ?_⟩
    refine ⟨by simpa using g3, by omega, hlt, _, by simpa [add_add] using g2, fun hne => by simp [mpair] at hne, fun _ => ?_⟩
    exact ⟨⟨i + 1, rfl, by omega, rfl⟩, by simp only [List.getD_cons_succ, List.getD_cons_zero, toInt_int]; omega⟩
  · obtain rfl : i = ps.length := by omega
    exact ⟨rfl, rfl⟩
end Go.Proofs.Ytchlnichbaoeaaa
