import Derived.Test.YtmnialmphlbmaaaDoorKInts
import Derived.Test.YtmnialmphlbmaaaDoorTrIn
set_option linter.unusedVariables false
set_option linter.unusedSimpArgs false
namespace Go.Proofs.YtmnialmphlbmaaaDoor
open Go Go.Eng Go.IntWalk
variable {S : Shared} {h : Eng.Heap} {v w : Value} {xs : List Int}

abbrev tI : Ty Value (List Int) := tySl .i64
def smI (xs : List Int) : Prop := xs.length ≤ 1099511627776
def limI (xs : List Int) : Prop := xs.length ≤ 1048576
theorem limI_sm {xs : List Int} (H : limI xs) : smI xs := Nat.le_trans H (by decide)
def cntI (xs : List Int) : Nat := xs.length
theorem cntI_le {xs : List Int} (H : smI xs) : cntI xs ≤ 1125899906842 := Nat.le_trans H (by decide)
theorem tI_F {h : Eng.Heap} {v : Value} {xs : List Int} (H : tI.R h v xs) : ∃ a c, v = .slice a xs.length c := by obtain ⟨a, c, rfl, _⟩ := H; exact ⟨a, c, rfl⟩

theorem c_eqI (hi : Eng.Inv S h) (H : tI.R h v xs) (H2 : tI.R h w xs) (hl : smI xs) :
    CallsH Tryd.prog S F_laws_eqInt64S #[v, w] h (fun u h' => u = .bool true ∧ h' = h) := by
  obtain ⟨a, c, rfl, hx⟩ := H
  obtain ⟨a2, c2, rfl, hx2⟩ := H2
  refine (k_eqInt64S hi a a2 c c2 xs xs hx hx2 (Nat.le_trans hl (by decide))).mono ?_
  rintro _ _ ⟨rfl, rfl⟩
  exact ⟨by simp, rfl⟩

theorem c_markI (hi : Eng.Inv S h) (H : tI.O h v xs) (hb : ∀ b, tI.B v b → ¬ S b) (k : Int) (k0 : 0 ≤ k) (k1 : k ≤ 1125899906842624) (hl : smI xs) :
    CallsH Tryd.prog S F_laws_markInt64S #[v, .int .i64 k] h (fun u h' => u = .int .i64 (k + cntI xs) ∧ True ∧ ∀ b, ¬ tI.B v b → h' b = h b) := by
  have hl : xs.length ≤ 1099511627776 := hl
  have hc : (cntI xs : Int) = xs.length := rfl
  rw [hc]
  rcases H with ⟨rfl, rfl⟩ | ⟨b, pr, sp, re, T, rfl, hbl⟩
  · refine run_laws_markInt64S (vs := [.slice none 0 0, .int .i64 k]) ⟨rfl, rfl, trivial⟩ hi ?_
    simp only [t_laws_markInt64S, Tr.wp, mksW, callW, Ex.ev, coerce, toInt_int, toBool_bool, slL_sl, slC_sl, slA_sl, toAddr_ptr, ptrOf_ptr, isNil_sl, isNil_ptr, it_and, it_or, it_int, optN_int, optN_nl, cmpI, arith, Cst.val, SV.den, resShs, resV, resSV, resVals, newVars, runCells, exSh, allSh, cellsAre, storeW, List.flatMap_cons, List.flatMap_nil, List.replicate_one, List.getD_cons_zero, List.getD_cons_succ, List.getElem?_cons_zero, List.getElem?_cons_succ, decide_eq_true_eq, decide_eq_false_iff_not, List.map_cons, List.map_nil, List.cons_append, List.nil_append, List.append_nil, List.length_cons, List.length_nil, Nat.zero_add, Nat.add_zero, and_true, true_and, if_true, if_false, Bool.false_eq_true]
    refine ⟨fun us h' => us = [.int .i64 k, .int .i64 0] ∧ h' = h, fun us _ => 0, ⟨rfl, rfl⟩, ?_⟩
    rintro x y h' ⟨hx, rfl⟩
    obtain ⟨rfl, rfl⟩ : x = k ∧ y = 0 := by simpa using hx
    simp only [Tr.wp, mksW, callW, Ex.ev, coerce, toInt_int, toBool_bool, slL_sl, slC_sl, slA_sl, toAddr_ptr, ptrOf_ptr, isNil_sl, isNil_ptr, it_and, it_or, it_int, optN_int, optN_nl, cmpI, arith, Cst.val, SV.den, resShs, resV, resSV, resVals, newVars, runCells, exSh, allSh, cellsAre, storeW, List.flatMap_cons, List.flatMap_nil, List.replicate_one, List.getD_cons_zero, List.getD_cons_succ, List.getElem?_cons_zero, List.getElem?_cons_succ, decide_eq_true_eq, decide_eq_false_iff_not, List.map_cons, List.map_nil, List.cons_append, List.nil_append, List.append_nil, List.length_cons, List.length_nil, Nat.zero_add, Nat.add_zero, and_true, true_and, if_true, if_false, Bool.false_eq_true]
    exact ⟨fun hlt => absurd hlt (by omega), fun _ => ⟨by simp, fun _ _ => trivial⟩⟩
  have hsb := hb b rfl
  refine run_laws_markInt64S (vs := [.slice (some ⟨b, pr.length, none⟩) xs.length (xs.length + sp.length), .int .i64 k]) ⟨rfl, rfl, trivial⟩ hi ?_
  simp only [t_laws_markInt64S, Tr.wp, mksW, callW, Ex.ev, coerce, toInt_int, toBool_bool, slL_sl, slC_sl, slA_sl, toAddr_ptr, ptrOf_ptr, isNil_sl, isNil_ptr, it_and, it_or, it_int, optN_int, optN_nl, cmpI, arith, Cst.val, SV.den, resShs, resV, resSV, resVals, newVars, runCells, exSh, allSh, cellsAre, storeW, List.flatMap_cons, List.flatMap_nil, List.replicate_one, List.getD_cons_zero, List.getD_cons_succ, List.getElem?_cons_zero, List.getElem?_cons_succ, decide_eq_true_eq, decide_eq_false_iff_not, List.map_cons, List.map_nil, List.cons_append, List.nil_append, List.append_nil, List.length_cons, List.length_nil, Nat.zero_add, Nat.add_zero, and_true, true_and, if_true, if_false, Bool.false_eq_true]
  refine ⟨fun us h' => ∃ (i : Nat) (zs : List Int), us = [.int .i64 (k + (i : Int)), .int .i64 i] ∧ i ≤ xs.length ∧ zs.length = (pr ++ xs ++ sp ++ re).length ∧ h' = upd h b (.cells (ints .i64 zs) T), fun us _ => xs.length - (toInt (us.getD 1 undef)).toNat, ⟨0, _, by simp, by omega, rfl, (upd_self hbl).symm⟩, ?_⟩
  rintro x y h' ⟨i, zs, hx, hi2, hz, rfl⟩
  obtain ⟨rfl, rfl⟩ : x = k + (i : Int) ∧ y = i := by simpa using hx
  simp only [Tr.wp, mksW, callW, Ex.ev, coerce, toInt_int, toBool_bool, slL_sl, slC_sl, slA_sl, toAddr_ptr, ptrOf_ptr, isNil_sl, isNil_ptr, it_and, it_or, it_int, optN_int, optN_nl, cmpI, arith, Cst.val, SV.den, resShs, resV, resSV, resVals, newVars, runCells, exSh, allSh, cellsAre, storeW, List.flatMap_cons, List.flatMap_nil, List.replicate_one, List.getD_cons_zero, List.getD_cons_succ, List.getElem?_cons_zero, List.getElem?_cons_succ, decide_eq_true_eq, decide_eq_false_iff_not, List.map_cons, List.map_nil, List.cons_append, List.nil_append, List.append_nil, List.length_cons, List.length_nil, Nat.zero_add, Nat.add_zero, and_true, true_and, if_true, if_false, Bool.false_eq_true]
  refine ⟨fun hlt => ?_, fun hge => ?_⟩
  · have hi3 : i < xs.length := by omega
    have w1 : IntKind.i64.wrap (k + (i : Int) + 1) = k + ((i + 1 : Nat) : Int) := by rw [i64_in _ (by omega)]; omega
    have w2 : IntKind.i64.wrap ((i : Int) + 1) = ((i + 1 : Nat) : Int) := by rw [i64_in _ (by omega)]; omega
    have hsz : pr.length + i < (ints .i64 zs).size := by rw [ints_size, hz]; simp; omega
    have e1 : (((some (⟨b, pr.length, none⟩ : Addr)).getD default).add ((i : Int).toNat * 1)).add 0 = (⟨b, 0, none⟩ : Addr).add (pr.length + i) := by
      rw [addr0_add, add_add, Option.getD_some, addr_add]; simp
    rw [w1, w2, e1]
    refine ⟨rfl, by omega, hlt, okCell_new hsz hsb, ⟨i + 1, zs.set (pr.length + i) (k + (i : Int)), rfl, by omega, by rw [List.length_set, hz], ?_⟩, by omega⟩
    rw [hset_new, ints_set]
  · obtain rfl : i = xs.length := by omega
    exact ⟨rfl, fun b' hb' => upd_ne (fun e => hb' (by rw [e]; rfl))⟩
end Go.Proofs.YtmnialmphlbmaaaDoor
