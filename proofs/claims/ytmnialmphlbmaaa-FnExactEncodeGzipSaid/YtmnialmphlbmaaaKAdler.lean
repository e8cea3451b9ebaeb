import Derived.Test.YtmnialmphlbmaaaTrAd
import Derived.Test.YtmnialmphlbmaaaEng3
import Derived.IntWalk
set_option linter.unusedVariables false
set_option linter.unusedSimpArgs false
namespace Go.Proofs.Ytmnialmphlbmaaa
open Go Go.Eng Go.IntWalk
variable {S : Shared} {h : Eng.Heap}

/-- Adler's sum as the code reckons it. -/
def w32 (x : Int) : Int := IntKind.u32.wrap x
def adStep (p : Int × Int) (x : Int) : Int × Int :=
  ((w32 (p.1 + w32 x)).tmod 65521, (w32 (p.2 + (w32 (p.1 + w32 x)).tmod 65521)).tmod 65521)
def adIn (c : Int) : Int × Int := ((c.tmod 65536).tmod 65521, (w32 (c.tdiv 65536)).tmod 65521)
def adOut (p : Int × Int) : Int := w32 (w32 (p.2 * 65536) + p.1)
def adler (c : Int) (xs : List Int) : Int := adOut (xs.foldl adStep (adIn c))

theorem fold_next {α β : Type} (f : α → β → α) (p : α) {xs : List β} {i : Nat} (hi : i < xs.length) : (xs.take (i + 1)).foldl f p = f ((xs.take i).foldl f p) xs[i] := by
  rw [List.take_add_one, List.getElem?_eq_getElem hi, List.foldl_append]; rfl

theorem g_impl_adler (hi : Eng.Inv S h) (c0 : Int) (a : Option Addr) (c : Nat) (xs : List Int) (hx : HInts h .u8 a xs) (hl : xs.length ≤ 2 ^ 48) :
    CallsH Try.prog S F_impl_adler #[.int .u32 c0, .slice a xs.length c] h (fun v h' => v = .int .u32 (adler c0 xs) ∧ h' = h) := by
  refine run_impl_adler (vs := [.int .u32 c0, .slice a xs.length c]) ⟨rfl, rfl, trivial⟩ hi ?_
  simp only [t_impl_adler, Tr.wp, mksW, callW, Ex.ev, coerce, toInt_int, toBool_bool, slL_sl, slC_sl, slA_sl, toAddr_ptr, ptrOf_ptr, isNil_sl, isNil_ptr, it_and, it_or, it_int, optN_int, optN_nl, cmpI, arith, Cst.val, SV.den, resShs, resV, resSV, resVals, newVars, runCells, exSh, allSh, cellsAre, storeW, List.flatMap_cons, List.flatMap_nil, List.replicate_one, List.getD_cons_zero, List.getD_cons_succ, List.getElem?_cons_zero, List.getElem?_cons_succ, decide_eq_true_eq, decide_eq_false_iff_not, List.map_cons, List.map_nil, List.cons_append, List.nil_append, List.append_nil, List.length_cons, List.length_nil, Nat.zero_add, Nat.add_zero, and_true, true_and, if_true, if_false, Bool.false_eq_true]
  refine ⟨fun us h' => ∃ i : Nat, us = [.int .u32 ((xs.take i).foldl adStep (adIn c0)).1, .int .u32 ((xs.take i).foldl adStep (adIn c0)).2, .int .i64 i] ∧ i ≤ xs.length ∧ h' = h,
    fun us _ => xs.length - (toInt (us.getD 2 undef)).toNat, ⟨0, rfl, by omega, rfl⟩, ?_⟩
  rintro x y z h' ⟨i, hx1, hi2, rfl⟩
  simp only [List.cons.injEq, Value.int.injEq, true_and, and_true] at hx1
  obtain ⟨rfl, rfl, rfl⟩ := hx1
  refine ⟨fun hlt => ?_, fun hge => ?_⟩
  · have hi3 : i < xs.length := by omega
    obtain ⟨g1, g2⟩ := hx.cell (List.getElem?_eq_getElem hi3)
    have w2 : IntKind.i64.wrap ((i : Int) + 1) = ((i + 1 : Nat) : Int) := by rw [i64_in _ (by omega)]; omega
    refine ⟨by simpa using g2, by omega, by omega, xs[i], by simpa [add_add] using g1, ⟨i + 1, ?_, by omega, rfl⟩, ?_⟩
    · rw [w2, fold_next adStep (adIn c0) hi3]; rfl
    · simp only [w2, List.getD_cons_succ, List.getD_cons_zero, toInt_int, Int.toNat_natCast]; omega
  · obtain rfl : i = xs.length := by omega
    refine ⟨?_, rfl⟩
    rw [List.take_length]; rfl
theorem g_spec_AdlerUpdate (hi : Eng.Inv S h) (c0 : Int) (a : Option Addr) (c : Nat) (xs : List Int) (hx : HInts h .u8 a xs) (hl : xs.length ≤ 2 ^ 48) :
    CallsH Try.prog S F_spec_AdlerUpdate #[.int .u32 c0, .slice a xs.length c] h (fun v h' => v = .int .u32 (adler c0 xs) ∧ h' = h) := by
  refine run_spec_AdlerUpdate (vs := [.int .u32 c0, .slice a xs.length c]) ⟨rfl, rfl, trivial⟩ hi ?_
  simp only [t_spec_AdlerUpdate, Tr.wp, mksW, callW, Ex.ev, coerce, toInt_int, toBool_bool, slL_sl, slC_sl, slA_sl, toAddr_ptr, ptrOf_ptr, isNil_sl, isNil_ptr, it_and, it_or, it_int, optN_int, optN_nl, cmpI, arith, Cst.val, SV.den, resShs, resV, resSV, resVals, newVars, runCells, exSh, allSh, cellsAre, storeW, List.flatMap_cons, List.flatMap_nil, List.replicate_one, List.getD_cons_zero, List.getD_cons_succ, List.getElem?_cons_zero, List.getElem?_cons_succ, decide_eq_true_eq, decide_eq_false_iff_not, List.map_cons, List.map_nil, List.cons_append, List.nil_append, List.append_nil, List.length_cons, List.length_nil, Nat.zero_add, Nat.add_zero, and_true, true_and, if_true, if_false, Bool.false_eq_true]
  refine ⟨fun us h' => ∃ i : Nat, us = [.int .u32 ((xs.take i).foldl adStep (adIn c0)).1, .int .u32 ((xs.take i).foldl adStep (adIn c0)).2, .int .i64 i] ∧ i ≤ xs.length ∧ h' = h,
    fun us _ => xs.length - (toInt (us.getD 2 undef)).toNat, ⟨0, rfl, by omega, rfl⟩, ?_⟩
  rintro x y z h' ⟨i, hx1, hi2, rfl⟩
  simp only [List.cons.injEq, Value.int.injEq, true_and, and_true] at hx1
  obtain ⟨rfl, rfl, rfl⟩ := hx1
  refine ⟨fun hlt => ?_, fun hge => ?_⟩
  · have hi3 : i < xs.length := by omega
    obtain ⟨g1, g2⟩ := hx.cell (List.getElem?_eq_getElem hi3)
    have w2 : IntKind.i64.wrap ((i : Int) + 1) = ((i + 1 : Nat) : Int) := by rw [i64_in _ (by omega)]; omega
    refine ⟨by simpa using g2, by omega, by omega, xs[i], by simpa [add_add] using g1, ⟨i + 1, ?_, by omega, rfl⟩, ?_⟩
    · rw [w2, fold_next adStep (adIn c0) hi3]; rfl
    · simp only [w2, List.getD_cons_succ, List.getD_cons_zero, toInt_int, Int.toNat_natCast]; omega
  · obtain rfl : i = xs.length := by omega
    refine ⟨?_, rfl⟩
    rw [List.take_length]; rfl

/-- The sum of a part: the function that is handed over. -/
theorem g_adler_1 (hi : Eng.Inv S h) (a : Option Addr) (c : Nat) (xs : List Int) (hx : HInts h .u8 a xs) (hl : xs.length ≤ 2 ^ 48) :
    CallsH Try.prog S F_impl_AdlerUpdate_1 #[.slice a xs.length c] h (fun v h' => v = .int .u32 (adler 1 xs) ∧ Eng.Sub h h') := by
  refine run_impl_AdlerUpdate_1 (vs := [.slice a xs.length c]) ⟨rfl, trivial⟩ hi ?_
  simp only [t_impl_AdlerUpdate_1, Tr.wp, mksW, callW, Ex.ev, coerce, toInt_int, toBool_bool, slL_sl, slC_sl, slA_sl, toAddr_ptr, ptrOf_ptr, isNil_sl, isNil_ptr, it_and, it_or, it_int, optN_int, optN_nl, cmpI, arith, Cst.val, SV.den, resShs, resV, resSV, resVals, newVars, runCells, exSh, allSh, cellsAre, storeW, List.flatMap_cons, List.flatMap_nil, List.replicate_one, List.getD_cons_zero, List.getD_cons_succ, List.getElem?_cons_zero, List.getElem?_cons_succ, decide_eq_true_eq, decide_eq_false_iff_not, List.map_cons, List.map_nil, List.cons_append, List.nil_append, List.append_nil, List.length_cons, List.length_nil, Nat.zero_add, Nat.add_zero, and_true, true_and, if_true, if_false, Bool.false_eq_true]
  refine (g_impl_adler hi 1 a c xs hx hl).mono ?_
  rintro _ h' ⟨rfl, rfl⟩
  exact ⟨_, rfl, rfl, fun _ _ h => h⟩
end Go.Proofs.Ytmnialmphlbmaaa
