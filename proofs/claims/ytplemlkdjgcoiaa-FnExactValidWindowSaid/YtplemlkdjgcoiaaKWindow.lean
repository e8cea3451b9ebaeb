import Derived.Test.YtplemlkdjgcoiaaKBytes
set_option linter.unusedVariables false
set_option linter.unusedSimpArgs false
namespace Go.Proofs.Ytplemlkdjgcoiaa
open Go Go.Eng Go.IntWalk
variable {S : Nat → Prop} {h : Eng.Heap}

theorem k_szWindow (hi : Eng.Inv S h) (m : Int) (a : Option Addr) (l c : Nat) (n : Int) :
    CallsH Try.prog S F_laws_szWindow #[.agg #[.int .i64 m, .slice a l c], .int .i64 n] h (fun v h' => v = .int .i64 (if IntKind.i64.wrap (n - l) < 0 then -1 else IntKind.i64.wrap (n - l)) ∧ h' = h) := by
  refine run_laws_szWindow (vs := [.int .i64 m, .slice a l c, .int .i64 n]) ⟨rfl, rfl, rfl, trivial⟩ hi ?_
  simp only [t_laws_szWindow, Tr.wp, mksW, callW, Ex.ev, coerce, toInt_int, toBool_bool, slL_sl, slC_sl, slA_sl, toAddr_ptr, ptrOf_ptr, isNil_sl, isNil_ptr, optN_int, optN_nl, cmpI, arith, Cst.val, SV.den, resShs, resV, resSV, resVals, newVars, runCells, exSh, allSh, cellsAre, storeW, List.flatMap_cons, List.flatMap_nil, List.replicate_one, List.getD_cons_zero, List.getD_cons_succ, List.getElem?_cons_zero, List.getElem?_cons_succ, decide_eq_true_eq, decide_eq_false_iff_not, List.map_cons, List.map_nil, List.cons_append, List.nil_append, List.append_nil, List.length_cons, List.length_nil, Nat.zero_add, Nat.add_zero, and_true, true_and, if_true, if_false, Bool.false_eq_true]
  refine (k_szByteS hi a l c n).mono ?_
  rintro _ _ ⟨rfl, rfl⟩
  refine ⟨_, rfl, ?_, ?_⟩
  · intro hx
    by_cases hc : IntKind.i64.wrap (n - l) < 0
    · simp [hc]
    · rw [if_neg hc] at hx; exact absurd hx hc
  · intro hx
    exact ⟨rfl, rfl⟩

theorem k_toWindow (hi : Eng.Inv S h) (m : Int) (a : Option Addr) (c : Nat) (xs : List Int) (hx : HInts h .u8 a xs) (hl : xs.length ≤ 2 ^ 48) :
    CallsH Try.prog S F_laws_toWindow #[.agg #[.int .i64 m, .slice a xs.length c]] h (fun v h' => ∃ b T, h b = none ∧ v = .agg #[.int .i64 m, .slice (some ⟨b, 0, none⟩) xs.length xs.length] ∧ h' = upd h b (.cells (ints .u8 xs) T)) := by
  refine run_laws_toWindow (vs := [.int .i64 m, .slice a xs.length c]) ⟨rfl, rfl, trivial⟩ hi ?_
  simp only [t_laws_toWindow, Tr.wp, mksW, callW, Ex.ev, coerce, toInt_int, toBool_bool, slL_sl, slC_sl, slA_sl, toAddr_ptr, ptrOf_ptr, isNil_sl, isNil_ptr, optN_int, optN_nl, cmpI, arith, Cst.val, SV.den, resShs, resV, resSV, resVals, newVars, runCells, exSh, allSh, cellsAre, storeW, List.flatMap_cons, List.flatMap_nil, List.replicate_one, List.getD_cons_zero, List.getD_cons_succ, List.getElem?_cons_zero, List.getElem?_cons_succ, decide_eq_true_eq, decide_eq_false_iff_not, List.map_cons, List.map_nil, List.cons_append, List.nil_append, List.append_nil, List.length_cons, List.length_nil, Nat.zero_add, Nat.add_zero, and_true, true_and, if_true, if_false, Bool.false_eq_true]
  refine (k_toByteS hi a c xs hx hl).mono ?_
  rintro _ _ ⟨b, T, hb, rfl, rfl⟩
  exact ⟨_, _, _, rfl, b, T, hb, rfl, rfl⟩

theorem k_spec_ValidWindow (hi : Eng.Inv S h) (m : Int) (a : Option Addr) (l c : Nat) :
    CallsH Try.prog S F_spec_ValidWindow #[.agg #[.int .i64 m, .slice a l c]] h (fun v h' => v = .bool (decide (1 ≤ m ∧ m ≤ 32768 ∧ (l : Int) ≤ m)) ∧ h' = h) := by
  refine run_spec_ValidWindow (vs := [.int .i64 m, .slice a l c]) ⟨rfl, rfl, trivial⟩ hi ?_
  simp only [t_spec_ValidWindow, Tr.wp, mksW, callW, Ex.ev, coerce, toInt_int, toBool_bool, slL_sl, slC_sl, slA_sl, toAddr_ptr, ptrOf_ptr, isNil_sl, isNil_ptr, optN_int, optN_nl, cmpI, arith, Cst.val, SV.den, resShs, resV, resSV, resVals, newVars, runCells, exSh, allSh, cellsAre, storeW, List.flatMap_cons, List.flatMap_nil, List.replicate_one, List.getD_cons_zero, List.getD_cons_succ, List.getElem?_cons_zero, List.getElem?_cons_succ, decide_eq_true_eq, decide_eq_false_iff_not, List.map_cons, List.map_nil, List.cons_append, List.nil_append, List.append_nil, List.length_cons, List.length_nil, Nat.zero_add, Nat.add_zero, and_true, true_and, if_true, if_false, Bool.false_eq_true]
  by_cases h1 : 1 ≤ m <;> by_cases h2 : m ≤ 32768 <;> simp [h1, h2, Eng.toBool]

theorem k_impl_ValidWindow (hi : Eng.Inv S h) (m : Int) (a : Option Addr) (l c : Nat) :
    CallsH Try.prog S F_impl_ValidWindow #[.agg #[.int .i64 m, .slice a l c]] h (fun v h' => v = .bool (decide (1 ≤ m ∧ m ≤ 32768 ∧ (l : Int) ≤ m)) ∧ h' = h) := by
  refine run_impl_ValidWindow (vs := [.int .i64 m, .slice a l c]) ⟨rfl, rfl, trivial⟩ hi ?_
  simp only [t_impl_ValidWindow, Tr.wp, mksW, callW, Ex.ev, coerce, toInt_int, toBool_bool, slL_sl, slC_sl, slA_sl, toAddr_ptr, ptrOf_ptr, isNil_sl, isNil_ptr, optN_int, optN_nl, cmpI, arith, Cst.val, SV.den, resShs, resV, resSV, resVals, newVars, runCells, exSh, allSh, cellsAre, storeW, List.flatMap_cons, List.flatMap_nil, List.replicate_one, List.getD_cons_zero, List.getD_cons_succ, List.getElem?_cons_zero, List.getElem?_cons_succ, decide_eq_true_eq, decide_eq_false_iff_not, List.map_cons, List.map_nil, List.cons_append, List.nil_append, List.append_nil, List.length_cons, List.length_nil, Nat.zero_add, Nat.add_zero, and_true, true_and, if_true, if_false, Bool.false_eq_true]
  by_cases h1 : 1 ≤ m <;> by_cases h2 : m ≤ 32768 <;> simp [h1, h2, Eng.toBool]

theorem k_eqWindow (hi : Eng.Inv S h) (m : Int) (a a' : Option Addr) (c c' : Nat) (xs : List Int) (hx : HInts h .u8 a xs) (hy : HInts h .u8 a' xs) (hl : xs.length ≤ 2 ^ 48) :
    CallsH Try.prog S F_laws_eqWindow #[.agg #[.int .i64 m, .slice a xs.length c], .agg #[.int .i64 m, .slice a' xs.length c']] h (fun v h' => v = .bool true ∧ h' = h) := by
  refine run_laws_eqWindow (vs := [.int .i64 m, .slice a xs.length c, .int .i64 m, .slice a' xs.length c']) ⟨rfl, rfl, rfl, rfl, trivial⟩ hi ?_
  simp only [t_laws_eqWindow, Tr.wp, mksW, callW, Ex.ev, coerce, toInt_int, toBool_bool, slL_sl, slC_sl, slA_sl, toAddr_ptr, ptrOf_ptr, isNil_sl, isNil_ptr, optN_int, optN_nl, cmpI, arith, Cst.val, SV.den, resShs, resV, resSV, resVals, newVars, runCells, exSh, allSh, cellsAre, storeW, List.flatMap_cons, List.flatMap_nil, List.replicate_one, List.getD_cons_zero, List.getD_cons_succ, List.getElem?_cons_zero, List.getElem?_cons_succ, decide_eq_true_eq, decide_eq_false_iff_not, List.map_cons, List.map_nil, List.cons_append, List.nil_append, List.append_nil, List.length_cons, List.length_nil, Nat.zero_add, Nat.add_zero, and_true, true_and, if_true, if_false, Bool.false_eq_true]
  refine ⟨fun hne => by simp at hne, fun _ => ?_⟩
  refine (k_eqByteS hi a a' c c' xs xs hx hy hl).mono ?_
  rintro _ _ ⟨rfl, rfl⟩
  exact ⟨_, rfl, by simp, by simp⟩

theorem k_ValidWindow (hi : Eng.Inv S h) (m : Int) (a : Option Addr) (c : Nat) (xs : List Int) (hx : HInts h .u8 a xs) (hl : xs.length ≤ 9223372036854775807) :
    CallsH Try.prog S F_laws_FnExactValidWindow #[.agg #[.int .i64 m, .slice a xs.length c]] h (fun v _ => v = .bool true) := by
  refine run_laws_FnExactValidWindow (vs := [.int .i64 m, .slice a xs.length c]) ⟨rfl, rfl, trivial⟩ hi ?_
  simp only [t_laws_FnExactValidWindow, Tr.wp, mksW, callW, Ex.ev, coerce, toInt_int, toBool_bool, slL_sl, slC_sl, slA_sl, toAddr_ptr, ptrOf_ptr, isNil_sl, isNil_ptr, optN_int, optN_nl, cmpI, arith, Cst.val, SV.den, resShs, resV, resSV, resVals, newVars, runCells, exSh, allSh, cellsAre, storeW, List.flatMap_cons, List.flatMap_nil, List.replicate_one, List.getD_cons_zero, List.getD_cons_succ, List.getElem?_cons_zero, List.getElem?_cons_succ, decide_eq_true_eq, decide_eq_false_iff_not, List.map_cons, List.map_nil, List.cons_append, List.nil_append, List.append_nil, List.length_cons, List.length_nil, Nat.zero_add, Nat.add_zero, and_true, true_and, if_true, if_false, Bool.false_eq_true]
  refine (k_szWindow hi m a xs.length c 1048576).mono ?_
  rintro _ _ ⟨rfl, rfl⟩
  have w1 : IntKind.i64.wrap (1048576 - (xs.length : Int)) = 1048576 - xs.length := i64_in _ (by omega)
  rw [w1]
  refine ⟨_, rfl, fun _ => trivial, fun hge => ?_⟩
  have hl2 : xs.length ≤ 1048576 := by
    by_cases h0 : (1048576 : Int) - xs.length < 0
    · rw [if_pos h0] at hge; omega
    · omega
  refine (k_toWindow hi m a c xs hx (by omega)).mono ?_
  rintro _ _ ⟨b1, T1, hb1, rfl, rfl⟩
  refine ⟨_, _, _, _, rfl, ?_⟩
  have hi1 := Eng.Inv.upd (b := b1) (o := .cells (ints .u8 xs) T1) hi
  have hx1 := hx.upd (o := .cells (ints .u8 xs) T1) hb1
  refine (k_spec_ValidWindow hi1 m _ _ _).mono ?_
  rintro _ _ ⟨rfl, rfl⟩
  refine ⟨_, rfl, ?_⟩
  refine (k_toWindow hi1 m a c xs hx1 (by omega)).mono ?_
  rintro _ _ ⟨b2, T2, hb2, rfl, rfl⟩
  refine ⟨_, _, _, _, rfl, ?_⟩
  have hi2 := Eng.Inv.upd (b := b2) (o := .cells (ints .u8 xs) T2) hi1
  have hx2 := hx1.upd (o := .cells (ints .u8 xs) T2) hb2
  refine (k_impl_ValidWindow hi2 m _ _ _).mono ?_
  rintro _ _ ⟨rfl, rfl⟩
  refine ⟨_, rfl, fun hne => by simp at hne, fun _ => ?_⟩
  refine (k_toWindow hi2 m a c xs hx2 (by omega)).mono ?_
  rintro _ _ ⟨b3, T3, hb3, rfl, rfl⟩
  refine ⟨_, _, _, _, rfl, ?_⟩
  have hi3 := Eng.Inv.upd (b := b3) (o := .cells (ints .u8 xs) T3) hi2
  have hn2 : HInts (upd (upd (upd _ b1 _) b2 (.cells (ints .u8 xs) T2)) b3 (.cells (ints .u8 xs) T3)) .u8 (some ⟨b2, 0, none⟩) xs := HInts.new.upd hb3
  refine (k_eqWindow hi3 m _ _ _ _ xs hn2 HInts.new (by omega)).mono ?_
  rintro _ _ ⟨rfl, rfl⟩
  exact ⟨_, rfl, by simp, fun _ => trivial⟩
end Go.Proofs.Ytplemlkdjgcoiaa
