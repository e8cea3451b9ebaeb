import Derived.Test.YtchlnichbaoeaaaKBytes
import Derived.Test.YtchlnichbaoeaaaTrBM
set_option linter.unusedVariables false
set_option linter.unusedSimpArgs false
namespace Go.Proofs.Ytchlnichbaoeaaa
open Go Go.Eng Go.IntWalk
variable {S : Nat → Prop} {h : Eng.Heap}

theorem k_szBits (hi : Eng.Inv S h) (a : Option Addr) (l c : Nat) (p q : Int) (n : Int) :
    CallsH Try.prog S F_laws_szBits #[.agg #[.slice a l c, .int .i64 p, .int .i64 q], .int .i64 n] h (fun v h' => v = .int .i64 (if IntKind.i64.wrap (n - l) < 0 then -1 else IntKind.i64.wrap (n - l)) ∧ h' = h) := by
  refine run_laws_szBits (vs := [.slice a l c, .int .i64 p, .int .i64 q, .int .i64 n]) ⟨rfl, rfl, rfl, rfl, trivial⟩ hi ?_
  simp only [t_laws_szBits, Tr.wp, mksW, callW, Ex.ev, coerce, toInt_int, toBool_bool, slL_sl, slC_sl, slA_sl, toAddr_ptr, ptrOf_ptr, isNil_sl, isNil_ptr, it_and, it_or, it_int, optN_int, optN_nl, cmpI, arith, Cst.val, SV.den, resShs, resV, resSV, resVals, newVars, runCells, exSh, allSh, cellsAre, storeW, List.flatMap_cons, List.flatMap_nil, List.replicate_one, List.getD_cons_zero, List.getD_cons_succ, List.getElem?_cons_zero, List.getElem?_cons_succ, decide_eq_true_eq, decide_eq_false_iff_not, List.map_cons, List.map_nil, List.cons_append, List.nil_append, List.append_nil, List.length_cons, List.length_nil, Nat.zero_add, Nat.add_zero, and_true, true_and, if_true, if_false, Bool.false_eq_true]
  refine (k_szByteS hi a l c n).mono ?_
  rintro _ _ ⟨rfl, rfl⟩
  refine ⟨_, rfl, ?_, ?_⟩
  · intro hx
    by_cases hc : IntKind.i64.wrap (n - l) < 0
    · simp [hc]
    · rw [if_neg hc] at hx; exact absurd hx hc
  · intro hx
    exact ⟨rfl, rfl⟩

theorem k_toBits (hi : Eng.Inv S h) (a : Option Addr) (c : Nat) (xs : List Int) (p q : Int) (hx : HInts h .u8 a xs) (hl : xs.length ≤ 2 ^ 48) :
    CallsH Try.prog S F_laws_toBits #[.agg #[.slice a xs.length c, .int .i64 p, .int .i64 q]] h (fun v h' => ∃ b T, h b = none ∧ v = .agg #[.slice (some ⟨b, 0, none⟩) xs.length xs.length, .int .i64 p, .int .i64 q] ∧ h' = upd h b (.cells (ints .u8 xs) T)) := by
  refine run_laws_toBits (vs := [.slice a xs.length c, .int .i64 p, .int .i64 q]) ⟨rfl, rfl, rfl, trivial⟩ hi ?_
  simp only [t_laws_toBits, Tr.wp, mksW, callW, Ex.ev, coerce, toInt_int, toBool_bool, slL_sl, slC_sl, slA_sl, toAddr_ptr, ptrOf_ptr, isNil_sl, isNil_ptr, it_and, it_or, it_int, optN_int, optN_nl, cmpI, arith, Cst.val, SV.den, resShs, resV, resSV, resVals, newVars, runCells, exSh, allSh, cellsAre, storeW, List.flatMap_cons, List.flatMap_nil, List.replicate_one, List.getD_cons_zero, List.getD_cons_succ, List.getElem?_cons_zero, List.getElem?_cons_succ, decide_eq_true_eq, decide_eq_false_iff_not, List.map_cons, List.map_nil, List.cons_append, List.nil_append, List.append_nil, List.length_cons, List.length_nil, Nat.zero_add, Nat.add_zero, and_true, true_and, if_true, if_false, Bool.false_eq_true]
  refine (k_toByteS hi a c xs hx hl).mono ?_
  rintro _ _ ⟨b, T, hb, rfl, rfl⟩
  exact ⟨_, _, _, rfl, b, T, hb, rfl, rfl⟩

theorem k_l2Most (hi : Eng.Inv S h) : CallsH Try.prog S F_spec_l2Most #[] h (fun v h' => v = .int .i64 34359738368 ∧ h' = h) := by
  refine run_spec_l2Most (vs := []) trivial hi ?_
  simp only [t_spec_l2Most, Tr.wp, mksW, callW, Ex.ev, coerce, toInt_int, toBool_bool, slL_sl, slC_sl, slA_sl, toAddr_ptr, ptrOf_ptr, isNil_sl, isNil_ptr, it_and, it_or, it_int, optN_int, optN_nl, cmpI, arith, Cst.val, SV.den, resShs, resV, resSV, resVals, newVars, runCells, exSh, allSh, cellsAre, storeW, List.flatMap_cons, List.flatMap_nil, List.replicate_one, List.getD_cons_zero, List.getD_cons_succ, List.getElem?_cons_zero, List.getElem?_cons_succ, decide_eq_true_eq, decide_eq_false_iff_not, List.map_cons, List.map_nil, List.cons_append, List.nil_append, List.append_nil, List.length_cons, List.length_nil, Nat.zero_add, Nat.add_zero, and_true, true_and, if_true, if_false, Bool.false_eq_true]

/-- A reader that may stand. -/
def vbits (l : Nat) (p q : Int) : Prop := 0 ≤ p ∧ p ≤ 7 ∧ (p = 0 ∨ 0 < l) ∧ l ≤ 1000000 ∧ 0 ≤ q ∧ q ≤ 34359738368 ∧ q.tmod 8 = p
instance (l : Nat) (p q : Int) : Decidable (vbits l p q) := by unfold vbits; infer_instance

theorem k_spec_ValidBits (hi : Eng.Inv S h) (a : Option Addr) (l c : Nat) (p q : Int) :
    CallsH Try.prog S F_spec_ValidBits #[.agg #[.slice a l c, .int .i64 p, .int .i64 q]] h (fun v h' => v = .bool (decide (vbits l p q)) ∧ h' = h) := by
  refine run_spec_ValidBits (vs := [.slice a l c, .int .i64 p, .int .i64 q]) ⟨rfl, rfl, rfl, trivial⟩ hi ?_
  simp only [t_spec_ValidBits, Tr.wp, mksW, callW, Ex.ev, coerce, toInt_int, toBool_bool, slL_sl, slC_sl, slA_sl, toAddr_ptr, ptrOf_ptr, isNil_sl, isNil_ptr, it_and, it_or, it_int, optN_int, optN_nl, cmpI, arith, Cst.val, SV.den, resShs, resV, resSV, resVals, newVars, runCells, exSh, allSh, cellsAre, storeW, List.flatMap_cons, List.flatMap_nil, List.replicate_one, List.getD_cons_zero, List.getD_cons_succ, List.getElem?_cons_zero, List.getElem?_cons_succ, decide_eq_true_eq, decide_eq_false_iff_not, List.map_cons, List.map_nil, List.cons_append, List.nil_append, List.append_nil, List.length_cons, List.length_nil, Nat.zero_add, Nat.add_zero, and_true, true_and, if_true, if_false, Bool.false_eq_true]
  refine ⟨fun hc => ?_, fun hc _ => ?_⟩
  · refine (k_l2Most hi).mono ?_
    rintro _ _ ⟨rfl, rfl⟩
    refine ⟨_, rfl, fun _ => ⟨?_, rfl⟩⟩
    congr 1
    rw [Bool.eq_iff_iff, decide_eq_true_eq (p := vbits l p q)]
    simp [vbits] at hc ⊢
    omega
  · congr 1
    symm
    rw [decide_eq_false_iff_not]
    intro hv
    revert hc
    simp [vbits] at hv ⊢
    omega

theorem k_impl_ValidBits (hi : Eng.Inv S h) (a : Option Addr) (l c : Nat) (p q : Int) :
    CallsH Try.prog S F_impl_ValidBits #[.agg #[.slice a l c, .int .i64 p, .int .i64 q]] h (fun v h' => v = .bool (decide (vbits l p q)) ∧ h' = h) := by
  refine run_impl_ValidBits (vs := [.slice a l c, .int .i64 p, .int .i64 q]) ⟨rfl, rfl, rfl, trivial⟩ hi ?_
  simp only [t_impl_ValidBits, Tr.wp, mksW, callW, Ex.ev, coerce, toInt_int, toBool_bool, slL_sl, slC_sl, slA_sl, toAddr_ptr, ptrOf_ptr, isNil_sl, isNil_ptr, it_and, it_or, it_int, optN_int, optN_nl, cmpI, arith, Cst.val, SV.den, resShs, resV, resSV, resVals, newVars, runCells, exSh, allSh, cellsAre, storeW, List.flatMap_cons, List.flatMap_nil, List.replicate_one, List.getD_cons_zero, List.getD_cons_succ, List.getElem?_cons_zero, List.getElem?_cons_succ, decide_eq_true_eq, decide_eq_false_iff_not, List.map_cons, List.map_nil, List.cons_append, List.nil_append, List.append_nil, List.length_cons, List.length_nil, Nat.zero_add, Nat.add_zero, and_true, true_and, if_true, if_false, Bool.false_eq_true]
  congr 1
  rw [Bool.eq_iff_iff, decide_eq_true_eq (p := vbits l p q)]
  simp [vbits]
  omega

theorem k_eqBits (hi : Eng.Inv S h) (a a' : Option Addr) (c c' : Nat) (xs : List Int) (p q : Int) (hx : HInts h .u8 a xs) (hy : HInts h .u8 a' xs) (hl : xs.length ≤ 2 ^ 48) :
    CallsH Try.prog S F_laws_eqBits #[.agg #[.slice a xs.length c, .int .i64 p, .int .i64 q], .agg #[.slice a' xs.length c', .int .i64 p, .int .i64 q]] h (fun v h' => v = .bool true ∧ h' = h) := by
  refine run_laws_eqBits (vs := [.slice a xs.length c, .int .i64 p, .int .i64 q, .slice a' xs.length c', .int .i64 p, .int .i64 q]) ⟨rfl, rfl, rfl, rfl, rfl, rfl, trivial⟩ hi ?_
  simp only [t_laws_eqBits, Tr.wp, mksW, callW, Ex.ev, coerce, toInt_int, toBool_bool, slL_sl, slC_sl, slA_sl, toAddr_ptr, ptrOf_ptr, isNil_sl, isNil_ptr, it_and, it_or, it_int, optN_int, optN_nl, cmpI, arith, Cst.val, SV.den, resShs, resV, resSV, resVals, newVars, runCells, exSh, allSh, cellsAre, storeW, List.flatMap_cons, List.flatMap_nil, List.replicate_one, List.getD_cons_zero, List.getD_cons_succ, List.getElem?_cons_zero, List.getElem?_cons_succ, decide_eq_true_eq, decide_eq_false_iff_not, List.map_cons, List.map_nil, List.cons_append, List.nil_append, List.append_nil, List.length_cons, List.length_nil, Nat.zero_add, Nat.add_zero, and_true, true_and, if_true, if_false, Bool.false_eq_true]
  refine (k_eqByteS hi a a' c c' xs xs hx hy hl).mono ?_
  rintro _ _ ⟨rfl, rfl⟩
  exact ⟨_, rfl, by simp, by simp⟩
end Go.Proofs.Ytchlnichbaoeaaa
