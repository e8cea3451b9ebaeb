import Derived.Test.YtchlnichbaoeaaaKBits
import Derived.Test.YtchlnichbaoeaaaKMarksP
import Derived.Test.YtchlnichbaoeaaaTrBM
set_option linter.unusedVariables false
set_option linter.unusedSimpArgs false
namespace Go.Proofs.Ytchlnichbaoeaaa
open Go Go.Eng Go.IntWalk
variable {S : Nat → Prop} {h : Eng.Heap}

theorem k_l2Copy (hi : Eng.Inv S h) (a : Option Addr) (c : Nat) (xs : List Int) (p q : Int) (hx : HInts h .u8 a xs) (hl : xs.length ≤ 140737488355328) :
    CallsH Try.prog S F_spec_l2Copy #[.agg #[.slice a xs.length c, .int .i64 p, .int .i64 q]] h (fun v h' => ∃ a' l' c', v = .agg #[.slice a' l' c', .int .i64 p, .int .i64 q] ∧ Part .u8 h' (.slice a' l' c') xs ∧ New h (.slice a' l' c') ∧ Eng.Sub h h') := by
  refine run_spec_l2Copy (vs := [.slice a xs.length c, .int .i64 p, .int .i64 q]) ⟨rfl, rfl, rfl, trivial⟩ hi ?_
  simp only [t_spec_l2Copy, Tr.wp, mksW, callW, Ex.ev, coerce, toInt_int, toBool_bool, slL_sl, slC_sl, slA_sl, toAddr_ptr, ptrOf_ptr, isNil_sl, isNil_ptr, it_and, it_or, it_int, optN_int, optN_nl, cmpI, arith, Cst.val, SV.den, resShs, resV, resSV, resVals, newVars, runCells, exSh, allSh, cellsAre, storeW, List.flatMap_cons, List.flatMap_nil, List.replicate_one, List.getD_cons_zero, List.getD_cons_succ, List.getElem?_cons_zero, List.getElem?_cons_succ, decide_eq_true_eq, decide_eq_false_iff_not, List.map_cons, List.map_nil, List.cons_append, List.nil_append, List.append_nil, List.length_cons, List.length_nil, Nat.zero_add, Nat.add_zero, and_true, true_and, if_true, if_false, Bool.false_eq_true]
  intro b hb
  have s1 : Eng.Sub h (upd h b (.cells (ints .u8 []) 5)) := Sub.of_upd hb
  refine appW_part hi s1 (Own.made []).part (New.of hb) (hx.sub s1) (by simpa using hl) fun v' h' o n s _ _ => ?_
  obtain ⟨a', c', rfl, _, _⟩ := o.ints
  exact ⟨_, _, _, rfl, o, n, s⟩

theorem k_sourceOf (hi : Eng.Inv S h) (a : Option Addr) (c : Nat) (xs : List Int) (p q : Int) (hx : HInts h .u8 a xs) (hl : xs.length ≤ 140737488355328) :
    CallsH Try.prog S F_impl_sourceOf #[.agg #[.slice a xs.length c, .int .i64 p, .int .i64 q]] h (fun v h' => ∃ a' l' c', v = .agg #[.slice a' l' c', .int .i64 p, .int .i64 q] ∧ Part .u8 h' (.slice a' l' c') xs ∧ New h (.slice a' l' c') ∧ Eng.Sub h h') := by
  refine run_impl_sourceOf (vs := [.slice a xs.length c, .int .i64 p, .int .i64 q]) ⟨rfl, rfl, rfl, trivial⟩ hi ?_
  simp only [t_impl_sourceOf, Tr.wp, mksW, callW, Ex.ev, coerce, toInt_int, toBool_bool, slL_sl, slC_sl, slA_sl, toAddr_ptr, ptrOf_ptr, isNil_sl, isNil_ptr, it_and, it_or, it_int, optN_int, optN_nl, cmpI, arith, Cst.val, SV.den, resShs, resV, resSV, resVals, newVars, runCells, exSh, allSh, cellsAre, storeW, List.flatMap_cons, List.flatMap_nil, List.replicate_one, List.getD_cons_zero, List.getD_cons_succ, List.getElem?_cons_zero, List.getElem?_cons_succ, decide_eq_true_eq, decide_eq_false_iff_not, List.map_cons, List.map_nil, List.cons_append, List.nil_append, List.append_nil, List.length_cons, List.length_nil, Nat.zero_add, Nat.add_zero, and_true, true_and, if_true, if_false, Bool.false_eq_true]
  intro b hb
  have s1 : Eng.Sub h (upd h b (.cells (ints .u8 []) 5)) := Sub.of_upd hb
  refine appW_part hi s1 (Own.made []).part (New.of hb) (hx.sub s1) (by simpa using hl) fun v' h' o n s _ _ => ?_
  obtain ⟨a', c', rfl, _, _⟩ := o.ints
  exact ⟨_, _, _, rfl, o, n, s⟩

/-- The source's block: the held slice, at, used. -/
def srcObj (v : Value) (p q : Int) (T : TypeId) : Obj := .cells #[v, .int .i64 p, .int .i64 q] T

theorem src_get {b : Nat} {v : Value} {p q : Int} {T : TypeId} (hb : h b = some (srcObj v p q T)) :
    hcell h ⟨b, 0, none⟩ = some v ∧ hcell h ⟨b, 1, none⟩ = some (.int .i64 p) ∧ hcell h ⟨b, 2, none⟩ = some (.int .i64 q) := by
  simp [hcell, hb, srcObj]

theorem src_ok {b : Nat} {v : Value} {p q : Int} {T : TypeId} (hb : h b = some (srcObj v p q T)) (hs : ¬ S b) : okCell S h ⟨b, 0, none⟩ ∧ okCell S h ⟨b, 1, none⟩ ∧ okCell S h ⟨b, 2, none⟩ := by
  obtain ⟨h1, h2, h3⟩ := src_get hb
  refine ⟨⟨⟨_, h1⟩, ?_, hs⟩, ⟨⟨_, h2⟩, ?_, hs⟩, ⟨⟨_, h3⟩, ?_, hs⟩⟩ <;> simp [hfrozen, hb, srcObj]

theorem src_set {b : Nat} {v w : Value} {p q n : Int} {T : TypeId} (hb : h b = some (srcObj v p q T)) :
    hset h ⟨b, 0, none⟩ w = upd h b (srcObj w p q T) ∧ hset h ⟨b, 1, none⟩ (.int .i64 n) = upd h b (srcObj v n q T) ∧ hset h ⟨b, 2, none⟩ (.int .i64 n) = upd h b (srcObj v p n T) := by
  refine ⟨?_, ?_, ?_⟩ <;> (funext x; unfold hset upd; by_cases hx : x = b <;> simp [hx, hb, srcObj])

theorem Sub.upd_new {h0 h1 : Eng.Heap} {b : Nat} {o : Obj} (hs : Eng.Sub h0 h1) (hb : h0 b = none) : Eng.Sub h0 (upd h1 b o) := fun x u hx => by
  rw [upd_ne (fun e => by rw [e, hb] at hx; cases hx)]; exact hs x u hx

theorem src_fill {h1 : Eng.Heap} {b : Nat} {v0 v : Value} {p0 q0 p q : Int} {T : TypeId} (hs : ¬ S b) :
    okCell S (upd h1 b (srcObj v0 p0 q0 T)) ((⟨b, 0, none⟩ : Addr).add 0) ∧
    okCell S (hset (upd h1 b (srcObj v0 p0 q0 T)) ((⟨b, 0, none⟩ : Addr).add 0) v) ((⟨b, 0, none⟩ : Addr).add 1) ∧
    okCell S (hset (hset (upd h1 b (srcObj v0 p0 q0 T)) ((⟨b, 0, none⟩ : Addr).add 0) v) ((⟨b, 0, none⟩ : Addr).add 1) (.int .i64 p)) ((⟨b, 0, none⟩ : Addr).add (1 + 1)) ∧
    hset (hset (hset (upd h1 b (srcObj v0 p0 q0 T)) ((⟨b, 0, none⟩ : Addr).add 0) v) ((⟨b, 0, none⟩ : Addr).add 1) (.int .i64 p)) ((⟨b, 0, none⟩ : Addr).add (1 + 1)) (.int .i64 q) = upd h1 b (srcObj v p q T) := by
  have e1 : hset (upd h1 b (srcObj v0 p0 q0 T)) ((⟨b, 0, none⟩ : Addr).add 0) v = upd h1 b (srcObj v p0 q0 T) := by
    rw [addr_add]; exact ((src_set (n := 0) upd_same).1).trans upd_upd
  have e2 : hset (upd h1 b (srcObj v p0 q0 T)) ((⟨b, 0, none⟩ : Addr).add 1) (.int .i64 p) = upd h1 b (srcObj v p q0 T) := by
    rw [addr_add]; exact ((src_set (w := v) upd_same).2.1).trans upd_upd
  have e3 : hset (upd h1 b (srcObj v p q0 T)) ((⟨b, 0, none⟩ : Addr).add (1 + 1)) (.int .i64 q) = upd h1 b (srcObj v p q T) := by
    rw [addr_add]; exact ((src_set (w := v) upd_same).2.2).trans upd_upd
  rw [e1, e2, e3]
  refine ⟨?_, ?_, ?_, rfl⟩
  · rw [addr_add]; exact (src_ok upd_same hs).1
  · rw [addr_add]; exact (src_ok upd_same hs).2.1
  · rw [addr_add]; exact (src_ok upd_same hs).2.2

theorem src_ld {b : Nat} {v : Value} {p q : Int} {T : TypeId} (hb : h b = some (srcObj v p q T)) :
    hcell h ((⟨b, 0, none⟩ : Addr).add 0) = some v ∧ hcell h ((⟨b, 0, none⟩ : Addr).add 1) = some (.int .i64 p) ∧ hcell h ((⟨b, 0, none⟩ : Addr).add (1 + 1)) = some (.int .i64 q) := by
  simpa [addr_add] using src_get hb

theorem k_bits (hi : Eng.Inv S h) (a : Option Addr) (l c : Nat) (p q : Int) :
    CallsH Try.prog S F_impl_source__bits #[.agg #[.slice a l c, .int .i64 p, .int .i64 q]] h (fun v h' => v = .agg #[.slice a l c, .int .i64 p, .int .i64 q] ∧ h' = h) := by
  refine run_impl_source__bits (vs := [.slice a l c, .int .i64 p, .int .i64 q]) ⟨rfl, rfl, rfl, trivial⟩ hi ?_
  simp only [t_impl_source__bits, Tr.wp, mksW, callW, Ex.ev, coerce, toInt_int, toBool_bool, slL_sl, slC_sl, slA_sl, toAddr_ptr, ptrOf_ptr, isNil_sl, isNil_ptr, it_and, it_or, it_int, optN_int, optN_nl, cmpI, arith, Cst.val, SV.den, resShs, resV, resSV, resVals, newVars, runCells, exSh, allSh, cellsAre, storeW, List.flatMap_cons, List.flatMap_nil, List.replicate_one, List.getD_cons_zero, List.getD_cons_succ, List.getElem?_cons_zero, List.getElem?_cons_succ, decide_eq_true_eq, decide_eq_false_iff_not, List.map_cons, List.map_nil, List.cons_append, List.nil_append, List.append_nil, List.length_cons, List.length_nil, Nat.zero_add, Nat.add_zero, and_true, true_and, if_true, if_false, Bool.false_eq_true]

end Go.Proofs.Ytchlnichbaoeaaa
