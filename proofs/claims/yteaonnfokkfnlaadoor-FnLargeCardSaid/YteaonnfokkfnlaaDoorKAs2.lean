import Derived.Test.YteaonnfokkfnlaaDoorKAs
set_option linter.unusedVariables false
set_option linter.unusedSimpArgs false
namespace Go.Proofs.YteaonnfokkfnlaaDoor
open Go Go.Eng

section
variable {S : Shared} {h : Eng.Heap}

/-- What a heap must hold so that errors.As can be asked. -/
def ErrT (h : Eng.Heap) : Prop := hcell h ⟨2, 0, none⟩ = some (rty tEr)
theorem ErrT.sub {h' : Eng.Heap} (H : ErrT h) (s : Eng.Sub h h') : ErrT h' := hcell_sub s H

set_option maxRecDepth 100000 in
theorem g_errors_as (hi : Eng.Inv S h) {k old : Int} {t a : Nat} (ht : h t = some (.cells #[.int .i64 old] tCl)) (hs : ¬ S t) (ha : hcell h ⟨a, 0, none⟩ = some (.pointer (some ⟨t, 0, none⟩))) :
    CallsH Tryd.prog S F_errors_as #[.iface tCl (.agg #[.int .i64 k]), .iface tPC (.pointer (some ⟨t, 0, none⟩)), .agg #[hdl tPC, .pointer (some ⟨a, 0, none⟩), .int .u64 150], rty tCl] h
      (fun v h' => v = .bool true ∧ h' t = some (.cells #[.int .i64 k] tCl) ∧ ∀ y, y ≠ t → h y ≠ none → h' y = h y) := by
  refine run_errors_as (vs := [.iface tCl (.agg #[.int .i64 k]), .iface tPC (.pointer (some ⟨t, 0, none⟩)), hdl tPC, .pointer (some ⟨a, 0, none⟩), .int .u64 150, rty tCl]) ⟨rfl, rfl, rfl, rfl, rfl, rfl, trivial⟩ hi ?_
  simp only [t_errors_as, Tr.wp, mksW, callW, Ex.ev, coerce, toInt_int, toBool_bool, slL_sl, slC_sl, slA_sl, toAddr_ptr, ptrOf_ptr, isNil_sl, isNil_ptr, it_and, it_or, it_int, optN_int, optN_nl, cmpI, arith, Cst.val, SV.den, resShs, resV, resSV, resVals, newVars, runCells, exSh, allSh, cellsAre, storeW, List.flatMap_cons, List.flatMap_nil, List.replicate_one, List.getD_cons_zero, List.getD_cons_succ, List.getElem?_cons_zero, List.getElem?_cons_succ, decide_eq_true_eq, decide_eq_false_iff_not, List.map_cons, List.map_nil, List.cons_append, List.nil_append, List.append_nil, List.length_cons, List.length_nil, Nat.zero_add, Nat.add_zero, and_true, true_and, if_true, if_false, Bool.false_eq_true]
  refine ⟨fun us h' => us = [] ∧ h' = h, fun _ _ => 0, ⟨rfl, rfl⟩, ?_⟩
  rintro h' ⟨_, rfl⟩
  refine (does0 hi (fun w K => x_typeOf _)).mono ?_
  rintro _ h1 ⟨rfl, rfl⟩
  refine ⟨rty tCl, rfl, rfl, _, _, _, _, rfl, m_asgn tCl, ?_⟩
  refine (does0 hi (fun w K => x_asgn)).mono ?_
  rintro _ h1 ⟨rfl, rfl⟩
  refine ⟨_, rfl, fun _ => ?_, fun hne => by simp at hne⟩
  refine (does_read hi ha (fun w K => x_elemV ⟨a, 0, none⟩ ⟨t, 0, none⟩)).mono ?_
  rintro _ h1 ⟨rfl, rfl⟩
  refine ⟨_, _, _, rfl, ?_⟩
  refine (does_new hi (x := fun b => .agg #[hdl tCl, .pointer (some ⟨b, 0, none⟩), .int .u64 153]) (fun w K => x_ofErr k)).mono ?_
  rintro _ h2 ⟨b, hb, rfl, rfl⟩
  refine ⟨_, _, _, rfl, ?_⟩
  have hbt : t ≠ b := fun e => by rw [e, hb] at ht; cases ht
  refine (does_put (t := t) (b := b) (k := .i64) (n := k) hi.upd (by simp [hcell, upd]) (by rw [upd_ne hbt]; exact ht) hs (fun w K => x_set ⟨t, 0, none⟩ ⟨b, 0, none⟩ k)).mono ?_
  rintro _ h3 ⟨rfl, rfl⟩
  refine ⟨by simp, upd_same, fun y hy hn => ?_⟩
  have hyb : y ≠ b := fun e => hn (by rw [e]; exact hb)
  rw [upd_ne hy, upd_ne hyb]

set_option maxRecDepth 100000 in
theorem g_errors_As (hi : Eng.Inv S h) {k old : Int} {t : Nat} (hE : ErrT h) (ht : h t = some (.cells #[.int .i64 old] tCl)) (hs : ¬ S t) :
    CallsH Tryd.prog S F_errors_As #[.iface tCl (.agg #[.int .i64 k]), .iface tPC (.pointer (some ⟨t, 0, none⟩))] h
      (fun v h' => v = .bool true ∧ h' t = some (.cells #[.int .i64 k] tCl) ∧ ∀ y, y ≠ t → h y ≠ none → h' y = h y) := by
  refine run_errors_As (vs := [.iface tCl (.agg #[.int .i64 k]), .iface tPC (.pointer (some ⟨t, 0, none⟩))]) ⟨rfl, rfl, trivial⟩ hi ?_
  simp only [t_errors_As, Tr.wp, mksW, callW, Ex.ev, coerce, toInt_int, toBool_bool, slL_sl, slC_sl, slA_sl, toAddr_ptr, ptrOf_ptr, isNil_sl, isNil_ptr, it_and, it_or, it_int, optN_int, optN_nl, cmpI, arith, Cst.val, SV.den, resShs, resV, resSV, resVals, newVars, runCells, exSh, allSh, cellsAre, storeW, List.flatMap_cons, List.flatMap_nil, List.replicate_one, List.getD_cons_zero, List.getD_cons_succ, List.getElem?_cons_zero, List.getElem?_cons_succ, decide_eq_true_eq, decide_eq_false_iff_not, List.map_cons, List.map_nil, List.cons_append, List.nil_append, List.append_nil, List.length_cons, List.length_nil, Nat.zero_add, Nat.add_zero, and_true, true_and, if_true, if_false, Bool.false_eq_true]
  refine ⟨fun hne => by simp [ifOf, isNilV] at hne, fun _ => ⟨fun hne => by simp [ifOf, isNilV] at hne, fun _ => ?_⟩⟩
  refine (does_new hi (x := fun b => .agg #[hdl tPC, .pointer (some ⟨b, 0, none⟩), .int .u64 150]) (fun w K => x_ofPtr ⟨t, 0, none⟩)).mono ?_
  rintro _ h2 ⟨a, ha, rfl, rfl⟩
  have hat : t ≠ a := fun e => by rw [e, ha] at ht; cases ht
  have i2 : Eng.Inv S (upd h a (.cells #[.pointer (some ⟨t, 0, none⟩)] tPC)) := hi.upd
  have ca : hcell (upd h a (.cells #[.pointer (some ⟨t, 0, none⟩)] tPC)) ⟨a, 0, none⟩ = some (.pointer (some ⟨t, 0, none⟩)) := by simp [hcell, upd]
  have sa : Eng.Sub h (upd h a (.cells #[.pointer (some ⟨t, 0, none⟩)] tPC)) := Sub.of_upd ha
  refine ⟨_, _, _, rfl, ?_⟩
  refine (does0 i2 (fun w K => x_type ⟨a, 0, none⟩)).mono ?_
  rintro _ h3 ⟨rfl, rfl⟩
  refine ⟨rty tPC, rfl, rfl, _, _, _, _, rfl, m_kind tPC, ?_⟩
  refine (does0 i2 (fun w K => x_kindP)).mono ?_
  rintro _ h3 ⟨rfl, rfl⟩
  refine ⟨_, rfl, fun _ => ?_, fun hne => by simp at hne⟩
  refine (does_read i2 ca (fun w K => x_isNil ⟨a, 0, none⟩ ⟨t, 0, none⟩)).mono ?_
  rintro _ h3 ⟨rfl, rfl⟩
  refine ⟨_, rfl, fun _ => ⟨fun hne => by simp at hne, fun _ => ?_⟩⟩
  refine ⟨_, _, _, _, rfl, m_elem tPC, ?_⟩
  refine (does0 i2 (fun w K => x_elem)).mono ?_
  rintro _ h3 ⟨rfl, rfl⟩
  refine ⟨rty tCl, rfl, rfl, _, _, _, _, rfl, m_kind tCl, ?_⟩
  refine (does0 i2 (fun w K => x_kindC)).mono ?_
  rintro _ h3 ⟨rfl, rfl⟩
  refine ⟨_, rfl, fun _ => ?_, fun hne => by simp at hne⟩
  refine ⟨rty tEr, rfl, hE.sub sa, _, _, _, _, rfl, m_impl tCl, ?_⟩
  refine (does0 i2 (fun w K => x_impl)).mono ?_
  rintro _ h3 ⟨rfl, rfl⟩
  refine ⟨_, rfl, fun _ => ⟨fun hne => by simp at hne, fun _ => ?_⟩⟩
  refine (g_errors_as i2 (k := k) (by rw [upd_ne hat]; exact ht) hs ca).mono ?_
  rintro _ h4 ⟨rfl, e1, e2⟩
  refine ⟨_, rfl, rfl, e1, fun y hy hn => ?_⟩
  have hya : y ≠ a := fun e => hn (by rw [e]; exact ha)
  rw [e2 y hy (by rw [upd_ne hya]; exact hn), upd_ne hya]

theorem g_classOf (hi : Eng.Inv S h) {k : Int} (hE : ErrT h) :
    CallsH Tryd.prog S F_impl_classOf #[.iface tCl (.agg #[.int .i64 k])] h (fun v h' => v = .int .i64 k ∧ Eng.Sub h h') := by
  refine run_impl_classOf (vs := [.iface tCl (.agg #[.int .i64 k])]) ⟨rfl, trivial⟩ hi ?_
  simp only [t_impl_classOf, Tr.wp, mksW, callW, Ex.ev, coerce, toInt_int, toBool_bool, slL_sl, slC_sl, slA_sl, toAddr_ptr, ptrOf_ptr, isNil_sl, isNil_ptr, it_and, it_or, it_int, optN_int, optN_nl, cmpI, arith, Cst.val, SV.den, resShs, resV, resSV, resVals, newVars, runCells, exSh, allSh, cellsAre, List.flatMap_cons, List.flatMap_nil, List.replicate_one, List.getD_cons_zero, List.getD_cons_succ, List.getElem?_cons_zero, List.getElem?_cons_succ, decide_eq_true_eq, decide_eq_false_iff_not, List.map_cons, List.map_nil, List.cons_append, List.nil_append, List.append_nil, List.length_cons, List.length_nil, Nat.zero_add, Nat.add_zero, and_true, true_and, if_true, if_false, Bool.false_eq_true]
  intro b hb
  have hsb := not_shared hi hb
  have sb : ∀ o, Eng.Sub h (upd h b o) := fun o => Sub.of_upd hb
  refine sto1' (u := .int .i64 0) (T := tCl) upd_same hsb ?_
  rw [upd_upd]
  refine (g_errors_As hi.upd (hE.sub (sb _)) upd_same hsb).mono ?_
  rintro _ h4 ⟨rfl, e1, e2⟩
  refine ⟨_, rfl, k, by rw [addr_add, addr_add]; simp [hcell, e1], rfl, fun y o hy => ?_⟩
  have hyb : y ≠ b := fun e => by rw [e, hb] at hy; cases hy
  rw [e2 y hyb (by rw [upd_ne hyb, hy]; simp), upd_ne hyb]; exact hy
end
end Go.Proofs.YteaonnfokkfnlaaDoor
