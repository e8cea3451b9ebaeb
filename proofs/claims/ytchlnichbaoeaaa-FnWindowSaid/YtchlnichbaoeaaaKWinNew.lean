import Derived.Test.YtchlnichbaoeaaaKRing
import Derived.Test.YtchlnichbaoeaaaTyWindow
set_option linter.unusedVariables false
set_option linter.unusedSimpArgs false
namespace Go.Proofs.Ytchlnichbaoeaaa
open Go Go.Eng Go.IntWalk
variable {S : Nat → Prop} {h : Eng.Heap}

theorem i64_wfW {n : Int} (H : (Lit.int .i64 n).wf = true) : -9223372036854775808 ≤ n ∧ n ≤ 9223372036854775807 := by
  have e1 : IntKind.i64.min = -9223372036854775808 := by rfl
  have e2 : IntKind.i64.max = 9223372036854775807 := by rfl
  simp [Lit.wf, e1, e2] at H; exact H

def nilWindow : XWindow := (0, [], ())
theorem tWindow_nil : tWindow.O h (.agg #[.int .i64 0, .slice none 0 0]) nilWindow := tWindow_mkO (x := nilWindow) Part.nil
theorem tWindow_nilNew : tWindow.New h (.agg #[.int .i64 0, .slice none 0 0]) := fun b hb => by
  have := (tWindow_B (x := nilWindow)).1 hb
  cases this

def ans_WindowNew (n : Int) (ys : List Int) : XWindow := if 1 ≤ n ∧ n ≤ 32768 then (n, lastN n.toNat ys, ()) else nilWindow

theorem k_l4Last (hi : Eng.Inv S h) (a : Option Addr) (c : Nat) (ys : List Int) (n : Nat) (hc : ys.length ≤ c) (hl : ys.length ≤ 1099511627776) (hn : n ≤ 32768) (hx : HInts h .u8 a ys) :
    CallsH Try.prog S F_spec_l4Last #[.slice a ys.length c, .int .i64 n] h (fun v h' => tB.O h' v (lastN n ys) ∧ tB.New h v ∧ Eng.Sub h h') := by
  refine run_spec_l4Last (vs := [.slice a ys.length c, .int .i64 n]) ⟨rfl, rfl, trivial⟩ hi ?_
  simp only [t_spec_l4Last, Tr.wp, mksW, callW, Ex.ev, coerce, toInt_int, toBool_bool, slL_sl, slC_sl, slA_sl, toAddr_ptr, ptrOf_ptr, isNil_sl, isNil_ptr, it_and, it_or, it_int, optN_int, optN_nl, cmpI, arith, Cst.val, SV.den, resShs, resV, resSV, resVals, newVars, runCells, exSh, allSh, cellsAre, storeW, List.flatMap_cons, List.flatMap_nil, List.replicate_one, List.getD_cons_zero, List.getD_cons_succ, List.getElem?_cons_zero, List.getElem?_cons_succ, decide_eq_true_eq, decide_eq_false_iff_not, List.map_cons, List.map_nil, List.cons_append, List.nil_append, List.append_nil, List.length_cons, List.length_nil, Nat.zero_add, Nat.add_zero, and_true, true_and, if_true, if_false, Bool.false_eq_true]
  have w1 : IntKind.i64.wrap ((ys.length : Int) - (n : Int)) = (ys.length : Int) - n := i64_in _ (by omega)
  rw [w1]
  have fin : ∀ (a' : Option Addr) (c' : Nat) (zs : List Int), HInts h .u8 a' zs → zs = lastN n ys → ∀ b, h b = none → appW S 5 1 1 [.int .u8 0] (.slice (some ⟨b, 0, none⟩) 0 0) (.slice a' zs.length c') (upd h b (.cells #[] 5)) (fun v h' => tB.O h' (.slice (slA v) (slL v) (slC v)) (lastN n ys) ∧ tB.New h (.slice (slA v) (slL v) (slC v)) ∧ Eng.Sub h h') := fun a' c' zs hz e b hb => by
    have s1 : Eng.Sub h (upd h b (.cells (ints .u8 []) 5)) := Sub.of_upd hb
    have hzl : zs.length ≤ ys.length := by rw [e, lastN_len]; omega
    refine appW_part hi s1 (Own.made []).part (New.of hb) (hz.sub s1) (by simp only [List.length_nil]; omega) fun v' h' o n' s _ _ => ?_
    obtain ⟨a4, c4, rfl, _, _⟩ := o.ints
    rw [List.nil_append, e] at o n'
    simp only [slA_sl, slL_sl, slC_sl, List.nil_append, e]
    exact ⟨o, n', s⟩
  refine ⟨fun hgt => ?_, fun hle _ => ?_⟩
  · refine ⟨by omega, by omega, fun _ => ?_⟩
    have ee : ((ys.length : Int) - (n : Int)).toNat = ys.length - n := by omega
    rw [ee]
    obtain ⟨a', e, H'⟩ := slSub_ints hx (lo := ys.length - n) (hi := ys.length) (m := c) (by omega) (by omega) hc
    have hdr : (ys.drop (ys.length - n)).take (ys.length - (ys.length - n)) = lastN n ys := List.take_of_length_le (by rw [List.length_drop]; omega)
    rw [hdr] at e H'
    simp only [e, slA_sl, slL_sl, slC_sl]
    exact fun b hb => fin a' _ _ H' rfl b hb
  · exact fun b hb => fin a c ys hx (lastN_le (by omega)).symm b hb

theorem g_spec_WindowNew (hi : Eng.Inv S h) (n : Int) (wn : (Lit.int .i64 n).wf = true) {v : Value} {ys : List Int} (O : tB.O h v ys) (L : limB ys) :
    CallsH Try.prog S F_spec_WindowNew #[.int .i64 n, v] h (fun v h' => tWindow.O h' v (ans_WindowNew n ys) ∧ tWindow.New h v ∧ Eng.Sub h h') := by
  obtain ⟨a, c, rfl, hc, hx⟩ := Part.ints O
  have L : ys.length ≤ 1048576 := L
  refine run_spec_WindowNew (vs := [.int .i64 n, .slice a ys.length c]) ⟨rfl, rfl, trivial⟩ hi ?_
  simp only [t_spec_WindowNew, Tr.wp, mksW, callW, Ex.ev, coerce, toInt_int, toBool_bool, slL_sl, slC_sl, slA_sl, toAddr_ptr, ptrOf_ptr, isNil_sl, isNil_ptr, it_and, it_or, it_int, optN_int, optN_nl, cmpI, arith, Cst.val, SV.den, resShs, resV, resSV, resVals, newVars, runCells, exSh, allSh, cellsAre, storeW, List.flatMap_cons, List.flatMap_nil, List.replicate_one, List.getD_cons_zero, List.getD_cons_succ, List.getElem?_cons_zero, List.getElem?_cons_succ, decide_eq_true_eq, decide_eq_false_iff_not, List.map_cons, List.map_nil, List.cons_append, List.nil_append, List.append_nil, List.length_cons, List.length_nil, Nat.zero_add, Nat.add_zero, and_true, true_and, if_true, if_false, Bool.false_eq_true]
  refine ⟨fun hbad => ?_, fun hok => ?_⟩
  · have : ¬ (1 ≤ n ∧ n ≤ 32768) := by simp at hbad; omega
    simp only [ans_WindowNew, if_neg this]
    exact ⟨tWindow_nil, tWindow_nilNew, fun _ _ h => h⟩
  · have hn : 1 ≤ n ∧ n ≤ 32768 := by simp at hok; omega
    obtain ⟨m, rfl⟩ := Int.eq_ofNat_of_zero_le (show 0 ≤ n by omega)
    refine (k_l4Last hi a c ys m hc (by omega) (by omega) hx).mono ?_
    rintro _ h1 ⟨O1, N1, s1⟩
    obtain ⟨a1, c1, rfl⟩ := tB_F (tB.OR O1)
    refine ⟨_, _, _, rfl, ?_⟩
    simp only [ans_WindowNew, if_pos hn]
    exact ⟨tWindow_mkO (x := ((m : Int), lastN m ys, ())) O1, fun b hb => N1 b ((tWindow_B (x := ((m : Int), lastN m ys, ()))).1 hb), s1⟩

/-- The end: the ring is read out. -/
theorem k_windowX {h0 : Eng.Heap} {b : Nat} {T : TypeId} {sz : Nat} {K : List Int} (hi : Eng.Inv S h0) (H : RingAt h0 h b T sz K) :
    CallsH Try.prog S F_impl_ring__window #[.pointer (some ⟨b, 0, none⟩)] h (fun v h' => ∃ a c, v = .agg #[.int .i64 sz, .slice a K.length c] ∧ tWindow.O h' v ((sz : Int), K, ()) ∧ tWindow.New h v ∧ Eng.Sub h h') := by
  refine (k_window hi H).mono ?_
  rintro _ h1 ⟨a, c, rfl, P, N, s⟩
  exact ⟨a, c, rfl, tWindow_mkO (x := ((sz : Int), K, ())) P, fun y hy => N y ((tWindow_B (x := ((sz : Int), K, ()))).1 hy), s⟩

theorem g_impl_WindowNew (hi : Eng.Inv S h) (n : Int) (wn : (Lit.int .i64 n).wf = true) {v : Value} {ys : List Int} (O : tB.O h v ys) (L : limB ys) :
    CallsH Try.prog S F_impl_WindowNew #[.int .i64 n, v] h (fun v h' => tWindow.O h' v (ans_WindowNew n ys) ∧ tWindow.New h v ∧ Eng.Sub h h') := by
  obtain ⟨a, c, rfl, hc, hx⟩ := Part.ints O
  have L : ys.length ≤ 1048576 := L
  refine run_impl_WindowNew (vs := [.int .i64 n, .slice a ys.length c]) ⟨rfl, rfl, trivial⟩ hi ?_
  simp only [t_impl_WindowNew, Tr.wp, mksW, callW, Ex.ev, coerce, toInt_int, toBool_bool, slL_sl, slC_sl, slA_sl, toAddr_ptr, ptrOf_ptr, isNil_sl, isNil_ptr, it_and, it_or, it_int, optN_int, optN_nl, cmpI, arith, Cst.val, SV.den, resShs, resV, resSV, resVals, newVars, runCells, exSh, allSh, cellsAre, storeW, List.flatMap_cons, List.flatMap_nil, List.replicate_one, List.getD_cons_zero, List.getD_cons_succ, List.getElem?_cons_zero, List.getElem?_cons_succ, decide_eq_true_eq, decide_eq_false_iff_not, List.map_cons, List.map_nil, List.cons_append, List.nil_append, List.append_nil, List.length_cons, List.length_nil, Nat.zero_add, Nat.add_zero, and_true, true_and, if_true, if_false, Bool.false_eq_true]
  refine ⟨fun hbad => ?_, fun hok => ?_⟩
  · have : ¬ (1 ≤ n ∧ n ≤ 32768) := by simp at hbad; omega
    simp only [ans_WindowNew, if_neg this]
    exact ⟨tWindow_nil, tWindow_nilNew, fun _ _ h => h⟩
  · have hn : 1 ≤ n ∧ n ≤ 32768 := by simp at hok; omega
    obtain ⟨m, rfl⟩ := Int.eq_ofNat_of_zero_le (show 0 ≤ n by omega)
    refine (k_ringOf hi a c ys hc (by omega) hx (by omega) (by omega)).mono ?_
    rintro _ h1 ⟨b, T, rfl, RA⟩
    refine ⟨_, rfl, ?_⟩
    refine (k_windowX hi RA).mono ?_
    rintro _ h2 ⟨a2, c2, rfl, O2, N2, s2⟩
    refine ⟨_, _, _, _, rfl, ?_⟩
    simp only [ans_WindowNew, if_pos hn]
    exact ⟨O2, Ty.New.mono N2 RA.sub, RA.sub.trans s2⟩

theorem sm_WindowNew {n : Int} {ys : List Int} (L : limB ys) : smWindow (ans_WindowNew n ys) := by
  have L : ys.length ≤ 1048576 := L
  unfold ans_WindowNew smWindow smB
  split
  · simp only [lastN_len]; omega
  · simp [nilWindow]
end Go.Proofs.Ytchlnichbaoeaaa
