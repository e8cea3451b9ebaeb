import Derived.Test.YtchlnichbaoeaaaKWinNew
import Derived.Test.YtchlnichbaoeaaaTrWP
set_option linter.unusedVariables false
set_option linter.unusedSimpArgs false
namespace Go.Proofs.Ytchlnichbaoeaaa
open Go Go.Eng Go.IntWalk
variable {S : Nat → Prop} {h : Eng.Heap}

theorem k_spec_ValidWindow (hi : Eng.Inv S h) (m : Int) (a : Option Addr) (l c : Nat) :
    CallsH Try.prog S F_spec_ValidWindow #[.agg #[.int .i64 m, .slice a l c]] h (fun v h' => v = .bool (decide (1 ≤ m ∧ m ≤ 32768 ∧ (l : Int) ≤ m)) ∧ h' = h) := by
  refine run_spec_ValidWindow (vs := [.int .i64 m, .slice a l c]) ⟨rfl, rfl, trivial⟩ hi ?_
  simp only [t_spec_ValidWindow, Tr.wp, mksW, callW, Ex.ev, coerce, toInt_int, toBool_bool, slL_sl, slC_sl, slA_sl, toAddr_ptr, ptrOf_ptr, isNil_sl, isNil_ptr, it_and, it_or, it_int, optN_int, optN_nl, cmpI, arith, Cst.val, SV.den, resShs, resV, resSV, resVals, newVars, runCells, exSh, allSh, cellsAre, storeW, List.flatMap_cons, List.flatMap_nil, List.replicate_one, List.getD_cons_zero, List.getD_cons_succ, List.getElem?_cons_zero, List.getElem?_cons_succ, decide_eq_true_eq, decide_eq_false_iff_not, List.map_cons, List.map_nil, List.cons_append, List.nil_append, List.append_nil, List.length_cons, List.length_nil, Nat.zero_add, Nat.add_zero, and_true, true_and, if_true, if_false, Bool.false_eq_true]
  by_cases h1 : 1 ≤ m <;> by_cases h2 : m ≤ 32768 <;> simp [h1, h2, Eng.toBool]

theorem k_impl_ValidWindow (hi : Eng.Inv S h) (m : Int) (a : Option Addr) (l c : Nat) :
    CallsH Try.prog S F_impl_ValidWindow #[.agg #[.int .i64 m, .slice a l c]] h (fun v h' => v = .bool (decide (1 ≤ m ∧ m ≤ 32768 ∧ (l : Int) ≤ m)) ∧ h' = h) := by
  refine run_impl_ValidWindow (vs := [.int .i64 m, .slice a l c]) ⟨rfl, rfl, trivial⟩ hi ?_
  simp only [t_impl_ValidWindow, Tr.wp, mksW, callW, Ex.ev, coerce, toInt_int, toBool_bool, slL_sl, slC_sl, slA_sl, toAddr_ptr, ptrOf_ptr, isNil_sl, isNil_ptr, it_and, it_or, it_int, optN_int, optN_nl, cmpI, arith, Cst.val, SV.den, resShs, resV, resSV, resVals, newVars, runCells, exSh, allSh, cellsAre, storeW, List.flatMap_cons, List.flatMap_nil, List.replicate_one, List.getD_cons_zero, List.getD_cons_succ, List.getElem?_cons_zero, List.getElem?_cons_succ, decide_eq_true_eq, decide_eq_false_iff_not, List.map_cons, List.map_nil, List.cons_append, List.nil_append, List.append_nil, List.length_cons, List.length_nil, Nat.zero_add, Nat.add_zero, and_true, true_and, if_true, if_false, Bool.false_eq_true]
  by_cases h1 : 1 ≤ m <;> by_cases h2 : m ≤ 32768 <;> simp [h1, h2, Eng.toBool]

theorem hints_other {h0 h' : Eng.Heap} {b : Nat} {k : IntKind} {a : Option Addr} {ys : List Int} (hx : HInts h0 k a ys) (hs : Eng.Sub h0 h) (hb : h0 b = none) (hh : ∀ y, y ≠ b → h' y = h y) : HInts h' k a ys := fun i x hxi => by
  obtain ⟨ad, e, hc⟩ := hx i x hxi
  refine ⟨ad, e, ?_⟩
  have hne : (ad.add i).block ≠ b := fun e => hcell_held hc (e ▸ hb)
  have := hcell_sub hs hc
  unfold hcell at this ⊢
  rw [hh _ hne]
  exact this

def vwin (x : XWindow) : Prop := 1 ≤ x.1 ∧ x.1 ≤ 32768 ∧ (x.2.1.length : Int) ≤ x.1
instance (x : XWindow) : Decidable (vwin x) := by unfold vwin; infer_instance
def ans_WindowPut (x : XWindow) (ys : List Int) : XWindow := if vwin x then (x.1, lastN x.1.toNat (x.2.1 ++ ys), ()) else nilWindow

theorem g_spec_WindowPut (hi : Eng.Inv S h) {v : Value} {x : XWindow} (O : tWindow.O h v x) (L : limWindow x) {v2 : Value} {ys : List Int} (O2 : tB.O h v2 ys) (L2 : limB ys) :
    CallsH Try.prog S F_spec_WindowPut #[v, v2] h (fun v h' => tWindow.O h' v (ans_WindowPut x ys) ∧ tWindow.New h v ∧ Eng.Sub h h') := by
  obtain ⟨u, rfl, P⟩ := tWindow_O O
  obtain ⟨a, c, rfl, hc, hx⟩ := Part.ints P
  obtain ⟨a2, c2, rfl, hc2, hy⟩ := Part.ints O2
  obtain ⟨n, xs, ⟨⟩⟩ := x
  have L : xs.length ≤ 1048576 := L
  have L2 : ys.length ≤ 1048576 := L2
  refine run_spec_WindowPut (vs := [.int .i64 n, .slice a xs.length c, .slice a2 ys.length c2]) ⟨rfl, rfl, rfl, trivial⟩ hi ?_
  simp only [t_spec_WindowPut, Tr.wp, mksW, callW, Ex.ev, coerce, toInt_int, toBool_bool, slL_sl, slC_sl, slA_sl, toAddr_ptr, ptrOf_ptr, isNil_sl, isNil_ptr, it_and, it_or, it_int, optN_int, optN_nl, cmpI, arith, Cst.val, SV.den, resShs, resV, resSV, resVals, newVars, runCells, exSh, allSh, cellsAre, storeW, List.flatMap_cons, List.flatMap_nil, List.replicate_one, List.getD_cons_zero, List.getD_cons_succ, List.getElem?_cons_zero, List.getElem?_cons_succ, decide_eq_true_eq, decide_eq_false_iff_not, List.map_cons, List.map_nil, List.cons_append, List.nil_append, List.append_nil, List.length_cons, List.length_nil, Nat.zero_add, Nat.add_zero, and_true, true_and, if_true, if_false, Bool.false_eq_true]
  refine (k_spec_ValidWindow hi n a _ c).mono ?_
  rintro _ hq ⟨rfl, eq⟩
  rw [eq]
  refine ⟨_, rfl, fun hbad => ?_, fun hok => ?_⟩
  · have : ¬ vwin (n, xs, ()) := by simp at hbad; simp only [vwin]; omega
    simp only [ans_WindowPut, if_neg this]
    exact ⟨tWindow_nil, tWindow_nilNew, fun _ _ h => h⟩
  · have hv : vwin (n, xs, ()) := by simpa [vwin] using hok
    have hv' := hv
    obtain ⟨v1, v2, v3⟩ := hv'
    simp only at v1 v2 v3
    obtain ⟨m, rfl⟩ := Int.eq_ofNat_of_zero_le (show 0 ≤ n by omega)
    intro b hb
    have s1 : Eng.Sub h (upd h b (.cells (ints .u8 []) 5)) := Sub.of_upd hb
    refine appW_part hi s1 (Own.made []).part (New.of hb) (hx.sub s1) (by simp only [List.length_nil]; omega) fun w1 h1 o1 n1 s1 _ _ => ?_
    obtain ⟨a3, c3, rfl, _, _⟩ := o1.ints
    refine appW_part hi s1 o1 n1 (hy.sub s1) (by simp only [List.nil_append]; omega) fun w2 h2 o2 n2 s2 _ _ => ?_
    obtain ⟨a4, c4, rfl, hc4, hx4⟩ := o2.ints
    simp only [slA_sl, slL_sl, slC_sl]
    refine (k_l4Last (hi.sub s2) a4 c4 _ m hc4 (by simp; omega) (by omega) hx4).mono ?_
    rintro _ h3 ⟨O1, N1, s3⟩
    obtain ⟨a1, c1, rfl⟩ := tB_F (tB.OR O1)
    refine ⟨_, _, _, rfl, ?_⟩
    simp only [ans_WindowPut, if_pos hv]
    rw [List.nil_append] at O1 N1 ⊢
    exact ⟨tWindow_mkO (x := ((m : Int), lastN m (xs ++ ys), ())) O1, fun b hb => sub_none s2 (N1 b ((tWindow_B (x := ((m : Int), lastN m (xs ++ ys), ()))).1 hb)), s2.trans s3⟩

theorem g_impl_WindowPut (hi : Eng.Inv S h) {v : Value} {x : XWindow} (O : tWindow.O h v x) (L : limWindow x) {v2 : Value} {ys : List Int} (O2 : tB.O h v2 ys) (L2 : limB ys) :
    CallsH Try.prog S F_impl_WindowPut #[v, v2] h (fun v h' => tWindow.O h' v (ans_WindowPut x ys) ∧ tWindow.New h v ∧ Eng.Sub h h') := by
  obtain ⟨u, rfl, P⟩ := tWindow_O O
  obtain ⟨a, c, rfl, hc, hx⟩ := Part.ints P
  obtain ⟨a2, c2, rfl, hc2, hy⟩ := Part.ints O2
  obtain ⟨n, xs, ⟨⟩⟩ := x
  have L : xs.length ≤ 1048576 := L
  have L2 : ys.length ≤ 1048576 := L2
  refine run_impl_WindowPut (vs := [.int .i64 n, .slice a xs.length c, .slice a2 ys.length c2]) ⟨rfl, rfl, rfl, trivial⟩ hi ?_
  simp only [t_impl_WindowPut, Tr.wp, mksW, callW, Ex.ev, coerce, toInt_int, toBool_bool, slL_sl, slC_sl, slA_sl, toAddr_ptr, ptrOf_ptr, isNil_sl, isNil_ptr, it_and, it_or, it_int, optN_int, optN_nl, cmpI, arith, Cst.val, SV.den, resShs, resV, resSV, resVals, newVars, runCells, exSh, allSh, cellsAre, storeW, List.flatMap_cons, List.flatMap_nil, List.replicate_one, List.getD_cons_zero, List.getD_cons_succ, List.getElem?_cons_zero, List.getElem?_cons_succ, decide_eq_true_eq, decide_eq_false_iff_not, List.map_cons, List.map_nil, List.cons_append, List.nil_append, List.append_nil, List.length_cons, List.length_nil, Nat.zero_add, Nat.add_zero, and_true, true_and, if_true, if_false, Bool.false_eq_true]
  refine (k_impl_ValidWindow hi n a _ c).mono ?_
  rintro _ hq ⟨rfl, eq⟩
  rw [eq]
  refine ⟨_, rfl, fun hbad => ?_, fun hok => ?_⟩
  · have : ¬ vwin (n, xs, ()) := by simp at hbad; simp only [vwin]; omega
    simp only [ans_WindowPut, if_neg this]
    exact ⟨tWindow_nil, tWindow_nilNew, fun _ _ h => h⟩
  · have hv : vwin (n, xs, ()) := by simpa [vwin] using hok
    have hv' := hv
    obtain ⟨v1, v2, v3⟩ := hv'
    simp only at v1 v2 v3
    obtain ⟨m, rfl⟩ := Int.eq_ofNat_of_zero_le (show 0 ≤ n by omega)
    refine (k_ringOf hi a c xs hc (by omega) hx (by omega) (by omega)).mono ?_
    rintro _ h1 ⟨b, T, rfl, RA⟩
    refine ⟨_, rfl, ?_⟩
    refine (k_put hi RA a2 c2 ys hc2 (by omega) (fun h' hh => hints_other hy RA.sub RA.new hh)).mono ?_
    rintro _ h2 ⟨rfl, RB, _⟩
    refine ⟨rfl, ?_⟩
    refine (k_windowX hi RB).mono ?_
    rintro _ h3 ⟨a2, c2, rfl, O2, N2, s2⟩
    refine ⟨_, _, _, _, rfl, ?_⟩
    simp only [ans_WindowPut, if_pos hv]
    rw [lastN_app] at O2 N2 ⊢
    exact ⟨O2, Ty.New.mono N2 RB.sub, RB.sub.trans s2⟩

theorem sm_WindowPut {x : XWindow} {ys : List Int} (L : limWindow x) (L2 : limB ys) : smWindow (ans_WindowPut x ys) := by
  have L : x.2.1.length ≤ 1048576 := L
  have L2 : ys.length ≤ 1048576 := L2
  unfold ans_WindowPut smWindow smB
  split
  · simp only [lastN_len, List.length_append]; omega
  · simp [nilWindow]
end Go.Proofs.Ytchlnichbaoeaaa
