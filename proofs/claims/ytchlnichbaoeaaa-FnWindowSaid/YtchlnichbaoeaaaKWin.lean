import Derived.Test.YtchlnichbaoeaaaKWinCopy
import Derived.Test.YtchlnichbaoeaaaKDraw
import Derived.Test.YtchlnichbaoeaaaKCut
import Derived.Test.YtchlnichbaoeaaaTrFW
import Derived.Test.YtchlnichbaoeaaaCutlawsFnWindow
set_option linter.unusedVariables false
set_option linter.unusedSimpArgs false
namespace Go.Proofs.Ytchlnichbaoeaaa
open Go Go.Eng Go.IntWalk
theorem wf_i64 {n : Int} (h : -9223372036854775808 ≤ n ∧ n ≤ 9223372036854775807) : (Lit.int .i64 n).wf = true := by
  have e1 : IntKind.i64.min = -9223372036854775808 := by rfl
  have e2 : IntKind.i64.max = 9223372036854775807 := by rfl
  simp [Lit.wf, e1, e2]; exact h
variable {S : Nat → Prop} {h h0 : Eng.Heap} {b : Nat} {T : TypeId} {code : List Int} {a : Option Addr} {c : Nat}

theorem k_lwBytes (hi : Eng.Inv S h) {a1 a2 : Option Addr} {c1 c2 : Nat} {xs : List Int} (H1 : HInts h .u8 a1 xs) (H2 : HInts h .u8 a2 xs) :
    CallsH Try.prog S F_laws_lwBytes #[.slice a1 xs.length c1, .slice a2 xs.length c2] h (fun v h' => v = .bool true ∧ h' = h) := by
  refine run_laws_lwBytes (vs := [.slice a1 xs.length c1, .slice a2 xs.length c2]) ⟨rfl, rfl, trivial⟩ hi ?_
  simp only [t_laws_lwBytes, Tr.wp, mksW, callW, Ex.ev, coerce, toInt_int, toBool_bool, slL_sl, slC_sl, slA_sl, toAddr_ptr, ptrOf_ptr, isNil_sl, isNil_ptr, it_and, it_or, it_int, optN_int, optN_nl, cmpI, arith, Cst.val, SV.den, resShs, resV, resSV, resVals, newVars, runCells, exSh, allSh, cellsAre, storeW, List.flatMap_cons, List.flatMap_nil, List.replicate_one, List.getD_cons_zero, List.getD_cons_succ, List.getElem?_cons_zero, List.getElem?_cons_succ, decide_eq_true_eq, decide_eq_false_iff_not, List.map_cons, List.map_nil, List.cons_append, List.nil_append, List.append_nil, List.length_cons, List.length_nil, Nat.zero_add, Nat.add_zero, and_true, true_and, if_true, if_false, Bool.false_eq_true]
  exact ⟨xs, rfl, H1.cells (c := c1), xs, rfl, H2.cells (c := c2), by simp [strL, strV, coerce]⟩

theorem k_l1Once (hi : Eng.Inv S h0) (H : CurAt h0 h b T code a c) (hl : code.length ≤ 1048576) (n : Int) (h1 : 1 ≤ n) (h2 : n ≤ 1000000) :
    CallsH Try.prog S F_spec_l1Once #[.pointer (some ⟨b, 0, none⟩), .int .i64 n] h (fun v h' => ∃ x, v = .bool x ∧ CurAt h0 h' b T code a c ∧ ∀ y, y ≠ b → h' y = h y) := by
  refine run_spec_l1Once (vs := [.pointer (some ⟨b, 0, none⟩), .int .i64 n]) ⟨rfl, rfl, trivial⟩ (hi.sub H.sub) ?_
  simp only [t_spec_l1Once, Tr.wp, mksW, callW, Ex.ev, coerce, toInt_int, toBool_bool, slL_sl, slC_sl, slA_sl, toAddr_ptr, ptrOf_ptr, isNil_sl, isNil_ptr, it_and, it_or, it_int, optN_int, optN_nl, cmpI, arith, Cst.val, SV.den, resShs, resV, resSV, resVals, newVars, runCells, exSh, allSh, cellsAre, storeW, List.flatMap_cons, List.flatMap_nil, List.replicate_one, List.getD_cons_zero, List.getD_cons_succ, List.getElem?_cons_zero, List.getElem?_cons_succ, decide_eq_true_eq, decide_eq_false_iff_not, List.map_cons, List.map_nil, List.cons_append, List.nil_append, List.append_nil, List.length_cons, List.length_nil, Nat.zero_add, Nat.add_zero, and_true, true_and, if_true, if_false, Bool.false_eq_true]
  refine (k_l1Below hi H hl n h1 h2).mono ?_
  rintro _ h3 ⟨x, rfl, x0, x1, C, f⟩
  exact ⟨_, rfl, _, rfl, C, f⟩


/-- The draw of a window behind its size. -/
def l4T : Tr := match t_spec_l4Draw with | .call _ _ _ _ (.call _ _ _ _ (.join _ _ t)) => t | t => t
theorem l4T_eq : t_spec_l4Draw = .call F_spec_l1Below [(.x (.var (.ptr) 0)), (.x (.cst (.int .i64 12)))] false [(false, [.int .i64])]
 (.call F_spec_l1Once [(.x (.var (.ptr) 0)), (.x (.cst (.int .i64 12)))] false [(false, [.bool])]
 (.join [.int .i64]
  (.br (.var (.bool) 2)
   (.call F_spec_l1Below [(.x (.var (.ptr) 0)), (.x (.cst (.int .i64 2)))] false [(false, [.int .i64])]
   (.cont 0 [(.ar .add .i64 (.cst (.int .i64 32768)) (.var (.int .i64) 3))]))
   (.cont 0 [(.ar .add .i64 (.cst (.int .i64 1)) (.var (.int .i64) 1))])) l4T)) := rfl

theorem tB_dist {h1 : Eng.Heap} {u : Value} {ys : List Int} (O : tB.O h1 u ys) (C : CurAt h0 h b T code a c) (N : tB.New h u) {h2 : Eng.Heap} (f : ∀ y, y ≠ b → h2 y = h1 y) : tB.O h2 u ys := by
  refine tB.Okeep O fun y hy => f y fun e => ?_
  have := N y hy
  rw [e] at this
  exact C.held this

def DrawPost (h0 h : Eng.Heap) (b : Nat) (T : TypeId) (code : List Int) (a : Option Addr) (c : Nat) (v : Value) (h' : Eng.Heap) : Prop :=
  ∃ m u ys, v = .agg #[.int .i64 m, u] ∧ 0 ≤ m ∧ m ≤ 32769 ∧ ys.length ≤ 32769 ∧ tB.O h' u ys ∧ tB.New h u ∧ CurAt h0 h' b T code a c

set_option maxHeartbeats 1000000 in
theorem k_l4T (hi : Eng.Inv S h0) {g : Eng.Heap} (H : CurAt h0 h b T code a c) (hg : ∀ y, g y ≠ none → h y ≠ none) (hl : code.length ≤ 1048576) (x z : Int) (q : Bool) (h1 : 0 ≤ z) (h2 : z ≤ 32769) :
    l4T.wp Try.prog S noLeaf (DrawPost h0 g b T code a c) [.pointer (some ⟨b, 0, none⟩), .int .i64 x, .bool q, .int .i64 z] h [] := by
  simp only [l4T, t_spec_l4Draw, Tr.wp, mksW, callW, Ex.ev, coerce, toInt_int, toBool_bool, slL_sl, slC_sl, slA_sl, toAddr_ptr, ptrOf_ptr, isNil_sl, isNil_ptr, it_and, it_or, it_int, optN_int, optN_nl, cmpI, arith, Cst.val, SV.den, resShs, resV, resSV, resVals, newVars, runCells, exSh, allSh, cellsAre, storeW, List.flatMap_cons, List.flatMap_nil, List.replicate_one, List.getD_cons_zero, List.getD_cons_succ, List.getElem?_cons_zero, List.getElem?_cons_succ, decide_eq_true_eq, decide_eq_false_iff_not, List.map_cons, List.map_nil, List.cons_append, List.nil_append, List.append_nil, List.length_cons, List.length_nil, Nat.zero_add, Nat.add_zero, and_true, true_and, if_true, if_false, Bool.false_eq_true]
  have back : ∀ {u : Value}, tB.New h u → tB.New g u := fun N y hy => by
    cases hgy : g y with
    | none => rfl
    | some o => exact absurd (N y hy) (hg y (by rw [hgy]; simp))
  refine (k_l1Once hi H hl 15 (by omega) (by omega)).mono ?_
  rintro _ h3 ⟨p, rfl, C3, f3⟩
  refine ⟨_, rfl, (k_l1Below hi C3 hl 14 (by omega) (by omega)).mono ?_⟩
  rintro _ h4 ⟨n, rfl, n0, n1, C4, f4⟩
  obtain ⟨n, rfl⟩ := Int.eq_ofNat_of_zero_le n0
  refine ⟨_, rfl, (k_l1Some hi C4 hl n (by omega)).mono ?_⟩
  rintro _ h5 ⟨ys, hy, O5, N5, C5, f5⟩
  obtain ⟨a5, c5, rfl⟩ := tB_F (tB.OR O5)
  refine ⟨_, _, _, rfl, (k_l1Once hi C5 hl 25 (by omega) (by omega)).mono ?_⟩
  rintro _ h6 ⟨r, rfl, C6, f6⟩
  have O6 : tB.O h6 (.slice a5 ys.length c5) ys := tB_dist O5 C4 N5 f6
  have hh4 : ∀ y, h y ≠ none → h4 y ≠ none := fun y hy => by
    by_cases e : y = b
    · rw [e]; exact C4.held
    · rw [f4 y e, f3 y e]; exact hy
  have hh6 : ∀ y, h4 y ≠ none → h6 y ≠ none := fun y hy => by
    by_cases e : y = b
    · rw [e]; exact C6.held
    · rw [f6 y e, f5 y hy e]; exact hy
  have hm : 0 ≤ (if p = true then (0 : Int) else z) ∧ (if p = true then (0 : Int) else z) ≤ 32769 := by split <;> omega
  refine ⟨_, rfl, fun hr => ?_, fun hr _ => ?_⟩
  · refine (k_l1Below hi C6 hl 2 (by omega) (by omega)).mono ?_
    rintro _ h7 ⟨w, rfl, w0, w1, C7, f7⟩
    obtain ⟨m, hm2⟩ : ∃ m : Nat, 32768 + w = m := ⟨(32768 + w).toNat, by omega⟩
    have ew1 : IntKind.i64.wrap (m : Int) = m := i64_in _ (by omega)
    have ew : IntKind.i64.wrap (IntKind.i64.wrap (32768 + w)) = (m : Int) := by rw [hm2, ew1, ew1]
    refine ⟨_, rfl, ?_⟩
    rw [ew]
    refine ⟨by omega, by omega, by omega, fun b1 hb1 _ => ?_⟩
    have em : mkCells ((m : Int).toNat * 1) #[Value.int .u8 0] = ints .u8 (List.replicate m 0) := by rw [Int.toNat_natCast, Nat.mul_one]; exact mkCells_ints (k := .u8) m
    rw [em, Int.toNat_natCast]
    have O := (Own.made (k := .u8) (h := h7) (b := b1) (T := 5) (List.replicate m 0)).part
    rw [List.length_replicate] at O
    refine ⟨_, _, List.replicate m 0, rfl, hm.1, hm.2, by rw [List.length_replicate]; omega, O, back (fun y hy => ?_), C7.mono (Sub.of_upd hb1)⟩
    cases hy
    cases hh : h b1 with
    | none => rfl
    | some o =>
      exfalso
      have h6n := hh6 b1 (hh4 b1 (by rw [hh]; simp))
      by_cases e : b1 = b
      · rw [e] at hb1; exact C7.held hb1
      · rw [f7 b1 e] at hb1; exact h6n hb1
  · refine ⟨_, _, ys, rfl, hm.1, hm.2, by omega, O6, back (fun y hy => ?_), C6⟩
    cases hh : h y with
    | none => rfl
    | some o => exact absurd (N5 y hy) (hh4 y (by rw [hh]; simp))

theorem k_l4Draw (hi : Eng.Inv S h0) (H : CurAt h0 h b T code a c) (hl : code.length ≤ 1048576) :
    CallsH Try.prog S F_spec_l4Draw #[.pointer (some ⟨b, 0, none⟩)] h (DrawPost h0 h b T code a c) := by
  refine run_spec_l4Draw (vs := [.pointer (some ⟨b, 0, none⟩)]) ⟨rfl, trivial⟩ (hi.sub H.sub) ?_
  rw [l4T_eq]
  simp only [Tr.wp, mksW, callW, Ex.ev, coerce, toInt_int, toBool_bool, slL_sl, slC_sl, slA_sl, toAddr_ptr, ptrOf_ptr, isNil_sl, isNil_ptr, it_and, it_or, it_int, optN_int, optN_nl, cmpI, arith, Cst.val, SV.den, resShs, resV, resSV, resVals, newVars, runCells, exSh, allSh, cellsAre, storeW, List.flatMap_cons, List.flatMap_nil, List.replicate_one, List.getD_cons_zero, List.getD_cons_succ, List.getElem?_cons_zero, List.getElem?_cons_succ, decide_eq_true_eq, decide_eq_false_iff_not, List.map_cons, List.map_nil, List.cons_append, List.nil_append, List.append_nil, List.length_cons, List.length_nil, Nat.zero_add, Nat.add_zero, and_true, true_and, if_true, if_false, Bool.false_eq_true]
  refine (k_l1Below hi H hl 12 (by omega) (by omega)).mono ?_
  rintro _ h1 ⟨x, rfl, x0, x1, C1, f1⟩
  refine ⟨_, rfl, (k_l1Once hi C1 hl 12 (by omega) (by omega)).mono ?_⟩
  rintro _ h2 ⟨q, rfl, C2, f2⟩
  have keep : ∀ {h' : Eng.Heap}, CurAt h0 h' b T code a c → (∀ y, y ≠ b → h' y = h y) → ∀ y, h y ≠ none → h' y ≠ none := fun C f y hy => by
    by_cases e : y = b
    · rw [e]; exact C.held
    · rw [f y e]; exact hy
  refine ⟨_, rfl, fun hq => ?_, fun hq _ => ?_⟩
  · refine (k_l1Below hi C2 hl 2 (by omega) (by omega)).mono ?_
    rintro _ h3 ⟨z, rfl, z0, z1, C3, f3⟩
    refine ⟨_, rfl, fun _ => ?_⟩
    rw [i64_in _ (by omega)]
    exact k_l4T hi C3 (keep C3 fun y hy => by rw [f3 y hy, f2 y hy, f1 y hy]) hl x _ q (by omega) (by omega)
  · rw [i64_in _ (by omega)]
    exact k_l4T hi C2 (keep C2 fun y hy => by rw [f2 y hy, f1 y hy]) hl x _ q (by omega) (by omega)

theorem k_DrawWindowNew (hi : Eng.Inv S h) (hx : HInts h .u8 a code) (hl : code.length ≤ 1048576) :
    CallsH Try.prog S F_spec_DrawWindowNew #[.slice a code.length c] h (fun v h' => ∃ m u ys, v = .tuple #[.int .i64 m, u] ∧ 0 ≤ m ∧ m ≤ 32769 ∧ ys.length ≤ 32769 ∧ tB.O h' u ys ∧ tB.New h u ∧ Eng.Sub h h') := by
  refine run_spec_DrawWindowNew (vs := [.slice a code.length c]) ⟨rfl, trivial⟩ hi ?_
  simp only [t_spec_DrawWindowNew, Tr.wp, mksW, callW, Ex.ev, coerce, toInt_int, toBool_bool, slL_sl, slC_sl, slA_sl, toAddr_ptr, ptrOf_ptr, isNil_sl, isNil_ptr, it_and, it_or, it_int, optN_int, optN_nl, cmpI, arith, Cst.val, SV.den, resShs, resV, resSV, resVals, newVars, runCells, exSh, allSh, cellsAre, storeW, List.flatMap_cons, List.flatMap_nil, List.replicate_one, List.getD_cons_zero, List.getD_cons_succ, List.getElem?_cons_zero, List.getElem?_cons_succ, decide_eq_true_eq, decide_eq_false_iff_not, List.map_cons, List.map_nil, List.cons_append, List.nil_append, List.append_nil, List.length_cons, List.length_nil, Nat.zero_add, Nat.add_zero, and_true, true_and, if_true, if_false, Bool.false_eq_true]
  refine (k_l1New hi hx hl).mono ?_
  rintro _ h1 ⟨b, T, rfl, C⟩
  refine ⟨_, rfl, (k_l4Draw hi C hl).mono ?_⟩
  rintro _ h2 ⟨m, u, ys, rfl, m0, m1, hy, O, N, C2⟩
  obtain ⟨a5, c5, rfl⟩ := tB_F (tB.OR O)
  exact ⟨_, _, _, _, rfl, _, _, ys, rfl, m0, m1, hy, O, Ty.New.mono N C.sub, C2.sub⟩

/-! ### Told and window -/

theorem repX_pre2 {d : Nat} {P K : List Int} (h1 : 1 ≤ d) (h2 : d ≤ K.length) : ∀ {n : Nat}, repX d (P ++ K) n = P ++ repX d K n
  | 0 => rfl
  | n + 1 => by
    have hl := repX_len (d := d) (L := K) (n := n)
    rw [repX, repX, repX_pre2 h1 h2, List.append_assoc]
    congr 3
    rw [List.getD_eq_getElem?_getD, List.getD_eq_getElem?_getD, List.length_append, List.getElem?_append_right (by omega)]
    congr 2
    omega

theorem lastN_split (sz : Nat) (L : List Int) : ∃ P, L = P ++ lastN sz L ∧ (P = [] ∨ (lastN sz L).length = sz) := by
  refine ⟨L.take (L.length - sz), (List.take_append_drop _ _).symm, ?_⟩
  by_cases h : L.length ≤ sz
  · left; rw [show L.length - sz = 0 by omega, List.take_zero]
  · right; rw [lastN_len]; omega

theorem rep_last {sz d n : Nat} {L : List Int} (h1 : 1 ≤ d) (h2 : d ≤ (lastN sz L).length) :
    (repX d (lastN sz L) n).drop (lastN sz L).length = (repX d L n).drop L.length ∧ lastN sz (repX d (lastN sz L) n) = lastN sz (repX d L n) := by
  obtain ⟨P, e, hP⟩ := lastN_split sz L
  generalize lastN sz L = K at *
  subst e
  rw [repX_pre2 h1 h2]
  have hl := repX_len (d := d) (L := K) (n := n)
  constructor
  · rw [List.length_append, List.drop_length_add_append]
  · unfold lastN
    rw [List.length_append]
    rcases hP with rfl | hP
    · simp
    · rw [show P.length + (repX d K n).length - sz = P.length + ((repX d K n).length - sz) by omega, List.drop_length_add_append]


set_option maxHeartbeats 1000000 in
theorem k_winT (hi : Eng.Inv S h) {m : Nat} {k : Nat} {L : List Int} {a aw : Option Addr} {c cw : Nat} (hm : 1 ≤ m ∧ m ≤ 32768) (hk : k < 8) (hl : L.length ≤ 100000) (hc : L.length ≤ c) (P : HInts h .u8 a L) (W : HInts h .u8 aw (lastN m L))
    {v0 v1 v3 v4 v5 v6 v7 v8 v10 v11 v12 v13 : Value} {K0 K1 K2 K3 : Kt} (hK : K2 [.slice a L.length c, .int .i64 ((k + 1 : Nat) : Int), .int .i64 m, .slice aw (lastN m L).length cw] h) :
    winT.wp Try.prog S noLeaf (fun v _ => v = .bool true) [v0, v1, .int .i64 m, v3, v4, v5, v6, v7, v8, .int .i64 k, v10, v11, v12, v13, .slice a L.length c, .int .i64 m, .slice aw (lastN m L).length cw] h [K0, K1, K2, K3] := by
  simp only [winT, Tr.wp, mksW, callW, Ex.ev, coerce, toInt_int, toBool_bool, slL_sl, slC_sl, slA_sl, toAddr_ptr, ptrOf_ptr, isNil_sl, isNil_ptr, it_and, it_or, it_int, optN_int, optN_nl, cmpI, arith, Cst.val, SV.den, resShs, resV, resSV, resVals, newVars, runCells, exSh, allSh, cellsAre, storeW, List.flatMap_cons, List.flatMap_nil, List.replicate_one, List.getD_cons_zero, List.getD_cons_succ, List.getElem?_cons_zero, List.getElem?_cons_succ, decide_eq_true_eq, decide_eq_false_iff_not, List.map_cons, List.map_nil, List.cons_append, List.nil_append, List.append_nil, List.length_cons, List.length_nil, Nat.zero_add, Nat.add_zero, and_true, true_and, if_true, if_false, Bool.false_eq_true]
  have w1 : IntKind.i64.wrap ((k : Int) + 1) = ((k + 1 : Nat) : Int) := by rw [i64_in _ (by omega)]; omega
  have w2 : IntKind.i64.wrap ((L.length : Int) - (m : Int)) = (L.length : Int) - m := i64_in _ (by omega)
  rw [w1, w2]
  have fin : ∀ (a' : Option Addr) (c' : Nat), HInts h .u8 a' (lastN m L) → CallsH Try.prog S F_laws_lwBytes #[.slice aw (lastN m L).length cw, .slice a' (lastN m L).length c'] h (fun v h' => v = .bool true ∧ h' = h) := fun a' c' H' => k_lwBytes hi W H'
  have hne : (!((m : Int) != (m : Int))) = true := by simp
  refine ⟨fun hgt => ?_, fun hle _ => ?_⟩
  · refine ⟨by omega, by omega, fun _ => ?_⟩
    have ee : ((L.length : Int) - (m : Int)).toNat = L.length - m := by omega
    rw [ee]
    obtain ⟨a', e, H'⟩ := slSub_ints P (lo := L.length - m) (hi := L.length) (m := c) (by omega) (by omega) hc
    have hdr : (L.drop (L.length - m)).take (L.length - (L.length - m)) = lastN m L := List.take_of_length_le (by rw [List.length_drop]; omega)
    rw [hdr] at e H'
    simp only [e, slA_sl, slL_sl, slC_sl]
    refine ⟨fun _ => (fin a' _ H').mono ?_, fun hf => by rw [hne] at hf; cases hf⟩
    rintro _ hq ⟨rfl, eq⟩
    rw [eq]
    exact ⟨_, rfl, fun _ => ⟨fun hf => by simp at hf, fun _ => hK⟩⟩
  · have e : lastN m L = L := lastN_le (by omega)
    refine ⟨fun _ => ?_, fun hf => by rw [hne] at hf; cases hf⟩
    have := fin a c (by rw [e]; exact P)
    have el : (lastN m L).length = L.length := by rw [e]
    rw [el] at this hK ⊢
    refine this.mono ?_
    rintro _ hq ⟨rfl, eq⟩
    rw [eq]
    exact ⟨_, rfl, fun _ => ⟨fun hf => by simp at hf, fun _ => hK⟩⟩

set_option maxRecDepth 100000 in
set_option maxHeartbeats 8000000 in
theorem k_FnWindow (hi : Eng.Inv S h) (a0 : Option Addr) (c0 : Nat) (xs0 : List Int) (hx0 : HInts h .u8 a0 xs0) (hl0 : xs0.length ≤ maxLen) (hw0 : ∀ x ∈ xs0, (Lit.int .u8 x).wf = true) (a1 : Option Addr) (c1 : Nat) (xs1 : List Int) (hx1 : HInts h .u8 a1 xs1) (hl1 : xs1.length ≤ maxLen) (hw1 : ∀ x ∈ xs1, (Lit.int .u8 x).wf = true) :
    CallsH Try.prog S F_laws_FnWindow #[.slice a0 xs0.length c0, .slice a1 xs1.length c1] h (fun v _ => v = .bool true) := by
  refine run_laws_FnWindow (vs := [.slice a0 xs0.length c0, .slice a1 xs1.length c1]) ⟨rfl, rfl, trivial⟩ hi ?_
  rw [laws_FnWindow_cut]
  simp (maxSteps := 4000000) only [Tr.wp, mksW, callW, Ex.ev, coerce, toInt_int, toBool_bool, slL_sl, slC_sl, slA_sl, toAddr_ptr, ptrOf_ptr, isNil_sl, isNil_ptr, it_and, it_or, it_int, optN_int, optN_nl, cmpI, arith, Cst.val, SV.den, resShs, resV, resSV, resVals, newVars, runCells, exSh, allSh, cellsAre, storeW, List.flatMap_cons, List.flatMap_nil, List.replicate_one, List.getD_cons_zero, List.getD_cons_succ, List.getElem?_cons_zero, List.getElem?_cons_succ, decide_eq_true_eq, decide_eq_false_iff_not, List.map_cons, List.map_nil, List.cons_append, List.nil_append, List.append_nil, List.length_cons, List.length_nil, Nat.zero_add, Nat.add_zero, and_true, true_and, if_true, if_false, Bool.false_eq_true]
  refine ⟨fun _ => trivial, fun hsm => ?_⟩
  have hs : xs0.length ≤ 1048576 ∧ xs1.length ≤ 1048576 := by simp at hsm; omega
  have hw : ∀ x ∈ xs1, 0 ≤ x ∧ x ≤ 255 := fun x hx => by
    have := hw1 x hx
    have e1 : IntKind.u8.min = 0 := by rfl
    have e2 : IntKind.u8.max = 255 := by rfl
    simpa [Lit.wf, e1, e2] using this
  refine (k_DrawWindowNew hi hx0 hs.1).mono ?_
  rintro _ h1 ⟨m, u, ys, rfl, m0, m1, hyl, O1, N1, s1⟩
  obtain ⟨ab, cb, rfl⟩ := tB_F (tB.OR O1)
  refine ⟨_, _, _, _, rfl, (g_impl_WindowNew (hi.sub s1) m (wf_i64 (by omega)) O1 (by show ys.length ≤ 1048576; omega)).mono ?_⟩
  rintro w h2 ⟨O2, N2, s2⟩
  obtain ⟨uw, rfl, P2⟩ := tWindow_O O2
  obtain ⟨aw, cw, rfl⟩ := tB_F (tB.OR P2)
  refine ⟨_, _, _, _, rfl, fun hbad => ?_, fun hok => ?_⟩
  · have : ¬ (1 ≤ m ∧ m ≤ 32768) := by simp at hbad; omega
    simp only [ans_WindowNew, if_neg this]
    refine ⟨fun _ => ?_, fun hf => by simp [nilWindow] at hf⟩
    refine (k_impl_ValidWindow (hi.sub (s1.trans s2)) 0 aw _ cw).mono ?_
    rintro _ hq ⟨rfl, eq⟩
    exact ⟨_, rfl, fun _ => by simp⟩
  · have hm : 1 ≤ m ∧ m ≤ 32768 := by simp at hok; omega
    obtain ⟨m, rfl⟩ := Int.eq_ofNat_of_zero_le (show 0 ≤ m by omega)
    simp only [ans_WindowNew, if_pos hm, Int.toNat_natCast] at N2 P2 ⊢
    have s02 := s1.trans s2
    have hi2 := hi.sub s02
    obtain ⟨ab', cb', eb, hcb, hxb⟩ := Part.ints (Ty.Osub O1 s2)
    cases eb
    intro b0 hb0
    have s3 : Eng.Sub h2 (upd h2 b0 (.cells (ints .u8 []) 5)) := Sub.of_upd hb0
    refine appW_part hi2 s3 (Own.made []).part (New.of hb0) (hxb.sub s3) (by simp only [List.length_nil]; omega) fun v' h3 P3 N3 s4 keep3 _ => ?_
    obtain ⟨a3, c3, rfl, hc3, _⟩ := P3.ints
    rw [List.nil_append] at P3 N3 hc3
    simp only [slA_sl, slL_sl, slC_sl, List.nil_append]
    have W3 : Part .u8 h3 (.slice aw (lastN m ys).length cw) (lastN m ys) := Part.sub P2 s4
    refine ⟨fun us h' => ∃ (k : Nat) (L : List Int) (a : Option Addr) (c : Nat) (aw : Option Addr) (cw : Nat), us = [.slice a L.length c, .int .i64 k, .int .i64 m, .slice aw (lastN m L).length cw] ∧ k ≤ 8 ∧ L.length ≤ 32769 + 31 * k ∧ Part .u8 h' (.slice a L.length c) L ∧ Eng.New h2 (.slice a L.length c) ∧ Part .u8 h' (.slice aw (lastN m L).length cw) (lastN m L) ∧ (∀ b, blkOf (.slice a L.length c) = some b → blkOf (.slice aw (lastN m L).length cw) ≠ some b) ∧ Eng.Sub h2 h',
      fun us _ => 8 - (toInt (us.getD 1 undef)).toNat, ⟨0, ys, _, _, _, _, rfl, by omega, by omega, P3, N3, W3, fun b hb e => P2.held b e (N3 b hb), s4⟩, ?_⟩
    rintro at_ lt ct x x1 aw1 lw cw1 h' ⟨k, L, a', c', aw', cw', hx, hk, hL, P, N, W, hd, sb⟩
    simp only [List.cons.injEq, Value.int.injEq, Value.slice.injEq, true_and, and_true] at hx
    obtain ⟨⟨rfl, rfl, rfl⟩, rfl, rfl, rfl, rfl, rfl⟩ := hx
    refine ⟨fun hlt => ?_, fun _ => trivial⟩
    have hk8 : k < 8 := by omega
    have hi' := hi2.sub sb
    have w1 : IntKind.i64.wrap (2 * (k : Int)) = ((2 * k : Nat) : Int) := by rw [i64_in _ (by omega)]; omega
    have w2 : IntKind.i64.wrap (((2 * k : Nat) : Int) + 1) = ((2 * k + 1 : Nat) : Int) := by rw [i64_in _ (by omega)]; omega
    have meas : ∀ (us1 us2 : List Value), us1.getD 1 undef = .int .i64 ((k + 1 : Nat) : Int) → us2.getD 1 undef = .int .i64 (k : Int) → 8 - (toInt (us1.getD 1 undef)).toNat < 8 - (toInt (us2.getD 1 undef)).toNat := fun us1 us2 e1 e2 => by
      rw [e1, e2, toInt_int, toInt_int]; omega
    rw [w1, w2]
    refine (k_lwAt hi' (hx1.sub (s02.trans sb)) hs.2 hw (2 * k) (by omega)).mono ?_
    rintro _ hq ⟨⟨x2, rfl, x20, x21⟩, eq⟩
    rw [eq]
    refine ⟨_, rfl, (k_lwAt hi' (hx1.sub (s02.trans sb)) hs.2 hw (2 * k + 1) (by omega)).mono ?_⟩
    rintro _ hq ⟨⟨x3, rfl, x30, x31⟩, eq⟩
    rw [eq]
    obtain ⟨at', ct', et, hct, hxt⟩ := P.ints
    cases et
    obtain ⟨aw2, cw2, ew, hcw, hxw⟩ := W.ints
    cases ew
    have vw : vwin ((m : Int), lastN m L, ()) := ⟨hm.1, hm.2, by show ((lastN m L).length : Int) ≤ m; rw [lastN_len]; omega⟩
    have OW : tWindow.O h' (.agg #[.int .i64 m, .slice aw1 (lastN m L).length cw1]) ((m : Int), lastN m L, ()) := tWindow_mkO (x := ((m : Int), lastN m L, ())) W
    have LW : limWindow ((m : Int), lastN m L, ()) := by show (lastN m L).length ≤ 1048576; rw [lastN_len]; omega
    refine ⟨_, rfl, fun hev b1 hb1 => ?_, fun hod => ?_⟩
    · -- put
      generalize IntKind.u8.wrap x2 = d1
      generalize IntKind.u8.wrap (IntKind.i64.wrap (1 + x3.tmod 30)) = d2
      generalize IntKind.u8.wrap (k : Int) = d3
      have s5 : Eng.Sub h' (upd h' b1 (.cells (ints .u8 [d1, d2, d3]) 5)) := Sub.of_upd hb1
      refine appW_part hi2 (sb.trans s5) (P.sub s5) N (ys := [d1, d2, d3]) HInts.new (by simp only [List.length_cons, List.length_nil]; omega) fun v' h4 P4 N4 s6 keep4 b4 => ?_
      obtain ⟨a4, c4, rfl, hc4, _⟩ := P4.ints
      simp only [slA_sl, slL_sl, slC_sl]
      have hb1t : blkOf (.slice at_ L.length ct) ≠ some b1 := fun e => P.held b1 e hb1
      have held5 : ∀ y, h' y ≠ none → upd h' b1 (.cells (ints .u8 [d1, d2, d3]) 5) y = h' y := fun y hy => upd_ne fun e => hy (by rw [e]; exact hb1)
      have keep' : ∀ y, upd h' b1 (.cells (ints .u8 [d1, d2, d3]) 5) y ≠ none → blkOf (.slice at_ L.length ct) ≠ some y → h4 y = upd h' b1 (.cells (ints .u8 [d1, d2, d3]) 5) y := keep4
      have W4 : Part .u8 h4 (.slice aw1 (lastN m L).length cw1) (lastN m L) := W.keep fun y hy => by
        have hy' := W.held y hy
        rw [keep' y (by rw [held5 y hy']; exact hy') (fun e => hd y e hy), held5 y hy']
      have D4 : Part .u8 h4 (.slice (some ⟨b1, 0, none⟩) 3 3) [d1, d2, d3] := ((Own.made (k := .u8) (h := h') (b := b1) (T := 5) [d1, d2, d3]).part).keep fun y hy => by
        cases hy
        exact keep' b1 (by rw [upd_same]; simp) hb1t
      have far4 : ∀ y, blkOf (.slice a4 (L ++ [d1, d2, d3]).length c4) = some y → blkOf (.slice aw1 (lastN m L).length cw1) ≠ some y := fun y hy e => by
        rcases b4 with b4 | b4
        · rw [b4] at hy; exact hd y hy e
        · have h1 : upd h' b1 (.cells (ints .u8 [d1, d2, d3]) 5) y = none := b4 y hy
          rw [held5 y (W.held y e)] at h1
          exact W.held y e h1
      refine (g_impl_WindowPut (hi2.sub s6) (x := ((m : Int), lastN m L, ())) (tWindow_mkO (x := ((m : Int), lastN m L, ())) W4) LW D4 (by show [d1, d2, d3].length ≤ 1048576; simp)).mono ?_
      rintro w5 h5 ⟨O5, N5, s7⟩
      have e5 : ans_WindowPut ((m : Int), lastN m L, ()) [d1, d2, d3] = ((m : Int), lastN m (L ++ [d1, d2, d3]), ()) := by
        unfold ans_WindowPut
        rw [if_pos vw]
        show ((m : Int), lastN (m : Int).toNat (lastN m L ++ [d1, d2, d3]), ()) = _
        rw [Int.toNat_natCast, lastN_app]
      rw [e5] at O5
      obtain ⟨u5, rfl, P5⟩ := tWindow_O O5
      obtain ⟨a5, c5, rfl⟩ := tB_F (tB.OR P5)
      have P4' := P4.sub s7
      obtain ⟨_, _, e6, hc6, hx6⟩ := P4'.ints
      cases e6
      obtain ⟨_, _, e7, hc7, hx7⟩ := Part.ints P5
      cases e7
      have hl4 : (L ++ [d1, d2, d3]).length = L.length + 3 := by rw [List.length_append]; rfl
      refine ⟨_, _, _, _, rfl, fun _ => k_winT (hi2.sub (s6.trans s7)) (by omega) hk8 (by omega) hc6 hx6 hx7 ?_⟩
      refine ⟨⟨k + 1, _, _, _, _, _, rfl, by omega, by omega, P4', N4, P5, fun y hy e => ?_, s6.trans s7⟩, meas _ _ rfl rfl⟩
      have := N5 y (tWindow_B (x := ((m : Int), lastN m (L ++ [d1, d2, d3]), ())).2 e)
      exact P4.held y hy this
    · -- copy
      have hd1 : IntKind.i64.wrap (1 + (IntKind.i64.wrap (x2.tdiv 2)).tmod 16) = 1 + x2 / 2 % 16 := by
        rw [Int.tdiv_eq_ediv_of_nonneg (by omega), i64_in (x2 / 2) (by omega), Int.tmod_eq_emod_of_nonneg (by omega), i64_in _ (by omega)]
      have hn1 : IntKind.i64.wrap (1 + x3.tmod 30) = 1 + x3 % 30 := by
        rw [Int.tmod_eq_emod_of_nonneg (by omega), i64_in _ (by omega)]
      rw [hd1, hn1]
      obtain ⟨d, hdd⟩ : ∃ d : Nat, 1 + x2 / 2 % 16 = d := ⟨(1 + x2 / 2 % 16).toNat, by omega⟩
      obtain ⟨n, hnn⟩ : ∃ n : Nat, 1 + x3 % 30 = n := ⟨(1 + x3 % 30).toNat, by omega⟩
      have hd16 : 1 ≤ d ∧ d ≤ 16 := by omega
      have hn30 : 1 ≤ n ∧ n ≤ 30 := by omega
      rw [hdd, hnn]
      refine (g_impl_WindowCopy hi' OW LW (d : Int) (wf_i64 (by omega)) (n : Int) (wf_i64 (by omega))).mono ?_
      rintro w5 h5 ⟨O5, N5, s7⟩
      have hhave : (if (L.length : Int) > (m : Int) then (m : Int) else (L.length : Int)) = ((lastN m L).length : Int) := by
        rw [lastN_len]; split <;> omega
      by_cases hdk : d ≤ (lastN m L).length
      · have ea : ans_WindowCopy ((m : Int), lastN m L, ()) (d : Int) (n : Int) = (true, (repX d L n).drop L.length, (m : Int), lastN m (repX d L n), ()) := by
          unfold ans_WindowCopy
          have hcnd : vwin ((m : Int), lastN m L, ()) ∧ 1 ≤ (n : Int) ∧ (n : Int) ≤ 258 ∧ 1 ≤ (d : Int) ∧ (d : Int) ≤ (((m : Int), lastN m L, ()) : XWindow).2.1.length := ⟨vw, by omega, by omega, by omega, by show (d : Int) ≤ (lastN m L).length; omega⟩
          rw [if_pos hcnd]
          show (true, (repX (d : Int).toNat (lastN m L) (n : Int).toNat).drop (lastN m L).length, (m : Int), lastN (m : Int).toNat (repX (d : Int).toNat (lastN m L) (n : Int).toNat), ()) = _
          rw [Int.toNat_natCast, Int.toNat_natCast, Int.toNat_natCast, (rep_last hd16.1 hdk).1, (rep_last hd16.1 hdk).2]
        rw [ea] at O5
        obtain ⟨ud, uh, ev, PD, PH, dDH⟩ := tCopyRes_O O5
        have ev : w5 = .agg #[.bool true, ud, .int .i64 (m : Int), uh] := ev
        subst ev
        have PD : tB.O h5 ud ((repX d L n).drop L.length) := PD
        have PH : tB.O h5 uh (lastN m (repX d L n)) := PH
        obtain ⟨ad, cd, rfl⟩ := tB_F (tB.OR PD)
        obtain ⟨ah, ch, rfl⟩ := tB_F (tB.OR PH)
        have ND : ∀ y, blkOf (.slice ad ((repX d L n).drop L.length).length cd) = some y → h' y = none := fun y hy => N5 y ((tCopyRes_B (x := (true, (repX d L n).drop L.length, (m : Int), lastN m (repX d L n), ()))).2 (.inl hy))
        have NH : ∀ y, blkOf (.slice ah (lastN m (repX d L n)).length ch) = some y → h' y = none := fun y hy => N5 y ((tCopyRes_B (x := (true, (repX d L n).drop L.length, (m : Int), lastN m (repX d L n), ()))).2 (.inr hy))
        have P5 := P.sub s7
        refine ⟨_, _, _, _, _, _, _, _, rfl, fun hbad => ?_, fun _ => ⟨fun _ => ?_, fun hf => by cases hf⟩⟩
        · rw [hhave] at hbad
          simp at hbad; omega
        refine ⟨fun us h' => ∃ (i : Nat) (a : Option Addr) (c : Nat), us = [.slice a (repX d L i).length c, .int .i64 i] ∧ i ≤ n ∧ Part .u8 h' (.slice a (repX d L i).length c) (repX d L i) ∧ Eng.New h2 (.slice a (repX d L i).length c) ∧
            Part .u8 h' (.slice ad ((repX d L n).drop L.length).length cd) ((repX d L n).drop L.length) ∧ Part .u8 h' (.slice ah (lastN m (repX d L n)).length ch) (lastN m (repX d L n)) ∧
            (∀ b, blkOf (.slice a (repX d L i).length c) = some b → blkOf (.slice ad ((repX d L n).drop L.length).length cd) ≠ some b ∧ blkOf (.slice ah (lastN m (repX d L n)).length ch) ≠ some b) ∧ Eng.Sub h2 h',
          fun us _ => n - (toInt (us.getD 1 undef)).toNat, ⟨0, _, _, rfl, by omega, P5, N, PD, PH, fun b hb => ⟨fun e => P.held b hb (ND b e), fun e => P.held b hb (NH b e)⟩, sb.trans s7⟩, ?_⟩
        rintro a6 l6 c6 z h6 ⟨i, a6', c6', hx6, hi6, P6, N6, D6, H6, far6, s6⟩
        simp only [List.cons.injEq, Value.int.injEq, Value.slice.injEq, true_and, and_true] at hx6
        obtain ⟨⟨rfl, rfl, rfl⟩, rfl⟩ := hx6
        obtain ⟨_, _, e6, hc6, hx6⟩ := P6.ints
        cases e6
        have hrl := repX_len (d := d) (L := L) (n := i)
        have hLm : (lastN m L).length ≤ L.length := by rw [lastN_len]; omega
        refine ⟨fun hin => ?_, fun hin => ?_⟩
        · have wd : IntKind.i64.wrap (((repX d L i).length : Int) - (d : Int)) = (((repX d L i).length - d : Nat) : Int) := by rw [i64_in _ (by omega)]; omega
          have hlt6 : (repX d L i).length - d < (repX d L i).length := by omega
          obtain ⟨g1, g2⟩ := hx6.cell (List.getElem?_eq_getElem hlt6)
          rw [wd]
          refine ⟨by simpa using g2, by omega, by omega, _, by simpa [add_add] using g1, fun b1 hb1 => ?_⟩
          have w4 : IntKind.i64.wrap ((i : Int) + 1) = ((i + 1 : Nat) : Int) := by rw [i64_in _ (by omega)]; omega
          obtain ⟨q, hq⟩ : ∃ q, q = (repX d L i)[(repX d L i).length - d] := ⟨_, rfl⟩
          rw [← hq]
          have s8 : Eng.Sub h6 (upd h6 b1 (.cells (ints .u8 [q]) 5)) := Sub.of_upd hb1
          refine appW_part hi2 (s6.trans s8) (P6.sub s8) N6 (ys := [q]) HInts.new (by simp only [List.length_singleton]; omega) fun v' h7 P7 N7 s9 keep7 b7 => ?_
          obtain ⟨a7, c7, rfl, hc7, _⟩ := P7.ints
          have er : repX d L i ++ [q] = repX d L (i + 1) := by
            rw [repX, hq, List.getD_eq_getElem?_getD, List.getElem?_eq_getElem hlt6]; rfl
          rw [er] at P7 N7 b7 ⊢
          simp only [slA_sl, slL_sl, slC_sl, w4]
          have held8 : ∀ y, h6 y ≠ none → upd h6 b1 (.cells (ints .u8 [q]) 5) y = h6 y := fun y hy => upd_ne fun e => hy (by rw [e]; exact hb1)
          have keep' : ∀ y, h6 y ≠ none → blkOf (.slice a6 (repX d L i).length c6) ≠ some y → h7 y = h6 y := fun y hy hn => by
            have k7 : h7 y = upd h6 b1 (.cells (ints .u8 [q]) 5) y := keep7 y (by rw [show upd h6 b1 (.cells #[Value.int .u8 q] 5) y = h6 y from held8 y hy]; exact hy) hn
            rw [k7, held8 y hy]
          have far7 : ∀ y, blkOf (.slice a7 (repX d L (i + 1)).length c7) = some y → ∀ {w : Value} {zs : List Int}, Part .u8 h6 w zs → (∀ y, blkOf (.slice a6 (repX d L i).length c6) = some y → blkOf w ≠ some y) → blkOf w ≠ some y := fun y hy w zs PW hw e => by
            rcases b7 with b7 | b7
            · rw [b7] at hy; exact hw y hy e
            · have h1 : upd h6 b1 (.cells (ints .u8 [q]) 5) y = none := b7 y hy
              rw [held8 y (PW.held y e)] at h1
              exact PW.held y e h1
          refine ⟨⟨i + 1, _, _, rfl, by omega, P7, N7, D6.keep fun y hy => keep' y (D6.held y hy) fun e => (far6 y e).1 hy, H6.keep fun y hy => keep' y (H6.held y hy) fun e => (far6 y e).2 hy, fun y hy => ⟨far7 y hy D6 fun y hy => (far6 y hy).1, far7 y hy H6 fun y hy => (far6 y hy).2⟩, s9⟩, ?_⟩
          show n - (toInt (Value.int .i64 ((i + 1 : Nat) : Int))).toNat < n - (toInt (Value.int .i64 (i : Int))).toNat
          rw [toInt_int, toInt_int]; omega
        · obtain rfl : i = n := by omega
          have wd : IntKind.i64.wrap (((repX d L i).length : Int) - (i : Int)) = ((L.length : Nat) : Int) := by rw [i64_in _ (by omega)]; omega
          rw [wd, Int.toNat_natCast]
          obtain ⟨a8, e8, H8⟩ := slSub_ints hx6 (lo := L.length) (hi := (repX d L i).length) (m := c6) (by omega) (by omega) hc6
          have hdr : ((repX d L i).drop L.length).take ((repX d L i).length - L.length) = (repX d L i).drop L.length := List.take_of_length_le (by rw [List.length_drop]; omega)
          rw [hdr] at H8
          rw [e8, hdr]
          obtain ⟨_, _, e9, _, hx9⟩ := D6.ints
          cases e9
          obtain ⟨_, _, e10, _, hx10⟩ := H6.ints
          cases e10
          refine ⟨by omega, by omega, (k_lwBytes (hi2.sub s6) hx9 H8).mono ?_⟩
          rintro _ hq ⟨rfl, eq⟩
          rw [eq]
          refine ⟨_, rfl, fun hf => by simp at hf, fun _ _ _ => k_winT (hi2.sub s6) (by omega) hk8 (by omega) hc6 hx6 hx10 ?_⟩
          exact ⟨⟨k + 1, _, _, _, _, _, rfl, by omega, by omega, P6, N6, H6, fun y hy => (far6 y hy).2, s6⟩, meas _ _ rfl rfl⟩
      · have ea : ans_WindowCopy ((m : Int), lastN m L, ()) (d : Int) (n : Int) = nilCopy := by
          unfold ans_WindowCopy
          rw [if_neg]
          rintro ⟨_, _, _, _, hlt⟩
          have hlt : (d : Int) ≤ (lastN m L).length := hlt
          omega
        rw [ea] at O5
        obtain ⟨ad, cd, ah, ch, rfl⟩ := tCopyRes_F (tCopyRes.OR O5)
        refine ⟨_, _, _, _, _, _, _, _, rfl, fun hbad => ?_, fun _ => ⟨fun hf => by simp [nilCopy] at hf, fun _ _ _ => ?_⟩⟩
        · rw [hhave] at hbad
          simp [nilCopy] at hbad; omega
        · have P5 := P.sub s7
          obtain ⟨_, _, e6, hc6, hx6⟩ := P5.ints
          cases e6
          have W5 := W.sub s7
          obtain ⟨_, _, e7, hc7, hx7⟩ := W5.ints
          cases e7
          refine k_winT (hi2.sub (sb.trans s7)) (by omega) hk8 (by omega) hc6 hx6 hx7 ?_
          exact ⟨⟨k + 1, _, _, _, _, _, rfl, by omega, by omega, P5, N, W5, hd, sb.trans s7⟩, meas _ _ rfl rfl⟩
end Go.Proofs.Ytchlnichbaoeaaa
