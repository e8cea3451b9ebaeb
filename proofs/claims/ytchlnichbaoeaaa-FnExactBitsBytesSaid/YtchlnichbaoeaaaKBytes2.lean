import Derived.Test.YtchlnichbaoeaaaKSrcX
import Derived.Test.YtchlnichbaoeaaaTyByteRes
import Derived.Test.YtchlnichbaoeaaaTrBB
set_option linter.unusedVariables false
set_option linter.unusedSimpArgs false
namespace Go.Proofs.Ytchlnichbaoeaaa
open Go Go.Eng Go.IntWalk
variable {S : Nat → Prop} {h : Eng.Heap}

theorem i64_wf {n : Int} (H : (Lit.int .i64 n).wf = true) : -9223372036854775808 ≤ n ∧ n ≤ 9223372036854775807 := by
  have e1 : IntKind.i64.min = -9223372036854775808 := by rfl
  have e2 : IntKind.i64.max = 9223372036854775807 := by rfl
  simp [Lit.wf, e1, e2] at H; exact H

def ans_BitsBytes (x : XBits) (n : Int) : XByteRes :=
  if vbits x.1.length x.2.1 x.2.2.1 then
    (if x.2.1 ≠ 0 ∨ n < 0 ∨ (x.1.length : Int) < n ∨ ¬ hasX x (8 * n) then (false, [], x) else (true, x.1.take n.toNat, skipX x (8 * n)))
  else (false, [], nilBits)

theorem tByteRes_of {b : Bool} {v u : Value} {ys : List Int} {x : XBits} (D : tB.O h v ys) (H : tBits.O h (.agg #[u, .int .i64 x.2.1, .int .i64 x.2.2.1]) x) (d : ∀ b, tB.B v b → ¬ tB.B u b) : tByteRes.O h (.agg #[.bool b, v, u, .int .i64 x.2.1, .int .i64 x.2.2.1]) (b, ys, x) :=
  tByteRes_mkO (x := (b, ys, x)) D (tBits_invO H) d

theorem tByteRes_new {b : Bool} {v u : Value} {x : XBits} (D : tB.New h v) (H : tBits.New h (.agg #[u, .int .i64 x.2.1, .int .i64 x.2.2.1])) : tByteRes.New h (.agg #[.bool b, v, u, .int .i64 x.2.1, .int .i64 x.2.2.1]) :=
  fun c hc => ((tByteRes_B (x := (b, [], x))).1 hc).elim (D c) fun h => H c (tBits_B.2 h)

theorem nil_B {b : Nat} : ¬ tB.B (.slice none 0 0) b := fun h => by cases h
theorem tByteRes_of0 {u : Value} {x : XBits} (H : tBits.O h (.agg #[u, .int .i64 x.2.1, .int .i64 x.2.2.1]) x) : tByteRes.O h (.agg #[.bool false, .slice none 0 0, u, .int .i64 x.2.1, .int .i64 x.2.2.1]) (false, [], x) :=
  tByteRes_of Part.nil H fun _ h => absurd h nil_B
theorem tByteRes_new0 {u : Value} {x : XBits} (H : tBits.New h (.agg #[u, .int .i64 x.2.1, .int .i64 x.2.2.1])) : tByteRes.New h (.agg #[.bool false, .slice none 0 0, u, .int .i64 x.2.1, .int .i64 x.2.2.1]) :=
  tByteRes_new (fun _ h => absurd h nil_B) H

theorem g_spec_BitsBytes (hi : Eng.Inv S h) {v : Value} {x : XBits} (O : tBits.O h v x) (L : limBits x) (n : Int) (wn : (Lit.int .i64 n).wf = true) :
    CallsH Try.prog S F_spec_BitsBytes #[v, .int .i64 n] h (fun v h' => tByteRes.O h' v (ans_BitsBytes x n) ∧ tByteRes.New h v ∧ Eng.Sub h h') := by
  obtain ⟨u, rfl, P⟩ := tBits_O O
  obtain ⟨a, c, rfl, hc, hx⟩ := Part.ints P
  obtain ⟨xs, p, q, ⟨⟩⟩ := x
  simp only at hx hc P
  have L : xs.length ≤ 1048576 := L
  refine run_spec_BitsBytes (vs := [.slice a xs.length c, .int .i64 p, .int .i64 q, .int .i64 n]) ⟨rfl, rfl, rfl, rfl, trivial⟩ hi ?_
  simp only [t_spec_BitsBytes, Tr.wp, mksW, callW, Ex.ev, coerce, toInt_int, toBool_bool, slL_sl, slC_sl, slA_sl, toAddr_ptr, ptrOf_ptr, isNil_sl, isNil_ptr, it_and, it_or, it_int, optN_int, optN_nl, cmpI, arith, Cst.val, SV.den, resShs, resV, resSV, resVals, newVars, runCells, exSh, allSh, cellsAre, storeW, List.flatMap_cons, List.flatMap_nil, List.replicate_one, List.getD_cons_zero, List.getD_cons_succ, List.getElem?_cons_zero, List.getElem?_cons_succ, decide_eq_true_eq, decide_eq_false_iff_not, List.map_cons, List.map_nil, List.cons_append, List.nil_append, List.append_nil, List.length_cons, List.length_nil, Nat.zero_add, Nat.add_zero, and_true, true_and, if_true, if_false, Bool.false_eq_true]
  refine (k_spec_ValidBits hi a xs.length c p q).mono ?_
  rintro _ hq ⟨rfl, eq⟩
  rw [eq]
  refine ⟨_, rfl, fun hn => ?_, fun hv => ?_⟩
  · have hn : ¬ vbits xs.length p q := by simpa using hn
    simp only [ans_BitsBytes, if_neg hn]
    exact ⟨tByteRes_of0 (x := nilBits) tBits_nil, tByteRes_new0 (x := nilBits) tBits_nilNew, fun _ _ h => h⟩
  have hv : vbits xs.length p q := by simpa using hv
  obtain ⟨v1, v2, v3, v4, v5, v6, v7⟩ := id hv
  have wn : -9223372036854775808 ≤ n ∧ n ≤ 9223372036854775807 := i64_wf wn
  have hcp : (p ≠ 0 ∨ n < 0 ∨ (xs.length : Int) < n ∨ ¬ hasX (xs, p, q, ()) (8 * n)) → CallsH Try.prog S F_spec_l2Copy #[.agg #[.slice a xs.length c, .int .i64 p, .int .i64 q]] h (fun v h' => ∃ a l c x x_1, v = .agg #[.slice a l c, .int .i64 x, .int .i64 x_1] ∧ tByteRes.O h' (.agg #[.bool false, .slice none 0 0, .slice a l c, .int .i64 x, .int .i64 x_1]) (ans_BitsBytes (xs, p, q, ()) n) ∧ tByteRes.New h (.agg #[.bool false, .slice none 0 0, .slice a l c, .int .i64 x, .int .i64 x_1]) ∧ Eng.Sub h h') := fun hh => by
    simp only [ans_BitsBytes, if_pos hv, if_pos hh]
    refine (k_l2Copy hi a c xs p q hx (by omega)).mono ?_
    rintro _ h1 ⟨a', l', c', rfl, o1, n1, s1⟩
    exact ⟨_, _, _, _, _, rfl, tByteRes_of0 (tBits_mkO (x := (xs, p, q, ())) o1), tByteRes_new0 (x := (xs, p, q, ())) (fun b hb => n1 b ((tBits_B (x := (xs, p, q, ()))).1 hb)), s1⟩
  refine ⟨fun hn => ?_, fun hn _ => ⟨fun _ => hcp (by simp at hn; omega), fun h => by cases h⟩⟩
  have hn : p = 0 ∧ 0 ≤ n ∧ n ≤ (xs.length : Int) := by simp at hn; omega
  obtain ⟨hp0, hn0, hn1⟩ := hn
  have w1 : IntKind.i64.wrap (8 * n) = 8 * n := i64_in _ (by omega)
  rw [w1]
  refine (k_l2Has hi a _ c p q (8 * n) (by omega) ⟨v1, v2⟩ ⟨v5, v6⟩ (by omega)).mono ?_
  rintro _ hq ⟨rfl, eq⟩
  rw [eq]
  refine ⟨_, rfl, fun _ => ⟨fun hb => hcp (.inr (.inr (.inr (show ¬ (_ ∧ _) by simpa only [Bool.not_eq_true', decide_eq_false_iff_not] using hb)))), fun hb => ?_⟩⟩
  have hb : hasX (xs, p, q, ()) (8 * n) := by simp at hb; simp only [hasX]; omega
  have e : ans_BitsBytes (xs, p, q, ()) n = (true, xs.take n.toNat, skipX (xs, p, q, ()) (8 * n)) := by
    have : ¬ (p ≠ 0 ∨ n < 0 ∨ (xs.length : Int) < n ∨ ¬ hasX (xs, p, q, ()) (8 * n)) := fun h => by
      rcases h with h | h | h | h
      · exact h hp0
      · omega
      · omega
      · exact h hb
    simp only [ans_BitsBytes, if_pos hv, if_neg this]
  rw [e]
  refine ⟨by omega, by omega, fun b hbn => ?_⟩
  have s1 : Eng.Sub h (upd h b (.cells (ints .u8 []) 5)) := Sub.of_upd hbn
  obtain ⟨a3, he3, hx3⟩ := slSub_ints hx (lo := 0) (hi := n.toNat) (m := c) (by omega) (by omega) (by omega)
  have hdr : (xs.drop 0).take (n.toNat - 0) = xs.take n.toNat := by simp
  rw [hdr] at he3 hx3
  rw [he3]
  refine appW_part hi s1 (Own.made []).part (New.of hbn) (hx3.sub s1) (by simp only [List.length_nil, List.length_take]; omega) fun v' h' o n' s _ _ => ?_
  obtain ⟨a', c', rfl, _, _⟩ := o.ints
  refine (k_l2Skip (hi.sub s) a c xs p q (8 * n) (hx.sub s) hc L ⟨v1, v2⟩ ⟨v5, v6⟩ ⟨by omega, hb.1⟩).mono ?_
  rintro _ h1 ⟨a', l', c', rfl, o1, n1, s1⟩
  exact ⟨_, _, _, _, _, rfl, tByteRes_of (x := skipX (xs, p, q, ()) (8 * n)) (o.sub s1) (tBits_mkO o1) (fun b h1 h2 => o.held b h1 (n1 b h2)), tByteRes_new (x := skipX (xs, p, q, ()) (8 * n)) n' (fun b hb => sub_none s (n1 b ((tBits_B (x := skipX (xs, p, q, ()) (8 * n))).1 hb))), s.trans s1⟩

theorem k_bytes {h0 : Eng.Heap} {b : Nat} {T : TypeId} {x : XBits} {a : Option Addr} {c : Nat} (hi : Eng.Inv S h0) (H : SrcV h0 h b T x a c) (n : Int) (hl : x.1.length ≤ 1048576) (hp : x.2.1 = 0) (hq : 0 ≤ x.2.2.1 ∧ x.2.2.1 ≤ 34359738368) (hn : 0 ≤ n ∧ n ≤ (x.1.length : Int)) :
    CallsH Try.prog S F_impl_byteReader__take #[.pointer (some ⟨b, 0, none⟩), .int .i64 n] h (fun v h' => tB.O h' v (x.1.take n.toNat) ∧ tB.New h v ∧ ∃ a' c', SrcV h0 h' b T (skipX x (8 * n)) a' c' ∧ blkOf (.slice a' (skipX x (8 * n)).1.length c') = blkOf (.slice a x.1.length c)) := by
  obtain ⟨hb, P, N, s, hne, hbn⟩ := id H
  refine run_impl_byteReader__take (vs := [.pointer (some ⟨b, 0, none⟩), .int .i64 n]) ⟨rfl, rfl, trivial⟩ (hi.sub s) ?_
  simp only [t_impl_byteReader__take, Tr.wp, mksW, callW, Ex.ev, coerce, toInt_int, toBool_bool, slL_sl, slC_sl, slA_sl, toAddr_ptr, ptrOf_ptr, isNil_sl, isNil_ptr, it_and, it_or, it_int, optN_int, optN_nl, cmpI, arith, Cst.val, SV.den, resShs, resV, resSV, resVals, newVars, runCells, exSh, allSh, cellsAre, storeW, List.flatMap_cons, List.flatMap_nil, List.replicate_one, List.getD_cons_zero, List.getD_cons_succ, List.getElem?_cons_zero, List.getElem?_cons_succ, decide_eq_true_eq, decide_eq_false_iff_not, List.map_cons, List.map_nil, List.cons_append, List.nil_append, List.append_nil, List.length_cons, List.length_nil, Nat.zero_add, Nat.add_zero, and_true, true_and, if_true, if_false, Bool.false_eq_true]
  obtain ⟨g1, g2, g3⟩ := src_get hb
  obtain ⟨aa, cc, hvv, hcc, hx⟩ := P.ints
  cases hvv
  intro d hd
  have s1 : Eng.Sub h (upd h d (.cells (ints .u8 []) 5)) := Sub.of_upd hd
  refine ⟨by simp, _, _, _, by rw [addr_add, addr_add]; exact hcell_sub s1 g1, by omega, by omega, ?_⟩
  obtain ⟨a3, he3, hx3⟩ := slSub_ints hx (lo := 0) (hi := n.toNat) (m := c) (by omega) (by omega) (by omega)
  have hdr : (x.1.drop 0).take (n.toNat - 0) = x.1.take n.toNat := by simp
  rw [hdr] at he3 hx3
  rw [he3]
  refine appW_part (hi.sub s) s1 (Own.made []).part (New.of hd) (hx3.sub s1) (by simp only [List.length_nil, List.length_take]; omega) fun v' h' o n' s' _ _ => ?_
  obtain ⟨a', c', rfl, _, _⟩ := o.ints
  have w1 : IntKind.i64.wrap (8 * n) = 8 * n := i64_in _ (by omega)
  have ez : (⟨b, 0, none⟩ : Addr).add 0 = ⟨b, 0, none⟩ := addr_add b 0 0
  rw [w1, ez]
  refine ⟨by simp, ?_⟩
  refine (k_skipV hi (H.mono s') (8 * n) hl ⟨by omega, by omega⟩ hq ⟨by omega, by omega⟩).mono ?_
  rintro _ h2 ⟨rfl, a2, c2, SB, e2, fr⟩
  refine ⟨rfl, Part.keep o (fun y hy => fr y (fun e => ?_)), n', a2, c2, SB, e2⟩
  subst e
  have := n' y hy
  rw [hb] at this; cases this

theorem g_impl_BitsBytes (hi : Eng.Inv S h) {v : Value} {x : XBits} (O : tBits.O h v x) (L : limBits x) (n : Int) (wn : (Lit.int .i64 n).wf = true) :
    CallsH Try.prog S F_impl_BitsBytes #[v, .int .i64 n] h (fun v h' => tByteRes.O h' v (ans_BitsBytes x n) ∧ tByteRes.New h v ∧ Eng.Sub h h') := by
  obtain ⟨u, rfl, P⟩ := tBits_O O
  obtain ⟨a, c, rfl, hc, hx⟩ := Part.ints P
  obtain ⟨xs, p, q, ⟨⟩⟩ := x
  simp only at hx hc P
  have L : xs.length ≤ 1048576 := L
  have wn := i64_wf wn
  refine run_impl_BitsBytes (vs := [.slice a xs.length c, .int .i64 p, .int .i64 q, .int .i64 n]) ⟨rfl, rfl, rfl, rfl, trivial⟩ hi ?_
  simp only [t_impl_BitsBytes, Tr.wp, mksW, callW, Ex.ev, coerce, toInt_int, toBool_bool, slL_sl, slC_sl, slA_sl, toAddr_ptr, ptrOf_ptr, isNil_sl, isNil_ptr, it_and, it_or, it_int, optN_int, optN_nl, cmpI, arith, Cst.val, SV.den, resShs, resV, resSV, resVals, newVars, runCells, exSh, allSh, cellsAre, storeW, List.flatMap_cons, List.flatMap_nil, List.replicate_one, List.getD_cons_zero, List.getD_cons_succ, List.getElem?_cons_zero, List.getElem?_cons_succ, decide_eq_true_eq, decide_eq_false_iff_not, List.map_cons, List.map_nil, List.cons_append, List.nil_append, List.append_nil, List.length_cons, List.length_nil, Nat.zero_add, Nat.add_zero, and_true, true_and, if_true, if_false, Bool.false_eq_true]
  refine (k_impl_ValidBits hi a xs.length c p q).mono ?_
  rintro _ hq ⟨rfl, eq⟩
  rw [eq]
  refine ⟨_, rfl, fun hn => ?_, fun hv => ?_⟩
  · have hn : ¬ vbits xs.length p q := by simpa using hn
    simp only [ans_BitsBytes, if_neg hn]
    exact ⟨tByteRes_of0 (x := nilBits) tBits_nil, tByteRes_new0 (x := nilBits) tBits_nilNew, fun _ _ h => h⟩
  have hv : vbits xs.length p q := by simpa using hv
  obtain ⟨v1, v2, v3, v4, v5, v6, v7⟩ := id hv
  refine (k_sourceOf hi a c xs p q hx (by omega)).mono ?_
  rintro _ h1 ⟨a', l', c', rfl, o1, n1, s1⟩
  refine ⟨_, _, _, _, _, rfl, fun b hb => ?_⟩
  simp only [src_zero]
  obtain ⟨f1, f2, f3, f4, SA⟩ := SrcAt.made (p := p) (q := q) hi s1 o1 n1 hb 125
  refine ⟨f1, f2, f3, ?_⟩
  simp only [f4]
  revert SA
  generalize upd h1 b (srcObj (.slice a' l' c') p q 125) = h2
  intro SA
  have hcp : (p ≠ 0 ∨ n < 0 ∨ (xs.length : Int) < n ∨ ¬ hasX (xs, p, q, ()) (8 * n)) → ans_BitsBytes (xs, p, q, ()) n = (false, [], (xs, p, q, ())) := fun hh => by simp only [ans_BitsBytes, if_pos hv, if_pos hh]
  have fin : (p ≠ 0 ∨ n < 0 ∨ (xs.length : Int) < n ∨ ¬ hasX (xs, p, q, ()) (8 * n)) → ∃ a l c p' q', (hcell h2 ((⟨b, 0, none⟩ : Addr).add 0) = some (.slice a l c) ∧ hcell h2 ((⟨b, 0, none⟩ : Addr).add 1) = some (.int .i64 p') ∧ hcell h2 ((⟨b, 0, none⟩ : Addr).add (1 + 1)) = some (.int .i64 q')) ∧
      CallsH Try.prog S F_impl_source__bits #[.agg #[.slice a l c, .int .i64 p', .int .i64 q']] h2 (fun v h' => ∃ a l c x x_1, v = .agg #[.slice a l c, .int .i64 x, .int .i64 x_1] ∧ tByteRes.O h' (.agg #[.bool false, .slice none 0 0, .slice a l c, .int .i64 x, .int .i64 x_1]) (ans_BitsBytes (xs, p, q, ()) n) ∧ tByteRes.New h (.agg #[.bool false, .slice none 0 0, .slice a l c, .int .i64 x, .int .i64 x_1]) ∧ Eng.Sub h h') := fun hh => by
    rw [hcp hh]
    exact k_bitsX hi SA fun a c O N => ⟨_, _, _, _, _, rfl, tByteRes_of0 (x := (xs, p, q, ())) O, tByteRes_new0 (x := (xs, p, q, ())) N, SA.sub⟩
  have ez : (⟨b, 0, none⟩ : Addr).add 0 = ⟨b, 0, none⟩ := addr_add b 0 0
  obtain ⟨a2, c2, SV⟩ := id SA
  obtain ⟨g1, g2, g3⟩ := src_get SV.1
  have w1 : ∀ m : Int, 0 ≤ m → m ≤ 1048576 → IntKind.i64.wrap (8 * m) = 8 * m := fun m _ _ => i64_in _ (by omega)
  refine ⟨p, by simpa [addr_add] using g2, fun hn => ?_, fun hn _ => ⟨fun _ => fin (by simp at hn; omega), fun h => by cases h⟩⟩
  have hn : p = 0 ∧ 0 ≤ n := by simp at hn; omega
  obtain ⟨hp0, hn0⟩ := hn
  refine ⟨a2, xs.length, c2, by simpa [addr_add] using g1, fun hn => ?_, fun hn _ => ⟨fun _ => fin (by simp at hn; omega), fun h => by cases h⟩⟩
  have hn1 : n ≤ (xs.length : Int) := by simp at hn; omega
  rw [ez, w1 n hn0 (by omega)]
  refine (k_leftX hi SA L ⟨v1, v2⟩ ⟨v5, v6⟩).mono ?_
  rintro _ hq ⟨rfl, eq⟩
  rw [eq]
  refine ⟨_, rfl, fun _ => ⟨fun hgt => fin (.inr (.inr (.inr (show ¬ (_ ∧ _) by simp only at hgt ⊢; omega)))), fun hle => ?_⟩⟩
  have hb : hasX (xs, p, q, ()) (8 * n) := by simp only [hasX]; simp only at hle; omega
  have e : ans_BitsBytes (xs, p, q, ()) n = (true, xs.take n.toNat, skipX (xs, p, q, ()) (8 * n)) := by
    have : ¬ (p ≠ 0 ∨ n < 0 ∨ (xs.length : Int) < n ∨ ¬ hasX (xs, p, q, ()) (8 * n)) := fun h => by
      rcases h with h | h | h | h
      · exact h hp0
      · omega
      · omega
      · exact h hb
    simp only [ans_BitsBytes, if_pos hv, if_neg this]
  refine (k_bytes hi SV n L hp0 ⟨v5, v6⟩ ⟨hn0, hn1⟩).mono ?_
  rintro _ h3 ⟨O3, N3, a4, c4, SB, eb⟩
  obtain ⟨a5, c5, rfl⟩ := tB_F (tB.OR O3)
  refine ⟨_, _, _, rfl, ?_⟩
  rw [e]
  refine k_bitsV hi SB fun O N => ⟨_, _, _, _, _, rfl, tByteRes_of (x := skipX (xs, p, q, ()) (8 * n)) O3 O (fun y h1 h2 => ?_), tByteRes_new (x := skipX (xs, p, q, ()) (8 * n)) (fun y hy => sub_none SA.sub (N3 y hy)) N, SB.2.2.2.1⟩
  have h3 : blkOf (.slice a2 xs.length c2) = some y := by rw [← eb]; exact h2
  exact SV.2.1.held y h3 (N3 y h1)

theorem sm_BitsBytes {x : XBits} {n : Int} (L : limBits x) : smByteRes (ans_BitsBytes x n) := by
  have L : x.1.length ≤ 1048576 := L
  unfold ans_BitsBytes smByteRes smBits smB
  split
  · split
    · exact ⟨by simp, by show x.1.length ≤ _; omega⟩
    · exact ⟨by simp only [List.length_take]; omega, by simp [skipX]; omega⟩
  · simp [nilBits]
end Go.Proofs.Ytchlnichbaoeaaa
