import Derived.Test.YtchlnichbaoeaaaKSrcX
import Derived.Test.YtchlnichbaoeaaaTrBA
set_option linter.unusedVariables false
set_option linter.unusedSimpArgs false
namespace Go.Proofs.Ytchlnichbaoeaaa
open Go Go.Eng Go.IntWalk
variable {S : Nat → Prop} {h : Eng.Heap}

def ans_BitsAlign (x : XBits) : XBits :=
  if vbits x.1.length x.2.1 x.2.2.1 then (if x.2.1 = 0 ∨ ¬ hasX x (8 - x.2.1) then x else skipX x (8 - x.2.1)) else nilBits

theorem g_spec_BitsAlign (hi : Eng.Inv S h) {v : Value} {x : XBits} (O : tBits.O h v x) (L : limBits x) :
    CallsH Try.prog S F_spec_BitsAlign #[v] h (fun v h' => tBits.O h' v (ans_BitsAlign x) ∧ tBits.New h v ∧ Eng.Sub h h') := by
  obtain ⟨u, rfl, P⟩ := tBits_O O
  obtain ⟨a, c, rfl, hc, hx⟩ := Part.ints P
  obtain ⟨xs, p, q, ⟨⟩⟩ := x
  simp only at hx hc P
  have L : xs.length ≤ 1048576 := L
  refine run_spec_BitsAlign (vs := [.slice a xs.length c, .int .i64 p, .int .i64 q]) ⟨rfl, rfl, rfl, trivial⟩ hi ?_
  simp only [t_spec_BitsAlign, Tr.wp, mksW, callW, Ex.ev, coerce, toInt_int, toBool_bool, slL_sl, slC_sl, slA_sl, toAddr_ptr, ptrOf_ptr, isNil_sl, isNil_ptr, it_and, it_or, it_int, optN_int, optN_nl, cmpI, arith, Cst.val, SV.den, resShs, resV, resSV, resVals, newVars, runCells, exSh, allSh, cellsAre, storeW, List.flatMap_cons, List.flatMap_nil, List.replicate_one, List.getD_cons_zero, List.getD_cons_succ, List.getElem?_cons_zero, List.getElem?_cons_succ, decide_eq_true_eq, decide_eq_false_iff_not, List.map_cons, List.map_nil, List.cons_append, List.nil_append, List.append_nil, List.length_cons, List.length_nil, Nat.zero_add, Nat.add_zero, and_true, true_and, if_true, if_false, Bool.false_eq_true]
  refine (k_spec_ValidBits hi a xs.length c p q).mono ?_
  rintro _ hq ⟨rfl, eq⟩
  rw [eq]
  refine ⟨_, rfl, fun hn => ?_, fun hv => ?_⟩
  · have hn : ¬ vbits xs.length p q := by simpa using hn
    simp only [ans_BitsAlign, if_neg hn]
    exact ⟨tBits_nil, tBits_nilNew, fun _ _ h => h⟩
  have hv : vbits xs.length p q := by simpa using hv
  obtain ⟨v1, v2, v3, v4, v5, v6, v7⟩ := id hv
  have hcopy : (p = 0 ∨ ¬ hasX (xs, p, q, ()) (8 - p)) → ans_BitsAlign (xs, p, q, ()) = (xs, p, q, ()) := fun hh => by simp only [ans_BitsAlign, if_pos hv, if_pos hh]
  have w1 : IntKind.i64.wrap (8 - p) = 8 - p := i64_in _ (by omega)
  have hcp : (p = 0 ∨ ¬ hasX (xs, p, q, ()) (8 - p)) → CallsH Try.prog S F_spec_l2Copy #[.agg #[.slice a xs.length c, .int .i64 p, .int .i64 q]] h (fun v h' => ∃ a l c x x_1, v = .agg #[.slice a l c, .int .i64 x, .int .i64 x_1] ∧ tBits.O h' (.agg #[.slice a l c, .int .i64 x, .int .i64 x_1]) (ans_BitsAlign (xs, p, q, ())) ∧ tBits.New h (.agg #[.slice a l c, .int .i64 x, .int .i64 x_1]) ∧ Eng.Sub h h') := fun hh => by
    rw [hcopy hh]
    refine (k_l2Copy hi a c xs p q hx (by omega)).mono ?_
    rintro _ h1 ⟨a', l', c', rfl, o1, n1, s1⟩
    exact ⟨_, _, _, _, _, rfl, tBits_mkO (x := (xs, p, q, ())) o1, fun b hb => n1 b ((tBits_B (x := (xs, p, q, ()))).1 hb), s1⟩
  rw [w1]
  refine ⟨fun hp0 => ?_, fun hp0 _ => ⟨fun _ => hcp (.inl (by simpa using hp0)), fun h => by cases h⟩⟩
  have hp0 : p ≠ 0 := by simpa using hp0
  refine (k_l2Has hi a _ c p q (8 - p) (by omega) ⟨v1, v2⟩ ⟨v5, v6⟩ (by omega)).mono ?_
  rintro _ hq ⟨rfl, eq⟩
  rw [eq]
  refine ⟨_, rfl, fun _ => ⟨fun hb => hcp (.inr (by simp at hb; simp only [hasX]; omega)), fun hb => ?_⟩⟩
  have hb : hasX (xs, p, q, ()) (8 - p) := by simpa [hasX] using hb
  refine (k_l2Skip hi a c xs p q (8 - p) hx hc L ⟨v1, v2⟩ ⟨v5, v6⟩ ⟨by omega, hb.1⟩).mono ?_
  rintro _ h1 ⟨a', l', c', rfl, o1, n1, s1⟩
  have e : ans_BitsAlign (xs, p, q, ()) = skipX (xs, p, q, ()) (8 - p) := by
    have : ¬ (p = 0 ∨ ¬ hasX (xs, p, q, ()) (8 - p)) := by simp [hp0, hb]
    simp only [ans_BitsAlign, if_pos hv, if_neg this]
  rw [e]
  exact ⟨_, _, _, _, _, rfl, tBits_mkO (x := skipX (xs, p, q, ()) (8 - p)) o1, fun b hb => n1 b ((tBits_B (x := skipX (xs, p, q, ()) (8 - p))).1 hb), s1⟩

theorem g_impl_BitsAlign (hi : Eng.Inv S h) {v : Value} {x : XBits} (O : tBits.O h v x) (L : limBits x) :
    CallsH Try.prog S F_impl_BitsAlign #[v] h (fun v h' => tBits.O h' v (ans_BitsAlign x) ∧ tBits.New h v ∧ Eng.Sub h h') := by
  obtain ⟨u, rfl, P⟩ := tBits_O O
  obtain ⟨a, c, rfl, hc, hx⟩ := Part.ints P
  obtain ⟨xs, p, q, ⟨⟩⟩ := x
  simp only at hx hc P
  have L : xs.length ≤ 1048576 := L
  refine run_impl_BitsAlign (vs := [.slice a xs.length c, .int .i64 p, .int .i64 q]) ⟨rfl, rfl, rfl, trivial⟩ hi ?_
  simp only [t_impl_BitsAlign, Tr.wp, mksW, callW, Ex.ev, coerce, toInt_int, toBool_bool, slL_sl, slC_sl, slA_sl, toAddr_ptr, ptrOf_ptr, isNil_sl, isNil_ptr, it_and, it_or, it_int, optN_int, optN_nl, cmpI, arith, Cst.val, SV.den, resShs, resV, resSV, resVals, newVars, runCells, exSh, allSh, cellsAre, storeW, List.flatMap_cons, List.flatMap_nil, List.replicate_one, List.getD_cons_zero, List.getD_cons_succ, List.getElem?_cons_zero, List.getElem?_cons_succ, decide_eq_true_eq, decide_eq_false_iff_not, List.map_cons, List.map_nil, List.cons_append, List.nil_append, List.append_nil, List.length_cons, List.length_nil, Nat.zero_add, Nat.add_zero, and_true, true_and, if_true, if_false, Bool.false_eq_true]
  refine (k_impl_ValidBits hi a xs.length c p q).mono ?_
  rintro _ hq ⟨rfl, eq⟩
  rw [eq]
  refine ⟨_, rfl, fun hn => ?_, fun hv => ?_⟩
  · have hn : ¬ vbits xs.length p q := by simpa using hn
    simp only [ans_BitsAlign, if_neg hn]
    exact ⟨tBits_nil, tBits_nilNew, fun _ _ h => h⟩
  have hv : vbits xs.length p q := by simpa using hv
  obtain ⟨v1, v2, v3, v4, v5, v6, v7⟩ := id hv
  refine (k_sourceOf hi a c xs p q hx (by omega)).mono ?_
  rintro _ h1 ⟨a', l', c', rfl, o1, n1, s1⟩
  refine ⟨_, _, _, _, _, rfl, fun b hb => ?_⟩
  simp only [src_zero]
  obtain ⟨f1, f2, f3, f4, SA⟩ := SrcAt.made (p := p) (q := q) hi s1 o1 n1 hb 116
  refine ⟨f1, f2, f3, ?_⟩
  simp only [f4]
  have w1 : IntKind.i64.wrap (8 - p) = 8 - p := i64_in _ (by omega)
  have w2 : (8 - p).tmod 8 = (8 - p) % 8 := Int.tmod_eq_emod_of_nonneg (by omega)
  refine ⟨_, (src_ld upd_same).2.1, ?_⟩
  revert SA
  generalize upd h1 b (srcObj (.slice a' l' c') p q 116) = h2
  intro SA
  refine (k_leftX hi SA L ⟨v1, v2⟩ ⟨v5, v6⟩).mono ?_
  rintro _ hq ⟨rfl, eq⟩
  rw [eq, w1, w2]
  have hleft : min (8 * (xs.length : Int) - p) (34359738368 - q) = min (8 * (xs.length : Int) - p) (34359738368 - q) := rfl
  refine ⟨_, rfl, fun hle => ?_, fun hgt _ => ?_⟩
  · have hle : (8 - p) % 8 ≤ 8 * (xs.length : Int) - p ∧ q + (8 - p) % 8 ≤ 34359738368 := by simp only at hle; omega
    refine (k_skipX hi SA ((8 - p) % 8) L ⟨v1, v2⟩ ⟨v5, v6⟩ ⟨by omega, hle.1⟩).mono ?_
    rintro _ h3 ⟨rfl, SB⟩
    refine ⟨rfl, fun _ => k_bitsX hi SB fun a c O N => ⟨_, _, _, _, _, rfl, ?_, N, SB.sub⟩⟩
    have e : skipX (xs, p, q, ()) ((8 - p) % 8) = ans_BitsAlign (xs, p, q, ()) := by
      simp only [ans_BitsAlign, if_pos hv]
      by_cases hp0 : p = 0
      · rw [if_pos (.inl hp0)]
        subst hp0
        exact skipX_zero rfl
      · have e1 : (8 - p) % 8 = 8 - p := by omega
        rw [e1] at hle ⊢
        rw [if_neg]
        simp [hp0, hasX]; omega
    rw [← e]; exact O
  · have e : ans_BitsAlign (xs, p, q, ()) = (xs, p, q, ()) := by
      simp only [ans_BitsAlign, if_pos hv]
      rw [if_pos]
      by_cases hp0 : p = 0
      · exact .inl hp0
      · refine .inr ?_
        have e1 : (8 - p) % 8 = 8 - p := by omega
        rw [e1] at hgt
        simp only [hasX]; simp only at hgt; omega
    rw [e]
    exact k_bitsX hi SA fun a c O N => ⟨_, _, _, _, _, rfl, O, N, SA.sub⟩

theorem sm_BitsAlign {x : XBits} (L : limBits x) : smBits (ans_BitsAlign x) := by
  have L : x.1.length ≤ 1048576 := L
  unfold ans_BitsAlign smBits
  split
  · split
    · omega
    · simp [skipX]; omega
  · simp [nilBits]
end Go.Proofs.Ytchlnichbaoeaaa
