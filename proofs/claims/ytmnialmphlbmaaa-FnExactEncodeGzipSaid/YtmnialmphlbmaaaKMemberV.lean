import Derived.Test.YtmnialmphlbmaaaKMember
set_option linter.unusedVariables false
set_option linter.unusedSimpArgs false
namespace Go.Proofs.Ytmnialmphlbmaaa
open Go Go.Eng Go.IntWalk
variable {S : Shared} {h : Eng.Heap}

theorem i64_wfM {n : Int} (H : (Lit.int .i64 n).wf = true) : -9223372036854775808 ≤ n ∧ n ≤ 9223372036854775807 := by
  have e1 : IntKind.i64.min = -9223372036854775808 := by rfl
  have e2 : IntKind.i64.max = 9223372036854775807 := by rfl
  simp [Lit.wf, e1, e2] at H; exact H

set_option maxRecDepth 100000 in
set_option maxHeartbeats 4000000 in
theorem g_spec_ValidMember (hi : Eng.Inv S h) {v : Value} {x : XMember} (O : tMember.O h v x) (L : limMember x) :
    CallsH Try.prog S F_spec_ValidMember #[v] h (fun v h' => v = .bool (decide (vmem x)) ∧ h' = h) := by
  obtain ⟨u4, u5, u6, rfl, H4, H5, H6, _⟩ := tMember_O O
  obtain ⟨a4, c4, rfl, hc4, hx4⟩ := Part.ints H4
  obtain ⟨a5, c5, rfl, hc5, hx5⟩ := Part.ints H5
  obtain ⟨a6, c6, rfl, hc6, hx6⟩ := Part.ints H6
  obtain ⟨n0, n1, n2, n3, xs, ys, zs, n7, ⟨⟩⟩ := x
  have l4 : xs.length ≤ 1048576 := L.1
  have l5 : ys.length ≤ 1048576 := L.2.1
  have l6 : zs.length ≤ 1048576 := L.2.2
  simp only at hx4 hx5 hx6
  refine run_spec_ValidMember (vs := [.int .i64 n0, .int .i64 n1, .int .i64 n2, .int .i64 n3, .slice a4 xs.length c4, .slice a5 ys.length c5, .slice a6 zs.length c6, .int .i64 n7]) ⟨rfl, rfl, rfl, rfl, rfl, rfl, rfl, rfl, trivial⟩ hi ?_
  simp only [t_spec_ValidMember, Tr.wp, mksW, callW, Ex.ev, coerce, toInt_int, toBool_bool, slL_sl, slC_sl, slA_sl, toAddr_ptr, ptrOf_ptr, isNil_sl, isNil_ptr, it_and, it_or, it_int, optN_int, optN_nl, cmpI, arith, Cst.val, SV.den, resShs, resV, resSV, resVals, newVars, runCells, exSh, allSh, cellsAre, storeW, List.flatMap_cons, List.flatMap_nil, List.replicate_one, List.getD_cons_zero, List.getD_cons_succ, List.getElem?_cons_zero, List.getElem?_cons_succ, decide_eq_true_eq, decide_eq_false_iff_not, List.map_cons, List.map_nil, List.cons_append, List.nil_append, List.append_nil, List.length_cons, List.length_nil, Nat.zero_add, Nat.add_zero, and_true, true_and, if_true, if_false, Bool.false_eq_true]
  refine ⟨fun hbad => ?_, fun hok => ⟨fun hbad => ?_, fun hok2 => ?_⟩⟩
  · have hf : ¬ vmem (n0, n1, n2, n3, xs, ys, zs, n7, ()) := fun hv => by
      simp at hbad
      simp only [vmem] at hv
      omega
    rw [decide_eq_false hf]
    all_goals exact ⟨rfl, rfl⟩
  · have h0 : 0 ≤ n0 ∧ n0 ≤ 31 := by simp at hok; omega
    have hf : ¬ vmem (n0, n1, n2, n3, xs, ys, zs, n7, ()) := fun hv => by
      have w1 : ∀ k : Int, 1 ≤ k → (IntKind.i64.wrap (n0.tdiv k)).tmod 2 = n0 / k % 2 := fun k hk => by
        have := tdiv_le n0 k h0.1 hk
        rw [i64_quo _ _ ⟨h0.1, by omega, hk⟩, Int.tmod_eq_emod_of_nonneg this.1]
      rw [w1 4 (by omega), w1 8 (by omega), w1 16 (by omega)] at hbad
      simp at hbad
      simp only [vmem, mE, mN, mC] at hv
      omega
    rw [decide_eq_false hf]
    all_goals exact ⟨rfl, rfl⟩
  · have h0 : (0 ≤ n0 ∧ n0 ≤ 31) ∧ (0 ≤ n1 ∧ n1 ≤ 4294967295) ∧ (0 ≤ n2 ∧ n2 ≤ 255) ∧ (0 ≤ n3 ∧ n3 ≤ 255) := by simp at hok; omega
    have h2 : (xs.length = 0 ∨ n0 / 4 % 2 ≠ 0) ∧ (ys.length = 0 ∨ n0 / 8 % 2 ≠ 0) ∧ (zs.length = 0 ∨ n0 / 16 % 2 ≠ 0) := by
      have w1 : ∀ k : Int, 1 ≤ k → (IntKind.i64.wrap (n0.tdiv k)).tmod 2 = n0 / k % 2 := fun k hk => by
        have := tdiv_le n0 k h0.1.1 hk
        rw [i64_quo _ _ ⟨h0.1.1, by omega, hk⟩, Int.tmod_eq_emod_of_nonneg this.1]
      rw [w1 4 (by omega), w1 8 (by omega), w1 16 (by omega)] at hok2
      revert hok2
      generalize xs.length = A
      generalize ys.length = B
      generalize zs.length = C
      intro hok2
      simp at hok2
      omega
    have hm : vmem (n0, n1, n2, n3, xs, ys, zs, n7, ()) ↔ xs.length ≤ 65535 ∧ (0 : Int) ∉ ys ∧ (0 : Int) ∉ zs ∧ xs.length + ys.length + zs.length ≤ 65536 ∧ 0 ≤ n7 ∧ n7 ≤ 100000 := by
      simp only [vmem, mE, mN, mC]
      obtain ⟨a1, a2, a3, a4⟩ := h0
      obtain ⟨b1, b2, b3⟩ := h2
      exact ⟨fun ⟨_, _, _, _, c1, c2, _, _, _, c3, c4, c5⟩ => ⟨c1, c3, c4, c5, c2.1, c2.2⟩, fun ⟨c1, c3, c4, c5, c6, c7⟩ => ⟨a1, a2, a3, a4, c1, ⟨c6, c7⟩, b1, b2, b3, c3, c4, c5⟩⟩
    have ww : IntKind.i64.wrap (IntKind.i64.wrap ((xs.length : Int) + ys.length) + zs.length) = xs.length + ys.length + zs.length := by
      rw [i64_in ((xs.length : Int) + ys.length) (by omega), i64_in _ (by omega)]
    refine ⟨fun g4 => ?_, fun g4 _ => ?_⟩
    · refine (k_noZero hi a5 c5 ys hx5 l5).mono ?_
      rintro _ hq ⟨rfl, eq⟩
      rw [eq]
      refine ⟨_, rfl, fun g5 => ?_, fun g5 _ => ?_⟩
      · refine (k_noZero hi a6 c6 zs hx6 l6).mono ?_
        rintro _ hq ⟨rfl, eq⟩
        rw [eq]
        refine ⟨_, rfl, fun _ => ?_⟩
        have g5 : (0 : Int) ∉ ys := by simpa using g5
        rw [ww]
        refine ⟨?_, rfl⟩
        congr 1
        rw [Bool.eq_iff_iff, decide_eq_true_eq (p := vmem _), hm]
        by_cases g6 : (0 : Int) ∈ zs
        · simp [g6]
        · simp [g6, g5]; omega
      · have g5 : (0 : Int) ∈ ys := by simpa using g5
        rw [decide_eq_false (fun h => (hm.1 h).2.1 g5)]
        all_goals exact ⟨rfl, rfl⟩
    · rw [decide_eq_false (fun h => g4 (by have := (hm.1 h).1; omega))]
      all_goals exact ⟨rfl, rfl⟩


set_option maxRecDepth 100000 in
set_option maxHeartbeats 4000000 in
theorem g_impl_ValidMember (hi : Eng.Inv S h) {v : Value} {x : XMember} (O : tMember.O h v x) (L : limMember x) :
    CallsH Try.prog S F_impl_ValidMember #[v] h (fun v h' => v = .bool (decide (vmem x)) ∧ Eng.Sub h h') := by
  obtain ⟨u4, u5, u6, rfl, H4, H5, H6, _⟩ := tMember_O O
  obtain ⟨a4, c4, rfl, hc4, hx4⟩ := Part.ints H4
  obtain ⟨a5, c5, rfl, hc5, hx5⟩ := Part.ints H5
  obtain ⟨a6, c6, rfl, hc6, hx6⟩ := Part.ints H6
  obtain ⟨n0, n1, n2, n3, xs, ys, zs, n7, ⟨⟩⟩ := x
  have l4 : xs.length ≤ 1048576 := L.1
  have l5 : ys.length ≤ 1048576 := L.2.1
  have l6 : zs.length ≤ 1048576 := L.2.2
  simp only at hx4 hx5 hx6
  refine run_impl_ValidMember (vs := [.int .i64 n0, .int .i64 n1, .int .i64 n2, .int .i64 n3, .slice a4 xs.length c4, .slice a5 ys.length c5, .slice a6 zs.length c6, .int .i64 n7]) ⟨rfl, rfl, rfl, rfl, rfl, rfl, rfl, rfl, trivial⟩ hi ?_
  simp only [t_impl_ValidMember, Tr.wp, mksW, callW, Ex.ev, coerce, toInt_int, toBool_bool, slL_sl, slC_sl, slA_sl, toAddr_ptr, ptrOf_ptr, isNil_sl, isNil_ptr, it_and, it_or, it_int, optN_int, optN_nl, cmpI, arith, Cst.val, SV.den, resShs, resV, resSV, resVals, newVars, runCells, exSh, allSh, cellsAre, storeW, List.flatMap_cons, List.flatMap_nil, List.replicate_one, List.getD_cons_zero, List.getD_cons_succ, List.getElem?_cons_zero, List.getElem?_cons_succ, decide_eq_true_eq, decide_eq_false_iff_not, List.map_cons, List.map_nil, List.cons_append, List.nil_append, List.append_nil, List.length_cons, List.length_nil, Nat.zero_add, Nat.add_zero, and_true, true_and, if_true, if_false, Bool.false_eq_true]
  intro b hb
  obtain ⟨g, hg⟩ : ∃ g, g = upd h b (Obj.cells #[Value.int IntKind.i64 n0, Value.int IntKind.i64 n1, Value.int IntKind.i64 n2, Value.int IntKind.i64 n3, Value.slice a4 xs.length c4, Value.slice a5 ys.length c5, Value.slice a6 zs.length c6, Value.int IntKind.i64 n7] 40) := ⟨_, rfl⟩
  have s : Eng.Sub h g := by rw [hg]; exact Sub.of_upd hb
  have f0 : hcell g ⟨b, 0, none⟩ = some (.int .i64 n0) := by rw [hg]; simp [hcell, upd]
  have f1 : hcell g ⟨b, 1, none⟩ = some (.int .i64 n1) := by rw [hg]; simp [hcell, upd]
  have f2 : hcell g ⟨b, 2, none⟩ = some (.int .i64 n2) := by rw [hg]; simp [hcell, upd]
  have f3 : hcell g ⟨b, 3, none⟩ = some (.int .i64 n3) := by rw [hg]; simp [hcell, upd]
  have f4 : hcell g ⟨b, 4, none⟩ = some (.slice a4 xs.length c4) := by rw [hg]; simp [hcell, upd]
  have f5 : hcell g ⟨b, 5, none⟩ = some (.slice a5 ys.length c5) := by rw [hg]; simp [hcell, upd]
  have f6 : hcell g ⟨b, 6, none⟩ = some (.slice a6 zs.length c6) := by rw [hg]; simp [hcell, upd]
  have f7 : hcell g ⟨b, 7, none⟩ = some (.int .i64 n7) := by rw [hg]; simp [hcell, upd]
  have gi := hi.sub s
  rw [← hg]
  have fin : ∀ {p : Prop}, (vmem (n0, n1, n2, n3, xs, ys, zs, n7, ()) → p) → ¬ p → (Value.bool false = Value.bool (decide (vmem (n0, n1, n2, n3, xs, ys, zs, n7, ()))) ∧ Eng.Sub h g) := fun hp hn => by
    rw [decide_eq_false (fun hv => hn (hp hv))]
    exact ⟨rfl, s⟩
  simp only [addr_add, Nat.add_zero, Nat.zero_add]
  refine ⟨_, f0, (k_in gi n0 31).mono ?_⟩
  rintro _ hq ⟨rfl, eq⟩
  rw [eq]
  refine ⟨_, rfl, fun e0 => ?_, fun e0 _ => fin (fun h => h.1) (of_decide_eq_false e0)⟩
  have e0 := of_decide_eq_true e0
  refine ⟨_, f1, (k_in gi n1 4294967295).mono ?_⟩
  rintro _ hq ⟨rfl, eq⟩
  rw [eq]
  refine ⟨_, rfl, fun e1 => ?_, fun e1 _ => fin (fun h => h.2.1) (of_decide_eq_false e1)⟩
  have e1 := of_decide_eq_true e1
  refine ⟨_, f2, (k_in gi n2 255).mono ?_⟩
  rintro _ hq ⟨rfl, eq⟩
  rw [eq]
  refine ⟨_, rfl, fun e2 => ?_, fun e2 _ => fin (fun h => h.2.2.1) (of_decide_eq_false e2)⟩
  have e2 := of_decide_eq_true e2
  refine ⟨_, f3, (k_in gi n3 255).mono ?_⟩
  rintro _ hq ⟨rfl, eq⟩
  rw [eq]
  refine ⟨_, rfl, fun e3 => ?_, fun e3 _ => fin (fun h => h.2.2.2.1) (of_decide_eq_false e3)⟩
  have e3 := of_decide_eq_true e3
  refine ⟨_, _, _, f4, fun e4 => ?_, fun e4 _ => fin (fun h => h.2.2.2.2.1) (fun h => e4 (by have h : xs.length ≤ 65535 := h; omega))⟩
  refine ⟨_, f7, (k_in gi n7 100000).mono ?_⟩
  rintro _ hq ⟨rfl, eq⟩
  rw [eq]
  refine ⟨_, rfl, fun e5 => ?_, fun e5 _ => fin (fun h => h.2.2.2.2.2.1) (of_decide_eq_false e5)⟩
  have e5 := of_decide_eq_true e5
  have o4 : (Go.bits .and .i64 n0 4 != 0) = decide (n0 / 4 % 2 ≠ 0) := by
    have := and4 n0.toNat (by omega)
    rwa [Int.toNat_of_nonneg (by omega)] at this
  refine ⟨_, _, _, f4, (k_only gi a4 xs.length c4 n0 4 b f0).mono ?_⟩
  rintro _ hq ⟨rfl, eq⟩
  rw [eq, o4, ← Bool.decide_or]
  refine ⟨_, rfl, fun e6 => ?_, fun e6 _ => fin (fun h => h.2.2.2.2.2.2.1) (of_decide_eq_false e6)⟩
  have e6 := of_decide_eq_true e6
  have o5 : (Go.bits .and .i64 n0 8 != 0) = decide (n0 / 8 % 2 ≠ 0) := by
    have := and8 n0.toNat (by omega)
    rwa [Int.toNat_of_nonneg (by omega)] at this
  refine ⟨_, _, _, f5, (k_only gi a5 ys.length c5 n0 8 b f0).mono ?_⟩
  rintro _ hq ⟨rfl, eq⟩
  rw [eq, o5, ← Bool.decide_or]
  refine ⟨_, rfl, fun e7 => ?_, fun e7 _ => fin (fun h => h.2.2.2.2.2.2.2.1) (of_decide_eq_false e7)⟩
  have e7 := of_decide_eq_true e7
  have o6 : (Go.bits .and .i64 n0 16 != 0) = decide (n0 / 16 % 2 ≠ 0) := by
    have := and16 n0.toNat (by omega)
    rwa [Int.toNat_of_nonneg (by omega)] at this
  refine ⟨_, _, _, f6, (k_only gi a6 zs.length c6 n0 16 b f0).mono ?_⟩
  rintro _ hq ⟨rfl, eq⟩
  rw [eq, o6, ← Bool.decide_or]
  refine ⟨_, rfl, fun e8 => ?_, fun e8 _ => fin (fun h => h.2.2.2.2.2.2.2.2.1) (of_decide_eq_false e8)⟩
  have e8 := of_decide_eq_true e8
  refine ⟨_, _, _, f5, (k_plainText gi a5 c5 ys (HInts.sub hx5 s) l5).mono ?_⟩
  rintro _ hq ⟨rfl, eq⟩
  rw [eq]
  refine ⟨_, rfl, fun e9 => ?_, fun e9 _ => fin (fun h => h.2.2.2.2.2.2.2.2.2.1) (of_decide_eq_false e9)⟩
  have e9 := of_decide_eq_true e9
  refine ⟨_, _, _, f6, (k_plainText gi a6 c6 zs (HInts.sub hx6 s) l6).mono ?_⟩
  rintro _ hq ⟨rfl, eq⟩
  rw [eq]
  refine ⟨_, rfl, fun e10 => ?_, fun e10 _ => fin (fun h => h.2.2.2.2.2.2.2.2.2.2.1) (of_decide_eq_false e10)⟩
  have e10 := of_decide_eq_true e10
  have ww : IntKind.i64.wrap (IntKind.i64.wrap ((xs.length : Int) + ys.length) + zs.length) = xs.length + ys.length + zs.length := by
    rw [i64_in ((xs.length : Int) + ys.length) (by omega), i64_in _ (by omega)]
  refine ⟨_, _, _, f4, _, _, _, f5, _, _, _, f6, fun _ => ⟨?_, s⟩⟩
  rw [ww]
  congr 1
  rw [Bool.eq_iff_iff, decide_eq_true_eq (p := vmem _), decide_eq_true_eq]
  exact ⟨fun hl => ⟨e0, e1, e2, e3, (by show xs.length ≤ 65535; omega), e5, e6, e7, e8, e9, e10, (by show xs.length + ys.length + zs.length ≤ 65536; omega)⟩, fun h => by have h : xs.length + ys.length + zs.length ≤ 65536 := h.2.2.2.2.2.2.2.2.2.2.2; omega⟩

end Go.Proofs.Ytmnialmphlbmaaa
