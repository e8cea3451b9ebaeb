import Derived.Test.YtchlnichbaoeaaaKWinNew
set_option linter.unusedVariables false
set_option linter.unusedSimpArgs false
namespace Go.Proofs.Ytchlnichbaoeaaa
open Go Go.Eng Go.IntWalk
variable {S : Nat → Prop} {h : Eng.Heap}
set_option maxRecDepth 100000 in
set_option maxHeartbeats 8000000 in
theorem k_WindowNew (hi : Eng.Inv S h) (n0 : Int) (w0 : (Lit.int .i64 n0).wf = true) (a1 : Option Addr) (c1 : Nat) (xs1 : List Int) (hx1 : HInts h .u8 a1 xs1) (hl1 : xs1.length ≤ maxLen) (hw1 : ∀ x ∈ xs1, (Lit.int .u8 x).wf = true) :
    CallsH Try.prog S F_laws_FnExactWindowNew #[.int .i64 n0, .slice a1 xs1.length c1] h (fun v _ => v = .bool true) := by
  refine run_laws_FnExactWindowNew (vs := [.int .i64 n0, .slice a1 xs1.length c1]) ⟨rfl, rfl, trivial⟩ hi ?_
  simp (maxSteps := 4000000) only [t_laws_FnExactWindowNew, Tr.wp, mksW, callW, Ex.ev, coerce, toInt_int, toBool_bool, slL_sl, slC_sl, slA_sl, toAddr_ptr, ptrOf_ptr, isNil_sl, isNil_ptr, it_and, it_or, it_int, optN_int, optN_nl, cmpI, arith, Cst.val, SV.den, resShs, resV, resSV, resVals, newVars, runCells, exSh, allSh, cellsAre, storeW, List.flatMap_cons, List.flatMap_nil, List.replicate_one, List.getD_cons_zero, List.getD_cons_succ, List.getElem?_cons_zero, List.getElem?_cons_succ, decide_eq_true_eq, decide_eq_false_iff_not, List.map_cons, List.map_nil, List.cons_append, List.nil_append, List.append_nil, List.length_cons, List.length_nil, Nat.zero_add, Nat.add_zero, and_true, true_and, if_true, if_false, Bool.false_eq_true]
  have R1 : tB.R h (.slice a1 xs1.length c1) xs1 := ⟨_, _, rfl, hx1⟩
  refine ⟨fun _ => trivial, fun hsm1 => ?_⟩
  have L1 : limB xs1 := by have := hl1; show List.length _ ≤ _; omega
  have s0 : Eng.Sub h h := fun _ _ e => e
  have sa : smWindow (ans_WindowNew n0 xs1) := sm_WindowNew L1
  refine (c_toB (hi.sub s0) (tB.Rsub R1 s0) (limB_sm L1)).mono ?_
  rintro v1 h1 ⟨O1, N1, t1⟩
  obtain ⟨b10, e10, rfl⟩ := tB_F (tB.OR O1)
  refine ⟨_, _, _, rfl, ?_⟩
  have s1 := s0.trans t1
  refine (g_spec_WindowNew (hi.sub s1) n0 w0 (Ty.Osub O1 (fun _ _ e => e)) L1).mono ?_
  rintro v2 h2 ⟨O2, N2, t2⟩
  obtain ⟨b21, e21, rfl⟩ := tWindow_F (tWindow.OR O2)
  refine ⟨_, _, _, _, rfl, ?_⟩
  have s2 := s1.trans t2
  refine (c_toB (hi.sub s2) (tB.Rsub R1 s2) (limB_sm L1)).mono ?_
  rintro v3 h3 ⟨O3, N3, t3⟩
  obtain ⟨b30, e30, rfl⟩ := tB_F (tB.OR O3)
  refine ⟨_, _, _, rfl, ?_⟩
  have s3 := s2.trans t3
  refine (g_impl_WindowNew (hi.sub s3) n0 w0 (Ty.Osub O3 (fun _ _ e => e)) L1).mono ?_
  rintro v4 h4 ⟨O4, N4, t4⟩
  obtain ⟨b41, e41, rfl⟩ := tWindow_F (tWindow.OR O4)
  refine ⟨_, _, _, _, rfl, ?_⟩
  have s4 := s3.trans t4
  refine (c_eqWindow (hi.sub s4) (tWindow.OR O4) (tWindow.OR (Ty.Osub O2 (t3.trans (t4)))) sa).mono ?_
  rintro _ hq ⟨rfl, eq⟩
  rw [eq]
  refine ⟨_, rfl, fun hne => by simp at hne, fun _ => ?_⟩
  refine (c_toB (hi.sub s4) (tB.Rsub R1 s4) (limB_sm L1)).mono ?_
  rintro v5 h5 ⟨O5, N5, t5⟩
  obtain ⟨b50, e50, rfl⟩ := tB_F (tB.OR O5)
  refine ⟨_, _, _, rfl, ?_⟩
  have s5 := s4.trans t5
  refine (c_eqB (hi.sub s5) (tB.OR (Ty.Osub O3 (t4.trans (t5)))) (tB.OR O5) (limB_sm L1)).mono ?_
  rintro _ hq ⟨rfl, eq⟩
  rw [eq]
  refine ⟨_, rfl, fun hne => by simp at hne, fun _ => ?_⟩
  have OG := Ty.Osub O4 (t5)
  have OW := Ty.Osub O2 (t3.trans (t4.trans (t5)))
  have OX1 := Ty.Osub O3 (t4.trans (t5))
  have dWG := Ty.far (A := tWindow) (L := tWindow) (Ty.Osub O2 (t3)) N4
  have dX1G := Ty.far (A := tB) (L := tWindow) (Ty.Osub O3 (fun _ _ e => e)) N4
  have dWX1 := Ty.far (A := tWindow) (L := tB) (Ty.Osub O2 (fun _ _ e => e)) N3
  have h5n : ∀ {b : Nat}, h b = none → ¬ S b := fun hb hs => hi _ hs hb
  refine (c_markB (hi.sub s5) OX1 (fun b hb => h5n (sub_none s2 (N3 b hb))) (1) (by have := cntB_le (limB_sm L1); omega) (by have := cntB_le (limB_sm L1); omega) (limB_sm L1)).mono ?_
  rintro _ h6 ⟨rfl, _, f6⟩
  have s6 : Eng.Sub h h6 := Sub.other s5 (fun b hb => sub_none s2 (N3 b hb)) f6
  replace OG := Ty.Oother OG (dis_symm dX1G) f6
  replace OW := Ty.Oother OW dWX1 f6
  refine ⟨_, rfl, fun _ => ?_, fun hneg => by simp at hneg; omega⟩
  refine (c_eqWindow (hi.sub s6) (tWindow.OR OG) (tWindow.OR OW) sa).mono ?_
  rintro _ hq ⟨rfl, eq⟩
  rw [eq]
  refine ⟨_, rfl, fun _ => ⟨fun hne => by simp at hne, fun _ => ?_⟩⟩
  have ca := cntWindow_le sa
  refine (c_markWindow (hi.sub s6) OG (fun b hb => h5n (sub_none s3 (N4 b hb))) 1 (by omega) (by omega) sa).mono ?_
  rintro _ h7 ⟨rfl, OM, f7⟩
  have s7 : Eng.Sub h h7 := Sub.other s6 (fun b hb => sub_none s3 (N4 b hb)) f7
  replace OW := Ty.Oother OW dWG f7
  refine ⟨_, rfl, ?_⟩
  refine (c_heldWindow (hi.sub s7) 1 (tWindow.OR OM) (by omega) (by omega) sa).mono ?_
  rintro _ hq ⟨rfl, eq⟩
  rw [eq]
  refine ⟨_, rfl, fun hneg => by omega, fun _ => ⟨fun hne => by simp at hne, fun _ => ?_⟩⟩
  refine (c_toB (hi.sub s7) (tB.Rsub R1 s7) (limB_sm L1)).mono ?_
  rintro v8 h8 ⟨O8, N8, t8⟩
  obtain ⟨b80, e80, rfl⟩ := tB_F (tB.OR O8)
  refine ⟨_, _, _, rfl, ?_⟩
  have s8 := s7.trans t8
  refine (g_impl_WindowNew (hi.sub s8) n0 w0 (Ty.Osub O8 (fun _ _ e => e)) L1).mono ?_
  rintro v9 h9 ⟨O9, N9, t9⟩
  obtain ⟨b91, e91, rfl⟩ := tWindow_F (tWindow.OR O9)
  refine ⟨_, _, _, _, rfl, ?_⟩
  have s9 := s8.trans t9
  refine (c_eqWindow (hi.sub s9) (tWindow.OR O9) (tWindow.OR (Ty.Osub OW (t8.trans (t9)))) sa).mono ?_
  rintro _ hq ⟨rfl, eq⟩
  rw [eq]
  refine ⟨_, rfl, fun hne => by simp at hne, fun _ => ?_⟩
  refine (c_heldWindow (hi.sub s9) 1 (tWindow.OR (Ty.Osub OM (t8.trans (t9)))) (by omega) (by omega) sa).mono ?_
  rintro _ hq ⟨rfl, eq⟩
  exact ⟨_, rfl, fun hneg => by omega, fun _ => ⟨fun hne => by simp at hne, fun _ => trivial⟩⟩
end Go.Proofs.Ytchlnichbaoeaaa
