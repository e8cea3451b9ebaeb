import Derived.Test.YtchlnichbaoeaaaKWinCopy
set_option linter.unusedVariables false
set_option linter.unusedSimpArgs false
namespace Go.Proofs.Ytchlnichbaoeaaa
open Go Go.Eng Go.IntWalk
variable {S : Nat → Prop} {h : Eng.Heap}
set_option maxRecDepth 100000 in
set_option maxHeartbeats 8000000 in
theorem k_WindowCopy (hi : Eng.Inv S h) (m00 : Int) (w00 : (Lit.int .i64 m00).wf = true) (a01 : Option Addr) (c01 : Nat) (xs01 : List Int) (hx01 : HInts h .u8 a01 xs01) (hl01 : xs01.length ≤ maxLen) (hw01 : ∀ x ∈ xs01, (Lit.int .u8 x).wf = true) (n1 : Int) (w1 : (Lit.int .i64 n1).wf = true) (n2 : Int) (w2 : (Lit.int .i64 n2).wf = true) :
    CallsH Try.prog S F_laws_FnExactWindowCopy #[.agg #[.int .i64 m00, .slice a01 xs01.length c01], .int .i64 n1, .int .i64 n2] h (fun v _ => v = .bool true) := by
  refine run_laws_FnExactWindowCopy (vs := [.int .i64 m00, .slice a01 xs01.length c01, .int .i64 n1, .int .i64 n2]) ⟨rfl, rfl, rfl, rfl, trivial⟩ hi ?_
  simp (maxSteps := 4000000) only [t_laws_FnExactWindowCopy, Tr.wp, mksW, callW, Ex.ev, coerce, toInt_int, toBool_bool, slL_sl, slC_sl, slA_sl, toAddr_ptr, ptrOf_ptr, isNil_sl, isNil_ptr, it_and, it_or, it_int, optN_int, optN_nl, cmpI, arith, Cst.val, SV.den, resShs, resV, resSV, resVals, newVars, runCells, exSh, allSh, cellsAre, storeW, List.flatMap_cons, List.flatMap_nil, List.replicate_one, List.getD_cons_zero, List.getD_cons_succ, List.getElem?_cons_zero, List.getElem?_cons_succ, decide_eq_true_eq, decide_eq_false_iff_not, List.map_cons, List.map_nil, List.cons_append, List.nil_append, List.append_nil, List.length_cons, List.length_nil, Nat.zero_add, Nat.add_zero, and_true, true_and, if_true, if_false, Bool.false_eq_true]
  have R0 : tWindow.R h (.agg #[.int .i64 m00, .slice a01 xs01.length c01]) (m00, xs01, ()) := tWindow_mkR (x := (m00, xs01, ())) ⟨_, _, rfl, hx01⟩
  refine (c_szWindow hi R0 (by assumption)).mono ?_
  rintro _ hq ⟨kk0, rfl, eq, hk0⟩
  rw [eq]
  refine ⟨_, rfl, fun _ => trivial, fun hge0 => ?_⟩
  have L0 : limWindow (m00, xs01, ()) := hk0 (by omega)
  have s0 : Eng.Sub h h := fun _ _ e => e
  have sa : smCopyRes (ans_WindowCopy (m00, xs01, ()) n1 n2) := sm_WindowCopy L0
  refine (c_toWindow (hi.sub s0) (tWindow.Rsub R0 s0) (limWindow_sm L0)).mono ?_
  rintro v1 h1 ⟨O1, N1, t1⟩
  obtain ⟨b11, e11, rfl⟩ := tWindow_F (tWindow.OR O1)
  refine ⟨_, _, _, _, rfl, ?_⟩
  have s1 := s0.trans t1
  refine (g_spec_WindowCopy (hi.sub s1) (Ty.Osub O1 (fun _ _ e => e)) L0 n1 w1 n2 w2).mono ?_
  rintro v2 h2 ⟨O2, N2, t2⟩
  obtain ⟨b21, e21, b23, e23, rfl⟩ := tCopyRes_F (tCopyRes.OR O2)
  refine ⟨_, _, _, _, _, _, _, _, rfl, ?_⟩
  have s2 := s1.trans t2
  refine (c_toWindow (hi.sub s2) (tWindow.Rsub R0 s2) (limWindow_sm L0)).mono ?_
  rintro v3 h3 ⟨O3, N3, t3⟩
  obtain ⟨b31, e31, rfl⟩ := tWindow_F (tWindow.OR O3)
  refine ⟨_, _, _, _, rfl, ?_⟩
  have s3 := s2.trans t3
  refine (g_impl_WindowCopy (hi.sub s3) (Ty.Osub O3 (fun _ _ e => e)) L0 n1 w1 n2 w2).mono ?_
  rintro v4 h4 ⟨O4, N4, t4⟩
  obtain ⟨b41, e41, b43, e43, rfl⟩ := tCopyRes_F (tCopyRes.OR O4)
  refine ⟨_, _, _, _, _, _, _, _, rfl, ?_⟩
  have s4 := s3.trans t4
  refine (c_eqCopyRes (hi.sub s4) (tCopyRes.OR O4) (tCopyRes.OR (Ty.Osub O2 (t3.trans (t4)))) sa).mono ?_
  rintro _ hq ⟨rfl, eq⟩
  rw [eq]
  refine ⟨_, rfl, fun hne => by simp at hne, fun _ => ?_⟩
  refine (c_toWindow (hi.sub s4) (tWindow.Rsub R0 s4) (limWindow_sm L0)).mono ?_
  rintro v5 h5 ⟨O5, N5, t5⟩
  obtain ⟨b51, e51, rfl⟩ := tWindow_F (tWindow.OR O5)
  refine ⟨_, _, _, _, rfl, ?_⟩
  have s5 := s4.trans t5
  refine (c_eqWindow (hi.sub s5) (tWindow.OR (Ty.Osub O3 (t4.trans (t5)))) (tWindow.OR O5) (limWindow_sm L0)).mono ?_
  rintro _ hq ⟨rfl, eq⟩
  rw [eq]
  refine ⟨_, rfl, fun hne => by simp at hne, fun _ => ?_⟩
  have OG := Ty.Osub O4 (t5)
  have OW := Ty.Osub O2 (t3.trans (t4.trans (t5)))
  have OX0 := Ty.Osub O3 (t4.trans (t5))
  have dWG := Ty.far (A := tCopyRes) (L := tCopyRes) (Ty.Osub O2 (t3)) N4
  have dX0G := Ty.far (A := tWindow) (L := tCopyRes) (Ty.Osub O3 (fun _ _ e => e)) N4
  have dWX0 := Ty.far (A := tCopyRes) (L := tWindow) (Ty.Osub O2 (fun _ _ e => e)) N3
  have h5n : ∀ {b : Nat}, h b = none → ¬ S b := fun hb hs => hi _ hs hb
  refine (c_markWindow (hi.sub s5) OX0 (fun b hb => h5n (sub_none s2 (N3 b hb))) (1) (by have := cntWindow_le (limWindow_sm L0); omega) (by have := cntWindow_le (limWindow_sm L0); omega) (limWindow_sm L0)).mono ?_
  rintro _ h6 ⟨rfl, _, f6⟩
  have s6 : Eng.Sub h h6 := Sub.other s5 (fun b hb => sub_none s2 (N3 b hb)) f6
  replace OG := Ty.Oother OG (dis_symm dX0G) f6
  replace OW := Ty.Oother OW dWX0 f6
  refine ⟨_, rfl, fun _ => ?_, fun hneg => by simp at hneg; omega⟩
  refine (c_eqCopyRes (hi.sub s6) (tCopyRes.OR OG) (tCopyRes.OR OW) sa).mono ?_
  rintro _ hq ⟨rfl, eq⟩
  rw [eq]
  refine ⟨_, rfl, fun _ => ⟨fun hne => by simp at hne, fun _ => ?_⟩⟩
  have ca := cntCopyRes_le sa
  refine (c_markCopyRes (hi.sub s6) OG (fun b hb => h5n (sub_none s3 (N4 b hb))) 1 (by omega) (by omega) sa).mono ?_
  rintro _ h7 ⟨rfl, OM, f7⟩
  have s7 : Eng.Sub h h7 := Sub.other s6 (fun b hb => sub_none s3 (N4 b hb)) f7
  replace OW := Ty.Oother OW dWG f7
  refine ⟨_, rfl, ?_⟩
  refine (c_heldCopyRes (hi.sub s7) 1 (tCopyRes.OR OM) (by omega) (by omega) sa).mono ?_
  rintro _ hq ⟨rfl, eq⟩
  rw [eq]
  refine ⟨_, rfl, fun hneg => by omega, fun _ => ⟨fun hne => by simp at hne, fun _ => ?_⟩⟩
  refine (c_toWindow (hi.sub s7) (tWindow.Rsub R0 s7) (limWindow_sm L0)).mono ?_
  rintro v8 h8 ⟨O8, N8, t8⟩
  obtain ⟨b81, e81, rfl⟩ := tWindow_F (tWindow.OR O8)
  refine ⟨_, _, _, _, rfl, ?_⟩
  have s8 := s7.trans t8
  refine (g_impl_WindowCopy (hi.sub s8) (Ty.Osub O8 (fun _ _ e => e)) L0 n1 w1 n2 w2).mono ?_
  rintro v9 h9 ⟨O9, N9, t9⟩
  obtain ⟨b91, e91, b93, e93, rfl⟩ := tCopyRes_F (tCopyRes.OR O9)
  refine ⟨_, _, _, _, _, _, _, _, rfl, ?_⟩
  have s9 := s8.trans t9
  refine (c_eqCopyRes (hi.sub s9) (tCopyRes.OR O9) (tCopyRes.OR (Ty.Osub OW (t8.trans (t9)))) sa).mono ?_
  rintro _ hq ⟨rfl, eq⟩
  rw [eq]
  refine ⟨_, rfl, fun hne => by simp at hne, fun _ => ?_⟩
  refine (c_heldCopyRes (hi.sub s9) 1 (tCopyRes.OR (Ty.Osub OM (t8.trans (t9)))) (by omega) (by omega) sa).mono ?_
  rintro _ hq ⟨rfl, eq⟩
  exact ⟨_, rfl, fun hneg => by omega, fun _ => ⟨fun hne => by simp at hne, fun _ => trivial⟩⟩
end Go.Proofs.Ytchlnichbaoeaaa
