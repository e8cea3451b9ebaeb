import Derived.Test.YtchlnichbaoeaaaKWinPut
set_option linter.unusedVariables false
set_option linter.unusedSimpArgs false
namespace Go.Proofs.Ytchlnichbaoeaaa
open Go Go.Eng Go.IntWalk
variable {S : Nat → Prop} {h : Eng.Heap}
set_option maxRecDepth 100000 in
set_option maxHeartbeats 8000000 in
theorem k_WindowPut (hi : Eng.Inv S h) (m00 : Int) (w00 : (Lit.int .i64 m00).wf = true) (a01 : Option Addr) (c01 : Nat) (xs01 : List Int) (hx01 : HInts h .u8 a01 xs01) (hl01 : xs01.length ≤ maxLen) (hw01 : ∀ x ∈ xs01, (Lit.int .u8 x).wf = true) (a1 : Option Addr) (c1 : Nat) (xs1 : List Int) (hx1 : HInts h .u8 a1 xs1) (hl1 : xs1.length ≤ maxLen) (hw1 : ∀ x ∈ xs1, (Lit.int .u8 x).wf = true) :
    CallsH Try.prog S F_laws_FnExactWindowPut #[.agg #[.int .i64 m00, .slice a01 xs01.length c01], .slice a1 xs1.length c1] h (fun v _ => v = .bool true) := by
  refine run_laws_FnExactWindowPut (vs := [.int .i64 m00, .slice a01 xs01.length c01, .slice a1 xs1.length c1]) ⟨rfl, rfl, rfl, trivial⟩ hi ?_
  simp (maxSteps := 4000000) only [t_laws_FnExactWindowPut, Tr.wp, mksW, callW, Ex.ev, coerce, toInt_int, toBool_bool, slL_sl, slC_sl, slA_sl, toAddr_ptr, ptrOf_ptr, isNil_sl, isNil_ptr, it_and, it_or, it_int, optN_int, optN_nl, cmpI, arith, Cst.val, SV.den, resShs, resV, resSV, resVals, newVars, runCells, exSh, allSh, cellsAre, storeW, List.flatMap_cons, List.flatMap_nil, List.replicate_one, List.getD_cons_zero, List.getD_cons_succ, List.getElem?_cons_zero, List.getElem?_cons_succ, decide_eq_true_eq, decide_eq_false_iff_not, List.map_cons, List.map_nil, List.cons_append, List.nil_append, List.append_nil, List.length_cons, List.length_nil, Nat.zero_add, Nat.add_zero, and_true, true_and, if_true, if_false, Bool.false_eq_true]
  have R0 : tWindow.R h (.agg #[.int .i64 m00, .slice a01 xs01.length c01]) (m00, xs01, ()) := tWindow_mkR (x := (m00, xs01, ())) ⟨_, _, rfl, hx01⟩
  have R1 : tB.R h (.slice a1 xs1.length c1) xs1 := ⟨_, _, rfl, hx1⟩
  refine ⟨fun _ => trivial, fun hsm1 => ?_⟩
  have L1 : limB xs1 := by have := hl1; show List.length _ ≤ _; omega
  refine (c_szWindow hi R0 (by assumption)).mono ?_
  rintro _ hq ⟨kk0, rfl, eq, hk0⟩
  rw [eq]
  refine ⟨_, rfl, fun _ => trivial, fun hge0 => ?_⟩
  have L0 : limWindow (m00, xs01, ()) := hk0 (by omega)
  have s0 : Eng.Sub h h := fun _ _ e => e
  have sa : smWindow (ans_WindowPut (m00, xs01, ()) xs1) := sm_WindowPut L0 L1
  refine (c_toWindow (hi.sub s0) (tWindow.Rsub R0 s0) (limWindow_sm L0)).mono ?_
  rintro v1 h1 ⟨O1, N1, t1⟩
  obtain ⟨b11, e11, rfl⟩ := tWindow_F (tWindow.OR O1)
  refine ⟨_, _, _, _, rfl, ?_⟩
  have s1 := s0.trans t1
  refine (c_toB (hi.sub s1) (tB.Rsub R1 s1) (limB_sm L1)).mono ?_
  rintro v2 h2 ⟨O2, N2, t2⟩
  obtain ⟨b20, e20, rfl⟩ := tB_F (tB.OR O2)
  refine ⟨_, _, _, rfl, ?_⟩
  have s2 := s1.trans t2
  refine (g_spec_WindowPut (hi.sub s2) (Ty.Osub O1 (t2)) L0 (Ty.Osub O2 (fun _ _ e => e)) L1).mono ?_
  rintro v3 h3 ⟨O3, N3, t3⟩
  obtain ⟨b31, e31, rfl⟩ := tWindow_F (tWindow.OR O3)
  refine ⟨_, _, _, _, rfl, ?_⟩
  have s3 := s2.trans t3
  refine (c_toWindow (hi.sub s3) (tWindow.Rsub R0 s3) (limWindow_sm L0)).mono ?_
  rintro v4 h4 ⟨O4, N4, t4⟩
  obtain ⟨b41, e41, rfl⟩ := tWindow_F (tWindow.OR O4)
  refine ⟨_, _, _, _, rfl, ?_⟩
  have s4 := s3.trans t4
  refine (c_toB (hi.sub s4) (tB.Rsub R1 s4) (limB_sm L1)).mono ?_
  rintro v5 h5 ⟨O5, N5, t5⟩
  obtain ⟨b50, e50, rfl⟩ := tB_F (tB.OR O5)
  refine ⟨_, _, _, rfl, ?_⟩
  have s5 := s4.trans t5
  refine (g_impl_WindowPut (hi.sub s5) (Ty.Osub O4 (t5)) L0 (Ty.Osub O5 (fun _ _ e => e)) L1).mono ?_
  rintro v6 h6 ⟨O6, N6, t6⟩
  obtain ⟨b61, e61, rfl⟩ := tWindow_F (tWindow.OR O6)
  refine ⟨_, _, _, _, rfl, ?_⟩
  have s6 := s5.trans t6
  refine (c_eqWindow (hi.sub s6) (tWindow.OR O6) (tWindow.OR (Ty.Osub O3 (t4.trans (t5.trans (t6))))) sa).mono ?_
  rintro _ hq ⟨rfl, eq⟩
  rw [eq]
  refine ⟨_, rfl, fun hne => by simp at hne, fun _ => ?_⟩
  refine (c_toWindow (hi.sub s6) (tWindow.Rsub R0 s6) (limWindow_sm L0)).mono ?_
  rintro v7 h7 ⟨O7, N7, t7⟩
  obtain ⟨b71, e71, rfl⟩ := tWindow_F (tWindow.OR O7)
  refine ⟨_, _, _, _, rfl, ?_⟩
  have s7 := s6.trans t7
  refine (c_eqWindow (hi.sub s7) (tWindow.OR (Ty.Osub O4 (t5.trans (t6.trans (t7))))) (tWindow.OR O7) (limWindow_sm L0)).mono ?_
  rintro _ hq ⟨rfl, eq⟩
  rw [eq]
  refine ⟨_, rfl, fun hne => by simp at hne, fun _ => ?_⟩
  refine (c_toB (hi.sub s7) (tB.Rsub R1 s7) (limB_sm L1)).mono ?_
  rintro v8 h8 ⟨O8, N8, t8⟩
  obtain ⟨b80, e80, rfl⟩ := tB_F (tB.OR O8)
  refine ⟨_, _, _, rfl, ?_⟩
  have s8 := s7.trans t8
  refine (c_eqB (hi.sub s8) (tB.OR (Ty.Osub O5 (t6.trans (t7.trans (t8))))) (tB.OR O8) (limB_sm L1)).mono ?_
  rintro _ hq ⟨rfl, eq⟩
  rw [eq]
  refine ⟨_, rfl, fun hne => by simp at hne, fun _ => ?_⟩
  have OG := Ty.Osub O6 (t7.trans (t8))
  have OW := Ty.Osub O3 (t4.trans (t5.trans (t6.trans (t7.trans (t8)))))
  have OX0 := Ty.Osub O4 (t5.trans (t6.trans (t7.trans (t8))))
  have OX1 := Ty.Osub O5 (t6.trans (t7.trans (t8)))
  have dWG := Ty.far (A := tWindow) (L := tWindow) (Ty.Osub O3 (t4.trans (t5))) N6
  have dX0G := Ty.far (A := tWindow) (L := tWindow) (Ty.Osub O4 (t5)) N6
  have dWX0 := Ty.far (A := tWindow) (L := tWindow) (Ty.Osub O3 (fun _ _ e => e)) N4
  have dX1G := Ty.far (A := tB) (L := tWindow) (Ty.Osub O5 (fun _ _ e => e)) N6
  have dWX1 := Ty.far (A := tWindow) (L := tB) (Ty.Osub O3 (t4)) N5
  have dX0X1 := Ty.far (A := tWindow) (L := tB) (Ty.Osub O4 (fun _ _ e => e)) N5
  have h8n : ∀ {b : Nat}, h b = none → ¬ S b := fun hb hs => hi _ hs hb
  refine (c_markWindow (hi.sub s8) OX0 (fun b hb => h8n (sub_none s3 (N4 b hb))) (1) (by have := cntWindow_le (limWindow_sm L0); omega) (by have := cntWindow_le (limWindow_sm L0); have := cntB_le (limB_sm L1); omega) (limWindow_sm L0)).mono ?_
  rintro _ h9 ⟨rfl, _, f9⟩
  have s9 : Eng.Sub h h9 := Sub.other s8 (fun b hb => sub_none s3 (N4 b hb)) f9
  replace OG := Ty.Oother OG (dis_symm dX0G) f9
  replace OW := Ty.Oother OW dWX0 f9
  replace OX1 := Ty.Oother OX1 (dis_symm dX0X1) f9
  refine ⟨_, rfl, ?_⟩
  refine (c_markB (hi.sub s9) OX1 (fun b hb => h8n (sub_none s4 (N5 b hb))) (1 + (cntWindow (m00, xs01, ()) : Nat)) (by have := cntB_le (limB_sm L1); omega) (by have := cntWindow_le (limWindow_sm L0); have := cntB_le (limB_sm L1); omega) (limB_sm L1)).mono ?_
  rintro _ h10 ⟨rfl, _, f10⟩
  have s10 : Eng.Sub h h10 := Sub.other s9 (fun b hb => sub_none s4 (N5 b hb)) f10
  replace OG := Ty.Oother OG (dis_symm dX1G) f10
  replace OW := Ty.Oother OW dWX1 f10
  refine ⟨_, rfl, fun _ => ?_, fun hneg => by simp at hneg; omega⟩
  refine (c_eqWindow (hi.sub s10) (tWindow.OR OG) (tWindow.OR OW) sa).mono ?_
  rintro _ hq ⟨rfl, eq⟩
  rw [eq]
  refine ⟨_, rfl, fun _ => ⟨fun hne => by simp at hne, fun _ => ?_⟩⟩
  have ca := cntWindow_le sa
  refine (c_markWindow (hi.sub s10) OG (fun b hb => h8n (sub_none s5 (N6 b hb))) 1 (by omega) (by omega) sa).mono ?_
  rintro _ h11 ⟨rfl, OM, f11⟩
  have s11 : Eng.Sub h h11 := Sub.other s10 (fun b hb => sub_none s5 (N6 b hb)) f11
  replace OW := Ty.Oother OW dWG f11
  refine ⟨_, rfl, ?_⟩
  refine (c_heldWindow (hi.sub s11) 1 (tWindow.OR OM) (by omega) (by omega) sa).mono ?_
  rintro _ hq ⟨rfl, eq⟩
  rw [eq]
  refine ⟨_, rfl, fun hneg => by omega, fun _ => ⟨fun hne => by simp at hne, fun _ => ?_⟩⟩
  refine (c_toWindow (hi.sub s11) (tWindow.Rsub R0 s11) (limWindow_sm L0)).mono ?_
  rintro v12 h12 ⟨O12, N12, t12⟩
  obtain ⟨b121, e121, rfl⟩ := tWindow_F (tWindow.OR O12)
  refine ⟨_, _, _, _, rfl, ?_⟩
  have s12 := s11.trans t12
  refine (c_toB (hi.sub s12) (tB.Rsub R1 s12) (limB_sm L1)).mono ?_
  rintro v13 h13 ⟨O13, N13, t13⟩
  obtain ⟨b130, e130, rfl⟩ := tB_F (tB.OR O13)
  refine ⟨_, _, _, rfl, ?_⟩
  have s13 := s12.trans t13
  refine (g_impl_WindowPut (hi.sub s13) (Ty.Osub O12 (t13)) L0 (Ty.Osub O13 (fun _ _ e => e)) L1).mono ?_
  rintro v14 h14 ⟨O14, N14, t14⟩
  obtain ⟨b141, e141, rfl⟩ := tWindow_F (tWindow.OR O14)
  refine ⟨_, _, _, _, rfl, ?_⟩
  have s14 := s13.trans t14
  refine (c_eqWindow (hi.sub s14) (tWindow.OR O14) (tWindow.OR (Ty.Osub OW (t12.trans (t13.trans (t14))))) sa).mono ?_
  rintro _ hq ⟨rfl, eq⟩
  rw [eq]
  refine ⟨_, rfl, fun hne => by simp at hne, fun _ => ?_⟩
  refine (c_heldWindow (hi.sub s14) 1 (tWindow.OR (Ty.Osub OM (t12.trans (t13.trans (t14))))) (by omega) (by omega) sa).mono ?_
  rintro _ hq ⟨rfl, eq⟩
  exact ⟨_, rfl, fun hneg => by omega, fun _ => ⟨fun hne => by simp at hne, fun _ => trivial⟩⟩
end Go.Proofs.Ytchlnichbaoeaaa
