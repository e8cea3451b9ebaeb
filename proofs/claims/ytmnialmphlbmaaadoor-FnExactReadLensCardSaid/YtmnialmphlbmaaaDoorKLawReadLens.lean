import Derived.Test.YtmnialmphlbmaaaDoorKRLens
set_option linter.unusedVariables false
set_option linter.unusedSimpArgs false
namespace Go.Proofs.YtmnialmphlbmaaaDoor
open Go Go.Eng Go.IntWalk
variable {S : Shared} {s : Nat → Prop} {h : Eng.Heap}
set_option maxRecDepth 100000 in
set_option maxHeartbeats 8000000 in
theorem k_ReadLens (hi : Eng.Inv S h) (ge : Errs h) (et : ErrT h) (a0 : Option Addr) (c0 : Nat) (xs0 : List Int) (hx0 : HInts h .u8 a0 xs0) (hl0 : xs0.length ≤ maxLen) (hw0 : ∀ x ∈ xs0, (Lit.int .u8 x).wf = true) (n1 : Int) (w1 : (Lit.int .i64 n1).wf = true) :
    CallsH Tryd.prog S F_laws_FnExactReadLens #[.slice a0 xs0.length c0, .int .i64 n1] h (fun v _ => v = .bool true) := by
  refine run_laws_FnExactReadLens (vs := [.slice a0 xs0.length c0, .int .i64 n1]) ⟨rfl, rfl, trivial⟩ hi ?_
  simp (maxSteps := 4000000) only [t_laws_FnExactReadLens, Tr.wp, mksW, callW, Ex.ev, coerce, toInt_int, toBool_bool, slL_sl, slC_sl, slA_sl, toAddr_ptr, ptrOf_ptr, isNil_sl, isNil_ptr, it_and, it_or, it_int, optN_int, optN_nl, cmpI, arith, Cst.val, SV.den, resShs, resV, resSV, resVals, newVars, runCells, exSh, allSh, cellsAre, storeW, List.flatMap_cons, List.flatMap_nil, List.replicate_one, List.getD_cons_zero, List.getD_cons_succ, List.getElem?_cons_zero, List.getElem?_cons_succ, decide_eq_true_eq, decide_eq_false_iff_not, List.map_cons, List.map_nil, List.cons_append, List.nil_append, List.append_nil, List.length_cons, List.length_nil, Nat.zero_add, Nat.add_zero, and_true, true_and, if_true, if_false, Bool.false_eq_true]
  have R0 : tB.R h (.slice a0 xs0.length c0) xs0 := ⟨_, _, rfl, hx0⟩
  refine ⟨fun _ => trivial, fun hsm0 => ?_⟩
  have L0 : limB xs0 := by have := hl0; show List.length _ ≤ _; omega
  have s0 : Eng.Sub h h := fun _ _ e => e
  have sa : smLensRes (ans_ReadLens xs0 n1) := sm_ReadLens L0
  refine (c_toB (hi.sub s0) (tB.Rsub R0 s0) (limB_sm L0)).mono ?_
  rintro v1 h1 ⟨O1, N1, t1⟩
  obtain ⟨b10, e10, rfl⟩ := tB_F (tB.OR O1)
  refine ⟨_, _, _, rfl, ?_⟩
  have s1 := s0.trans t1
  refine (g_spec_ReadLens (hi.sub s1) (Ty.Osub O1 (fun _ _ e => e)) L0 n1 w1).mono ?_
  rintro v2 h2 ⟨O2, N2, t2⟩
  obtain ⟨b21, e21, b22, e22, rfl⟩ := tLensRes_F (tLensRes.OR O2)
  refine ⟨_, _, _, _, _, _, _, _, rfl, ?_⟩
  have s2 := s1.trans t2
  refine (c_toB (hi.sub s2) (tB.Rsub R0 s2) (limB_sm L0)).mono ?_
  rintro v3 h3 ⟨O3, N3, t3⟩
  obtain ⟨b30, e30, rfl⟩ := tB_F (tB.OR O3)
  refine ⟨_, _, _, rfl, ?_⟩
  have s3 := s2.trans t3
  refine (g_impl_ReadLens (hi.sub s3) (ge.sub s3) (et.sub s3) (Ty.Osub O3 (fun _ _ e => e)) L0 n1 w1).mono ?_
  rintro v4 h4 ⟨O4, N4, t4⟩
  obtain ⟨b41, e41, b42, e42, rfl⟩ := tLensRes_F (tLensRes.OR O4)
  refine ⟨_, _, _, _, _, _, _, _, rfl, ?_⟩
  have s4 := s3.trans t4
  refine (c_eqLensRes (hi.sub s4) (tLensRes.OR O4) (tLensRes.OR (Ty.Osub O2 (t3.trans (t4)))) sa).mono ?_
  rintro _ hq ⟨rfl, eq⟩
  rw [eq]
  refine ⟨_, rfl, fun hne => by simp at hne, fun _ => ?_⟩
  refine (c_toB (hi.sub s4) (tB.Rsub R0 s4) (limB_sm L0)).mono ?_
  rintro v5 h5 ⟨O5, N5, t5⟩
  obtain ⟨b50, e50, rfl⟩ := tB_F (tB.OR O5)
  refine ⟨_, _, _, rfl, ?_⟩
  have s5 := s4.trans t5
  refine (c_eqB (hi.sub s5) (tB.OR (Ty.Osub O3 (t4.trans (t5)))) (tB.OR O5) (limB_sm L0)).mono ?_
  rintro _ hq ⟨rfl, eq⟩
  rw [eq]
  refine ⟨_, rfl, fun hne => by simp at hne, fun _ => ?_⟩
  have OG := Ty.Osub O4 (t5)
  have OW := Ty.Osub O2 (t3.trans (t4.trans (t5)))
  have OX0 := Ty.Osub O3 (t4.trans (t5))
  have dWG := Ty.far (A := tLensRes) (L := tLensRes) (Ty.Osub O2 (t3)) N4
  have dX0G := Ty.far (A := tB) (L := tLensRes) (Ty.Osub O3 (fun _ _ e => e)) N4
  have dWX0 := Ty.far (A := tLensRes) (L := tB) (Ty.Osub O2 (fun _ _ e => e)) N3
  have h5n : ∀ {b : Nat}, h b = none → ¬ S b := fun hb hs => hi _ hs hb
  refine (c_markB (hi.sub s5) OX0 (fun b hb => h5n (sub_none s2 (N3 b hb))) (1) (by have := cntB_le (limB_sm L0); omega) (by have := cntB_le (limB_sm L0); omega) (limB_sm L0)).mono ?_
  rintro _ h6 ⟨rfl, _, f6⟩
  have s6 : Eng.Sub h h6 := Sub.other s5 (fun b hb => sub_none s2 (N3 b hb)) f6
  replace OG := Ty.Oother OG (dis_symm dX0G) f6
  replace OW := Ty.Oother OW dWX0 f6
  refine ⟨_, rfl, fun _ => ?_, fun hneg => by simp at hneg; omega⟩
  refine (c_eqLensRes (hi.sub s6) (tLensRes.OR OG) (tLensRes.OR OW) sa).mono ?_
  rintro _ hq ⟨rfl, eq⟩
  rw [eq]
  refine ⟨_, rfl, fun _ => ⟨fun hne => by simp at hne, fun _ => ?_⟩⟩
  have ca := cntLensRes_le sa
  refine (c_markLensRes (hi.sub s6) OG (fun b hb => h5n (sub_none s3 (N4 b hb))) 1 (by omega) (by omega) sa).mono ?_
  rintro _ h7 ⟨rfl, OM, f7⟩
  have s7 : Eng.Sub h h7 := Sub.other s6 (fun b hb => sub_none s3 (N4 b hb)) f7
  replace OW := Ty.Oother OW dWG f7
  refine ⟨_, rfl, ?_⟩
  refine (c_heldLensRes (hi.sub s7) 1 (tLensRes.OR OM) (by omega) (by omega) sa).mono ?_
  rintro _ hq ⟨rfl, eq⟩
  rw [eq]
  refine ⟨_, rfl, fun hneg => by omega, fun _ => ⟨fun hne => by simp at hne, fun _ => ?_⟩⟩
  refine (c_toB (hi.sub s7) (tB.Rsub R0 s7) (limB_sm L0)).mono ?_
  rintro v8 h8 ⟨O8, N8, t8⟩
  obtain ⟨b80, e80, rfl⟩ := tB_F (tB.OR O8)
  refine ⟨_, _, _, rfl, ?_⟩
  have s8 := s7.trans t8
  refine (g_impl_ReadLens (hi.sub s8) (ge.sub s8) (et.sub s8) (Ty.Osub O8 (fun _ _ e => e)) L0 n1 w1).mono ?_
  rintro v9 h9 ⟨O9, N9, t9⟩
  obtain ⟨b91, e91, b92, e92, rfl⟩ := tLensRes_F (tLensRes.OR O9)
  refine ⟨_, _, _, _, _, _, _, _, rfl, ?_⟩
  have s9 := s8.trans t9
  refine (c_eqLensRes (hi.sub s9) (tLensRes.OR O9) (tLensRes.OR (Ty.Osub OW (t8.trans (t9)))) sa).mono ?_
  rintro _ hq ⟨rfl, eq⟩
  rw [eq]
  refine ⟨_, rfl, fun hne => by simp at hne, fun _ => ?_⟩
  refine (c_heldLensRes (hi.sub s9) 1 (tLensRes.OR (Ty.Osub OM (t8.trans (t9)))) (by omega) (by omega) sa).mono ?_
  rintro _ hq ⟨rfl, eq⟩
  exact ⟨_, rfl, fun hneg => by omega, fun _ => ⟨fun hne => by simp at hne, fun _ => trivial⟩⟩
end Go.Proofs.YtmnialmphlbmaaaDoor
