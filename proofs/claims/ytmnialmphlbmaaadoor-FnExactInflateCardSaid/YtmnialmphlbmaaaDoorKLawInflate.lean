import Derived.Test.YtmnialmphlbmaaaDoorKInfM
set_option linter.unusedVariables false
set_option linter.unusedSimpArgs false
namespace Go.Proofs.YtmnialmphlbmaaaDoor
open Go Go.Eng Go.IntWalk
variable {S : Shared} {s : Nat → Prop} {h : Eng.Heap}
set_option maxRecDepth 100000 in
set_option maxHeartbeats 8000000 in
theorem k_Inflate (hi : Eng.Inv S h) (ge : ErrL h) (et : ErrT h) (a0 : Option Addr) (c0 : Nat) (xs0 : List Int) (hx0 : HInts h .u8 a0 xs0) (hl0 : xs0.length ≤ maxLen) (hw0 : ∀ x ∈ xs0, (Lit.int .u8 x).wf = true) (n1 : Int) (w1 : (Lit.int .i64 n1).wf = true) (a2 : Option Addr) (c2 : Nat) (xs2 : List Int) (hx2 : HInts h .u8 a2 xs2) (hl2 : xs2.length ≤ maxLen) (hw2 : ∀ x ∈ xs2, (Lit.int .u8 x).wf = true) :
    CallsH Tryd.prog S F_laws_FnExactInflate #[.slice a0 xs0.length c0, .int .i64 n1, .slice a2 xs2.length c2] h (fun v _ => v = .bool true) := by
  refine run_laws_FnExactInflate (vs := [.slice a0 xs0.length c0, .int .i64 n1, .slice a2 xs2.length c2]) ⟨rfl, rfl, rfl, trivial⟩ hi ?_
  simp (maxSteps := 4000000) only [t_laws_FnExactInflate, Tr.wp, mksW, callW, Ex.ev, coerce, toInt_int, toBool_bool, slL_sl, slC_sl, slA_sl, toAddr_ptr, ptrOf_ptr, isNil_sl, isNil_ptr, it_and, it_or, it_int, optN_int, optN_nl, cmpI, arith, Cst.val, SV.den, resShs, resV, resSV, resVals, newVars, runCells, exSh, allSh, cellsAre, storeW, List.flatMap_cons, List.flatMap_nil, List.replicate_one, List.getD_cons_zero, List.getD_cons_succ, List.getElem?_cons_zero, List.getElem?_cons_succ, decide_eq_true_eq, decide_eq_false_iff_not, List.map_cons, List.map_nil, List.cons_append, List.nil_append, List.append_nil, List.length_cons, List.length_nil, Nat.zero_add, Nat.add_zero, and_true, true_and, if_true, if_false, Bool.false_eq_true]
  have R0 : tB.R h (.slice a0 xs0.length c0) xs0 := ⟨_, _, rfl, hx0⟩
  have R2 : tB.R h (.slice a2 xs2.length c2) xs2 := ⟨_, _, rfl, hx2⟩
  refine ⟨fun _ => trivial, fun hsm0 => ?_⟩
  have L0 : limB xs0 := by have := hl0; show List.length _ ≤ _; omega
  refine ⟨fun _ => trivial, fun hsm2 => ?_⟩
  have L2 : limB xs2 := by have := hl2; show List.length _ ≤ _; omega
  have s0 : Eng.Sub h h := fun _ _ e => e
  have sa : smInfRes (ans_Inflate xs0 n1 xs2) := sm_Inflate L0 L2
  refine (c_toB (hi.sub s0) (tB.Rsub R0 s0) (limB_sm L0)).mono ?_
  rintro v1 h1 ⟨O1, N1, t1⟩
  obtain ⟨b10, e10, rfl⟩ := tB_F (tB.OR O1)
  refine ⟨_, _, _, rfl, ?_⟩
  have s1 := s0.trans t1
  refine (c_toB (hi.sub s1) (tB.Rsub R2 s1) (limB_sm L2)).mono ?_
  rintro v2 h2 ⟨O2, N2, t2⟩
  obtain ⟨b20, e20, rfl⟩ := tB_F (tB.OR O2)
  refine ⟨_, _, _, rfl, ?_⟩
  have s2 := s1.trans t2
  refine (g_spec_Inflate (hi.sub s2) (Ty.Osub O1 (t2)) L0 n1 w1 (Ty.Osub O2 (fun _ _ e => e)) L2).mono ?_
  rintro v3 h3 ⟨O3, N3, t3⟩
  obtain ⟨b31, e31, rfl⟩ := tInfRes_F (tInfRes.OR O3)
  refine ⟨_, _, _, _, _, rfl, ?_⟩
  have s3 := s2.trans t3
  refine (c_toB (hi.sub s3) (tB.Rsub R0 s3) (limB_sm L0)).mono ?_
  rintro v4 h4 ⟨O4, N4, t4⟩
  obtain ⟨b40, e40, rfl⟩ := tB_F (tB.OR O4)
  refine ⟨_, _, _, rfl, ?_⟩
  have s4 := s3.trans t4
  refine (c_toB (hi.sub s4) (tB.Rsub R2 s4) (limB_sm L2)).mono ?_
  rintro v5 h5 ⟨O5, N5, t5⟩
  obtain ⟨b50, e50, rfl⟩ := tB_F (tB.OR O5)
  refine ⟨_, _, _, rfl, ?_⟩
  have s5 := s4.trans t5
  refine (g_impl_Inflate (hi.sub s5) (ge.sub s5) (et.sub s5) (Ty.Osub O4 (t5)) L0 n1 w1 (Ty.Osub O5 (fun _ _ e => e)) L2).mono ?_
  rintro v6 h6 ⟨O6, N6, t6⟩
  obtain ⟨b61, e61, rfl⟩ := tInfRes_F (tInfRes.OR O6)
  refine ⟨_, _, _, _, _, rfl, ?_⟩
  have s6 := s5.trans t6
  refine (c_eqInfRes (hi.sub s6) (tInfRes.OR O6) (tInfRes.OR (Ty.Osub O3 (t4.trans (t5.trans (t6))))) sa).mono ?_
  rintro _ hq ⟨rfl, eq⟩
  rw [eq]
  refine ⟨_, rfl, fun hne => by simp at hne, fun _ => ?_⟩
  refine (c_toB (hi.sub s6) (tB.Rsub R0 s6) (limB_sm L0)).mono ?_
  rintro v7 h7 ⟨O7, N7, t7⟩
  obtain ⟨b70, e70, rfl⟩ := tB_F (tB.OR O7)
  refine ⟨_, _, _, rfl, ?_⟩
  have s7 := s6.trans t7
  refine (c_eqB (hi.sub s7) (tB.OR (Ty.Osub O4 (t5.trans (t6.trans (t7))))) (tB.OR O7) (limB_sm L0)).mono ?_
  rintro _ hq ⟨rfl, eq⟩
  rw [eq]
  refine ⟨_, rfl, fun hne => by simp at hne, fun _ => ?_⟩
  refine (c_toB (hi.sub s7) (tB.Rsub R2 s7) (limB_sm L2)).mono ?_
  rintro v8 h8 ⟨O8, N8, t8⟩
  obtain ⟨b80, e80, rfl⟩ := tB_F (tB.OR O8)
  refine ⟨_, _, _, rfl, ?_⟩
  have s8 := s7.trans t8
  refine (c_eqB (hi.sub s8) (tB.OR (Ty.Osub O5 (t6.trans (t7.trans (t8))))) (tB.OR O8) (limB_sm L2)).mono ?_
  rintro _ hq ⟨rfl, eq⟩
  rw [eq]
  refine ⟨_, rfl, fun hne => by simp at hne, fun _ => ?_⟩
  have OG := Ty.Osub O6 (t7.trans (t8))
  have OW := Ty.Osub O3 (t4.trans (t5.trans (t6.trans (t7.trans (t8)))))
  have OX0 := Ty.Osub O4 (t5.trans (t6.trans (t7.trans (t8))))
  have OX2 := Ty.Osub O5 (t6.trans (t7.trans (t8)))
  have dWG := Ty.far (A := tInfRes) (L := tInfRes) (Ty.Osub O3 (t4.trans (t5))) N6
  have dX0G := Ty.far (A := tB) (L := tInfRes) (Ty.Osub O4 (t5)) N6
  have dWX0 := Ty.far (A := tInfRes) (L := tB) (Ty.Osub O3 (fun _ _ e => e)) N4
  have dX2G := Ty.far (A := tB) (L := tInfRes) (Ty.Osub O5 (fun _ _ e => e)) N6
  have dWX2 := Ty.far (A := tInfRes) (L := tB) (Ty.Osub O3 (t4)) N5
  have dX0X2 := Ty.far (A := tB) (L := tB) (Ty.Osub O4 (fun _ _ e => e)) N5
  have h8n : ∀ {b : Nat}, h b = none → ¬ S b := fun hb hs => hi _ hs hb
  refine (c_markB (hi.sub s8) OX0 (fun b hb => h8n (sub_none s3 (N4 b hb))) (1) (by have := cntB_le (limB_sm L0); omega) (by have := cntB_le (limB_sm L0); have := cntB_le (limB_sm L2); omega) (limB_sm L0)).mono ?_
  rintro _ h9 ⟨rfl, _, f9⟩
  have s9 : Eng.Sub h h9 := Sub.other s8 (fun b hb => sub_none s3 (N4 b hb)) f9
  replace OG := Ty.Oother OG (dis_symm dX0G) f9
  replace OW := Ty.Oother OW dWX0 f9
  replace OX2 := Ty.Oother OX2 (dis_symm dX0X2) f9
  refine ⟨_, rfl, ?_⟩
  refine (c_markB (hi.sub s9) OX2 (fun b hb => h8n (sub_none s4 (N5 b hb))) (1 + (cntB xs0 : Nat)) (by have := cntB_le (limB_sm L2); omega) (by have := cntB_le (limB_sm L0); have := cntB_le (limB_sm L2); omega) (limB_sm L2)).mono ?_
  rintro _ h10 ⟨rfl, _, f10⟩
  have s10 : Eng.Sub h h10 := Sub.other s9 (fun b hb => sub_none s4 (N5 b hb)) f10
  replace OG := Ty.Oother OG (dis_symm dX2G) f10
  replace OW := Ty.Oother OW dWX2 f10
  refine ⟨_, rfl, fun _ => ?_, fun hneg => by simp at hneg; omega⟩
  refine (c_eqInfRes (hi.sub s10) (tInfRes.OR OG) (tInfRes.OR OW) sa).mono ?_
  rintro _ hq ⟨rfl, eq⟩
  rw [eq]
  refine ⟨_, rfl, fun _ => ⟨fun hne => by simp at hne, fun _ => ?_⟩⟩
  have ca := cntInfRes_le sa
  refine (c_markInfRes (hi.sub s10) OG (fun b hb => h8n (sub_none s5 (N6 b hb))) 1 (by omega) (by omega) sa).mono ?_
  rintro _ h11 ⟨rfl, OM, f11⟩
  have s11 : Eng.Sub h h11 := Sub.other s10 (fun b hb => sub_none s5 (N6 b hb)) f11
  replace OW := Ty.Oother OW dWG f11
  refine ⟨_, rfl, ?_⟩
  refine (c_heldInfRes (hi.sub s11) 1 (tInfRes.OR OM) (by omega) (by omega) sa).mono ?_
  rintro _ hq ⟨rfl, eq⟩
  rw [eq]
  refine ⟨_, rfl, fun hneg => by omega, fun _ => ⟨fun hne => by simp at hne, fun _ => ?_⟩⟩
  refine (c_toB (hi.sub s11) (tB.Rsub R0 s11) (limB_sm L0)).mono ?_
  rintro v12 h12 ⟨O12, N12, t12⟩
  obtain ⟨b120, e120, rfl⟩ := tB_F (tB.OR O12)
  refine ⟨_, _, _, rfl, ?_⟩
  have s12 := s11.trans t12
  refine (c_toB (hi.sub s12) (tB.Rsub R2 s12) (limB_sm L2)).mono ?_
  rintro v13 h13 ⟨O13, N13, t13⟩
  obtain ⟨b130, e130, rfl⟩ := tB_F (tB.OR O13)
  refine ⟨_, _, _, rfl, ?_⟩
  have s13 := s12.trans t13
  refine (g_impl_Inflate (hi.sub s13) (ge.sub s13) (et.sub s13) (Ty.Osub O12 (t13)) L0 n1 w1 (Ty.Osub O13 (fun _ _ e => e)) L2).mono ?_
  rintro v14 h14 ⟨O14, N14, t14⟩
  obtain ⟨b141, e141, rfl⟩ := tInfRes_F (tInfRes.OR O14)
  refine ⟨_, _, _, _, _, rfl, ?_⟩
  have s14 := s13.trans t14
  refine (c_eqInfRes (hi.sub s14) (tInfRes.OR O14) (tInfRes.OR (Ty.Osub OW (t12.trans (t13.trans (t14))))) sa).mono ?_
  rintro _ hq ⟨rfl, eq⟩
  rw [eq]
  refine ⟨_, rfl, fun hne => by simp at hne, fun _ => ?_⟩
  refine (c_heldInfRes (hi.sub s14) 1 (tInfRes.OR (Ty.Osub OM (t12.trans (t13.trans (t14))))) (by omega) (by omega) sa).mono ?_
  rintro _ hq ⟨rfl, eq⟩
  exact ⟨_, rfl, fun hneg => by omega, fun _ => ⟨fun hne => by simp at hne, fun _ => trivial⟩⟩
end Go.Proofs.YtmnialmphlbmaaaDoor
