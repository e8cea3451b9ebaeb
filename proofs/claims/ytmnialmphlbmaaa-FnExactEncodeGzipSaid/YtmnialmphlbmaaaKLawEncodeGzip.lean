import Derived.Test.YtmnialmphlbmaaaKGz2
import Derived.Test.YtmnialmphlbmaaaTyB
set_option linter.unusedVariables false
set_option linter.unusedSimpArgs false
namespace Go.Proofs.Ytmnialmphlbmaaa
open Go Go.Eng Go.IntWalk
variable {S : Shared} {s : Nat → Prop} {h : Eng.Heap}
set_option maxRecDepth 100000 in
set_option maxHeartbeats 8000000 in
theorem k_EncodeGzip (hi : Eng.Inv (Team Try.prog s) h) (m00 : Int) (w00 : (Lit.int .i64 m00).wf = true) (m01 : Int) (w01 : (Lit.int .i64 m01).wf = true) (m02 : Int) (w02 : (Lit.int .i64 m02).wf = true) (m03 : Int) (w03 : (Lit.int .i64 m03).wf = true) (a04 : Option Addr) (c04 : Nat) (xs04 : List Int) (hx04 : HInts h .u8 a04 xs04) (hl04 : xs04.length ≤ maxLen) (hw04 : ∀ x ∈ xs04, (Lit.int .u8 x).wf = true) (a05 : Option Addr) (c05 : Nat) (xs05 : List Int) (hx05 : HInts h .u8 a05 xs05) (hl05 : xs05.length ≤ maxLen) (hw05 : ∀ x ∈ xs05, (Lit.int .u8 x).wf = true) (a06 : Option Addr) (c06 : Nat) (xs06 : List Int) (hx06 : HInts h .u8 a06 xs06) (hl06 : xs06.length ≤ maxLen) (hw06 : ∀ x ∈ xs06, (Lit.int .u8 x).wf = true) (m07 : Int) (w07 : (Lit.int .i64 m07).wf = true) (a1 : Option Addr) (c1 : Nat) (xs1 : List Int) (hx1 : HInts h .u8 a1 xs1) (hl1 : xs1.length ≤ maxLen) (hw1 : ∀ x ∈ xs1, (Lit.int .u8 x).wf = true) :
    CallsH Try.prog (Team Try.prog s) F_laws_FnExactEncodeGzip #[.agg #[.int .i64 m00, .int .i64 m01, .int .i64 m02, .int .i64 m03, .slice a04 xs04.length c04, .slice a05 xs05.length c05, .slice a06 xs06.length c06, .int .i64 m07], .slice a1 xs1.length c1] h (fun v _ => v = .bool true) := by
  refine run_laws_FnExactEncodeGzip (vs := [.int .i64 m00, .int .i64 m01, .int .i64 m02, .int .i64 m03, .slice a04 xs04.length c04, .slice a05 xs05.length c05, .slice a06 xs06.length c06, .int .i64 m07, .slice a1 xs1.length c1]) ⟨rfl, rfl, rfl, rfl, rfl, rfl, rfl, rfl, rfl, trivial⟩ hi ?_
  simp (maxSteps := 4000000) only [t_laws_FnExactEncodeGzip, Tr.wp, mksW, callW, Ex.ev, coerce, toInt_int, toBool_bool, slL_sl, slC_sl, slA_sl, toAddr_ptr, ptrOf_ptr, isNil_sl, isNil_ptr, it_and, it_or, it_int, optN_int, optN_nl, cmpI, arith, Cst.val, SV.den, resShs, resV, resSV, resVals, newVars, runCells, exSh, allSh, cellsAre, storeW, List.flatMap_cons, List.flatMap_nil, List.replicate_one, List.getD_cons_zero, List.getD_cons_succ, List.getElem?_cons_zero, List.getElem?_cons_succ, decide_eq_true_eq, decide_eq_false_iff_not, List.map_cons, List.map_nil, List.cons_append, List.nil_append, List.append_nil, List.length_cons, List.length_nil, Nat.zero_add, Nat.add_zero, and_true, true_and, if_true, if_false, Bool.false_eq_true]
  have R0 : tMember.R h (.agg #[.int .i64 m00, .int .i64 m01, .int .i64 m02, .int .i64 m03, .slice a04 xs04.length c04, .slice a05 xs05.length c05, .slice a06 xs06.length c06, .int .i64 m07]) (m00, m01, m02, m03, xs04, xs05, xs06, m07, ()) := tMember_mkR (x := (m00, m01, m02, m03, xs04, xs05, xs06, m07, ())) ⟨_, _, rfl, hx04⟩ ⟨_, _, rfl, hx05⟩ ⟨_, _, rfl, hx06⟩
  have R1 : tB.R h (.slice a1 xs1.length c1) xs1 := ⟨_, _, rfl, hx1⟩
  refine ⟨fun _ => trivial, fun hsm1 => ?_⟩
  have L1 : limB xs1 := by have := hl1; show List.length _ ≤ _; omega
  refine (c_szMember hi R0 hl04 hl05 hl06).mono ?_
  rintro _ hq ⟨kk0, rfl, eq, hk0⟩
  rw [eq]
  refine ⟨_, rfl, fun _ => trivial, fun hge0 => ?_⟩
  have L0 : limMember (m00, m01, m02, m03, xs04, xs05, xs06, m07, ()) := hk0 (by omega)
  have hwb0 : hwMember (m00, m01, m02, m03, xs04, xs05, xs06, m07, ()) := ⟨fun x hx => u8_wf (hw04 x hx), fun x hx => u8_wf (hw05 x hx), fun x hx => u8_wf (hw06 x hx)⟩
  have hwb1 : ∀ x ∈ xs1, 0 ≤ x ∧ x ≤ 255 := fun x hx => u8_wf (hw1 x hx)
  have s0 : Eng.Sub h h := fun _ _ e => e
  have sa : smB (ans_EncodeGzip (m00, m01, m02, m03, xs04, xs05, xs06, m07, ()) xs1) := sm_EncodeGzip hwb0 L0 hwb1 L1
  refine (c_toMember (hi.sub s0) (tMember.Rsub R0 s0) (limMember_sm L0)).mono ?_
  rintro v1 h1 ⟨O1, N1, t1⟩
  obtain ⟨b14, e14, b15, e15, b16, e16, rfl⟩ := tMember_F (tMember.OR O1)
  refine ⟨_, _, _, _, _, _, _, _, _, _, _, _, _, _, rfl, ?_⟩
  have s1 := s0.trans t1
  refine (c_toB (hi.sub s1) (tB.Rsub R1 s1) (limB_sm L1)).mono ?_
  rintro v2 h2 ⟨O2, N2, t2⟩
  obtain ⟨b20, e20, rfl⟩ := tB_F (tB.OR O2)
  refine ⟨_, _, _, rfl, ?_⟩
  have s2 := s1.trans t2
  refine (g_spec_EncodeGzip (hi.sub s2) (Ty.Osub O1 (t2)) hwb0 L0 (Ty.Osub O2 (fun _ _ e => e)) hwb1 L1).mono ?_
  rintro v3 h3 ⟨O3, N3, t3⟩
  obtain ⟨b30, e30, rfl⟩ := tB_F (tB.OR O3)
  refine ⟨_, _, _, rfl, ?_⟩
  have s3 := s2.trans t3
  refine (c_toMember (hi.sub s3) (tMember.Rsub R0 s3) (limMember_sm L0)).mono ?_
  rintro v4 h4 ⟨O4, N4, t4⟩
  obtain ⟨b44, e44, b45, e45, b46, e46, rfl⟩ := tMember_F (tMember.OR O4)
  refine ⟨_, _, _, _, _, _, _, _, _, _, _, _, _, _, rfl, ?_⟩
  have s4 := s3.trans t4
  refine (c_toB (hi.sub s4) (tB.Rsub R1 s4) (limB_sm L1)).mono ?_
  rintro v5 h5 ⟨O5, N5, t5⟩
  obtain ⟨b50, e50, rfl⟩ := tB_F (tB.OR O5)
  refine ⟨_, _, _, rfl, ?_⟩
  have s5 := s4.trans t5
  refine (g_impl_EncodeGzip (hi.sub s5) (Ty.Osub O4 (t5)) hwb0 L0 (Ty.Osub O5 (fun _ _ e => e)) hwb1 L1).mono ?_
  rintro v6 h6 ⟨O6, N6, t6⟩
  obtain ⟨b60, e60, rfl⟩ := tB_F (tB.OR O6)
  refine ⟨_, _, _, rfl, ?_⟩
  have s6 := s5.trans t6
  refine (c_eqB (hi.sub s6) (tB.OR O6) (tB.OR (Ty.Osub O3 (t4.trans (t5.trans (t6))))) sa).mono ?_
  rintro _ hq ⟨rfl, eq⟩
  rw [eq]
  refine ⟨_, rfl, fun hne => by simp at hne, fun _ => ?_⟩
  refine (c_toMember (hi.sub s6) (tMember.Rsub R0 s6) (limMember_sm L0)).mono ?_
  rintro v7 h7 ⟨O7, N7, t7⟩
  obtain ⟨b74, e74, b75, e75, b76, e76, rfl⟩ := tMember_F (tMember.OR O7)
  refine ⟨_, _, _, _, _, _, _, _, _, _, _, _, _, _, rfl, ?_⟩
  have s7 := s6.trans t7
  refine (c_eqMember (hi.sub s7) (tMember.OR (Ty.Osub O4 (t5.trans (t6.trans (t7))))) (tMember.OR O7) (limMember_sm L0)).mono ?_
  rintro _ hq ⟨rfl, eq⟩
  rw [eq]
  refine ⟨_, rfl, fun hne => by simp at hne, fun _ => ?_⟩
  refine (c_toB (hi.sub s7) (tB.Rsub R1 s7) (limB_sm L1)).mono ?_
  rintro v8 h8 ⟨O8, N8, t8⟩
  obtain ⟨b80, e80, rfl⟩ := tB_F (tB.OR O8)
  refine ⟨_, _, _, rfl, ?_⟩
  have s8 := s7.trans t8
  refine (c_eqB (hi.sub s8) (tB.OR (Ty.Osub O5 (t6.trans (t7.trans (t8))))) (tB.OR O8) (limB_sm L1)).mono ?_
  rintro _ hq ⟨rfl, eq⟩
  rw [eq]
  refine ⟨_, rfl, fun hne => by simp at hne, fun _ => ?_⟩
  have OG := Ty.Osub O6 (t7.trans (t8))
  have OW := Ty.Osub O3 (t4.trans (t5.trans (t6.trans (t7.trans (t8)))))
  have OX0 := Ty.Osub O4 (t5.trans (t6.trans (t7.trans (t8))))
  have OX1 := Ty.Osub O5 (t6.trans (t7.trans (t8)))
  have dWG := Ty.far (A := tB) (L := tB) (Ty.Osub O3 (t4.trans (t5))) N6
  have dX0G := Ty.far (A := tMember) (L := tB) (Ty.Osub O4 (t5)) N6
  have dWX0 := Ty.far (A := tB) (L := tMember) (Ty.Osub O3 (fun _ _ e => e)) N4
  have dX1G := Ty.far (A := tB) (L := tB) (Ty.Osub O5 (fun _ _ e => e)) N6
  have dWX1 := Ty.far (A := tB) (L := tB) (Ty.Osub O3 (t4)) N5
  have dX0X1 := Ty.far (A := tMember) (L := tB) (Ty.Osub O4 (fun _ _ e => e)) N5
  have h8n : ∀ {b : Nat}, h b = none → ¬ (Team Try.prog s) b := fun hb hs => hi _ hs hb
  refine (c_markMember (hi.sub s8) OX0 (fun b hb => h8n (sub_none s3 (N4 b hb))) (1) (by have := cntMember_le (limMember_sm L0); omega) (by have := cntMember_le (limMember_sm L0); have := cntB_le (limB_sm L1); omega) (limMember_sm L0)).mono ?_
  rintro _ h9 ⟨rfl, _, f9⟩
  have s9 : Eng.Sub h h9 := Sub.other s8 (fun b hb => sub_none s3 (N4 b hb)) f9
  replace OG := Ty.Oother OG (dis_symm dX0G) f9
  replace OW := Ty.Oother OW dWX0 f9
  replace OX1 := Ty.Oother OX1 (dis_symm dX0X1) f9
  refine ⟨_, rfl, ?_⟩
  refine (c_markB (hi.sub s9) OX1 (fun b hb => h8n (sub_none s4 (N5 b hb))) (1 + (cntMember (m00, m01, m02, m03, xs04, xs05, xs06, m07, ()) : Nat)) (by have := cntB_le (limB_sm L1); omega) (by have := cntMember_le (limMember_sm L0); have := cntB_le (limB_sm L1); omega) (limB_sm L1)).mono ?_
  rintro _ h10 ⟨rfl, _, f10⟩
  have s10 : Eng.Sub h h10 := Sub.other s9 (fun b hb => sub_none s4 (N5 b hb)) f10
  replace OG := Ty.Oother OG (dis_symm dX1G) f10
  replace OW := Ty.Oother OW dWX1 f10
  refine ⟨_, rfl, fun _ => ?_, fun hneg => by simp at hneg; omega⟩
  refine (c_eqB (hi.sub s10) (tB.OR OG) (tB.OR OW) sa).mono ?_
  rintro _ hq ⟨rfl, eq⟩
  rw [eq]
  refine ⟨_, rfl, fun _ => ⟨fun hne => by simp at hne, fun _ => ?_⟩⟩
  have ca := cntB_le sa
  refine (c_markB (hi.sub s10) OG (fun b hb => h8n (sub_none s5 (N6 b hb))) 1 (by omega) (by omega) sa).mono ?_
  rintro _ h11 ⟨rfl, OM, f11⟩
  have s11 : Eng.Sub h h11 := Sub.other s10 (fun b hb => sub_none s5 (N6 b hb)) f11
  replace OW := Ty.Oother OW dWG f11
  refine ⟨_, rfl, ?_⟩
  refine (c_heldB (hi.sub s11) 1 (tB.OR OM) (by omega) (by omega) sa).mono ?_
  rintro _ hq ⟨rfl, eq⟩
  rw [eq]
  refine ⟨_, rfl, fun hneg => by omega, fun _ => ⟨fun hne => by simp at hne, fun _ => ?_⟩⟩
  refine (c_toMember (hi.sub s11) (tMember.Rsub R0 s11) (limMember_sm L0)).mono ?_
  rintro v12 h12 ⟨O12, N12, t12⟩
  obtain ⟨b124, e124, b125, e125, b126, e126, rfl⟩ := tMember_F (tMember.OR O12)
  refine ⟨_, _, _, _, _, _, _, _, _, _, _, _, _, _, rfl, ?_⟩
  have s12 := s11.trans t12
  refine (c_toB (hi.sub s12) (tB.Rsub R1 s12) (limB_sm L1)).mono ?_
  rintro v13 h13 ⟨O13, N13, t13⟩
  obtain ⟨b130, e130, rfl⟩ := tB_F (tB.OR O13)
  refine ⟨_, _, _, rfl, ?_⟩
  have s13 := s12.trans t13
  refine (g_impl_EncodeGzip (hi.sub s13) (Ty.Osub O12 (t13)) hwb0 L0 (Ty.Osub O13 (fun _ _ e => e)) hwb1 L1).mono ?_
  rintro v14 h14 ⟨O14, N14, t14⟩
  obtain ⟨b140, e140, rfl⟩ := tB_F (tB.OR O14)
  refine ⟨_, _, _, rfl, ?_⟩
  have s14 := s13.trans t14
  refine (c_eqB (hi.sub s14) (tB.OR O14) (tB.OR (Ty.Osub OW (t12.trans (t13.trans (t14))))) sa).mono ?_
  rintro _ hq ⟨rfl, eq⟩
  rw [eq]
  refine ⟨_, rfl, fun hne => by simp at hne, fun _ => ?_⟩
  refine (c_heldB (hi.sub s14) 1 (tB.OR (Ty.Osub OM (t12.trans (t13.trans (t14))))) (by omega) (by omega) sa).mono ?_
  rintro _ hq ⟨rfl, eq⟩
  exact ⟨_, rfl, fun hneg => by omega, fun _ => ⟨fun hne => by simp at hne, fun _ => trivial⟩⟩
end Go.Proofs.Ytmnialmphlbmaaa
