import Derived.Test.YtdcalidppjclpaaKBitsF
set_option linter.unusedVariables false
set_option linter.unusedSimpArgs false
namespace Go.Proofs.Ytdcalidppjclpaa
open Go Go.Eng Go.IntWalk
variable {S : Nat → Prop} {h : Eng.Heap}

theorem Part.far {k : IntKind} {v : Value} {xs : List Int} {b : Nat} (H : Part k h v xs) (hb : h b = none) : blkOf v ≠ some b := fun e => H.held b e hb
theorem New.far {v : Value} {b : Nat} (H : New h v) (hb : h b ≠ none) : blkOf v ≠ some b := fun e => hb (H b e)
theorem sub_none {h1 h2 : Eng.Heap} (hs : Eng.Sub h1 h2) {b : Nat} (hb : h2 b = none) : h1 b = none := by
  cases hh : h1 b with
  | none => rfl
  | some o => rw [hs _ _ hh] at hb; cases hb

theorem k_markBits (hi : Eng.Inv S h) {a : Option Addr} {l c : Nat} {xs : List Int} (p q : Int) (hs : Part .u8 h (.slice a l c) xs) (hb : ∀ b, blkOf (.slice a l c) = some b → ¬ S b) (k : Int) (k0 : 0 ≤ k) (k1 : k ≤ 4611686018427387903) (hl : xs.length ≤ 4611686018427387904) :
    CallsH Try.prog S F_laws_markBits #[.agg #[.slice a l c, .int .i64 p, .int .i64 q], .int .i64 k] h (fun u h' => u = .int .i64 (k + xs.length) ∧ Part .u8 h' (.slice a l c) (marks k xs.length) ∧ ∀ b, blkOf (.slice a l c) ≠ some b → h' b = h b) := by
  refine run_laws_markBits (vs := [.slice a l c, .int .i64 p, .int .i64 q, .int .i64 k]) ⟨rfl, rfl, rfl, rfl, trivial⟩ hi ?_
  simp only [t_laws_markBits, Tr.wp, mksW, callW, Ex.ev, coerce, toInt_int, toBool_bool, slL_sl, slC_sl, slA_sl, toAddr_ptr, ptrOf_ptr, isNil_sl, isNil_ptr, it_and, it_or, it_int, optN_int, optN_nl, cmpI, arith, Cst.val, SV.den, resShs, resV, resSV, resVals, newVars, runCells, exSh, allSh, cellsAre, storeW, List.flatMap_cons, List.flatMap_nil, List.replicate_one, List.getD_cons_zero, List.getD_cons_succ, List.getElem?_cons_zero, List.getElem?_cons_succ, decide_eq_true_eq, decide_eq_false_iff_not, List.map_cons, List.map_nil, List.cons_append, List.nil_append, List.append_nil, List.length_cons, List.length_nil, Nat.zero_add, Nat.add_zero, and_true, true_and, if_true, if_false, Bool.false_eq_true]
  refine (k_markByteP hi hs hb k k0 k1 hl).mono ?_
  rintro _ h' ⟨rfl, h2⟩
  exact ⟨_, rfl, rfl, h2⟩

theorem k_heldBits (hi : Eng.Inv S h) (a : Option Addr) (c : Nat) (k : Int) (n : Nat) (p q : Int) (hx : HInts h .u8 a (marks k n)) (k0 : 0 ≤ k) (k1 : k ≤ 4611686018427387903) (hl : n ≤ 4611686018427387904) :
    CallsH Try.prog S F_laws_heldBits #[.agg #[.slice a n c, .int .i64 p, .int .i64 q], .int .i64 k] h (fun u h' => u = .int .i64 (k + n) ∧ h' = h) := by
  refine run_laws_heldBits (vs := [.slice a n c, .int .i64 p, .int .i64 q, .int .i64 k]) ⟨rfl, rfl, rfl, rfl, trivial⟩ hi ?_
  simp only [t_laws_heldBits, Tr.wp, mksW, callW, Ex.ev, coerce, toInt_int, toBool_bool, slL_sl, slC_sl, slA_sl, toAddr_ptr, ptrOf_ptr, isNil_sl, isNil_ptr, it_and, it_or, it_int, optN_int, optN_nl, cmpI, arith, Cst.val, SV.den, resShs, resV, resSV, resVals, newVars, runCells, exSh, allSh, cellsAre, storeW, List.flatMap_cons, List.flatMap_nil, List.replicate_one, List.getD_cons_zero, List.getD_cons_succ, List.getElem?_cons_zero, List.getElem?_cons_succ, decide_eq_true_eq, decide_eq_false_iff_not, List.map_cons, List.map_nil, List.cons_append, List.nil_append, List.append_nil, List.length_cons, List.length_nil, Nat.zero_add, Nat.add_zero, and_true, true_and, if_true, if_false, Bool.false_eq_true]
  refine (k_heldByteS hi a c k n hx k0 k1 hl).mono ?_
  rintro _ hq ⟨rfl, eq⟩
  exact ⟨_, rfl, fun hn => by omega, fun _ => ⟨rfl, eq⟩⟩

set_option maxRecDepth 100000 in
set_option maxHeartbeats 4000000 in
theorem k_BitsFeed (hi : Eng.Inv S h) (p q : Int) (a : Option Addr) (c : Nat) (xs : List Int) (hx : HInts h .u8 a xs) (hl : xs.length ≤ maxLen) (a2 : Option Addr) (c2 : Nat) (ys : List Int) (hy : HInts h .u8 a2 ys) :
    CallsH Try.prog S F_laws_FnExactBitsFeed #[.agg #[.slice a xs.length c, .int .i64 p, .int .i64 q], .slice a2 ys.length c2] h (fun v _ => v = .bool true) := by
  refine run_laws_FnExactBitsFeed (vs := [.slice a xs.length c, .int .i64 p, .int .i64 q, .slice a2 ys.length c2]) ⟨rfl, rfl, rfl, rfl, trivial⟩ hi ?_
  simp (maxSteps := 2000000) only [t_laws_FnExactBitsFeed, Tr.wp, mksW, callW, Ex.ev, coerce, toInt_int, toBool_bool, slL_sl, slC_sl, slA_sl, toAddr_ptr, ptrOf_ptr, isNil_sl, isNil_ptr, it_and, it_or, it_int, optN_int, optN_nl, cmpI, arith, Cst.val, SV.den, resShs, resV, resSV, resVals, newVars, runCells, exSh, allSh, cellsAre, storeW, List.flatMap_cons, List.flatMap_nil, List.replicate_one, List.getD_cons_zero, List.getD_cons_succ, List.getElem?_cons_zero, List.getElem?_cons_succ, decide_eq_true_eq, decide_eq_false_iff_not, List.map_cons, List.map_nil, List.cons_append, List.nil_append, List.append_nil, List.length_cons, List.length_nil, Nat.zero_add, Nat.add_zero, and_true, true_and, if_true, if_false, Bool.false_eq_true]
  refine ⟨fun _ => trivial, fun hsm => ?_⟩
  have hl2 : ys.length ≤ 1048576 := by omega
  refine (k_szBits hi a xs.length c p q 1048576).mono ?_
  rintro _ hq ⟨rfl, eq⟩
  rw [eq]
  have hml : maxLen = 9223372036854775807 := rfl
  have w1 : IntKind.i64.wrap (1048576 - (xs.length : Int)) = 1048576 - xs.length := i64_in _ (by omega)
  rw [w1]
  refine ⟨_, rfl, fun _ => trivial, fun hge => ?_⟩
  have hl1 : xs.length ≤ 1048576 := by
    by_cases h0 : (1048576 : Int) - xs.length < 0
    · rw [if_pos h0] at hge; omega
    · omega
  -- the reference's answer
  refine (k_toBits hi a c xs p q hx (by omega)).mono ?_
  rintro _ h1 ⟨b1, T1, hb1, rfl, e1⟩
  refine ⟨_, _, _, _, _, rfl, ?_⟩
  have s1 : Eng.Sub h h1 := e1 ▸ Sub.of_upd hb1
  have x1 : HInts h1 .u8 (some ⟨b1, 0, none⟩) xs := e1 ▸ HInts.new
  refine (k_toByteS (hi.sub s1) a2 c2 ys (hy.sub s1) (by omega)).mono ?_
  rintro _ h2 ⟨b2, T2, hb2, rfl, e2⟩
  refine ⟨_, _, _, rfl, ?_⟩
  have t2 : Eng.Sub h1 h2 := e2 ▸ Sub.of_upd hb2
  have s2 := s1.trans t2
  have y2 : HInts h2 .u8 (some ⟨b2, 0, none⟩) ys := e2 ▸ HInts.new
  refine (k_spec_BitsFeed (hi.sub s2) _ _ _ _ xs ys p q (x1.sub t2) y2 hl1 hl2).mono ?_
  rintro _ h3 ⟨aw, lw, cw, pw, qw, zs, rfl, ow, nw, t3, hzw⟩
  refine ⟨_, _, _, _, _, rfl, ?_⟩
  have s3 := s2.trans t3
  -- the program's
  refine (k_toBits (hi.sub s3) a c xs p q (hx.sub s3) (by omega)).mono ?_
  rintro _ h4 ⟨b4, T4, hb4, rfl, e4⟩
  refine ⟨_, _, _, _, _, rfl, ?_⟩
  have t4 : Eng.Sub h3 h4 := e4 ▸ Sub.of_upd hb4
  have s4 := s3.trans t4
  have o4 : Part .u8 h4 (.slice (some ⟨b4, 0, none⟩) xs.length xs.length) xs := e4 ▸ (Own.made xs).part
  have h4b : h4 b4 ≠ none := o4.held b4 rfl
  refine (k_toByteS (hi.sub s4) a2 c2 ys (hy.sub s4) (by omega)).mono ?_
  rintro _ h5 ⟨b5, T5, hb5, rfl, e5⟩
  refine ⟨_, _, _, rfl, ?_⟩
  have t5 : Eng.Sub h4 h5 := e5 ▸ Sub.of_upd hb5
  have s5 := s4.trans t5
  have o5 : Part .u8 h5 (.slice (some ⟨b5, 0, none⟩) ys.length ys.length) ys := e5 ▸ (Own.made ys).part
  have x5 : HInts h5 .u8 (some ⟨b4, 0, none⟩) xs := HInts.sub (e4 ▸ HInts.new) t5
  have y5 : HInts h5 .u8 (some ⟨b5, 0, none⟩) ys := e5 ▸ HInts.new
  refine (k_impl_BitsFeed (hi.sub s5) _ _ _ _ xs ys p q x5 y5 hl1 hl2).mono ?_
  rintro _ h6 ⟨ag, lg, cg, pg, qg, zg, rfl, og, ng, t6, hzg⟩
  refine ⟨_, _, _, _, _, rfl, ?_⟩
  have s6 := s5.trans t6
  have hzz : zg = zs ∧ pg = pw ∧ qg = qw := by
    by_cases hv : vbits xs.length p q
    · rw [if_pos hv] at hzg hzw; obtain ⟨rfl, rfl, rfl⟩ := hzg; obtain ⟨rfl, rfl, rfl⟩ := hzw; exact ⟨rfl, rfl, rfl⟩
    · rw [if_neg hv] at hzg hzw; obtain ⟨rfl, rfl, rfl⟩ := hzg; obtain ⟨rfl, rfl, rfl⟩ := hzw; exact ⟨rfl, rfl, rfl⟩
  obtain ⟨rfl, rfl, rfl⟩ := hzz
  have hzl : zg.length ≤ 2097152 := by
    by_cases hv : vbits xs.length p q
    · rw [if_pos hv] at hzg; rw [hzg.1]; unfold feedX; split
      · simp; omega
      · omega
    · rw [if_neg hv] at hzg; rw [hzg.1]; simp
  obtain ⟨aw', cw', ew, _, iw⟩ := ow.ints
  simp only [Value.slice.injEq] at ew
  obtain ⟨rfl, rfl, rfl⟩ := ew
  obtain ⟨ag', cg', eg, _, ig⟩ := og.ints
  simp only [Value.slice.injEq] at eg
  obtain ⟨rfl, rfl, rfl⟩ := eg
  have t36 := t4.trans (t5.trans t6)
  have ow6 := ow.sub t36
  refine (k_eqBits (hi.sub s6) _ _ _ _ zg pg qg ig (iw.sub t36) (by omega)).mono ?_
  rintro _ hq ⟨rfl, eq⟩
  rw [eq]
  refine ⟨_, rfl, fun hne => by simp at hne, fun _ => ?_⟩
  -- the arguments read as they did
  refine (k_toBits (hi.sub s6) a c xs p q (hx.sub s6) (by omega)).mono ?_
  rintro _ h7 ⟨b7, T7, hb7, rfl, e7⟩
  refine ⟨_, _, _, _, _, rfl, ?_⟩
  have t7 : Eng.Sub h6 h7 := e7 ▸ Sub.of_upd hb7
  have s7 := s6.trans t7
  have x7 : HInts h7 .u8 (some ⟨b7, 0, none⟩) xs := e7 ▸ HInts.new
  refine (k_eqBits (hi.sub s7) _ _ _ _ xs p q (x5.sub (t6.trans t7)) x7 (by omega)).mono ?_
  rintro _ hq ⟨rfl, eq⟩
  rw [eq]
  refine ⟨_, rfl, fun hne => by simp at hne, fun _ => ?_⟩
  refine (k_toByteS (hi.sub s7) a2 c2 ys (hy.sub s7) (by omega)).mono ?_
  rintro _ h8 ⟨b8, T8, hb8, rfl, e8⟩
  refine ⟨_, _, _, rfl, ?_⟩
  have t8 : Eng.Sub h7 h8 := e8 ▸ Sub.of_upd hb8
  have s8 := s7.trans t8
  have y8 : HInts h8 .u8 (some ⟨b8, 0, none⟩) ys := e8 ▸ HInts.new
  refine (k_eqByteS (hi.sub s8) _ _ _ _ ys ys (y5.sub (t6.trans (t7.trans t8))) y8 (by omega)).mono ?_
  rintro _ hq ⟨rfl, eq⟩
  rw [eq]
  refine ⟨_, rfl, fun hne => by simp at hne, fun _ => ?_⟩
  -- the arguments are marked
  have t68 := t7.trans t8
  have hno : ∀ {b : Nat}, h b = none → ¬ S b := fun hb hs => hi _ hs hb
  have n4 : h b4 = none := sub_none s3 hb4
  have n5 : h b5 = none := sub_none s4 hb5
  have h5b4 : h5 b4 ≠ none := (o4.sub t5).held b4 rfl
  have h5b5 : h5 b5 ≠ none := o5.held b5 rfl
  have ne45 : b5 ≠ b4 := fun e => h4b (e ▸ hb5)
  refine (k_markBits (hi.sub s8) p q (o4.sub (t5.trans (t6.trans t68))) (fun b hb => by cases hb; exact hno n4) 1 (by omega) (by omega) (by omega)).mono ?_
  rintro _ h9 ⟨rfl, _, f9⟩
  have k9 : ∀ {b : Nat}, b ≠ b4 → h9 b = h8 b := fun hb => f9 _ (fun e => hb (by cases e; rfl))
  have s9 : Eng.Sub h h9 := fun b o hb => by
    rw [k9 (fun e => by rw [e, n4] at hb; cases hb)]; exact s8 b o hb
  refine ⟨_, rfl, ?_⟩
  have o5' : Part .u8 h9 (.slice (some ⟨b5, 0, none⟩) ys.length ys.length) ys := (o5.sub (t6.trans t68)).keep fun b hb => by cases hb; exact k9 ne45
  refine (k_markByteP (hi.sub s9) o5' (fun b hb => by cases hb; exact hno n5) (1 + xs.length) (by omega) (by omega) (by omega)).mono ?_
  rintro _ h10 ⟨rfl, _, f10⟩
  have k10 : ∀ {b : Nat}, b ≠ b5 → h10 b = h9 b := fun hb => f10 _ (fun e => hb (by cases e; rfl))
  have s10 : Eng.Sub h h10 := fun b o hb => by
    rw [k10 (fun e => by rw [e, n5] at hb; cases hb)]; exact s9 b o hb
  have k810 : ∀ {b : Nat}, b ≠ b4 → b ≠ b5 → h10 b = h8 b := fun h1 h2 => (k10 h2).trans (k9 h1)
  have og10 : Part .u8 h10 (.slice ag zg.length cg) zg := (og.sub t68).keep fun b hb => k810 (fun e => New.far ng h5b4 (by rw [hb, e])) (fun e => New.far ng h5b5 (by rw [hb, e]))
  have ow10 : Part .u8 h10 (.slice aw zg.length cw) zg := (ow6.sub t68).keep fun b hb => k810 (fun e => Part.far ow hb4 (by rw [hb, e])) (fun e => Part.far ow (sub_none t4 hb5) (by rw [hb, e]))
  obtain ⟨_, _, eg, _, ig10⟩ := og10.ints
  simp only [Value.slice.injEq] at eg
  obtain ⟨rfl, _, rfl⟩ := eg
  obtain ⟨_, _, ew, _, iw10⟩ := ow10.ints
  simp only [Value.slice.injEq] at ew
  obtain ⟨rfl, _, rfl⟩ := ew
  refine ⟨_, rfl, fun _ => ?_, fun hneg => by simp at hneg; omega⟩
  refine (k_eqBits (hi.sub s10) _ _ _ _ zg pg qg ig10 iw10 (by omega)).mono ?_
  rintro _ hq ⟨rfl, eq⟩
  rw [eq]
  refine ⟨_, rfl, fun _ => ⟨fun hne => by simp at hne, fun _ => ?_⟩⟩
  -- the answer owns its memory
  have ngn : ∀ b, blkOf (.slice ag zg.length cg) = some b → h b = none := fun b hb => sub_none s5 (ng b hb)
  refine (k_markBits (hi.sub s10) pg qg og10 (fun b hb => hno (ngn b hb)) 1 (by omega) (by omega) (by omega)).mono ?_
  rintro _ h11 ⟨rfl, o11, f11⟩
  have s11 : Eng.Sub h h11 := fun b o hb => by
    rw [f11 b (fun e => by rw [ngn b e] at hb; cases hb)]; exact s10 b o hb
  have ow11 : Part .u8 h11 (.slice aw zg.length cw) zg := ow10.keep fun b hb => f11 b (fun e => by
    have h1 := ng b e
    have h2 := ow.held b hb
    exact h2 (sub_none (t4.trans t5) h1))
  obtain ⟨_, _, e11, _, i11⟩ := o11.ints
  rw [marks_len] at e11
  simp only [Value.slice.injEq] at e11
  obtain ⟨rfl, _, rfl⟩ := e11
  obtain ⟨_, _, ew, _, iw11⟩ := ow11.ints
  simp only [Value.slice.injEq] at ew
  obtain ⟨rfl, _, rfl⟩ := ew
  refine ⟨_, rfl, ?_⟩
  refine (k_heldBits (hi.sub s11) _ _ 1 zg.length pg qg i11 (by omega) (by omega) (by omega)).mono ?_
  rintro _ hq ⟨rfl, eq⟩
  rw [eq]
  refine ⟨_, rfl, fun hneg => by omega, fun _ => ⟨fun hne => by simp at hne, fun _ => ?_⟩⟩
  -- once more
  refine (k_toBits (hi.sub s11) a c xs p q (hx.sub s11) (by omega)).mono ?_
  rintro _ h12 ⟨b12, T12, hb12, rfl, e12⟩
  refine ⟨_, _, _, _, _, rfl, ?_⟩
  have t12 : Eng.Sub h11 h12 := e12 ▸ Sub.of_upd hb12
  have s12 := s11.trans t12
  have x12 : HInts h12 .u8 (some ⟨b12, 0, none⟩) xs := e12 ▸ HInts.new
  refine (k_toByteS (hi.sub s12) a2 c2 ys (hy.sub s12) (by omega)).mono ?_
  rintro _ h13 ⟨b13, T13, hb13, rfl, e13⟩
  refine ⟨_, _, _, rfl, ?_⟩
  have t13 : Eng.Sub h12 h13 := e13 ▸ Sub.of_upd hb13
  have s13 := s12.trans t13
  have y13 : HInts h13 .u8 (some ⟨b13, 0, none⟩) ys := e13 ▸ HInts.new
  refine (k_impl_BitsFeed (hi.sub s13) _ _ _ _ xs ys p q (x12.sub t13) y13 hl1 hl2).mono ?_
  rintro _ h14 ⟨a14, l14, c14, p14, q14, z14, rfl, o14, n14, t14, hz14⟩
  refine ⟨_, _, _, _, _, rfl, ?_⟩
  have s14 := s13.trans t14
  have hz2 : z14 = zg ∧ p14 = pg ∧ q14 = qg := by
    by_cases hv : vbits xs.length p q
    · rw [if_pos hv] at hz14 hzg; obtain ⟨rfl, rfl, rfl⟩ := hz14; obtain ⟨rfl, rfl, rfl⟩ := hzg; exact ⟨rfl, rfl, rfl⟩
    · rw [if_neg hv] at hz14 hzg; obtain ⟨rfl, rfl, rfl⟩ := hz14; obtain ⟨rfl, rfl, rfl⟩ := hzg; exact ⟨rfl, rfl, rfl⟩
  obtain ⟨rfl, rfl, rfl⟩ := hz2
  obtain ⟨_, _, e14, _, i14⟩ := o14.ints
  simp only [Value.slice.injEq] at e14
  obtain ⟨rfl, rfl, rfl⟩ := e14
  have t1114 := t12.trans (t13.trans t14)
  refine (k_eqBits (hi.sub s14) _ _ _ _ z14 p14 q14 i14 (iw11.sub t1114) (by omega)).mono ?_
  rintro _ hq ⟨rfl, eq⟩
  rw [eq]
  refine ⟨_, rfl, fun hne => by simp at hne, fun _ => ?_⟩
  refine (k_heldBits (hi.sub s14) _ _ 1 z14.length p14 q14 (i11.sub t1114) (by omega) (by omega) (by omega)).mono ?_
  rintro _ hq ⟨rfl, eq⟩
  exact ⟨_, rfl, fun hneg => by omega, fun _ => ⟨fun hne => by simp at hne, fun _ => trivial⟩⟩
end Go.Proofs.Ytdcalidppjclpaa
