import Derived.Test.YtmnialmphlbmaaaKGz
import Derived.Test.YtmnialmphlbmaaaCutimplEncodeGzip
set_option linter.unusedVariables false
set_option linter.unusedSimpArgs false
namespace Go.Proofs.Ytmnialmphlbmaaa
open Go Go.Eng Go.IntWalk
variable {S : Shared} {h h0 : Eng.Heap}

theorem shr64_nat (x k : Nat) (hk : k ≤ 64) : Int.fdiv (x : Int) (2 ^ (min (k : Int).toNat IntKind.u64.bits)) = ((x / 2 ^ k : Nat) : Int) := by
  have e : min (k : Int).toNat IntKind.u64.bits = k := by show min (k : Int).toNat 64 = k; omega
  rw [e, Int.fdiv_eq_ediv_of_nonneg _ (by exact_mod_cast Nat.zero_le _)]; push_cast; rfl
theorem shr64_8 (x : Nat) : Int.fdiv (x : Int) (2 ^ (min (Int.toNat 8) IntKind.u64.bits)) = ((x / 256 : Nat) : Int) := shr64_nat x 8 (by omega)

set_option maxRecDepth 100000 in
set_option maxHeartbeats 1000000 in
theorem k_appendLittle (hi : Eng.Inv S h0) (hs : Eng.Sub h0 h) {a : Option Addr} {c : Nat} {xs : List Int} (P : Part .u8 h (.slice a xs.length c) xs) (N : Eng.New h0 (.slice a xs.length c)) (x : Nat) (n : Nat) (hn : n ≤ 8) (hl : xs.length ≤ 3000000) :
    CallsH Try.prog S F_impl_appendLittle #[.slice a xs.length c, .int .u64 x, .int .i64 n] h (fun v h' => Part .u8 h' v (xs ++ le x n) ∧ Eng.New h0 v ∧ Eng.Sub h0 h') := by
  refine run_impl_appendLittle (vs := [.slice a xs.length c, .int .u64 x, .int .i64 n]) ⟨rfl, rfl, rfl, trivial⟩ (hi.sub hs) ?_
  simp only [t_impl_appendLittle, Tr.wp, mksW, callW, Ex.ev, coerce, toInt_int, toBool_bool, slL_sl, slC_sl, slA_sl, toAddr_ptr, ptrOf_ptr, isNil_sl, isNil_ptr, it_and, it_or, it_int, optN_int, optN_nl, cmpI, arith, Cst.val, SV.den, resShs, resV, resSV, resVals, newVars, runCells, exSh, allSh, cellsAre, storeW, List.flatMap_cons, List.flatMap_nil, List.replicate_one, List.getD_cons_zero, List.getD_cons_succ, List.getElem?_cons_zero, List.getElem?_cons_succ, decide_eq_true_eq, decide_eq_false_iff_not, List.map_cons, List.map_nil, List.cons_append, List.nil_append, List.append_nil, List.length_cons, List.length_nil, Nat.zero_add, Nat.add_zero, and_true, true_and, if_true, if_false, Bool.false_eq_true]
  refine ⟨fun us h' => ∃ (i : Nat) (a : Option Addr) (c : Nat), us = [.slice a (xs ++ le x i).length c, .int .u64 ((x / 256 ^ i : Nat) : Int), .int .i64 i] ∧ i ≤ n ∧ Part .u8 h' (.slice a (xs ++ le x i).length c) (xs ++ le x i) ∧ Eng.New h0 (.slice a (xs ++ le x i).length c) ∧ Eng.Sub h0 h',
    fun us _ => n - (toInt (us.getD 2 undef)).toNat, ⟨0, a, c, by simp [le], by omega, by simpa [le] using P, by simpa [le] using N, hs⟩, ?_⟩
  rintro a1 l1 c1 y z h' ⟨i, a2, c2, hx1, hi2, P, N, s⟩
  simp only [List.cons.injEq, Value.int.injEq, Value.slice.injEq, true_and, and_true] at hx1
  obtain ⟨⟨rfl, rfl, rfl⟩, rfl, rfl⟩ := hx1
  refine ⟨fun hlt => ?_, fun hge => ?_⟩
  · have wb : IntKind.u8.wrap ((x / 256 ^ i : Nat) : Int) = ((x / 256 ^ i % 256 : Nat) : Int) := by
      generalize x / 256 ^ i = q
      rw [IntKind.wrap_u8]; omega
    have wd : ((x / 256 ^ i / 256 : Nat) : Int) = ((x / 256 ^ (i + 1) : Nat) : Int) := by rw [Nat.pow_succ, ← Nat.div_div_eq_div_mul]
    have w2 : IntKind.i64.wrap ((i : Int) + 1) = ((i + 1 : Nat) : Int) := by rw [i64_in _ (by omega)]; omega
    have hlt2 : i < n := by omega
    rw [shr64_8, wb, wd, w2]
    intro b hnb
    have sb : Eng.Sub h' (upd h' b (.cells (ints .u8 [((x / 256 ^ i % 256 : Nat) : Int)]) 5)) := Sub.of_upd hnb
    refine appW_part hi (s.trans sb) (P.sub sb) N (ys := [((x / 256 ^ i % 256 : Nat) : Int)]) (HInts.new) (by simp only [List.length_singleton, List.length_append, le_len]; omega) fun v' h3 o n3 s4 _ _ => ?_
    rw [List.append_assoc, ← le_succ] at o
    obtain ⟨a4, c4, rfl, _, _⟩ := o.ints
    simp only [slA_sl, slL_sl, slC_sl]
    exact ⟨⟨i + 1, a4, c4, rfl, by omega, o, n3, s4⟩, by simp only [List.getD_cons_succ, List.getD_cons_zero, toInt_int, Int.toNat_natCast]; omega⟩
  · obtain rfl : i = n := by omega
    exact ⟨P, N, s⟩

variable {s0 : Nat → Prop}
set_option maxRecDepth 100000 in
set_option maxHeartbeats 2000000 in
theorem gi5_ok (hi : Eng.Inv (Team Try.prog s0) h0) (s : Eng.Sub h0 h) {xs cur : List Int} {a a8 : Option Addr} {c c8 : Nat} (O : tB.O h0 (.slice a8 xs.length c8) xs) (hw : okC xs) (L : xs.length ≤ 100000) (P : Part .u8 h (.slice a cur.length c) cur) (N : Eng.New h0 (.slice a cur.length c)) (hl : cur.length ≤ 2000000) (K0 : Kt)
    (e0 e1 e2 e3 e4 e5 e6 e7 e9 e10 e11 e12 e13 e14 e15 e16 : Value) :
    gi5.wp Try.prog (Team Try.prog s0) noLeaf (PG h0 (G5 cur xs)) [e0, e1, e2, e3, e4, e5, e6, e7, .slice a8 xs.length c8, e9, e10, e11, e12, e13, e14, e15, e16, .slice a cur.length c] h [K0] := by
  simp only [gi5, Tr.wp, mksW, callW, Ex.ev, coerce, toInt_int, toBool_bool, slL_sl, slC_sl, slA_sl, toAddr_ptr, ptrOf_ptr, isNil_sl, isNil_ptr, it_and, it_or, it_int, optN_int, optN_nl, cmpI, arith, Cst.val, SV.den, resShs, resV, resSV, resVals, newVars, runCells, exSh, allSh, cellsAre, List.flatMap_cons, List.flatMap_nil, List.replicate_one, List.getD_cons_zero, List.getD_cons_succ, List.getElem?_cons_zero, List.getElem?_cons_succ, decide_eq_true_eq, decide_eq_false_iff_not, List.map_cons, List.map_nil, List.cons_append, List.nil_append, List.append_nil, List.length_cons, List.length_nil, Nat.zero_add, Nat.add_zero, and_true, true_and, if_true, if_false, Bool.false_eq_true]
  have fl := fix_len hw
  obtain ⟨_, _, ei, hcx, gx⟩ := Part.ints O
  cases ei
  have LB : limB xs := by show xs.length ≤ _; omega
  refine (g_impl_EncodeFixed (hi.sub s) (O.sub s) hw LB).mono ?_
  rintro v1 h1 ⟨O1, N1, s1⟩
  obtain ⟨a1, c1, rfl, _, g1⟩ := Part.ints O1
  refine ⟨_, _, _, rfl, ?_⟩
  refine appW_part hi (s.trans s1) (P.sub s1) N g1 (by omega) fun v2 h2 o2 n2 s2 _ _ => ?_
  obtain ⟨a2, c2, rfl, _, _⟩ := o2.ints
  refine (g_impl_CrcUpdate (hi.sub s2) 0#32 _ _ xs hw.okB (gx.sub s2) hcx (by omega)).mono ?_
  rintro _ h3 ⟨rfl, s3⟩
  refine ⟨_, rfl, ?_⟩
  have wc : IntKind.u64.wrap ((crcB 0#32 xs).toNat : Int) = ((crcN xs : Nat) : Int) := u64_nat _ (by have := crcN_lt (xs := xs); unfold crcN at this; omega)
  rw [wc]
  simp only [slA_sl, slL_sl, slC_sl]
  refine (k_appendLittle hi (s2.trans s3) (o2.sub s3) n2 (crcN xs) 4 (by omega) (by rw [List.length_append]; omega)).mono ?_
  rintro v4 h4 ⟨O4, N4, s4⟩
  obtain ⟨a4, c4, rfl, _, g4⟩ := Part.ints O4
  refine ⟨_, _, _, rfl, ?_⟩
  have wl : IntKind.u64.wrap (xs.length : Int) = ((xs.length : Nat) : Int) := u64_nat _ (by omega)
  rw [wl]
  refine (k_appendLittle hi s4 O4 N4 xs.length 4 (by omega) (by simp only [List.length_append, le_len]; omega)).mono ?_
  rintro v6 h6 ⟨O6, N6, s6⟩
  obtain ⟨a6, c6, rfl, _, g6⟩ := Part.ints O6
  refine ⟨_, _, _, rfl, ?_⟩
  refine ⟨?_, N6, s6⟩
  have e : G5 cur xs = cur ++ ans_EncodeFixed xs ++ le (crcN xs) 4 ++ le xs.length 4 := by simp [G5, tailG]
  rw [e]; exact O6

theorem and2 : ∀ n : Nat, n < 32 → (Go.bits .and .i64 (n : Int) 2 != 0) = decide ((n : Int) / 2 % 2 ≠ 0) := by decide +kernel
theorem and_k (k : Int) (hk : k = 2 ∨ k = 4 ∨ k = 8 ∨ k = 16) {n : Int} (h : 0 ≤ n ∧ n ≤ 31) : (Go.bits .and .i64 n k != 0) = decide (n / k % 2 = 1) := by
  obtain ⟨m, rfl⟩ := Int.eq_ofNat_of_zero_le h.1
  have e : ∀ k : Int, (decide ((m : Int) / k % 2 ≠ 0)) = decide ((m : Int) / k % 2 = 1) := fun k => by
    generalize (m : Int) / k = q
    rw [decide_eq_decide]; omega
  rw [← e]
  rcases hk with rfl | rfl | rfl | rfl
  · exact and2 m (by omega)
  · exact and4 m (by omega)
  · exact and8 m (by omega)
  · exact and16 m (by omega)

theorem le_cut {x : Nat} : le x 2 = le (x % 65536) 2 := by simp [le, List.range_succ]; omega

set_option maxRecDepth 100000 in
set_option maxHeartbeats 2000000 in
theorem gi4_ok (hi : Eng.Inv (Team Try.prog s0) h0) (s : Eng.Sub h0 h) {xs cur : List Int} {a a8 : Option Addr} {c c8 : Nat} (O : tB.O h0 (.slice a8 xs.length c8) xs) (hw : okC xs) (L : xs.length ≤ 100000) (P : Part .u8 h (.slice a cur.length c) cur) (N : Eng.New h0 (.slice a cur.length c)) (hl : cur.length ≤ 1500000) (hc : okC cur) (n0 : Int) (h0f : 0 ≤ n0 ∧ n0 ≤ 31) (K0 : Kt)
    (e1 e2 e3 e4 e5 e6 e7 e9 e10 e11 e12 e13 e14 e15 : Value) :
    gi4.wp Try.prog (Team Try.prog s0) noLeaf (PG h0 (G4 n0 cur xs)) [.int .i64 n0, e1, e2, e3, e4, e5, e6, e7, .slice a8 xs.length c8, e9, e10, e11, e12, e13, e14, e15, .slice a cur.length c] h [K0] := by
  simp only [gi4, Tr.wp, mksW, callW, Ex.ev, coerce, toInt_int, toBool_bool, slL_sl, slC_sl, slA_sl, toAddr_ptr, ptrOf_ptr, isNil_sl, isNil_ptr, it_and, it_or, it_int, optN_int, optN_nl, cmpI, arith, Cst.val, SV.den, resShs, resV, resSV, resVals, newVars, runCells, exSh, allSh, cellsAre, List.flatMap_cons, List.flatMap_nil, List.replicate_one, List.getD_cons_zero, List.getD_cons_succ, List.getElem?_cons_zero, List.getElem?_cons_succ, decide_eq_true_eq, decide_eq_false_iff_not, List.map_cons, List.map_nil, List.cons_append, List.nil_append, List.append_nil, List.length_cons, List.length_nil, Nat.zero_add, Nat.add_zero, and_true, true_and, if_true, if_false, Bool.false_eq_true, and_k 2 (.inl rfl) h0f]
  refine ⟨fun hy => ?_, fun hn => ?_⟩
  · have e : G4 n0 cur xs = G5 (cur ++ le (crcN cur) 2) xs := by unfold G4 sumG; rw [if_pos (by simpa using hy), ← le_cut]
    rw [e]
    obtain ⟨_, _, ei, hcc, gc⟩ := P.ints
    cases ei
    refine (g_impl_CrcUpdate (hi.sub s) 0#32 _ _ cur hc.okB gc hcc (by omega)).mono ?_
    rintro _ h3 ⟨rfl, s3⟩
    refine ⟨_, rfl, ?_⟩
    have wc : IntKind.u64.wrap ((crcB 0#32 cur).toNat : Int) = ((crcN cur : Nat) : Int) := u64_nat _ (by have := crcN_lt (xs := cur); unfold crcN at this; omega)
    rw [wc]
    refine (k_appendLittle hi (s.trans s3) (P.sub s3) N (crcN cur) 2 (by omega) (by omega)).mono ?_
    rintro v4 h4 ⟨O4, N4, s4⟩
    obtain ⟨a4, c4, rfl, _, g4⟩ := Part.ints O4
    refine ⟨_, _, _, rfl, ?_⟩
    exact fun _ => gi5_ok hi s4 O hw L O4 N4 (by rw [List.length_append, le_len]; omega) K0 _ _ _ _ _ _ _ _ _ _ _ _ _ _ _ _
  · have e : G4 n0 cur xs = G5 cur xs := by unfold G4 sumG; rw [if_neg (by simpa using hn), List.append_nil]
    rw [e]
    exact fun _ => gi5_ok hi s O hw L P N (by omega) K0 _ _ _ _ _ _ _ _ _ _ _ _ _ _ _ _

set_option maxRecDepth 100000 in
set_option maxHeartbeats 2000000 in
theorem gi3_ok (hi : Eng.Inv (Team Try.prog s0) h0) (s : Eng.Sub h0 h) {xs zs cur : List Int} {a a8 a6 : Option Addr} {c c8 c6 : Nat} (O : tB.O h0 (.slice a8 xs.length c8) xs) (hw : okC xs) (L : xs.length ≤ 100000) (gz : HInts h0 .u8 a6 zs) (lz : zs.length ≤ 100000) (hz : okC zs) (P : Part .u8 h (.slice a cur.length c) cur) (N : Eng.New h0 (.slice a cur.length c)) (hl : cur.length ≤ 1000000) (hc : okC cur) (n0 : Int) (h0f : 0 ≤ n0 ∧ n0 ≤ 31) (K0 : Kt)
    (e1 e2 e3 e4 e5 e7 e9 e10 e11 e12 e13 e14 : Value) :
    gi3.wp Try.prog (Team Try.prog s0) noLeaf (PG h0 (G3 n0 zs cur xs)) [.int .i64 n0, e1, e2, e3, e4, e5, .slice a6 zs.length c6, e7, .slice a8 xs.length c8, e9, e10, e11, e12, e13, e14, .slice a cur.length c] h [K0] := by
  simp only [gi3, Tr.wp, mksW, callW, Ex.ev, coerce, toInt_int, toBool_bool, slL_sl, slC_sl, slA_sl, toAddr_ptr, ptrOf_ptr, isNil_sl, isNil_ptr, it_and, it_or, it_int, optN_int, optN_nl, cmpI, arith, Cst.val, SV.den, resShs, resV, resSV, resVals, newVars, runCells, exSh, allSh, cellsAre, List.flatMap_cons, List.flatMap_nil, List.replicate_one, List.getD_cons_zero, List.getD_cons_succ, List.getElem?_cons_zero, List.getElem?_cons_succ, decide_eq_true_eq, decide_eq_false_iff_not, List.map_cons, List.map_nil, List.cons_append, List.nil_append, List.append_nil, List.length_cons, List.length_nil, Nat.zero_add, Nat.add_zero, and_true, true_and, if_true, if_false, Bool.false_eq_true, and_k 16 (.inr (.inr (.inr rfl))) h0f]
  refine ⟨fun hy => ?_, fun hn => ?_⟩
  · have e : G3 n0 zs cur xs = G4 n0 (cur ++ (zs ++ [0])) xs := by unfold G3 txtG; rw [if_pos (by simpa using hy)]
    rw [e]
    refine appW_part hi s P N (gz.sub s) (by omega) fun v5 h5 o5 n5 s5 _ _ => ?_
    intro b hb
    have s6 : Eng.Sub h5 (upd h5 b (.cells #[.int .u8 0] 5)) := Sub.of_upd hb
    obtain ⟨a5, c5, rfl, _, _⟩ := o5.ints
    simp only [slA_sl, slL_sl, slC_sl]
    refine appW_part (ys := [0]) hi (s5.trans s6) (o5.sub s6) n5 (HInts.new (xs := [0])) (by simp only [List.length_append, List.length_singleton]; omega) fun v7 h7 o7 n7 s7 _ _ => ?_
    rw [List.append_assoc] at o7
    obtain ⟨a7, c7, rfl, _, _⟩ := o7.ints
    exact fun _ => gi4_ok hi s7 O hw L o7 n7 (by simp only [List.length_append, List.length_singleton]; omega) (hc.app (hz.app fun y hy => by simp at hy; omega)) n0 h0f K0 _ _ _ _ _ _ _ _ _ _ _ _ _ _
  · have e : G3 n0 zs cur xs = G4 n0 cur xs := by unfold G3 txtG; rw [if_neg (by simpa using hn), List.append_nil]
    rw [e]
    exact fun _ => gi4_ok hi s O hw L P N (by omega) hc n0 h0f K0 _ _ _ _ _ _ _ _ _ _ _ _ _ _

set_option maxRecDepth 100000 in
set_option maxHeartbeats 2000000 in
theorem gi2_ok (hi : Eng.Inv (Team Try.prog s0) h0) (s : Eng.Sub h0 h) {xs ys zs cur : List Int} {a a8 a6 a5 : Option Addr} {c c8 c6 c5 : Nat} (O : tB.O h0 (.slice a8 xs.length c8) xs) (hw : okC xs) (L : xs.length ≤ 100000) (gy : HInts h0 .u8 a5 ys) (ly : ys.length ≤ 100000) (hy : okC ys) (gz : HInts h0 .u8 a6 zs) (lz : zs.length ≤ 100000) (hz : okC zs) (P : Part .u8 h (.slice a cur.length c) cur) (N : Eng.New h0 (.slice a cur.length c)) (hl : cur.length ≤ 500000) (hc : okC cur) (n0 : Int) (h0f : 0 ≤ n0 ∧ n0 ≤ 31) (K0 : Kt)
    (e1 e2 e3 e4 e7 e9 e10 e11 e12 e13 : Value) :
    gi2.wp Try.prog (Team Try.prog s0) noLeaf (PG h0 (G2 n0 ys zs cur xs)) [.int .i64 n0, e1, e2, e3, e4, .slice a5 ys.length c5, .slice a6 zs.length c6, e7, .slice a8 xs.length c8, e9, e10, e11, e12, e13, .slice a cur.length c] h [K0] := by
  simp only [gi2, Tr.wp, mksW, callW, Ex.ev, coerce, toInt_int, toBool_bool, slL_sl, slC_sl, slA_sl, toAddr_ptr, ptrOf_ptr, isNil_sl, isNil_ptr, it_and, it_or, it_int, optN_int, optN_nl, cmpI, arith, Cst.val, SV.den, resShs, resV, resSV, resVals, newVars, runCells, exSh, allSh, cellsAre, List.flatMap_cons, List.flatMap_nil, List.replicate_one, List.getD_cons_zero, List.getD_cons_succ, List.getElem?_cons_zero, List.getElem?_cons_succ, decide_eq_true_eq, decide_eq_false_iff_not, List.map_cons, List.map_nil, List.cons_append, List.nil_append, List.append_nil, List.length_cons, List.length_nil, Nat.zero_add, Nat.add_zero, and_true, true_and, if_true, if_false, Bool.false_eq_true, and_k 8 (.inr (.inr (.inl rfl))) h0f]
  refine ⟨fun hyy => ?_, fun hn => ?_⟩
  · have e : G2 n0 ys zs cur xs = G3 n0 zs (cur ++ (ys ++ [0])) xs := by unfold G2 txtG; rw [if_pos (by simpa using hyy)]
    rw [e]
    refine appW_part hi s P N (gy.sub s) (by omega) fun v5 h5 o5 n5 s5 _ _ => ?_
    intro b hb
    have s6 : Eng.Sub h5 (upd h5 b (.cells #[.int .u8 0] 5)) := Sub.of_upd hb
    obtain ⟨a5', c5', rfl, _, _⟩ := o5.ints
    simp only [slA_sl, slL_sl, slC_sl]
    refine appW_part (ys := [0]) hi (s5.trans s6) (o5.sub s6) n5 (HInts.new (xs := [0])) (by simp only [List.length_append, List.length_singleton]; omega) fun v7 h7 o7 n7 s7 _ _ => ?_
    rw [List.append_assoc] at o7
    obtain ⟨a7, c7, rfl, _, _⟩ := o7.ints
    exact fun _ => gi3_ok hi s7 O hw L gz lz hz o7 n7 (by simp only [List.length_append, List.length_singleton]; omega) (hc.app (hy.app fun y hy => by simp at hy; omega)) n0 h0f K0 _ _ _ _ _ _ _ _ _ _ _ _
  · have e : G2 n0 ys zs cur xs = G3 n0 zs cur xs := by unfold G2 txtG; rw [if_neg (by simpa using hn), List.append_nil]
    rw [e]
    exact fun _ => gi3_ok hi s O hw L gz lz hz P N (by omega) hc n0 h0f K0 _ _ _ _ _ _ _ _ _ _ _ _

set_option maxRecDepth 100000 in
set_option maxHeartbeats 2000000 in
theorem gi1_ok (hi : Eng.Inv (Team Try.prog s0) h0) (s : Eng.Sub h0 h) {xs es ys zs cur : List Int} {a a8 a6 a5 a4 : Option Addr} {c c8 c6 c5 c4 : Nat} (O : tB.O h0 (.slice a8 xs.length c8) xs) (hw : okC xs) (L : xs.length ≤ 100000) (ge : HInts h0 .u8 a4 es) (le' : es.length ≤ 65535) (he : okC es) (gy : HInts h0 .u8 a5 ys) (ly : ys.length ≤ 100000) (hy : okC ys) (gz : HInts h0 .u8 a6 zs) (lz : zs.length ≤ 100000) (hz : okC zs) (P : Part .u8 h (.slice a cur.length c) cur) (N : Eng.New h0 (.slice a cur.length c)) (hl : cur.length ≤ 1000) (hc : okC cur) (n0 : Int) (h0f : 0 ≤ n0 ∧ n0 ≤ 31) (K0 : Kt)
    (e1 e2 e3 e7 e9 e10 e11 e12 : Value) :
    gi1.wp Try.prog (Team Try.prog s0) noLeaf (PG h0 (G1 n0 es ys zs cur xs)) [.int .i64 n0, e1, e2, e3, .slice a4 es.length c4, .slice a5 ys.length c5, .slice a6 zs.length c6, e7, .slice a8 xs.length c8, e9, e10, e11, e12, .slice a cur.length c] h [K0] := by
  simp only [gi1, Tr.wp, mksW, callW, Ex.ev, coerce, toInt_int, toBool_bool, slL_sl, slC_sl, slA_sl, toAddr_ptr, ptrOf_ptr, isNil_sl, isNil_ptr, it_and, it_or, it_int, optN_int, optN_nl, cmpI, arith, Cst.val, SV.den, resShs, resV, resSV, resVals, newVars, runCells, exSh, allSh, cellsAre, List.flatMap_cons, List.flatMap_nil, List.replicate_one, List.getD_cons_zero, List.getD_cons_succ, List.getElem?_cons_zero, List.getElem?_cons_succ, decide_eq_true_eq, decide_eq_false_iff_not, List.map_cons, List.map_nil, List.cons_append, List.nil_append, List.append_nil, List.length_cons, List.length_nil, Nat.zero_add, Nat.add_zero, and_true, true_and, if_true, if_false, Bool.false_eq_true, and_k 4 (.inr (.inl rfl)) h0f]
  refine ⟨fun hyy => ?_, fun hn => ?_⟩
  · have e : G1 n0 es ys zs cur xs = G2 n0 ys zs (cur ++ le es.length 2 ++ es) xs := by unfold G1 extG; rw [if_pos (by simpa using hyy), ← List.append_assoc]
    rw [e]
    rw [u64_nat es.length (by omega)]
    refine (k_appendLittle hi s P N es.length 2 (by omega) (by omega)).mono ?_
    rintro v5 h5 ⟨o5, n5, s5⟩
    obtain ⟨a5', c5', rfl, _, _⟩ := o5.ints
    refine ⟨_, _, _, rfl, ?_⟩
    refine appW_part hi s5 o5 n5 (ge.sub s5) (by simp only [List.length_append, le_len]; omega) fun v7 h7 o7 n7 s7 _ _ => ?_
    obtain ⟨a7, c7, rfl, _, _⟩ := o7.ints
    exact fun _ => gi2_ok hi s7 O hw L gy ly hy gz lz hz o7 n7 (by simp only [List.length_append, le_len]; omega) ((hc.app okC.le).app he) n0 h0f K0 _ _ _ _ _ _ _ _ _ _
  · have e : G1 n0 es ys zs cur xs = G2 n0 ys zs cur xs := by unfold G1 extG; rw [if_neg (by simpa using hn), List.append_nil]
    rw [e]
    exact fun _ => gi2_ok hi s O hw L gy ly hy gz lz hz P N (by omega) hc n0 h0f K0 _ _ _ _ _ _ _ _ _ _

set_option maxRecDepth 100000 in
set_option maxHeartbeats 4000000 in
theorem g_impl_EncodeGzip (hi : Eng.Inv (Team Try.prog s0) h) {v u : Value} {x : XMember} {xs : List Int} (O : tMember.O h v x) (hwm : hwMember x) (LM : limMember x) (O2 : tB.O h u xs) (hw : okC xs) (L : limB xs) :
    CallsH Try.prog (Team Try.prog s0) F_impl_EncodeGzip #[v, u] h (fun v h' => tB.O h' v (ans_EncodeGzip x xs) ∧ tB.New h v ∧ Eng.Sub h h') := by
  have OM := O
  obtain ⟨u4, u5, u6, rfl, H4, H5, H6, _⟩ := tMember_O O
  obtain ⟨a4, c4, rfl, hc4, hx4⟩ := Part.ints H4
  obtain ⟨a5, c5, rfl, hc5, hx5⟩ := Part.ints H5
  obtain ⟨a6, c6, rfl, hc6, hx6⟩ := Part.ints H6
  obtain ⟨n0, n1, n2, n3, es, ys, zs, n7, ⟨⟩⟩ := x
  have l4 : es.length ≤ 1048576 := LM.1
  have l5 : ys.length ≤ 1048576 := LM.2.1
  have l6 : zs.length ≤ 1048576 := LM.2.2
  simp only at hx4 hx5 hx6
  obtain ⟨a8, c8, rfl, hc8, hx8⟩ := Part.ints O2
  refine run_impl_EncodeGzip (vs := [.int .i64 n0, .int .i64 n1, .int .i64 n2, .int .i64 n3, .slice a4 es.length c4, .slice a5 ys.length c5, .slice a6 zs.length c6, .int .i64 n7, .slice a8 xs.length c8]) ⟨rfl, rfl, rfl, rfl, rfl, rfl, rfl, rfl, rfl, trivial⟩ hi ?_
  simp only [impl_EncodeGzip_cut, Tr.wp, mksW, callW, Ex.ev, coerce, toInt_int, toBool_bool, slL_sl, slC_sl, slA_sl, toAddr_ptr, ptrOf_ptr, isNil_sl, isNil_ptr, it_and, it_or, it_int, optN_int, optN_nl, cmpI, arith, Cst.val, SV.den, resShs, resV, resSV, resVals, newVars, runCells, exSh, allSh, cellsAre, List.flatMap_cons, List.flatMap_nil, List.replicate_one, List.getD_cons_zero, List.getD_cons_succ, List.getElem?_cons_zero, List.getElem?_cons_succ, decide_eq_true_eq, decide_eq_false_iff_not, List.map_cons, List.map_nil, List.cons_append, List.nil_append, List.append_nil, List.length_cons, List.length_nil, Nat.zero_add, Nat.add_zero, and_true, true_and, if_true, if_false, Bool.false_eq_true]
  refine (g_impl_ValidMember hi OM LM).mono ?_
  rintro _ h1 ⟨rfl, s1⟩
  refine ⟨_, rfl, fun hbad b hb => ?_, fun hok b hb => ?_⟩
  · have e : ans_EncodeGzip (n0, n1, n2, n3, es, ys, zs, n7, ()) xs = [] := if_neg fun hh => by
      rw [decide_eq_true hh.1] at hbad
      have h2 : n7 = (xs.length : Int) := hh.2
      simp only [Bool.not_true, Bool.or_eq_true, bne_iff_ne, Bool.false_eq_true, false_or, if_false] at hbad
      first | exact hbad h2 | (simp at hbad; exact hbad h2)
    rw [e]
    exact ⟨(Own.made (k := .u8) (h := h1) (b := b) (T := 5) []).part, New.of (sub_none s1 hb), s1.trans (Sub.of_upd hb)⟩
  · have hv : vmem (n0, n1, n2, n3, es, ys, zs, n7, ()) ∧ n7 = xs.length := by
      by_cases hv : vmem (n0, n1, n2, n3, es, ys, zs, n7, ())
      · rw [decide_eq_true hv] at hok; simp at hok; exact ⟨hv, hok⟩
      · rw [decide_eq_false hv] at hok; simp at hok
    have e : ans_EncodeGzip (n0, n1, n2, n3, es, ys, zs, n7, ()) xs = G1 n0 es ys zs (headG (n0, n1, n2, n3, es, ys, zs, n7, ())) xs := if_pos hv
    rw [e]
    obtain ⟨⟨f0, f1⟩, ⟨t0, t1⟩, ⟨x0, x1⟩, ⟨o0, o1⟩, le', ⟨m0, m1⟩, _, _, _, _, _, lsum⟩ := hv.1
    have h7 := hv.2
    simp only [mE, mN, mC] at le' lsum
    simp only at f0 f1 t0 t1 x0 x1 o0 o1 m0 m1
    obtain ⟨tn, rfl⟩ := Int.eq_ofNat_of_zero_le t0
    have w0 : IntKind.u8.wrap n0 = n0 := by rw [IntKind.wrap_u8]; omega
    have w2 : IntKind.u8.wrap n2 = n2 := by rw [IntKind.wrap_u8]; omega
    have w3 : IntKind.u8.wrap n3 = n3 := by rw [IntKind.wrap_u8]; omega
    rw [w0, w2, w3, u64_nat tn (by omega)]
    have s0 : Eng.Sub h1 (upd h1 b (.cells (ints .u8 [31, 139, 8, n0]) 5)) := Sub.of_upd hb
    refine (k_appendLittle (xs := [31, 139, 8, n0]) hi (s1.trans s0) (Own.made (k := .u8) (h := h1) (b := b) (T := 5) [31, 139, 8, n0]).part (New.of (sub_none s1 hb)) tn 4 (by omega) (by simp)).mono ?_
    rintro v5 h5 ⟨o5, n5, s5⟩
    obtain ⟨a5', c5', rfl, _, _⟩ := o5.ints
    refine ⟨_, _, _, rfl, ?_⟩
    intro b2 hb2
    have s6 : Eng.Sub h5 (upd h5 b2 (.cells (ints .u8 [n2, n3]) 5)) := Sub.of_upd hb2
    refine appW_part (ys := [n2, n3]) hi (s5.trans s6) (o5.sub s6) n5 (HInts.new (xs := [n2, n3])) (by simp [le_len]) fun v7 h7 o7 n7' s7 _ _ => ?_
    obtain ⟨a7, c7, rfl, _, _⟩ := o7.ints
    have eh : [31, 139, 8, n0] ++ le tn 4 ++ [n2, n3] = headG (n0, (tn : Int), n2, n3, es, ys, zs, n7, ()) := by simp [headG]
    have lh : (headG (n0, (tn : Int), n2, n3, es, ys, zs, n7, ())).length = 10 := by simp [headG, le_len]
    rw [eh] at o7 n7' ⊢
    exact gi1_ok hi s7 O2 hw (by omega) hx4 le' hwm.1 hx5 (by omega) hwm.2.1 hx6 (by omega) hwm.2.2 o7 n7' (by omega) (fun y hy => by
      simp only [headG] at hy
      rcases List.mem_append.1 hy with hy | hy
      · rcases List.mem_append.1 hy with hy | hy
        · simp at hy; omega
        · have := okC.le y hy; omega
      · simp at hy; omega) n0 ⟨f0, f1⟩ _ _ _ _ _ _ _ _ _

theorem sm_EncodeGzip {x : XMember} {xs : List Int} (hwm : hwMember x) (LM : limMember x) (hw : ∀ y ∈ xs, 0 ≤ y ∧ y ≤ 255) (L : limB xs) : smB (ans_EncodeGzip x xs) := by
  have := fix_len hw
  obtain ⟨l4, l5, l6⟩ := LM
  have l4 : (mE x).length ≤ 1048576 := l4
  have l5 : (mN x).length ≤ 1048576 := l5
  have l6 : (mC x).length ≤ 1048576 := l6
  unfold ans_EncodeGzip smB
  split
  · unfold G1 G2 G3 G4 G5 tailG
    generalize hc : headG x ++ extG x.1 (mE x) ++ txtG x.1 8 (mN x) ++ txtG x.1 16 (mC x) = cur
    have h1 : (extG x.1 (mE x)).length ≤ 2 + (mE x).length := ext_len
    have h2 : (txtG x.1 8 (mN x)).length ≤ 1 + (mN x).length := txt_len
    have h3 : (txtG x.1 16 (mC x)).length ≤ 1 + (mC x).length := txt_len
    have h4 : (sumG x.1 cur).length ≤ 2 := sum_len
    have h5 : (headG x).length = 10 := by simp [headG, le_len]
    have h6 : cur.length ≤ 3200000 := by rw [← hc]; simp only [List.length_append]; omega
    simp only [List.length_append, le_len]
    first | omega | (show _ ≤ _; simp only [List.length_append, le_len]; omega)
  · simp

def cntMember (x : XMember) : Nat := cntB (mE x) + cntB (mN x) + cntB (mC x)
theorem cntMember_le {x : XMember} (H : smMember x) : cntMember x ≤ 562949953421312 := by
  have h1 : cntB (mE x) ≤ 1099511627776 := H.1
  have h2 : cntB (mN x) ≤ 1099511627776 := H.2.1
  have h3 : cntB (mC x) ≤ 1099511627776 := H.2.2
  unfold cntMember; omega
theorem c_markMember {v : Value} {x : XMember} (hi : Eng.Inv S h) (H : tMember.O h v x) (hb : ∀ b, tMember.B v b → ¬ S b) (k : Int) (k0 : 0 ≤ k) (k1 : k ≤ 562949953421312) (hs : smMember x) :
    CallsH Try.prog S F_laws_markMember #[v, .int .i64 k] h (fun u h' => u = .int .i64 (k + cntMember x) ∧ True ∧ ∀ b, ¬ tMember.B v b → h' b = h b) := by
  obtain ⟨u4, u5, u6, rfl, H4, H5, H6, d45, d46, d56⟩ := tMember_O H
  obtain ⟨a4, c4, rfl⟩ := tB_form (tB.OR H4)
  obtain ⟨a5, c5, rfl⟩ := tB_form (tB.OR H5)
  obtain ⟨a6, c6, rfl⟩ := tB_form (tB.OR H6)
  obtain ⟨n0, n1, n2, n3, xs, ys, zs, n7, ⟨⟩⟩ := x
  have hB := fun b => tMember_B (x := (n0, n1, n2, n3, xs, ys, zs, n7, ())) (u4 := .slice a4 xs.length c4) (u5 := .slice a5 ys.length c5) (u6 := .slice a6 zs.length c6) (b := b)
  have h1 : cntB xs ≤ 1099511627776 := hs.1
  have h2 : cntB ys ≤ 1099511627776 := hs.2.1
  have h3 : cntB zs ≤ 1099511627776 := hs.2.2
  refine run_laws_markMember (vs := [.int .i64 n0, .int .i64 n1, .int .i64 n2, .int .i64 n3, .slice a4 xs.length c4, .slice a5 ys.length c5, .slice a6 zs.length c6, .int .i64 n7, .int .i64 k]) ⟨rfl, rfl, rfl, rfl, rfl, rfl, rfl, rfl, rfl, trivial⟩ hi ?_
  simp only [t_laws_markMember, Tr.wp, mksW, callW, Ex.ev, coerce, toInt_int, toBool_bool, slL_sl, slC_sl, slA_sl, toAddr_ptr, ptrOf_ptr, isNil_sl, isNil_ptr, it_and, it_or, it_int, optN_int, optN_nl, cmpI, arith, Cst.val, SV.den, resShs, resV, resSV, resVals, newVars, runCells, exSh, allSh, cellsAre, storeW, List.flatMap_cons, List.flatMap_nil, List.replicate_one, List.getD_cons_zero, List.getD_cons_succ, List.getElem?_cons_zero, List.getElem?_cons_succ, decide_eq_true_eq, decide_eq_false_iff_not, List.map_cons, List.map_nil, List.cons_append, List.nil_append, List.append_nil, List.length_cons, List.length_nil, Nat.zero_add, Nat.add_zero, and_true, true_and, if_true, if_false, Bool.false_eq_true]
  refine (c_markB hi H4 (fun b h => hb b ((hB b).2 (.inl h))) k k0 (by omega) hs.1).mono ?_
  rintro _ g1 ⟨rfl, _, f1⟩
  refine ⟨_, rfl, ?_⟩
  have H5' : tB.O g1 (.slice a5 ys.length c5) ys := tB.Okeep H5 fun b h => f1 b fun h2 => d45 b h2 h
  have H6' : tB.O g1 (.slice a6 zs.length c6) zs := tB.Okeep H6 fun b h => f1 b fun h2 => d46 b h2 h
  have i1 : Eng.Inv S g1 := fun b hS hn => by
    by_cases hh : tB.B (.slice a4 xs.length c4) b
    · exact hb b ((hB b).2 (.inl hh)) hS
    · rw [f1 b hh] at hn; exact hi b hS hn
  refine (c_markB i1 H5' (fun b h => hb b ((hB b).2 (.inr (.inl h)))) (k + cntB xs) (by omega) (by omega) hs.2.1).mono ?_
  rintro _ g2 ⟨rfl, _, f2⟩
  refine ⟨_, rfl, ?_⟩
  have H6'' : tB.O g2 (.slice a6 zs.length c6) zs := tB.Okeep H6' fun b h => f2 b fun h2 => d56 b h2 h
  have i2 : Eng.Inv S g2 := fun b hS hn => by
    by_cases hh : tB.B (.slice a5 ys.length c5) b
    · exact hb b ((hB b).2 (.inr (.inl hh))) hS
    · rw [f2 b hh] at hn; exact i1 b hS hn
  refine (c_markB i2 H6'' (fun b h => hb b ((hB b).2 (.inr (.inr h)))) (k + cntB xs + cntB ys) (by omega) (by omega) hs.2.2).mono ?_
  rintro _ g3 ⟨rfl, _, f3⟩
  refine ⟨_, rfl, ?_, fun b hn => ?_⟩
  · have hc : ((cntMember (n0, n1, n2, n3, xs, ys, zs, n7, ()) : Nat) : Int) = cntB xs + cntB ys + cntB zs := by unfold cntMember; push_cast; rfl
    rw [hc, ← Int.add_assoc, ← Int.add_assoc]
  · rw [f3 b fun h => hn ((hB b).2 (.inr (.inr h))), f2 b fun h => hn ((hB b).2 (.inr (.inl h))), f1 b fun h => hn ((hB b).2 (.inl h))]
end Go.Proofs.Ytmnialmphlbmaaa
