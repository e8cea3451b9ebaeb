import Derived.Test.YtmnialmphlbmaaaKZl
import Derived.Test.YtmnialmphlbmaaaKCrc3
import Derived.Test.YtmnialmphlbmaaaKMemberV
import Derived.Test.YtmnialmphlbmaaaCutspecEncodeGzip
set_option linter.unusedVariables false
set_option linter.unusedSimpArgs false
namespace Go.Proofs.Ytmnialmphlbmaaa
open Go Go.Eng Go.IntWalk
variable {S : Shared} {h h0 : Eng.Heap}

/-! ### What a gzip member holds -/
def crcN (xs : List Int) : Nat := (crcB 0#32 xs).toNat
theorem crcN_lt {xs : List Int} : crcN xs < 4294967296 := (crcB 0#32 xs).isLt
def tailG (xs : List Int) : List Int := ans_EncodeFixed xs ++ le (crcN xs) 4 ++ le xs.length 4
def extG (f : Int) (es : List Int) : List Int := if f / 4 % 2 = 1 then le es.length 2 ++ es else []
def txtG (f k : Int) (es : List Int) : List Int := if f / k % 2 = 1 then es ++ [0] else []
def sumG (f : Int) (cur : List Int) : List Int := if f / 2 % 2 = 1 then le (crcN cur % 65536) 2 else []
def G5 (cur xs : List Int) : List Int := cur ++ tailG xs
def G4 (f : Int) (cur xs : List Int) : List Int := G5 (cur ++ sumG f cur) xs
def G3 (f : Int) (zs cur xs : List Int) : List Int := G4 f (cur ++ txtG f 16 zs) xs
def G2 (f : Int) (ys zs cur xs : List Int) : List Int := G3 f zs (cur ++ txtG f 8 ys) xs
def G1 (f : Int) (es ys zs cur xs : List Int) : List Int := G2 f ys zs (cur ++ extG f es) xs
def headG (x : XMember) : List Int := [31, 139, 8, x.1] ++ le x.2.1.toNat 4 ++ [x.2.2.1, x.2.2.2.1]
def ans_EncodeGzip (x : XMember) (xs : List Int) : List Int :=
  if vmem x ∧ x.2.2.2.2.2.2.2.1 = xs.length then G1 x.1 (mE x) (mN x) (mC x) (headG x) xs else []
def hwMember (x : XMember) : Prop := (∀ y ∈ mE x, 0 ≤ y ∧ y ≤ 255) ∧ (∀ y ∈ mN x, 0 ≤ y ∧ y ≤ 255) ∧ (∀ y ∈ mC x, 0 ≤ y ∧ y ≤ 255)
def PG (h0 : Eng.Heap) (ys : List Int) (v : Value) (h' : Eng.Heap) : Prop := tB.O h' v ys ∧ tB.New h0 v ∧ Eng.Sub h0 h'
def okC (xs : List Int) : Prop := ∀ x ∈ xs, 0 ≤ x ∧ x ≤ 255
theorem okC.okB {xs : List Int} (H : okC xs) : ∀ x ∈ xs, 0 ≤ x ∧ x < 256 := fun x hx => by have := H x hx; omega
theorem okC.app {xs ys : List Int} (H : okC xs) (G : okC ys) : okC (xs ++ ys) := fun x hx => by
  rcases List.mem_append.1 hx with h | h
  · exact H x h
  · exact G x h
theorem okC.le {x n : Nat} : okC (le x n) := fun y hy => by have := le_byte y hy; omega
theorem okC.ext {f : Int} {es : List Int} (H : okC es) : okC (extG f es) := by
  unfold extG; split
  · exact okC.le.app H
  · intro y hy; simp at hy
theorem okC.txt {f k : Int} {es : List Int} (H : okC es) : okC (txtG f k es) := by
  unfold txtG; split
  · exact H.app fun y hy => by simp at hy; omega
  · intro y hy; simp at hy
theorem ext_len {f : Int} {es : List Int} : (extG f es).length ≤ 2 + es.length := by
  unfold extG; split <;> simp [le_len]
theorem txt_len {f k : Int} {es : List Int} : (txtG f k es).length ≤ 1 + es.length := by
  unfold txtG; split <;> simp <;> omega
theorem sum_len {f : Int} {es : List Int} : (sumG f es).length ≤ 2 := by
  unfold sumG; split <;> simp [le_len]

theorem u64_nat (x : Nat) (hx : x < 18446744073709551616) : IntKind.u64.wrap (x : Int) = (x : Int) := u64_in _ (by omega)

set_option maxRecDepth 100000 in
set_option maxHeartbeats 2000000 in
theorem gs5_ok (hi : Eng.Inv S h0) (s : Eng.Sub h0 h) {xs cur : List Int} {a a8 : Option Addr} {c c8 : Nat} (O : tB.O h0 (.slice a8 xs.length c8) xs) (hw : okC xs) (L : xs.length ≤ 100000) (P : Part .u8 h (.slice a cur.length c) cur) (N : Eng.New h0 (.slice a cur.length c)) (hl : cur.length ≤ 3000000) (K0 : Kt)
    (e0 e1 e2 e3 e4 e5 e6 e7 e9 e10 e11 e12 e13 e14 e15 e16 e17 : Value) :
    gs5.wp Try.prog S noLeaf (PG h0 (G5 cur xs)) [e0, e1, e2, e3, e4, e5, e6, e7, .slice a8 xs.length c8, e9, e10, e11, e12, e13, e14, e15, e16, e17, .slice a cur.length c] h [K0] := by
  simp only [gs5, Tr.wp, mksW, callW, Ex.ev, coerce, toInt_int, toBool_bool, slL_sl, slC_sl, slA_sl, toAddr_ptr, ptrOf_ptr, isNil_sl, isNil_ptr, it_and, it_or, it_int, optN_int, optN_nl, cmpI, arith, Cst.val, SV.den, resShs, resV, resSV, resVals, newVars, runCells, exSh, allSh, cellsAre, List.flatMap_cons, List.flatMap_nil, List.replicate_one, List.getD_cons_zero, List.getD_cons_succ, List.getElem?_cons_zero, List.getElem?_cons_succ, decide_eq_true_eq, decide_eq_false_iff_not, List.map_cons, List.map_nil, List.cons_append, List.nil_append, List.append_nil, List.length_cons, List.length_nil, Nat.zero_add, Nat.add_zero, and_true, true_and, if_true, if_false, Bool.false_eq_true]
  have fl := fix_len hw
  obtain ⟨_, _, ei, _, gx⟩ := Part.ints O
  cases ei
  have LB : limB xs := by show xs.length ≤ _; omega
  refine (g_spec_EncodeFixed (hi.sub s) (O.sub s) hw LB).mono ?_
  rintro v1 h1 ⟨O1, N1, s1⟩
  obtain ⟨a1, c1, rfl, _, g1⟩ := Part.ints O1
  refine ⟨_, _, _, rfl, ?_⟩
  refine appW_part hi (s.trans s1) (P.sub s1) N g1 (by omega) fun v2 h2 o2 n2 s2 _ _ => ?_
  obtain ⟨a2, c2, rfl, _, _⟩ := o2.ints
  refine (g_spec_CrcUpdate (hi.sub s2) 0#32 _ _ xs (gx.sub s2) hw.okB (by omega)).mono ?_
  rintro _ h3 ⟨rfl, rfl⟩
  refine ⟨_, rfl, ?_⟩
  have wc : IntKind.u64.wrap ((crcB 0#32 xs).toNat : Int) = ((crcN xs : Nat) : Int) := u64_nat _ (by have := crcN_lt (xs := xs); unfold crcN at this; omega)
  rw [wc]
  refine (k_l6Put (hi.sub s2) (crcN xs) (by have := crcN_lt (xs := xs); omega) 4 (by omega) false).mono ?_
  rintro v4 h4 ⟨O4, N4, s4⟩
  obtain ⟨a4, c4, rfl, _, g4⟩ := Part.ints O4
  refine ⟨_, _, _, rfl, ?_⟩
  simp only [slA_sl, slL_sl, slC_sl]
  refine appW_part hi (s2.trans s4) (o2.sub s4) n2 g4 (by rw [put6_len, List.length_append]; omega) fun v5 h5 o5 n5 s5 _ _ => ?_
  obtain ⟨a5, c5, rfl, _, _⟩ := o5.ints
  have wl : IntKind.u64.wrap (xs.length : Int) = ((xs.length : Nat) : Int) := u64_nat _ (by omega)
  rw [wl]
  refine (k_l6Put (hi.sub s5) xs.length (by omega) 4 (by omega) false).mono ?_
  rintro v6 h6 ⟨O6, N6, s6⟩
  obtain ⟨a6, c6, rfl, _, g6⟩ := Part.ints O6
  refine ⟨_, _, _, rfl, ?_⟩
  simp only [slA_sl, slL_sl, slC_sl]
  refine appW_part hi (s5.trans s6) (o5.sub s6) n5 g6 (by simp only [put6_len, List.length_append]; omega) fun v7 h7 o7 n7 s7 _ _ => ?_
  obtain ⟨a7, c7, rfl, _, _⟩ := o7.ints
  refine ⟨?_, n7, s7⟩
  have e : G5 cur xs = cur ++ ans_EncodeFixed xs ++ put6 (crcN xs) 4 false ++ put6 xs.length 4 false := by simp [G5, tailG, put6]
  rw [e]; exact o7

theorem quo2 {n k : Int} (h : 0 ≤ n ∧ n ≤ 31) (hk : 1 ≤ k) : (IntKind.i64.wrap (n.tdiv k)).tmod 2 = n / k % 2 := by
  have := tdiv_le n k h.1 hk
  rw [i64_quo _ _ ⟨h.1, by omega, hk⟩, Int.tmod_eq_emod_of_nonneg this.1]

set_option maxRecDepth 100000 in
set_option maxHeartbeats 2000000 in
theorem gs4_ok (hi : Eng.Inv S h0) (s : Eng.Sub h0 h) {xs cur : List Int} {a a8 : Option Addr} {c c8 : Nat} (O : tB.O h0 (.slice a8 xs.length c8) xs) (hw : okC xs) (L : xs.length ≤ 100000) (P : Part .u8 h (.slice a cur.length c) cur) (N : Eng.New h0 (.slice a cur.length c)) (hl : cur.length ≤ 2000000) (hc : okC cur) (n0 : Int) (h0f : 0 ≤ n0 ∧ n0 ≤ 31) (K0 : Kt)
    (e1 e2 e3 e4 e5 e6 e7 e9 e10 e11 e12 e13 e14 e15 e16 : Value) :
    gs4.wp Try.prog S noLeaf (PG h0 (G4 n0 cur xs)) [.int .i64 n0, e1, e2, e3, e4, e5, e6, e7, .slice a8 xs.length c8, e9, e10, e11, e12, e13, e14, e15, e16, .slice a cur.length c] h [K0] := by
  simp only [gs4, Tr.wp, mksW, callW, Ex.ev, coerce, toInt_int, toBool_bool, slL_sl, slC_sl, slA_sl, toAddr_ptr, ptrOf_ptr, isNil_sl, isNil_ptr, it_and, it_or, it_int, optN_int, optN_nl, cmpI, arith, Cst.val, SV.den, resShs, resV, resSV, resVals, newVars, runCells, exSh, allSh, cellsAre, List.flatMap_cons, List.flatMap_nil, List.replicate_one, List.getD_cons_zero, List.getD_cons_succ, List.getElem?_cons_zero, List.getElem?_cons_succ, decide_eq_true_eq, decide_eq_false_iff_not, List.map_cons, List.map_nil, List.cons_append, List.nil_append, List.append_nil, List.length_cons, List.length_nil, Nat.zero_add, Nat.add_zero, and_true, true_and, if_true, if_false, Bool.false_eq_true, quo2 h0f (show (1 : Int) ≤ 2 by omega)]
  refine ⟨fun hy => ?_, fun hn => ?_⟩
  · have e : G4 n0 cur xs = G5 (cur ++ put6 (crcN cur % 65536) 2 false) xs := by unfold G4 sumG; rw [if_pos (by simpa using hy)]; rfl
    rw [e]
    obtain ⟨_, _, ei, _, gc⟩ := P.ints
    cases ei
    refine (g_spec_CrcUpdate (hi.sub s) 0#32 _ _ cur gc hc.okB (by omega)).mono ?_
    rintro _ h3 ⟨rfl, rfl⟩
    refine ⟨_, rfl, ?_⟩
    have wc : IntKind.u64.wrap (((crcB 0#32 cur).toNat : Int).tmod 65536) = ((crcN cur % 65536 : Nat) : Int) := by
      have := crcN_lt (xs := cur)
      unfold crcN at this ⊢
      rw [Int.tmod_eq_emod_of_nonneg (by omega), u64_in _ (by omega)]; omega
    rw [wc]
    refine (k_l6Put (hi.sub s) (crcN cur % 65536) (by omega) 2 (by omega) false).mono ?_
    rintro v4 h4 ⟨O4, N4, s4⟩
    obtain ⟨a4, c4, rfl, _, g4⟩ := Part.ints O4
    refine ⟨_, _, _, rfl, ?_⟩
    refine appW_part hi (s.trans s4) (P.sub s4) N g4 (by rw [put6_len]; omega) fun v5 h5 o5 n5 s5 _ _ => ?_
    obtain ⟨a5, c5, rfl, _, _⟩ := o5.ints
    simp only [slA_sl, slL_sl, slC_sl]
    exact fun _ => gs5_ok hi s5 O hw L o5 n5 (by rw [List.length_append, put6_len]; omega) K0 _ _ _ _ _ _ _ _ _ _ _ _ _ _ _ _ _
  · have e : G4 n0 cur xs = G5 cur xs := by unfold G4 sumG; rw [if_neg (by simpa using hn), List.append_nil]
    rw [e]
    exact fun _ => gs5_ok hi s O hw L P N (by omega) K0 _ _ _ _ _ _ _ _ _ _ _ _ _ _ _ _ _

/-- A text and its 0, behind what is there. -/
theorem txt_app (hi : Eng.Inv S h0) (s : Eng.Sub h0 h) {ys cur : List Int} {a a8 : Option Addr} {c c8 : Nat} (gy : HInts h0 .u8 a8 ys) (L : ys.length ≤ 100000) (P : Part .u8 h (.slice a cur.length c) cur) (N : Eng.New h0 (.slice a cur.length c)) (hl : cur.length ≤ 2000000) {K : Value → Eng.Heap → Prop}
    (hK : ∀ v h', Part .u8 h' v (cur ++ (ys ++ [0])) → Eng.New h0 v → Eng.Sub h0 h' → K v h') :
    appW S 5 1 1 [.int .u8 0] (.slice a cur.length c) (.slice a8 ys.length c8) h fun v h1 => ∀ b, h1 b = none → 
      appW S 5 1 1 [.int .u8 0] v (.slice (some ⟨b, 0, none⟩) 1 1) (upd h1 b (.cells #[.int .u8 0] 5)) K := by
  refine appW_part hi s P N (gy.sub s) (by omega) fun v5 h5 o5 n5 s5 _ _ => ?_
  intro b hb
  have s6 : Eng.Sub h5 (upd h5 b (.cells #[.int .u8 0] 5)) := Sub.of_upd hb
  obtain ⟨a5, c5, rfl, _, _⟩ := o5.ints
  refine appW_part (ys := [0]) hi (s5.trans s6) (o5.sub s6) n5 (HInts.new (xs := [0])) (by simp only [List.length_append, List.length_singleton]; omega) fun v7 h7 o7 n7 s7 _ _ => ?_
  rw [List.append_assoc] at o7
  exact hK _ _ o7 n7 s7

theorem txtG_len {f k : Int} {ys cur : List Int} (hl : cur.length ≤ 1000000) (L : ys.length ≤ 100000) : (cur ++ (ys ++ [0])).length ≤ 1200000 := by
  simp only [List.length_append, List.length_singleton]; omega

set_option maxRecDepth 100000 in
set_option maxHeartbeats 2000000 in
theorem gs3_ok (hi : Eng.Inv S h0) (s : Eng.Sub h0 h) {xs zs cur : List Int} {a a8 a6 : Option Addr} {c c8 c6 : Nat} (O : tB.O h0 (.slice a8 xs.length c8) xs) (hw : okC xs) (L : xs.length ≤ 100000) (gz : HInts h0 .u8 a6 zs) (lz : zs.length ≤ 100000) (hz : okC zs) (P : Part .u8 h (.slice a cur.length c) cur) (N : Eng.New h0 (.slice a cur.length c)) (hl : cur.length ≤ 1000000) (hc : okC cur) (n0 : Int) (h0f : 0 ≤ n0 ∧ n0 ≤ 31) (K0 : Kt)
    (e1 e2 e3 e4 e5 e7 e9 e10 e11 e12 e13 e14 e15 : Value) :
    gs3.wp Try.prog S noLeaf (PG h0 (G3 n0 zs cur xs)) [.int .i64 n0, e1, e2, e3, e4, e5, .slice a6 zs.length c6, e7, .slice a8 xs.length c8, e9, e10, e11, e12, e13, e14, e15, .slice a cur.length c] h [K0] := by
  simp only [gs3, Tr.wp, mksW, callW, Ex.ev, coerce, toInt_int, toBool_bool, slL_sl, slC_sl, slA_sl, toAddr_ptr, ptrOf_ptr, isNil_sl, isNil_ptr, it_and, it_or, it_int, optN_int, optN_nl, cmpI, arith, Cst.val, SV.den, resShs, resV, resSV, resVals, newVars, runCells, exSh, allSh, cellsAre, List.flatMap_cons, List.flatMap_nil, List.replicate_one, List.getD_cons_zero, List.getD_cons_succ, List.getElem?_cons_zero, List.getElem?_cons_succ, decide_eq_true_eq, decide_eq_false_iff_not, List.map_cons, List.map_nil, List.cons_append, List.nil_append, List.append_nil, List.length_cons, List.length_nil, Nat.zero_add, Nat.add_zero, and_true, true_and, if_true, if_false, Bool.false_eq_true, quo2 h0f (show (1 : Int) ≤ 16 by omega)]
  refine ⟨fun hy => ?_, fun hn => ?_⟩
  · have e : G3 n0 zs cur xs = G4 n0 (cur ++ (zs ++ [0])) xs := by unfold G3 txtG; rw [if_pos (by simpa using hy)]
    rw [e]
    refine appW_part hi s P N (gz.sub s) (by omega) fun v5 h5 o5 n5 s5 _ _ => ?_
    intro b hb
    have s6 : Eng.Sub h5 (upd h5 b (.cells #[.int .u8 0] 5)) := Sub.of_upd hb
    obtain ⟨a5, c5, rfl, _, _⟩ := o5.ints
    simp only [slA_sl, slL_sl, slC_sl]
    refine appW_part (ys := [0]) hi (s5.trans s6) (o5.sub s6) n5 (HInts.new (xs := [0])) (by simp only [List.length_append, List.length_singleton]; omega) fun v7 h7 o7 n7 s7 _ _ => ?_
    rw [List.append_assoc] at o7
    obtain ⟨a7, c7, rfl, _, _⟩ := o7.ints
    exact fun _ => gs4_ok hi s7 O hw L o7 n7 (by simp only [List.length_append, List.length_singleton]; omega) (hc.app (hz.app fun y hy => by simp at hy; omega)) n0 h0f K0 _ _ _ _ _ _ _ _ _ _ _ _ _ _ _
  · have e : G3 n0 zs cur xs = G4 n0 cur xs := by unfold G3 txtG; rw [if_neg (by simpa using hn), List.append_nil]
    rw [e]
    exact fun _ => gs4_ok hi s O hw L P N (by omega) hc n0 h0f K0 _ _ _ _ _ _ _ _ _ _ _ _ _ _ _

set_option maxRecDepth 100000 in
set_option maxHeartbeats 2000000 in
theorem gs2_ok (hi : Eng.Inv S h0) (s : Eng.Sub h0 h) {xs ys zs cur : List Int} {a a8 a6 a5 : Option Addr} {c c8 c6 c5 : Nat} (O : tB.O h0 (.slice a8 xs.length c8) xs) (hw : okC xs) (L : xs.length ≤ 100000) (gy : HInts h0 .u8 a5 ys) (ly : ys.length ≤ 100000) (hy : okC ys) (gz : HInts h0 .u8 a6 zs) (lz : zs.length ≤ 100000) (hz : okC zs) (P : Part .u8 h (.slice a cur.length c) cur) (N : Eng.New h0 (.slice a cur.length c)) (hl : cur.length ≤ 500000) (hc : okC cur) (n0 : Int) (h0f : 0 ≤ n0 ∧ n0 ≤ 31) (K0 : Kt)
    (e1 e2 e3 e4 e7 e9 e10 e11 e12 e13 e14 : Value) :
    gs2.wp Try.prog S noLeaf (PG h0 (G2 n0 ys zs cur xs)) [.int .i64 n0, e1, e2, e3, e4, .slice a5 ys.length c5, .slice a6 zs.length c6, e7, .slice a8 xs.length c8, e9, e10, e11, e12, e13, e14, .slice a cur.length c] h [K0] := by
  simp only [gs2, Tr.wp, mksW, callW, Ex.ev, coerce, toInt_int, toBool_bool, slL_sl, slC_sl, slA_sl, toAddr_ptr, ptrOf_ptr, isNil_sl, isNil_ptr, it_and, it_or, it_int, optN_int, optN_nl, cmpI, arith, Cst.val, SV.den, resShs, resV, resSV, resVals, newVars, runCells, exSh, allSh, cellsAre, List.flatMap_cons, List.flatMap_nil, List.replicate_one, List.getD_cons_zero, List.getD_cons_succ, List.getElem?_cons_zero, List.getElem?_cons_succ, decide_eq_true_eq, decide_eq_false_iff_not, List.map_cons, List.map_nil, List.cons_append, List.nil_append, List.append_nil, List.length_cons, List.length_nil, Nat.zero_add, Nat.add_zero, and_true, true_and, if_true, if_false, Bool.false_eq_true, quo2 h0f (show (1 : Int) ≤ 8 by omega)]
  refine ⟨fun hyy => ?_, fun hn => ?_⟩
  · have e : G2 n0 ys zs cur xs = G3 n0 zs (cur ++ (ys ++ [0])) xs := by unfold G2 txtG; rw [if_pos (by simpa using hyy)]
    rw [e]
    refine appW_part hi s P N (gy.sub s) (by omega) fun v5 h5 o5 n5 s5 _ _ => ?_
    intro b hb
    have s6 : Eng.Sub h5 (upd h5 b (.cells #[.int .u8 0] 5)) := Sub.of_upd hb
    obtain ⟨a5', c5', rfl, _, _⟩ := o5.ints
    simp only [slA_sl, slL_sl, slC_sl]
    refine appW_part (ys := [0]) hi (s5.trans s6) (o5.sub s6) n5 (HInts.new (xs := [0])) (by simp only [List.length_append, List.length_singleton]; omega) fun v7 h7 o7 n7 s7 _ _ => ?_
    rw [List.append_assoc] at o7
    obtain ⟨a7, c7, rfl, _, _⟩ := o7.ints
    exact fun _ => gs3_ok hi s7 O hw L gz lz hz o7 n7 (by simp only [List.length_append, List.length_singleton]; omega) (hc.app (hy.app fun y hy => by simp at hy; omega)) n0 h0f K0 _ _ _ _ _ _ _ _ _ _ _ _ _
  · have e : G2 n0 ys zs cur xs = G3 n0 zs cur xs := by unfold G2 txtG; rw [if_neg (by simpa using hn), List.append_nil]
    rw [e]
    exact fun _ => gs3_ok hi s O hw L gz lz hz P N (by omega) hc n0 h0f K0 _ _ _ _ _ _ _ _ _ _ _ _ _

set_option maxRecDepth 100000 in
set_option maxHeartbeats 2000000 in
theorem gs1_ok (hi : Eng.Inv S h0) (s : Eng.Sub h0 h) {xs es ys zs cur : List Int} {a a8 a6 a5 a4 : Option Addr} {c c8 c6 c5 c4 : Nat} (O : tB.O h0 (.slice a8 xs.length c8) xs) (hw : okC xs) (L : xs.length ≤ 100000) (ge : HInts h0 .u8 a4 es) (le' : es.length ≤ 65535) (he : okC es) (gy : HInts h0 .u8 a5 ys) (ly : ys.length ≤ 100000) (hy : okC ys) (gz : HInts h0 .u8 a6 zs) (lz : zs.length ≤ 100000) (hz : okC zs) (P : Part .u8 h (.slice a cur.length c) cur) (N : Eng.New h0 (.slice a cur.length c)) (hl : cur.length ≤ 1000) (hc : okC cur) (n0 : Int) (h0f : 0 ≤ n0 ∧ n0 ≤ 31) (K0 : Kt)
    (e1 e2 e3 e7 e9 e10 e11 e12 e13 : Value) :
    gs1.wp Try.prog S noLeaf (PG h0 (G1 n0 es ys zs cur xs)) [.int .i64 n0, e1, e2, e3, .slice a4 es.length c4, .slice a5 ys.length c5, .slice a6 zs.length c6, e7, .slice a8 xs.length c8, e9, e10, e11, e12, e13, .slice a cur.length c] h [K0] := by
  simp only [gs1, Tr.wp, mksW, callW, Ex.ev, coerce, toInt_int, toBool_bool, slL_sl, slC_sl, slA_sl, toAddr_ptr, ptrOf_ptr, isNil_sl, isNil_ptr, it_and, it_or, it_int, optN_int, optN_nl, cmpI, arith, Cst.val, SV.den, resShs, resV, resSV, resVals, newVars, runCells, exSh, allSh, cellsAre, List.flatMap_cons, List.flatMap_nil, List.replicate_one, List.getD_cons_zero, List.getD_cons_succ, List.getElem?_cons_zero, List.getElem?_cons_succ, decide_eq_true_eq, decide_eq_false_iff_not, List.map_cons, List.map_nil, List.cons_append, List.nil_append, List.append_nil, List.length_cons, List.length_nil, Nat.zero_add, Nat.add_zero, and_true, true_and, if_true, if_false, Bool.false_eq_true, quo2 h0f (show (1 : Int) ≤ 4 by omega)]
  refine ⟨fun hyy => ?_, fun hn => ?_⟩
  · have e : G1 n0 es ys zs cur xs = G2 n0 ys zs (cur ++ put6 es.length 2 false ++ es) xs := by unfold G1 extG; rw [if_pos (by simpa using hyy), ← List.append_assoc]; rfl
    rw [e]
    rw [u64_nat es.length (by omega)]
    refine (k_l6Put (hi.sub s) es.length (by omega) 2 (by omega) false).mono ?_
    rintro v4 h4 ⟨O4, N4, s4⟩
    obtain ⟨a4', c4', rfl, _, g4⟩ := Part.ints O4
    refine ⟨_, _, _, rfl, ?_⟩
    refine appW_part hi (s.trans s4) (P.sub s4) N g4 (by rw [put6_len]; omega) fun v5 h5 o5 n5 s5 _ _ => ?_
    obtain ⟨a5', c5', rfl, _, _⟩ := o5.ints
    simp only [slA_sl, slL_sl, slC_sl]
    refine appW_part hi s5 o5 n5 (ge.sub s5) (by simp only [List.length_append, put6_len]; omega) fun v7 h7 o7 n7 s7 _ _ => ?_
    obtain ⟨a7, c7, rfl, _, _⟩ := o7.ints
    exact fun _ => gs2_ok hi s7 O hw L gy ly hy gz lz hz o7 n7 (by simp only [List.length_append, put6_len]; omega) ((hc.app okC.le).app he) n0 h0f K0 _ _ _ _ _ _ _ _ _ _ _
  · have e : G1 n0 es ys zs cur xs = G2 n0 ys zs cur xs := by unfold G1 extG; rw [if_neg (by simpa using hn), List.append_nil]
    rw [e]
    exact fun _ => gs2_ok hi s O hw L gy ly hy gz lz hz P N (by omega) hc n0 h0f K0 _ _ _ _ _ _ _ _ _ _ _

set_option maxRecDepth 100000 in
set_option maxHeartbeats 4000000 in
theorem g_spec_EncodeGzip (hi : Eng.Inv S h) {v u : Value} {x : XMember} {xs : List Int} (O : tMember.O h v x) (hwm : hwMember x) (LM : limMember x) (O2 : tB.O h u xs) (hw : okC xs) (L : limB xs) :
    CallsH Try.prog S F_spec_EncodeGzip #[v, u] h (fun v h' => tB.O h' v (ans_EncodeGzip x xs) ∧ tB.New h v ∧ Eng.Sub h h') := by
  have OM := O
  obtain ⟨u4, u5, u6, rfl, H4, H5, H6, _⟩ := tMember_O O
  obtain ⟨a4, c4, rfl, hc4, hx4⟩ := Part.ints H4
  obtain ⟨a5, c5, rfl, hc5, hx5⟩ := Part.ints H5
  obtain ⟨a6, c6, rfl, hc6, hx6⟩ := Part.ints H6
  obtain ⟨n0, n1, n2, n3, es, ys, zs, n7, ⟨⟩⟩ := x
  have l4 : es.length ≤ 1048576 := LM.1
  have l5 : ys.length ≤ 1048576 := LM.2.1
  have l6 : zs.length ≤ 1048576 := LM.2.2
  simp only at hx4 hx5 hx6
  obtain ⟨a8, c8, rfl, hc8, hx8⟩ := Part.ints O2
  refine run_spec_EncodeGzip (vs := [.int .i64 n0, .int .i64 n1, .int .i64 n2, .int .i64 n3, .slice a4 es.length c4, .slice a5 ys.length c5, .slice a6 zs.length c6, .int .i64 n7, .slice a8 xs.length c8]) ⟨rfl, rfl, rfl, rfl, rfl, rfl, rfl, rfl, rfl, trivial⟩ hi ?_
  simp only [spec_EncodeGzip_cut, Tr.wp, mksW, callW, Ex.ev, coerce, toInt_int, toBool_bool, slL_sl, slC_sl, slA_sl, toAddr_ptr, ptrOf_ptr, isNil_sl, isNil_ptr, it_and, it_or, it_int, optN_int, optN_nl, cmpI, arith, Cst.val, SV.den, resShs, resV, resSV, resVals, newVars, runCells, exSh, allSh, cellsAre, List.flatMap_cons, List.flatMap_nil, List.replicate_one, List.getD_cons_zero, List.getD_cons_succ, List.getElem?_cons_zero, List.getElem?_cons_succ, decide_eq_true_eq, decide_eq_false_iff_not, List.map_cons, List.map_nil, List.cons_append, List.nil_append, List.append_nil, List.length_cons, List.length_nil, Nat.zero_add, Nat.add_zero, and_true, true_and, if_true, if_false, Bool.false_eq_true]
  refine (g_spec_ValidMember hi OM LM).mono ?_
  rintro _ hq ⟨rfl, eq⟩
  rw [eq]
  refine ⟨_, rfl, fun hbad b hb => ?_, fun hok b hb => ?_⟩
  · have e : ans_EncodeGzip (n0, n1, n2, n3, es, ys, zs, n7, ()) xs = [] := if_neg fun hh => by
      rw [decide_eq_true hh.1] at hbad
      have h2 : n7 = (xs.length : Int) := hh.2
      simp only [Bool.not_true, Bool.or_eq_true, bne_iff_ne, Bool.false_eq_true, false_or, if_false] at hbad
      first | exact hbad h2 | (simp at hbad; exact hbad h2)
    rw [e]
    exact ⟨(Own.made (k := .u8) (h := h) (b := b) (T := 5) []).part, New.of hb, Sub.of_upd hb⟩
  · have hv : vmem (n0, n1, n2, n3, es, ys, zs, n7, ()) ∧ n7 = xs.length := by
      by_cases hv : vmem (n0, n1, n2, n3, es, ys, zs, n7, ())
      · rw [decide_eq_true hv] at hok; simp at hok; exact ⟨hv, hok⟩
      · rw [decide_eq_false hv] at hok; simp at hok
    have e : ans_EncodeGzip (n0, n1, n2, n3, es, ys, zs, n7, ()) xs = G1 n0 es ys zs (headG (n0, n1, n2, n3, es, ys, zs, n7, ())) xs := if_pos hv
    rw [e]
    obtain ⟨⟨f0, f1⟩, ⟨t0, t1⟩, ⟨x0, x1⟩, ⟨o0, o1⟩, le', ⟨m0, m1⟩, _, _, _, _, _, lsum⟩ := hv.1
    have h7 := hv.2
    simp only [mE, mN, mC] at le' lsum
    simp only at f0 f1 t0 t1 x0 x1 o0 o1 m0 m1
    obtain ⟨tn, rfl⟩ := Int.eq_ofNat_of_zero_le t0
    have w0 : IntKind.u8.wrap n0 = n0 := by rw [IntKind.wrap_u8]; omega
    have w2 : IntKind.u8.wrap n2 = n2 := by rw [IntKind.wrap_u8]; omega
    have w3 : IntKind.u8.wrap n3 = n3 := by rw [IntKind.wrap_u8]; omega
    rw [w0, w2, w3, u64_nat tn (by omega)]
    have s0 : Eng.Sub h (upd h b (.cells (ints .u8 [31, 139, 8, n0]) 5)) := Sub.of_upd hb
    refine (k_l6Put (hi.sub s0) tn (by omega) 4 (by omega) false).mono ?_
    rintro v4 h4 ⟨O4, N4, s4⟩
    obtain ⟨a4', c4', rfl, _, g4⟩ := Part.ints O4
    refine ⟨_, _, _, rfl, ?_⟩
    refine appW_part (xs := [31, 139, 8, n0]) hi (s0.trans s4) ((Own.made (k := .u8) (h := h) (b := b) (T := 5) [31, 139, 8, n0]).part.sub s4) (New.of hb) g4 (by rw [put6_len]; simp) fun v5 h5 o5 n5 s5 _ _ => ?_
    obtain ⟨a5', c5', rfl, _, _⟩ := o5.ints
    simp only [slA_sl, slL_sl, slC_sl]
    intro b2 hb2
    have s6 : Eng.Sub h5 (upd h5 b2 (.cells (ints .u8 [n2, n3]) 5)) := Sub.of_upd hb2
    refine appW_part (ys := [n2, n3]) hi (s5.trans s6) (o5.sub s6) n5 (HInts.new (xs := [n2, n3])) (by simp [put6_len]) fun v7 h7' o7 n7' s7 _ _ => ?_
    obtain ⟨a7, c7, rfl, _, _⟩ := o7.ints
    have eh : [31, 139, 8, n0] ++ put6 tn 4 false ++ [n2, n3] = headG (n0, (tn : Int), n2, n3, es, ys, zs, n7, ()) := by simp [headG, put6]
    have lh : (headG (n0, (tn : Int), n2, n3, es, ys, zs, n7, ())).length = 10 := by simp [headG, le_len]
    rw [eh] at o7 n7' ⊢
    exact gs1_ok hi s7 O2 hw (by omega) hx4 le' hwm.1 hx5 (by omega) hwm.2.1 hx6 (by omega) hwm.2.2 o7 n7' (by omega) (fun y hy => by
      simp only [headG] at hy
      rcases List.mem_append.1 hy with hy | hy
      · rcases List.mem_append.1 hy with hy | hy
        · simp at hy; omega
        · have := okC.le y hy; omega
      · simp at hy; omega) n0 ⟨f0, f1⟩ _ _ _ _ _ _ _ _ _ _
end Go.Proofs.Ytmnialmphlbmaaa
