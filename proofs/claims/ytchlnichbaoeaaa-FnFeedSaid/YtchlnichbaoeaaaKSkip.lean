import Derived.Test.YtchlnichbaoeaaaKSrc
import Derived.Test.YtchlnichbaoeaaaTrBM
set_option linter.unusedVariables false
set_option linter.unusedSimpArgs false
namespace Go.Proofs.Ytchlnichbaoeaaa
open Go Go.Eng Go.IntWalk
variable {S : Nat → Prop} {h : Eng.Heap}

theorem k_l2Has (hi : Eng.Inv S h) (a : Option Addr) (l c : Nat) (p q n : Int) (hl : l ≤ 1048576) (hp : 0 ≤ p ∧ p ≤ 7) (hq : 0 ≤ q ∧ q ≤ 34359738368) (hn : 0 ≤ n ∧ n ≤ 1000000000) :
    CallsH Try.prog S F_spec_l2Has #[.agg #[.slice a l c, .int .i64 p, .int .i64 q], .int .i64 n] h (fun v h' => v = .bool (decide (n ≤ 8 * (l : Int) - p ∧ q + n ≤ 34359738368)) ∧ h' = h) := by
  refine run_spec_l2Has (vs := [.slice a l c, .int .i64 p, .int .i64 q, .int .i64 n]) ⟨rfl, rfl, rfl, rfl, trivial⟩ hi ?_
  simp only [t_spec_l2Has, Tr.wp, mksW, callW, Ex.ev, coerce, toInt_int, toBool_bool, slL_sl, slC_sl, slA_sl, toAddr_ptr, ptrOf_ptr, isNil_sl, isNil_ptr, it_and, it_or, it_int, optN_int, optN_nl, cmpI, arith, Cst.val, SV.den, resShs, resV, resSV, resVals, newVars, runCells, exSh, allSh, cellsAre, storeW, List.flatMap_cons, List.flatMap_nil, List.replicate_one, List.getD_cons_zero, List.getD_cons_succ, List.getElem?_cons_zero, List.getElem?_cons_succ, decide_eq_true_eq, decide_eq_false_iff_not, List.map_cons, List.map_nil, List.cons_append, List.nil_append, List.append_nil, List.length_cons, List.length_nil, Nat.zero_add, Nat.add_zero, and_true, true_and, if_true, if_false, Bool.false_eq_true]
  have w1 : IntKind.i64.wrap (8 * (l : Int)) = 8 * l := i64_in _ (by omega)
  have w2 : IntKind.i64.wrap (8 * (l : Int) - p) = 8 * l - p := i64_in _ (by omega)
  have w3 : IntKind.i64.wrap (q + n) = q + n := i64_in _ (by omega)
  rw [w1, w2]
  refine ⟨fun hle => ?_, fun hgt _ => ?_⟩
  · refine (k_l2Most hi).mono ?_
    rintro _ hq ⟨rfl, eq⟩
    refine ⟨_, rfl, fun _ => ⟨?_, eq⟩⟩
    rw [w3]
    congr 1
    rw [Bool.eq_iff_iff]
    simp [hle]
  · have : ¬ (n ≤ 8 * (l : Int) - p ∧ q + n ≤ 34359738368) := fun h => hgt h.1
    simp [this]

theorem k_l2Skip (hi : Eng.Inv S h) (a : Option Addr) (c : Nat) (xs : List Int) (p q n : Int) (hx : HInts h .u8 a xs) (hc : xs.length ≤ c) (hl : xs.length ≤ 1048576) (hp : 0 ≤ p ∧ p ≤ 7) (hq : 0 ≤ q ∧ q ≤ 34359738368) (hn : 0 ≤ n ∧ n ≤ 8 * (xs.length : Int) - p) :
    CallsH Try.prog S F_spec_l2Skip #[.agg #[.slice a xs.length c, .int .i64 p, .int .i64 q], .int .i64 n] h (fun v h' => ∃ a' l' c', v = .agg #[.slice a' l' c', .int .i64 ((p + n) % 8), .int .i64 (q + n)] ∧ Part .u8 h' (.slice a' l' c') (xs.drop ((p + n) / 8).toNat) ∧ New h (.slice a' l' c') ∧ Eng.Sub h h') := by
  refine run_spec_l2Skip (vs := [.slice a xs.length c, .int .i64 p, .int .i64 q, .int .i64 n]) ⟨rfl, rfl, rfl, rfl, trivial⟩ hi ?_
  simp only [t_spec_l2Skip, Tr.wp, mksW, callW, Ex.ev, coerce, toInt_int, toBool_bool, slL_sl, slC_sl, slA_sl, toAddr_ptr, ptrOf_ptr, isNil_sl, isNil_ptr, it_and, it_or, it_int, optN_int, optN_nl, cmpI, arith, Cst.val, SV.den, resShs, resV, resSV, resVals, newVars, runCells, exSh, allSh, cellsAre, storeW, List.flatMap_cons, List.flatMap_nil, List.replicate_one, List.getD_cons_zero, List.getD_cons_succ, List.getElem?_cons_zero, List.getElem?_cons_succ, decide_eq_true_eq, decide_eq_false_iff_not, List.map_cons, List.map_nil, List.cons_append, List.nil_append, List.append_nil, List.length_cons, List.length_nil, Nat.zero_add, Nat.add_zero, and_true, true_and, if_true, if_false, Bool.false_eq_true]
  have w1 : IntKind.i64.wrap (p + n) = p + n := i64_in _ (by omega)
  have w2 : IntKind.i64.wrap ((p + n).tdiv 8) = (p + n) / 8 := by rw [Int.tdiv_eq_ediv_of_nonneg (by omega)]; exact i64_in _ (by omega)
  have w3 : IntKind.i64.wrap (q + n) = q + n := i64_in _ (by omega)
  have w4 : (p + n).tmod 8 = (p + n) % 8 := Int.tmod_eq_emod_of_nonneg (by omega)
  rw [w1, w2, w3, w4]
  refine ⟨by omega, by omega, fun b hb => ?_⟩
  obtain ⟨a3, he3, hx3⟩ := slSub_ints hx (lo := ((p + n) / 8).toNat) (hi := xs.length) (m := c) (by omega) (by omega) (by omega)
  have hdr : (xs.drop ((p + n) / 8).toNat).take (xs.length - ((p + n) / 8).toNat) = xs.drop ((p + n) / 8).toNat := List.take_of_length_le (by rw [List.length_drop]; omega)
  rw [hdr] at he3 hx3
  rw [he3]
  have s1 : Eng.Sub h (upd h b (.cells (ints .u8 []) 5)) := Sub.of_upd hb
  refine appW_part hi s1 (Own.made []).part (New.of hb) (hx3.sub s1) (by simp only [List.length_nil, List.length_drop]; omega) fun v' h' o n s _ _ => ?_
  obtain ⟨a', c', rfl, _, _⟩ := o.ints
  exact ⟨_, _, _, rfl, o, n, s⟩

theorem k_left {bs : Nat} {a : Option Addr} {l c : Nat} {p q : Int} {T : TypeId} (hi : Eng.Inv S h) (hb : h bs = some (srcObj (.slice a l c) p q T)) (hl : l ≤ 1048576) (hp : 0 ≤ p ∧ p ≤ 7) (hq : 0 ≤ q ∧ q ≤ 34359738368) :
    CallsH Try.prog S F_impl_source__left #[.pointer (some ⟨bs, 0, none⟩)] h (fun v h' => v = .int .i64 (min (8 * (l : Int) - p) (34359738368 - q)) ∧ h' = h) := by
  refine run_impl_source__left (vs := [.pointer (some ⟨bs, 0, none⟩)]) ⟨rfl, trivial⟩ hi ?_
  simp only [t_impl_source__left, Tr.wp, mksW, callW, Ex.ev, coerce, toInt_int, toBool_bool, slL_sl, slC_sl, slA_sl, toAddr_ptr, ptrOf_ptr, isNil_sl, isNil_ptr, it_and, it_or, it_int, optN_int, optN_nl, cmpI, arith, Cst.val, SV.den, resShs, resV, resSV, resVals, newVars, runCells, exSh, allSh, cellsAre, storeW, List.flatMap_cons, List.flatMap_nil, List.replicate_one, List.getD_cons_zero, List.getD_cons_succ, List.getElem?_cons_zero, List.getElem?_cons_succ, decide_eq_true_eq, decide_eq_false_iff_not, List.map_cons, List.map_nil, List.cons_append, List.nil_append, List.append_nil, List.length_cons, List.length_nil, Nat.zero_add, Nat.add_zero, and_true, true_and, if_true, if_false, Bool.false_eq_true]
  obtain ⟨g1, g2, g3⟩ := src_get hb
  have w1 : IntKind.i64.wrap (8 * (l : Int)) = 8 * l := i64_in _ (by omega)
  have w2 : IntKind.i64.wrap (8 * (l : Int) - p) = 8 * l - p := i64_in _ (by omega)
  have w3 : IntKind.i64.wrap (34359738368 - q) = 34359738368 - q := i64_in _ (by omega)
  refine ⟨by simp, _, _, _, by simpa [addr_add] using g1, by simp, _, by simpa [addr_add] using g2, by simp, _, by simpa [addr_add] using g3, ?_⟩
  simp only [Tr.wp, mksW, callW, Ex.ev, coerce, toInt_int, toBool_bool, slL_sl, slC_sl, slA_sl, toAddr_ptr, ptrOf_ptr, isNil_sl, isNil_ptr, it_and, it_or, it_int, optN_int, optN_nl, cmpI, arith, Cst.val, SV.den, resShs, resV, resSV, resVals, newVars, runCells, exSh, allSh, cellsAre, storeW, List.flatMap_cons, List.flatMap_nil, List.replicate_one, List.getD_cons_zero, List.getD_cons_succ, List.getElem?_cons_zero, List.getElem?_cons_succ, decide_eq_true_eq, decide_eq_false_iff_not, List.map_cons, List.map_nil, List.cons_append, List.nil_append, List.append_nil, List.length_cons, List.length_nil, Nat.zero_add, Nat.add_zero, and_true, true_and, if_true, if_false, Bool.false_eq_true, w1, w2, w3]
  congr 1
  split <;> omega

theorem k_skip {bs : Nat} {a : Option Addr} {l c : Nat} {p q : Int} {T : TypeId} {xs : List Int} (hi : Eng.Inv S h) (hb : h bs = some (srcObj (.slice a l c) p q T)) (hsb : ¬ S bs) (hpt : Part .u8 h (.slice a l c) xs) (hne : blkOf (.slice a l c) ≠ some bs)
    (n : Int) (hl : xs.length ≤ 1048576) (hp : 0 ≤ p ∧ p ≤ 7) (hq : 0 ≤ q ∧ q ≤ 34359738368) (hn : 0 ≤ n ∧ n ≤ 8 * (xs.length : Int) - p) :
    CallsH Try.prog S F_impl_source__skip #[.pointer (some ⟨bs, 0, none⟩), .int .i64 n] h (fun v h' => v = .tuple #[] ∧ ∃ a' l' c', h' = upd h bs (srcObj (.slice a' l' c') ((p + n) % 8) (q + n) T) ∧ Part .u8 h' (.slice a' l' c') (xs.drop ((p + n) / 8).toNat) ∧ blkOf (.slice a' l' c') = blkOf (.slice a l c)) := by
  obtain ⟨aa, cc, hv, hcc, _⟩ := hpt.ints
  simp only [Value.slice.injEq] at hv
  obtain ⟨rfl, rfl, rfl⟩ := hv
  refine run_impl_source__skip (vs := [.pointer (some ⟨bs, 0, none⟩), .int .i64 n]) ⟨rfl, rfl, trivial⟩ hi ?_
  have w1 : IntKind.i64.wrap (p + n) = p + n := i64_in _ (by omega)
  have w2 : IntKind.i64.wrap ((p + n).tdiv 8) = (p + n) / 8 := by rw [Int.tdiv_eq_ediv_of_nonneg (by omega)]; exact i64_in _ (by omega)
  have w3 : IntKind.i64.wrap (q + n) = q + n := i64_in _ (by omega)
  have w4 : (p + n).tmod 8 = (p + n) % 8 := Int.tmod_eq_emod_of_nonneg (by omega)
  obtain ⟨cut, cblk⟩ := hpt.cut (lo := ((p + n) / 8).toNat) (hi := xs.length) (m := c) (by omega) (by omega) (by omega) (Nat.le_refl _)
  have hdr : (xs.drop ((p + n) / 8).toNat).take (xs.length - ((p + n) / 8).toNat) = xs.drop ((p + n) / 8).toNat := List.take_of_length_le (by rw [List.length_drop]; omega)
  rw [hdr] at cut
  obtain ⟨a3, c3, e3, _, _⟩ := cut.ints
  rw [e3] at cut cblk
  obtain ⟨g1, g2, g3⟩ := src_get hb
  obtain ⟨k1, k2, k3⟩ := src_ok hb hsb
  have u1 := (src_set (w := .slice none 0 0) (n := q + n) hb).2.2
  have hb1 : upd h bs (srcObj (.slice a xs.length c) p (q + n) T) bs = some (srcObj (.slice a xs.length c) p (q + n) T) := upd_same
  have u2 := (src_set (w := .slice none 0 0) (n := p + n) hb1).2.1
  rw [upd_upd] at u2
  have hb2 : upd h bs (srcObj (.slice a xs.length c) (p + n) (q + n) T) bs = some (srcObj (.slice a xs.length c) (p + n) (q + n) T) := upd_same
  have u3 := (src_set (w := .slice a3 (xs.drop ((p + n) / 8).toNat).length c3) (n := 0) hb2).1
  rw [upd_upd] at u3
  have hb3 : upd h bs (srcObj (.slice a3 (xs.drop ((p + n) / 8).toNat).length c3) (p + n) (q + n) T) bs = some (srcObj (.slice a3 (xs.drop ((p + n) / 8).toNat).length c3) (p + n) (q + n) T) := upd_same
  have u4 := (src_set (w := .slice none 0 0) (n := (p + n) % 8) hb3).2.1
  rw [upd_upd] at u4
  simp only [t_impl_source__skip, Tr.wp, mksW, callW, Ex.ev, coerce, toInt_int, toBool_bool, slL_sl, slC_sl, slA_sl, toAddr_ptr, ptrOf_ptr, isNil_sl, isNil_ptr, it_and, it_or, it_int, optN_int, optN_nl, cmpI, arith, Cst.val, SV.den, resShs, resV, resSV, resVals, newVars, runCells, exSh, allSh, cellsAre, storeW, List.flatMap_cons, List.flatMap_nil, List.replicate_one, List.getD_cons_zero, List.getD_cons_succ, List.getElem?_cons_zero, List.getElem?_cons_succ, decide_eq_true_eq, decide_eq_false_iff_not, List.map_cons, List.map_nil, List.cons_append, List.nil_append, List.append_nil, List.length_cons, List.length_nil, Nat.zero_add, Nat.add_zero, and_true, true_and, if_true, if_false, Bool.false_eq_true, addr_add, Int.toNat_natCast]
  refine ⟨by simp, q, g3, by simp, by simpa using k3, ?_⟩
  rw [w3, u1]
  refine ⟨by simp, p, (src_get hb1).2.1, by simp, (src_ok hb1 hsb).2.1, ?_⟩
  rw [w1, u2]
  refine ⟨by simp, _, _, _, (src_get hb2).1, by simp, _, (src_get hb2).2.1, ?_⟩
  rw [w2]
  refine ⟨by omega, by omega, by simp, by simpa using (src_ok hb2 hsb).1, ?_⟩
  rw [e3, u3]
  refine ⟨by simp, _, (src_get hb3).2.1, by simp, (src_ok hb3 hsb).2.1, ?_⟩
  rw [w4, u4]
  exact ⟨_, _, _, rfl, cut.keep fun b hb => (upd_ne (fun e => hne (by rw [← cblk, hb, e]))), cblk⟩
end Go.Proofs.Ytchlnichbaoeaaa
