import Derived.Test.YtchlnichbaoeaaaTyB
import Derived.Test.YtchlnichbaoeaaaTrWN
import Derived.Test.YtchlnichbaoeaaaEng5
set_option linter.unusedVariables false
set_option linter.unusedSimpArgs false
namespace Go.Proofs.Ytchlnichbaoeaaa
open Go Go.Eng Go.IntWalk
variable {S : Nat → Prop} {h h0 : Eng.Heap} {b : Nat} {T : TypeId} {sz : Nat} {K : List Int}

/-- A ring of the code's own in block b: it holds K. -/
def RingAt (h0 h : Eng.Heap) (b : Nat) (T : TypeId) (sz : Nat) (K : List Int) : Prop :=
  ∃ (d : List Int) (at_ n : Nat), h b = some (ringObj sz d at_ n T) ∧ RingS sz d at_ n K ∧ Eng.Sub h0 h ∧ h0 b = none

theorem sub_upd_new {h0 h1 : Eng.Heap} {b : Nat} {o : Obj} (hs : Eng.Sub h0 h1) (hb : h0 b = none) : Eng.Sub h0 (upd h1 b o) := fun x u hx => by
  rw [upd_ne (fun e => by rw [e, hb] at hx; cases hx)]; exact hs x u hx

theorem RingAt.sub (H : RingAt h0 h b T sz K) : Eng.Sub h0 h := by obtain ⟨_, _, _, _, _, s, _⟩ := H; exact s
theorem RingAt.new (H : RingAt h0 h b T sz K) : h0 b = none := by obtain ⟨_, _, _, _, _, _, n⟩ := H; exact n
theorem RingAt.mono {h1 : Eng.Heap} (H : RingAt h0 h b T sz K) (s : Eng.Sub h h1) : RingAt h0 h1 b T sz K := by
  obtain ⟨d, at_, n, hb, R, s0, hn⟩ := H
  exact ⟨d, at_, n, s b _ hb, R, s0.trans s, hn⟩

theorem rs_pos {d : List Int} {at_ n : Nat} (R : RingS sz d at_ n K) {fr : Nat} (hfr : fr = (at_ + sz - n) % sz) {j : Nat} (hj : j < n) : d[if fr + j < sz then fr + j else fr + j - sz]? = K[j]? := by
  rw [← R.rd j hj]
  have ha := R.a1
  have hn := R.n1
  have h1 := R.s1
  rw [mod2 (by omega)] at hfr ⊢
  congr 1
  split at hfr <;> split <;> split <;> omega

theorem rs_one {d : List Int} {at_ n : Nat} (R : RingS sz d at_ n K) {fr : Nat} (hfr : fr = (at_ + sz - n) % sz) (h : fr + n ≤ sz) : (d.drop fr).take (fr + n - fr) = K := by
  have hk := R.kn
  apply List.ext_getElem?
  intro j
  rw [List.getElem?_take, List.getElem?_drop]
  by_cases hj : j < n
  · have := rs_pos R hfr hj
    rw [if_pos (by omega)] at this
    rw [if_pos (by omega), this]
  · rw [if_neg (by omega), List.getElem?_eq_none (by omega)]

theorem rs_two {d : List Int} {at_ n : Nat} (R : RingS sz d at_ n K) {fr : Nat} (hfr : fr = (at_ + sz - n) % sz) (h : sz < fr + n) : (d.drop fr).take (sz - fr) ++ (d.drop 0).take (at_ - 0) = K := by
  have hk := R.kn
  have hfl : fr < sz := by rw [hfr]; exact Nat.mod_lt _ (by have := R.s1; omega)
  have ha := R.a1
  have hn := R.n1
  have hd := R.dl
  have h2 := R.s2
  have hat : at_ = fr + n - sz := by
    rw [mod2 (by omega)] at hfr
    split at hfr <;> omega
  have l1 : ((d.drop fr).take (sz - fr)).length = sz - fr := by rw [List.length_take, List.length_drop]; omega
  apply List.ext_getElem?
  intro j
  by_cases hj : j < sz - fr
  · have := rs_pos R hfr (j := j) (by omega)
    rw [if_pos (by omega)] at this
    rw [List.getElem?_append_left (by omega), List.getElem?_take, if_pos hj, List.getElem?_drop, this]
  · rw [List.getElem?_append_right (by omega), l1, List.getElem?_take, List.drop_zero]
    by_cases hj2 : j < n
    · have := rs_pos R hfr hj2
      rw [if_neg (by omega)] at this
      rw [if_pos (by omega), ← this]
      congr 1
      omega
    · rw [if_neg (by omega), List.getElem?_eq_none (by omega)]

set_option maxHeartbeats 1000000 in
theorem k_put (hi : Eng.Inv S h0) (H : RingAt h0 h b T sz K) (a : Option Addr) (c : Nat) (ys : List Int) (hc : ys.length ≤ c) (hl : ys.length ≤ 1099511627776) (hx : ∀ h' : Eng.Heap, (∀ y, y ≠ b → h' y = h y) → HInts h' .u8 a ys) :
    CallsH Try.prog S F_impl_ring__put #[.pointer (some ⟨b, 0, none⟩), .slice a ys.length c] h (fun v h' => v = .tuple #[] ∧ RingAt h0 h' b T sz (lastN sz (K ++ ys)) ∧ ∀ y, y ≠ b → h' y = h y) := by
  obtain ⟨d, at_, n, hb, R, s, hbn⟩ := id H
  have hsb : ¬ S b := fun hs => hi b hs hbn
  refine run_impl_ring__put (vs := [.pointer (some ⟨b, 0, none⟩), .slice a ys.length c]) ⟨rfl, rfl, trivial⟩ (hi.sub s) ?_
  simp only [t_impl_ring__put, Tr.wp, mksW, callW, Ex.ev, coerce, toInt_int, toBool_bool, slL_sl, slC_sl, slA_sl, toAddr_ptr, ptrOf_ptr, isNil_sl, isNil_ptr, it_and, it_or, it_int, optN_int, optN_nl, cmpI, arith, Cst.val, SV.den, resShs, resV, resSV, resVals, newVars, runCells, exSh, allSh, cellsAre, storeW, List.flatMap_cons, List.flatMap_nil, List.replicate_one, List.getD_cons_zero, List.getD_cons_succ, List.getElem?_cons_zero, List.getElem?_cons_succ, decide_eq_true_eq, decide_eq_false_iff_not, List.map_cons, List.map_nil, List.cons_append, List.nil_append, List.append_nil, List.length_cons, List.length_nil, Nat.zero_add, Nat.add_zero, and_true, true_and, if_true, if_false, Bool.false_eq_true]
  have hs1 := R.s1
  have hs2 := R.s2
  have w1 : IntKind.i64.wrap ((ys.length : Int) - (sz : Int)) = (ys.length : Int) - sz := i64_in _ (by omega)
  refine ⟨by simp, (sz : Int), by simpa [addr_add] using ring_sz hb, ?_⟩
  rw [w1]
  have wm : (if (ys.length : Int) - (sz : Int) > 0 then (ys.length : Int) - (sz : Int) else 0).toNat = ys.length - sz := by split <;> omega
  obtain ⟨m, hm⟩ : ∃ m, m = ys.length - sz := ⟨_, rfl⟩
  refine ⟨by split <;> omega, by split <;> omega, ?_⟩
  rw [wm, ← hm]
  obtain ⟨zs, hz⟩ : ∃ zs, zs = ys.drop m := ⟨_, rfl⟩
  have hzl : zs.length = ys.length - m := by rw [hz, List.length_drop]
  have hdr : (ys.drop m).take (ys.length - m) = zs := by rw [hz]; exact List.take_of_length_le (by rw [List.length_drop]; omega)
  have hK : lastN sz (K ++ zs) = lastN sz (K ++ ys) := by rw [hz]; exact lastN_drop (by omega)
  have cut : ∀ h' : Eng.Heap, (∀ y, y ≠ b → h' y = h y) → ∃ a', slSub 1 a m ys.length c = .slice a' zs.length (c - m) ∧ HInts h' .u8 a' zs := fun h' hh => by
    obtain ⟨a', e, H'⟩ := slSub_ints (hx h' hh) (lo := m) (hi := ys.length) (m := c) (by omega) (by omega) hc
    rw [hdr] at e H'
    exact ⟨a', e, H'⟩
  refine ⟨fun us h' => ∃ (i : Nat) (d : List Int) (at_ n : Nat), us = [.int .i64 i] ∧ i ≤ zs.length ∧ h' = upd h b (ringObj sz d at_ n T) ∧ RingS sz d at_ n (lastN sz (K ++ zs.take i)), fun us _ => zs.length - (toInt (us.getD 0 undef)).toNat, ⟨0, d, at_, n, rfl, by omega, (upd_self hb).symm, ?_⟩, ?_⟩
  · rw [List.take_zero, List.append_nil, lastN_le (by have := R.kn; have := R.n1; omega)]; exact R
  rintro x h' ⟨i, d, at_, n, hx1, hi2, rfl, R⟩
  obtain rfl : x = i := by simpa using hx1
  have hb' : upd h b (ringObj sz d at_ n T) b = some (ringObj sz d at_ n T) := upd_same
  obtain ⟨a', ea, hz'⟩ := cut (upd h b (ringObj sz d at_ n T)) (fun y hy => upd_ne hy)
  rw [ea]
  simp only [addr_add, Nat.add_zero, Nat.zero_add, Nat.mul_one, slL_sl, slA_sl, isNil_sl, Int.toNat_natCast]
  refine ⟨fun hlt => ?_, fun hge => ?_⟩
  · have hi3 : i < zs.length := by omega
    obtain ⟨g1, g2⟩ := hz'.cell (List.getElem?_eq_getElem hi3)
    have ha1 := R.a1
    have hdl := R.dl
    have hn1 := R.n1
    have w2 : IntKind.i64.wrap ((i : Int) + 1) = ((i + 1 : Nat) : Int) := by rw [i64_in _ (by omega)]; omega
    have w3 : (IntKind.i64.wrap ((at_ : Int) + 1)).tmod (sz : Int) = (((at_ + 1) % sz : Nat) : Int) := by
      rw [i64_in _ (by omega), Int.tmod_eq_emod_of_nonneg (by omega)]; push_cast; rfl
    have w4 : (if (sz : Int) < IntKind.i64.wrap ((n : Int) + 1) then (sz : Int) else IntKind.i64.wrap ((n : Int) + 1)) = ((min (n + 1) sz : Nat) : Int) := by
      rw [i64_in _ (by omega)]; split <;> omega
    have P := R.push zs[i]
    rw [lastN_app, List.append_assoc, show zs.take i ++ [zs[i]] = zs.take (i + 1) by rw [List.take_add_one, List.getElem?_eq_getElem hi3]; rfl] at P
    have s1 := ring_setd hb' (i := at_) (by omega) zs[i]
    rw [upd_upd] at s1
    have hb1 : upd h b (ringObj sz (d.set at_ zs[i]) at_ n T) b = some (ringObj sz (d.set at_ zs[i]) at_ n T) := upd_same
    have hd1 : (d.set at_ zs[i]).length = 32768 := by rw [List.length_set]; exact hdl
    have s2 := ring_setat hb1 hd1 (((at_ + 1) % sz : Nat) : Int)
    rw [upd_upd] at s2
    have hb2 : upd h b (ringObj sz (d.set at_ zs[i]) (((at_ + 1) % sz : Nat) : Int) n T) b = some (ringObj sz (d.set at_ zs[i]) (((at_ + 1) % sz : Nat) : Int) n T) := upd_same
    have s3 := ring_setn hb2 hd1 ((min (n + 1) sz : Nat) : Int)
    rw [upd_upd] at s3
    refine ⟨by simpa using g2, by omega, hlt, zs[i], by simpa [add_add] using g1, by simp, at_, ring_at hb' hdl, by simp, by omega, by omega, ring_ok hb' hsb (ring_d hb' (List.getElem?_eq_getElem (by omega))), by simp, ?_⟩
    rw [Int.toNat_natCast, s1]
    refine ⟨at_, ring_at hb1 hd1, by simp, sz, ring_sz hb1, by simp; omega, by simp, ring_ok hb1 hsb (ring_at hb1 hd1), by simp, ?_⟩
    rw [w3, s2]
    refine ⟨n, ring_n hb2 hd1, by simp, sz, ring_sz hb2, by simp, ring_ok hb2 hsb (ring_n hb2 hd1), ?_⟩
    rw [w2]
    rw [w4, s3]
    exact ⟨⟨i + 1, _, _, _, rfl, by omega, rfl, P⟩, by simp only [List.getD_cons_zero, toInt_int]; omega⟩
  · obtain rfl : i = zs.length := by omega
    rw [List.take_length, hK] at R
    exact ⟨⟨d, at_, n, upd_same, R, sub_upd_new s hbn, hbn⟩, fun y hy => upd_ne hy⟩

theorem k_ringOf (hi : Eng.Inv S h) (a : Option Addr) (c : Nat) (ys : List Int) (hc : ys.length ≤ c) (hl : ys.length ≤ 1099511627776) (hx : HInts h .u8 a ys) (h1 : 1 ≤ sz) (h2 : sz ≤ 32768) :
    CallsH Try.prog S F_impl_ringOf #[.int .i64 sz, .slice a ys.length c] h (fun v h' => ∃ b T, v = .pointer (some ⟨b, 0, none⟩) ∧ RingAt h h' b T sz (lastN sz ys)) := by
  refine run_impl_ringOf (vs := [.int .i64 sz, .slice a ys.length c]) ⟨rfl, rfl, trivial⟩ hi ?_
  simp only [t_impl_ringOf, Tr.wp, mksW, callW, Ex.ev, coerce, toInt_int, toBool_bool, slL_sl, slC_sl, slA_sl, toAddr_ptr, ptrOf_ptr, isNil_sl, isNil_ptr, it_and, it_or, it_int, optN_int, optN_nl, cmpI, arith, Cst.val, SV.den, resShs, resV, resSV, resVals, newVars, runCells, exSh, allSh, cellsAre, storeW, List.flatMap_cons, List.flatMap_nil, List.replicate_one, List.getD_cons_zero, List.getD_cons_succ, List.getElem?_cons_zero, List.getElem?_cons_succ, decide_eq_true_eq, decide_eq_false_iff_not, List.map_cons, List.map_nil, List.cons_append, List.nil_append, List.append_nil, List.length_cons, List.length_nil, Nat.zero_add, Nat.add_zero, and_true, true_and, if_true, if_false, Bool.false_eq_true]
  intro b hb
  rw [ring_made]
  have hbn : upd h b (ringObj sz (List.replicate 32768 0) 0 0 151) b = some (ringObj sz (List.replicate 32768 0) 0 0 151) := upd_same
  have H : RingAt h (upd h b (ringObj sz (List.replicate 32768 0) 0 0 151)) b 151 sz [] := ⟨_, 0, 0, upd_same, RingS.new h1 h2, Sub.of_upd hb, hb⟩
  refine (k_put hi H a c ys hc hl fun h' hh => ?_).mono ?_
  · intro i x hxi
    obtain ⟨ad, e, hc⟩ := hx i x hxi
    refine ⟨ad, e, ?_⟩
    have hne : (ad.add i).block ≠ b := fun e => hcell_held hc (e ▸ hb)
    unfold hcell at hc ⊢
    rw [hh _ hne, upd_ne hne]
    exact hc
  · rintro _ h2 ⟨rfl, H2, _⟩
    rw [List.nil_append] at H2
    exact ⟨rfl, b, 151, rfl, H2⟩

theorem k_parts (hi : Eng.Inv S h0) (H : RingAt h0 h b T sz K) :
    CallsH Try.prog S F_impl_ring__parts #[.pointer (some ⟨b, 0, none⟩)] h (fun v h' => h' = h ∧ ∃ a1 c1 xs a2 c2 ys, v = .tuple #[.slice a1 xs.length c1, .slice a2 ys.length c2] ∧ xs ++ ys = K ∧ HInts h .u8 a1 xs ∧ HInts h .u8 a2 ys) := by
  obtain ⟨d, at_, n, hb, R, s, hbn⟩ := id H
  refine run_impl_ring__parts (vs := [.pointer (some ⟨b, 0, none⟩)]) ⟨rfl, trivial⟩ (hi.sub s) ?_
  simp only [t_impl_ring__parts, Tr.wp, mksW, callW, Ex.ev, coerce, toInt_int, toBool_bool, slL_sl, slC_sl, slA_sl, toAddr_ptr, ptrOf_ptr, isNil_sl, isNil_ptr, it_and, it_or, it_int, optN_int, optN_nl, cmpI, arith, Cst.val, SV.den, resShs, resV, resSV, resVals, newVars, runCells, exSh, allSh, cellsAre, storeW, List.flatMap_cons, List.flatMap_nil, List.replicate_one, List.getD_cons_zero, List.getD_cons_succ, List.getElem?_cons_zero, List.getElem?_cons_succ, decide_eq_true_eq, decide_eq_false_iff_not, List.map_cons, List.map_nil, List.cons_append, List.nil_append, List.append_nil, List.length_cons, List.length_nil, Nat.zero_add, Nat.add_zero, and_true, true_and, if_true, if_false, Bool.false_eq_true]
  have hs1 := R.s1
  have hs2 := R.s2
  have ha1 := R.a1
  have hdl := R.dl
  have hn1 := R.n1
  have w1 : IntKind.i64.wrap (IntKind.i64.wrap ((at_ : Int) - (n : Int)) + (sz : Int)) = ((at_ + sz - n : Nat) : Int) := by
    rw [i64_in ((at_ : Int) - (n : Int)) (by omega), i64_in _ (by omega)]; omega
  have w2 : ((at_ + sz - n : Nat) : Int).tmod (sz : Int) = (((at_ + sz - n) % sz : Nat) : Int) := by
    rw [Int.tmod_eq_emod_of_nonneg (by omega)]; push_cast; rfl
  obtain ⟨fr, hfr⟩ : ∃ fr, fr = (at_ + sz - n) % sz := ⟨_, rfl⟩
  have hfl : fr < sz := by rw [hfr]; exact Nat.mod_lt _ (by omega)
  have w3 : IntKind.i64.wrap ((fr : Int) + (n : Int)) = ((fr + n : Nat) : Int) := by rw [i64_in _ (by omega)]; omega
  simp only [addr_add, Nat.add_zero, Nat.zero_add]
  refine ⟨by simp, at_, ring_at hb hdl, by simp, n, ring_n hb hdl, by simp, sz, ring_sz hb, by simp, sz, ring_sz hb, by simp; omega, by simp, n, ring_n hb hdl, by simp, sz, ring_sz hb, ?_⟩
  rw [w1, w2, ← hfr, w3]
  have hd : HInts h .u8 (some ⟨b, 1, none⟩) d := ring_ints hb (o := 0) (fun i x hx => by rw [Nat.zero_add]; exact hx)
  refine ⟨fun hle => ?_, fun hgt => ?_⟩
  · refine ⟨by simp, by simp, n, ring_n hb hdl, ?_⟩
    rw [w3]
    obtain ⟨a', e, H'⟩ := slSub_ints hd (lo := fr) (hi := fr + n) (m := 32768) (by omega) (by omega) (by omega)
    rw [rs_one R hfr (by omega)] at e H'
    exact ⟨by omega, by omega, by omega, by omega, a', _, K, none, 0, [], by rw [Int.toNat_natCast, Int.toNat_natCast, e]; rfl, List.append_nil _, H', fun i x hx => by simp at hx⟩
  · refine ⟨by simp, by simp, sz, ring_sz hb, by omega, by omega, by omega, by omega, by simp, by simp, at_, ring_at hb hdl, by omega, by omega, ?_⟩
    obtain ⟨a1, e1, H1⟩ := slSub_ints hd (lo := fr) (hi := sz) (m := 32768) (by omega) (by omega) (by omega)
    obtain ⟨a2, e2, H2⟩ := slSub_ints hd (lo := 0) (hi := at_) (m := 32768) (by omega) (by omega) (by omega)
    refine ⟨a1, 32768 - fr, _, a2, 32768 - 0, _, ?_, rs_two R hfr (by omega), H1, H2⟩
    rw [Int.toNat_natCast, Int.toNat_natCast, Int.toNat_natCast, e1, e2]

theorem k_window (hi : Eng.Inv S h0) (H : RingAt h0 h b T sz K) :
    CallsH Try.prog S F_impl_ring__window #[.pointer (some ⟨b, 0, none⟩)] h (fun v h' => ∃ a c, v = .agg #[.int .i64 sz, .slice a K.length c] ∧ Part .u8 h' (.slice a K.length c) K ∧ Eng.New h (.slice a K.length c) ∧ Eng.Sub h h') := by
  obtain ⟨d, at_, n, hb, R, s, hbn⟩ := id H
  refine run_impl_ring__window (vs := [.pointer (some ⟨b, 0, none⟩)]) ⟨rfl, trivial⟩ (hi.sub s) ?_
  simp only [t_impl_ring__window, Tr.wp, mksW, callW, Ex.ev, coerce, toInt_int, toBool_bool, slL_sl, slC_sl, slA_sl, toAddr_ptr, ptrOf_ptr, isNil_sl, isNil_ptr, it_and, it_or, it_int, optN_int, optN_nl, cmpI, arith, Cst.val, SV.den, resShs, resV, resSV, resVals, newVars, runCells, exSh, allSh, cellsAre, storeW, List.flatMap_cons, List.flatMap_nil, List.replicate_one, List.getD_cons_zero, List.getD_cons_succ, List.getElem?_cons_zero, List.getElem?_cons_succ, decide_eq_true_eq, decide_eq_false_iff_not, List.map_cons, List.map_nil, List.cons_append, List.nil_append, List.append_nil, List.length_cons, List.length_nil, Nat.zero_add, Nat.add_zero, and_true, true_and, if_true, if_false, Bool.false_eq_true]
  refine (k_parts hi H).mono ?_
  rintro _ hq ⟨eq, a1, c1, xs, a2, c2, ys, rfl, hK, H1, H2⟩
  rw [eq]
  have hs0 := ring_sz hb
  refine ⟨_, _, _, _, _, _, rfl, by simp, sz, by simpa [addr_add] using hs0, fun d0 hd0 => ?_⟩
  have still : ∀ {h' : Eng.Heap} {x y : Value} {vs : List Value}, Eng.Sub h h' → ∀ p ∈ [(((Ex.var Sh.ptr 0).nz.fld 0, Ex.var (Sh.int IntKind.i64) 3) : Ex × Ex)], hcell h' (toAddr (Ex.ev (Value.pointer (some ⟨b, 0, none⟩) :: x :: y :: Value.int .i64 sz :: vs) [] p.1)) = some (Ex.ev (Value.pointer (some ⟨b, 0, none⟩) :: x :: y :: Value.int .i64 sz :: vs) [] p.2) := fun hs p hp => by
    cases List.mem_singleton.1 hp
    exact hcell_sub hs hs0
  have s1 : Eng.Sub h (upd h d0 (.cells (ints .u8 []) 5)) := Sub.of_upd hd0
  refine ⟨still s1, ?_⟩
  have hl : xs.length + ys.length ≤ 32768 := by
    have := congrArg List.length hK
    rw [List.length_append] at this
    have := R.kn; have := R.n1; have := R.s2
    omega
  refine appW_part (hi.sub s) s1 (Own.made []).part (New.of hd0) (H1.sub s1) (by simp only [List.length_nil]; omega) fun v1 h1 o1 n1 s1 _ _ => ?_
  obtain ⟨a3, c3, rfl, _, _⟩ := o1.ints
  refine ⟨still s1, ?_⟩
  refine appW_part (hi.sub s) s1 o1 n1 (H2.sub s1) (by simp only [List.nil_append]; omega) fun v2 h2 o2 n2 s2 _ _ => ?_
  obtain ⟨a4, c4, rfl, _, _⟩ := o2.ints
  refine ⟨still s2, ?_⟩
  rw [List.nil_append, hK] at o2 n2
  exact ⟨a4, c4, by rw [List.nil_append, hK]; rfl, o2, n2, s2⟩
end Go.Proofs.Ytchlnichbaoeaaa
