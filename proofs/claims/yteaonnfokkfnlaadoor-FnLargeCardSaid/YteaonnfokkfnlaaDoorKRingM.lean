import Derived.Test.YteaonnfokkfnlaaDoorTyB
import Derived.Test.YteaonnfokkfnlaaDoorTrWN
import Derived.Test.YteaonnfokkfnlaaDoorEng3
import Derived.Test.YteaonnfokkfnlaaDoorTrWC
set_option linter.unusedVariables false
set_option linter.unusedSimpArgs false
namespace Go.Proofs.YteaonnfokkfnlaaDoor
open Go Go.Eng Go.IntWalk
section
variable {S : Shared} {h h0 : Eng.Heap} {b : Nat} {T : TypeId} {sz : Nat} {K : List Int}

/-- A ring of the code's own in block b: it holds K. -/
def RingAt (h0 h : Eng.Heap) (b : Nat) (T : TypeId) (sz : Nat) (K : List Int) : Prop :=
  ∃ (d : List Int) (at_ n : Nat), h b = some (ringObj sz d at_ n T) ∧ RingS sz d at_ n K ∧ Eng.Sub h0 h ∧ h0 b = none

theorem sub_upd_new {h0 h1 : Eng.Heap} {b : Nat} {o : Obj} (hs : Eng.Sub h0 h1) (hb : h0 b = none) : Eng.Sub h0 (upd h1 b o) := fun x u hx => by
  rw [upd_ne (fun e => by rw [e, hb] at hx; cases hx)]; exact hs x u hx

theorem RingAt.sub (H : RingAt h0 h b T sz K) : Eng.Sub h0 h := by obtain ⟨_, _, _, _, _, s, _⟩ := H; exact s
theorem RingAt.new (H : RingAt h0 h b T sz K) : h0 b = none := by obtain ⟨_, _, _, _, _, _, n⟩ := H; exact n
theorem RingAt.mono {h1 : Eng.Heap} (H : RingAt h0 h b T sz K) (s : Eng.Sub h h1) : RingAt h0 h1 b T sz K := by
  obtain ⟨d, at_, n, hb, R, s0, hn⟩ := H
  exact ⟨d, at_, n, s b _ hb, R, s0.trans s, hn⟩

theorem rs_pos {d : List Int} {at_ n : Nat} (R : RingS sz d at_ n K) {fr : Nat} (hfr : fr = (at_ + sz - n) % sz) {j : Nat} (hj : j < n) : d[if fr + j < sz then fr + j else fr + j - sz]? = K[j]? := by
  rw [← R.rd j hj]
  have ha := R.a1
  have hn := R.n1
  have h1 := R.s1
  rw [mod2 (by omega)] at hfr ⊢
  congr 1
  split at hfr <;> split <;> split <;> omega

theorem rs_one {d : List Int} {at_ n : Nat} (R : RingS sz d at_ n K) {fr : Nat} (hfr : fr = (at_ + sz - n) % sz) (h : fr + n ≤ sz) : (d.drop fr).take (fr + n - fr) = K := by
  have hk := R.kn
  apply List.ext_getElem?
  intro j
  rw [List.getElem?_take, List.getElem?_drop]
  by_cases hj : j < n
  · have := rs_pos R hfr hj
    rw [if_pos (by omega)] at this
    rw [if_pos (by omega), this]
  · rw [if_neg (by omega), List.getElem?_eq_none (by omega)]

theorem rs_two {d : List Int} {at_ n : Nat} (R : RingS sz d at_ n K) {fr : Nat} (hfr : fr = (at_ + sz - n) % sz) (h : sz < fr + n) : (d.drop fr).take (sz - fr) ++ (d.drop 0).take (at_ - 0) = K := by
  have hk := R.kn
  have hfl : fr < sz := by rw [hfr]; exact Nat.mod_lt _ (by have := R.s1; omega)
  have ha := R.a1
  have hn := R.n1
  have hd := R.dl
  have h2 := R.s2
  have hat : at_ = fr + n - sz := by
    rw [mod2 (by omega)] at hfr
    split at hfr <;> omega
  have l1 : ((d.drop fr).take (sz - fr)).length = sz - fr := by rw [List.length_take, List.length_drop]; omega
  apply List.ext_getElem?
  intro j
  by_cases hj : j < sz - fr
  · have := rs_pos R hfr (j := j) (by omega)
    rw [if_pos (by omega)] at this
    rw [List.getElem?_append_left (by omega), List.getElem?_take, if_pos hj, List.getElem?_drop, this]
  · rw [List.getElem?_append_right (by omega), l1, List.getElem?_take, List.drop_zero]
    by_cases hj2 : j < n
    · have := rs_pos R hfr hj2
      rw [if_neg (by omega)] at this
      rw [if_pos (by omega), ← this]
      congr 1
      omega
    · rw [if_neg (by omega), List.getElem?_eq_none (by omega)]

set_option maxHeartbeats 1000000 in
theorem k_put (hi : Eng.Inv S h0) (H : RingAt h0 h b T sz K) (a : Option Addr) (c : Nat) (ys : List Int) (hc : ys.length ≤ c) (hl : ys.length ≤ 1099511627776) (hx : ∀ h' : Eng.Heap, (∀ y, y ≠ b → h' y = h y) → HInts h' .u8 a ys) :
    CallsH Tryd.prog S F_impl_ring__put #[.pointer (some ⟨b, 0, none⟩), .slice a ys.length c] h (fun v h' => v = .tuple #[] ∧ RingAt h0 h' b T sz (lastN sz (K ++ ys)) ∧ ∀ y, y ≠ b → h' y = h y) := by
  obtain ⟨d, at_, n, hb, R, s, hbn⟩ := id H
  have hsb : ¬ S b := fun hs => hi b hs hbn
  refine run_impl_ring__put (vs := [.pointer (some ⟨b, 0, none⟩), .slice a ys.length c]) ⟨rfl, rfl, trivial⟩ (hi.sub s) ?_
  simp only [t_impl_ring__put, Tr.wp, mksW, callW, Ex.ev, coerce, toInt_int, toBool_bool, slL_sl, slC_sl, slA_sl, toAddr_ptr, ptrOf_ptr, isNil_sl, isNil_ptr, it_and, it_or, it_int, optN_int, optN_nl, cmpI, arith, Cst.val, SV.den, resShs, resV, resSV, resVals, newVars, runCells, exSh, allSh, cellsAre, storeW, List.flatMap_cons, List.flatMap_nil, List.replicate_one, List.getD_cons_zero, List.getD_cons_succ, List.getElem?_cons_zero, List.getElem?_cons_succ, decide_eq_true_eq, decide_eq_false_iff_not, List.map_cons, List.map_nil, List.cons_append, List.nil_append, List.append_nil, List.length_cons, List.length_nil, Nat.zero_add, Nat.add_zero, and_true, true_and, if_true, if_false, Bool.false_eq_true]
  have hs1 := R.s1
  have hs2 := R.s2
  have w1 : IntKind.i64.wrap ((ys.length : Int) - (sz : Int)) = (ys.length : Int) - sz := i64_in _ (by omega)
  refine ⟨by simp, (sz : Int), by simpa [addr_add] using ring_sz hb, ?_⟩
  rw [w1]
  have wm : (if (ys.length : Int) - (sz : Int) > 0 then (ys.length : Int) - (sz : Int) else 0).toNat = ys.length - sz := by split <;> omega
  obtain ⟨m, hm⟩ : ∃ m, m = ys.length - sz := ⟨_, rfl⟩
  refine ⟨by split <;> omega, by split <;> omega, ?_⟩
  rw [wm, ← hm]
  obtain ⟨zs, hz⟩ : ∃ zs, zs = ys.drop m := ⟨_, rfl⟩
  have hzl : zs.length = ys.length - m := by rw [hz, List.length_drop]
  have hdr : (ys.drop m).take (ys.length - m) = zs := by rw [hz]; exact List.take_of_length_le (by rw [List.length_drop]; omega)
  have hK : lastN sz (K ++ zs) = lastN sz (K ++ ys) := by rw [hz]; exact lastN_drop (by omega)
  have cut : ∀ h' : Eng.Heap, (∀ y, y ≠ b → h' y = h y) → ∃ a', slSub 1 a m ys.length c = .slice a' zs.length (c - m) ∧ HInts h' .u8 a' zs := fun h' hh => by
    obtain ⟨a', e, H'⟩ := slSub_ints (hx h' hh) (lo := m) (hi := ys.length) (m := c) (by omega) (by omega) hc
    rw [hdr] at e H'
    exact ⟨a', e, H'⟩
  refine ⟨fun us h' => ∃ (i : Nat) (d : List Int) (at_ n : Nat), us = [.int .i64 i] ∧ i ≤ zs.length ∧ h' = upd h b (ringObj sz d at_ n T) ∧ RingS sz d at_ n (lastN sz (K ++ zs.take i)), fun us _ => zs.length - (toInt (us.getD 0 undef)).toNat, ⟨0, d, at_, n, rfl, by omega, (upd_self hb).symm, ?_⟩, ?_⟩
  · rw [List.take_zero, List.append_nil, lastN_le (by have := R.kn; have := R.n1; omega)]; exact R
  rintro x h' ⟨i, d, at_, n, hx1, hi2, rfl, R⟩
  obtain rfl : x = i := by simpa using hx1
  have hb' : upd h b (ringObj sz d at_ n T) b = some (ringObj sz d at_ n T) := upd_same
  obtain ⟨a', ea, hz'⟩ := cut (upd h b (ringObj sz d at_ n T)) (fun y hy => upd_ne hy)
  rw [ea]
  simp only [addr_add, Nat.add_zero, Nat.zero_add, Nat.mul_one, slL_sl, slA_sl, isNil_sl, Int.toNat_natCast]
  refine ⟨fun hlt => ?_, fun hge => ?_⟩
  · have hi3 : i < zs.length := by omega
    obtain ⟨g1, g2⟩ := hz'.cell (List.getElem?_eq_getElem hi3)
    have ha1 := R.a1
    have hdl := R.dl
    have hn1 := R.n1
    have w2 : IntKind.i64.wrap ((i : Int) + 1) = ((i + 1 : Nat) : Int) := by rw [i64_in _ (by omega)]; omega
    have w3 : (IntKind.i64.wrap ((at_ : Int) + 1)).tmod (sz : Int) = (((at_ + 1) % sz : Nat) : Int) := by
      rw [i64_in _ (by omega), Int.tmod_eq_emod_of_nonneg (by omega)]; push_cast; rfl
    have w4 : (if (sz : Int) < IntKind.i64.wrap ((n : Int) + 1) then (sz : Int) else IntKind.i64.wrap ((n : Int) + 1)) = ((min (n + 1) sz : Nat) : Int) := by
      rw [i64_in _ (by omega)]; split <;> omega
    have P := R.push zs[i]
    rw [lastN_app, List.append_assoc, show zs.take i ++ [zs[i]] = zs.take (i + 1) by rw [List.take_add_one, List.getElem?_eq_getElem hi3]; rfl] at P
    have s1 := ring_setd hb' (i := at_) (by omega) zs[i]
    rw [upd_upd] at s1
    have hb1 : upd h b (ringObj sz (d.set at_ zs[i]) at_ n T) b = some (ringObj sz (d.set at_ zs[i]) at_ n T) := upd_same
    have hd1 : (d.set at_ zs[i]).length = 32768 := by rw [List.length_set]; exact hdl
    have s2 := ring_setat hb1 hd1 (((at_ + 1) % sz : Nat) : Int)
    rw [upd_upd] at s2
    have hb2 : upd h b (ringObj sz (d.set at_ zs[i]) (((at_ + 1) % sz : Nat) : Int) n T) b = some (ringObj sz (d.set at_ zs[i]) (((at_ + 1) % sz : Nat) : Int) n T) := upd_same
    have s3 := ring_setn hb2 hd1 ((min (n + 1) sz : Nat) : Int)
    rw [upd_upd] at s3
    refine ⟨by simpa using g2, by omega, hlt, zs[i], by simpa [add_add] using g1, by simp, at_, ring_at hb' hdl, by simp, by omega, by omega, ring_ok hb' hsb (ring_d hb' (List.getElem?_eq_getElem (by omega))), by simp, ?_⟩
    rw [Int.toNat_natCast, s1]
    refine ⟨at_, ring_at hb1 hd1, by simp, sz, ring_sz hb1, by simp; omega, by simp, ring_ok hb1 hsb (ring_at hb1 hd1), by simp, ?_⟩
    rw [w3, s2]
    refine ⟨n, ring_n hb2 hd1, by simp, sz, ring_sz hb2, by simp, ring_ok hb2 hsb (ring_n hb2 hd1), ?_⟩
    rw [w2]
    rw [w4, s3]
    exact ⟨⟨i + 1, _, _, _, rfl, by omega, rfl, P⟩, by simp only [List.getD_cons_zero, toInt_int]; omega⟩
  · obtain rfl : i = zs.length := by omega
    rw [List.take_length, hK] at R
    exact ⟨⟨d, at_, n, upd_same, R, sub_upd_new s hbn, hbn⟩, fun y hy => upd_ne hy⟩

theorem k_ringOf (hi : Eng.Inv S h) (a : Option Addr) (c : Nat) (ys : List Int) (hc : ys.length ≤ c) (hl : ys.length ≤ 1099511627776) (hx : HInts h .u8 a ys) (h1 : 1 ≤ sz) (h2 : sz ≤ 32768) :
    CallsH Tryd.prog S F_impl_ringOf #[.int .i64 sz, .slice a ys.length c] h (fun v h' => ∃ b T, v = .pointer (some ⟨b, 0, none⟩) ∧ RingAt h h' b T sz (lastN sz ys)) := by
  refine run_impl_ringOf (vs := [.int .i64 sz, .slice a ys.length c]) ⟨rfl, rfl, trivial⟩ hi ?_
  simp only [t_impl_ringOf, Tr.wp, mksW, callW, Ex.ev, coerce, toInt_int, toBool_bool, slL_sl, slC_sl, slA_sl, toAddr_ptr, ptrOf_ptr, isNil_sl, isNil_ptr, it_and, it_or, it_int, optN_int, optN_nl, cmpI, arith, Cst.val, SV.den, resShs, resV, resSV, resVals, newVars, runCells, exSh, allSh, cellsAre, storeW, List.flatMap_cons, List.flatMap_nil, List.replicate_one, List.getD_cons_zero, List.getD_cons_succ, List.getElem?_cons_zero, List.getElem?_cons_succ, decide_eq_true_eq, decide_eq_false_iff_not, List.map_cons, List.map_nil, List.cons_append, List.nil_append, List.append_nil, List.length_cons, List.length_nil, Nat.zero_add, Nat.add_zero, and_true, true_and, if_true, if_false, Bool.false_eq_true]
  intro b hb
  rw [ring_made]
  have hbn : upd h b (ringObj sz (List.replicate 32768 0) 0 0 66) b = some (ringObj sz (List.replicate 32768 0) 0 0 66) := upd_same
  have H : RingAt h (upd h b (ringObj sz (List.replicate 32768 0) 0 0 66)) b 66 sz [] := ⟨_, 0, 0, upd_same, RingS.new h1 h2, Sub.of_upd hb, hb⟩
  refine (k_put hi H a c ys hc hl fun h' hh => ?_).mono ?_
  · intro i x hxi
    obtain ⟨ad, e, hc⟩ := hx i x hxi
    refine ⟨ad, e, ?_⟩
    have hne : (ad.add i).block ≠ b := fun e => hcell_held hc (e ▸ hb)
    unfold hcell at hc ⊢
    rw [hh _ hne, upd_ne hne]
    exact hc
  · rintro _ h2 ⟨rfl, H2, _⟩
    rw [List.nil_append] at H2
    exact ⟨rfl, b, 66, rfl, H2⟩

end

section
variable {S : Shared} {h : Eng.Heap}

def repX (d : Nat) (L : List Int) : Nat → List Int
  | 0 => L
  | n + 1 => repX d L n ++ [(repX d L n).getD ((repX d L n).length - d) 0]

theorem repX_len {d : Nat} {L : List Int} {n : Nat} : (repX d L n).length = L.length + n := by
  induction n with
  | zero => rfl
  | succ n ih => simp only [repX, List.length_append, ih, List.length_singleton]; omega

theorem repX_pre {d : Nat} {L : List Int} {n : Nat} : ∃ t, repX d L n = L ++ t := by
  induction n with
  | zero => exact ⟨[], by simp [repX]⟩
  | succ n ih => obtain ⟨t, e⟩ := ih; exact ⟨t ++ [(repX d L n).getD ((repX d L n).length - d) 0], by rw [repX, e, List.append_assoc]⟩

theorem k_back {h0 : Eng.Heap} {b : Nat} {T : TypeId} {sz : Nat} {K : List Int} (hi : Eng.Inv S h0) (H : RingAt h0 h b T sz K) (d : Int) (h1 : 1 ≤ d) (h2 : d ≤ (K.length : Int)) :
    CallsH Tryd.prog S F_impl_ring__back #[.pointer (some ⟨b, 0, none⟩), .int .i64 d] h (fun v h' => v = .int .u8 (K.getD (K.length - d.toNat) 0) ∧ h' = h) := by
  obtain ⟨ds, at_, n, hb, R, s, hbn⟩ := id H
  refine run_impl_ring__back (vs := [.pointer (some ⟨b, 0, none⟩), .int .i64 d]) ⟨rfl, rfl, trivial⟩ (hi.sub s) ?_
  simp only [t_impl_ring__back, Tr.wp, mksW, callW, Ex.ev, coerce, toInt_int, toBool_bool, slL_sl, slC_sl, slA_sl, toAddr_ptr, ptrOf_ptr, isNil_sl, isNil_ptr, it_and, it_or, it_int, optN_int, optN_nl, cmpI, arith, Cst.val, SV.den, resShs, resV, resSV, resVals, newVars, runCells, exSh, allSh, cellsAre, storeW, List.flatMap_cons, List.flatMap_nil, List.replicate_one, List.getD_cons_zero, List.getD_cons_succ, List.getElem?_cons_zero, List.getElem?_cons_succ, decide_eq_true_eq, decide_eq_false_iff_not, List.map_cons, List.map_nil, List.cons_append, List.nil_append, List.append_nil, List.length_cons, List.length_nil, Nat.zero_add, Nat.add_zero, and_true, true_and, if_true, if_false, Bool.false_eq_true]
  have hs1 := R.s1
  have hs2 := R.s2
  have ha1 := R.a1
  have hdl := R.dl
  have hn1 := R.n1
  have hkn := R.kn
  have w1 : IntKind.i64.wrap (IntKind.i64.wrap ((at_ : Int) - d) + (sz : Int)) = ((at_ + sz - n + (n - d.toNat) : Nat) : Int) := by
    rw [i64_in ((at_ : Int) - d) (by omega), i64_in _ (by omega)]; omega
  have w2 : ((at_ + sz - n + (n - d.toNat) : Nat) : Int).tmod (sz : Int) = (((at_ + sz - n + (n - d.toNat)) % sz : Nat) : Int) := by
    rw [Int.tmod_eq_emod_of_nonneg (by omega)]; push_cast; rfl
  have hlt : (at_ + sz - n + (n - d.toNat)) % sz < sz := Nat.mod_lt _ (by omega)
  have hrd := R.rd (n - d.toNat) (by omega)
  simp only [addr_add, Nat.add_zero, Nat.zero_add]
  refine ⟨by simp, at_, ring_at hb hdl, by simp, sz, ring_sz hb, by simp, sz, ring_sz hb, by simp; omega, by simp, ?_⟩
  rw [w1, w2]
  have hk : K[n - d.toNat]? = some K[n - d.toNat] := List.getElem?_eq_getElem (by omega)
  rw [hk] at hrd
  rw [Int.toNat_natCast, Nat.mul_one]
  refine ⟨by omega, by omega, _, ring_d hb hrd, ?_⟩
  have e : K.getD (K.length - d.toNat) 0 = K[n - d.toNat] := by
    have e1 : K.length - d.toNat = n - d.toNat := by omega
    rw [List.getD_eq_getElem?_getD, e1, hk]; rfl
  rw [e]

theorem lastN_back {sz d : Nat} {L : List Int} (h1 : 1 ≤ d) (h2 : d ≤ sz) (h3 : d ≤ L.length) : (lastN sz L).getD ((lastN sz L).length - d) 0 = L.getD (L.length - d) 0 := by
  rw [lastN_len, List.getD_eq_getElem?_getD, List.getD_eq_getElem?_getD]
  unfold lastN
  rw [List.getElem?_drop]
  congr 2
  omega

theorem k_repeat {h0 : Eng.Heap} {b : Nat} {T : TypeId} {sz : Nat} {L : List Int} (hi : Eng.Inv S h0) (H : RingAt h0 h b T sz (lastN sz L)) (d n : Int) (d1 : 1 ≤ d) (d2 : d ≤ (L.length : Int)) (d3 : d ≤ (sz : Int)) (hn : 0 ≤ n ∧ n ≤ 258) (hl : L.length ≤ 32768) :
    CallsH Tryd.prog S F_impl_ring__repeat #[.pointer (some ⟨b, 0, none⟩), .int .i64 d, .int .i64 n] h (fun v h' => tB.O h' v ((repX d.toNat L n.toNat).drop L.length) ∧ tB.New h0 v ∧ RingAt h0 h' b T sz (lastN sz (repX d.toNat L n.toNat))) := by
  refine run_impl_ring__repeat (vs := [.pointer (some ⟨b, 0, none⟩), .int .i64 d, .int .i64 n]) ⟨rfl, rfl, rfl, trivial⟩ (hi.sub H.sub) ?_
  simp only [t_impl_ring__repeat, Tr.wp, mksW, callW, Ex.ev, coerce, toInt_int, toBool_bool, slL_sl, slC_sl, slA_sl, toAddr_ptr, ptrOf_ptr, isNil_sl, isNil_ptr, it_and, it_or, it_int, optN_int, optN_nl, cmpI, arith, Cst.val, SV.den, resShs, resV, resSV, resVals, newVars, runCells, exSh, allSh, cellsAre, storeW, List.flatMap_cons, List.flatMap_nil, List.replicate_one, List.getD_cons_zero, List.getD_cons_succ, List.getElem?_cons_zero, List.getElem?_cons_succ, decide_eq_true_eq, decide_eq_false_iff_not, List.map_cons, List.map_nil, List.cons_append, List.nil_append, List.append_nil, List.length_cons, List.length_nil, Nat.zero_add, Nat.add_zero, and_true, true_and, if_true, if_false, Bool.false_eq_true]
  intro b0 hb0
  have hrb : h b ≠ none := by obtain ⟨_, _, _, hb, _⟩ := H; rw [hb]; simp
  have hne0 : b0 ≠ b := fun e => hrb (e ▸ hb0)
  have s0 : Eng.Sub h (upd h b0 (.cells (ints .u8 []) 5)) := Sub.of_upd hb0
  obtain ⟨D, hD⟩ : ∃ D, D = d.toNat := ⟨_, rfl⟩
  rw [← hD]
  refine ⟨fun us h' => ∃ (a : Option Addr) (c i : Nat), us = [.slice a i c, .int .i64 i] ∧ i ≤ n.toNat ∧ Part .u8 h' (.slice a i c) ((repX D L i).drop L.length) ∧ Eng.New h0 (.slice a i c) ∧ blkOf (.slice a i c) ≠ some b ∧ RingAt h0 h' b T sz (lastN sz (repX D L i)), fun us _ => n.toNat - (toInt (us.getD 1 undef)).toNat, ⟨_, _, 0, rfl, by omega, ?_, New.of (sub_none H.sub hb0), fun e => hne0 (by cases e; rfl), H.mono s0⟩, ?_⟩
  · have e : (repX D L 0).drop L.length = [] := by simp [repX]
    rw [e]
    exact (Own.made (k := .u8) (b := b0) (T := 5) (h := h) []).part
  rintro a l c x h' ⟨a', c', i, hx1, hi2, P, N, hne, R⟩
  obtain ⟨⟨rfl, rfl, rfl⟩, rfl⟩ : (a = a' ∧ l = i ∧ c = c') ∧ x = i := by simpa using hx1
  have hll : ((repX D L l).drop L.length).length = l := by rw [List.length_drop, repX_len]; omega
  refine ⟨fun hlt => ?_, fun hge => ?_⟩
  · have hK : d ≤ ((lastN sz (repX D L l)).length : Int) := by rw [lastN_len, repX_len]; omega
    refine (k_back hi R d d1 hK).mono ?_
    rintro _ hq ⟨rfl, eq⟩
    rw [eq, ← hD, lastN_back (by omega) (by omega) (by rw [repX_len]; omega)]
    obtain ⟨y, hy⟩ : ∃ y, y = (repX D L l).getD ((repX D L l).length - D) 0 := ⟨_, rfl⟩
    rw [← hy]
    have hrep : repX D L (l + 1) = repX D L l ++ [y] := by rw [repX, ← hy]
    refine ⟨_, rfl, fun b1 hb1 => ?_⟩
    have hrb' : h' b ≠ none := by obtain ⟨_, _, _, hb, _⟩ := R; rw [hb]; simp
    have s1 : Eng.Sub h' (upd h' b1 (.cells (ints .u8 [y]) 5)) := Sub.of_upd hb1
    have P1 := P.sub s1
    have P2 : Part .u8 (upd h' b1 (.cells (ints .u8 [y]) 5)) (.slice a l c) ((repX D L l).drop L.length) := P1
    refine appW_part hi (R.sub.trans s1) P2 N (ys := [y]) HInts.new (by rw [hll]; simp only [List.length_singleton]; omega) fun v1 h1 o1 n1 s2 keep hblk => ?_
    obtain ⟨a3, c3, rfl, _, _⟩ := o1.ints
    have keep' : ∀ x, upd h' b1 (.cells (ints .u8 [y]) 5) x ≠ none → blkOf (.slice a l c) ≠ some x → h1 x = upd h' b1 (.cells (ints .u8 [y]) 5) x := keep
    have R1 : RingAt h0 h1 b T sz (lastN sz (repX D L l)) := by
      obtain ⟨ds, at_, m, hb, RS, _, hn⟩ := R.mono s1
      refine ⟨ds, at_, m, ?_, RS, s2, hn⟩
      rw [keep' b (by rw [hb]; simp) hne]; exact hb
    have hne1 : blkOf (.slice a3 ((repX D L l).drop L.length ++ [y]).length c3) ≠ some b := by
      rcases hblk with e | e
      · rw [e]; exact hne
      · intro e2
        have h3 : upd h' b1 (.cells (ints .u8 [y]) 5) b = none := e b e2
        obtain ⟨_, _, _, hb, _⟩ := R.mono s1
        rw [hb] at h3; cases h3
    intro b2 hb2
    have hne2 : b2 ≠ b := fun e => by
      obtain ⟨_, _, _, hb, _⟩ := R1
      rw [e, hb] at hb2; cases hb2
    have s3 : Eng.Sub h1 (upd h1 b2 (.cells (ints .u8 [y]) 5)) := Sub.of_upd hb2
    refine (k_put hi (R1.mono s3) (some ⟨b2, 0, none⟩) 1 [y] (Nat.le_refl _) (by simp) (fun h'' hh => ?_)).mono ?_
    · have hk : h'' b2 = (upd h1 b2 (.cells (ints .u8 [y]) 5)) b2 := hh b2 hne2
      rw [upd_same] at hk
      intro i x hxi
      refine ⟨_, rfl, ?_⟩
      rw [addr0_add]
      simp only [hcell, hk]
      exact ints_get (sp := []) (xs := [y]) hxi
    · rintro _ h3 ⟨rfl, R3, f3⟩
      rw [lastN_app, ← hrep] at R3
      have w4 : IntKind.i64.wrap ((l : Int) + 1) = ((l + 1 : Nat) : Int) := by rw [i64_in _ (by omega)]; omega
      have e1 : (repX D L l).drop L.length ++ [y] = (repX D L (l + 1)).drop L.length := by
        rw [hrep, List.drop_append_of_le_length (by rw [repX_len]; omega)]
      have e2 : ((repX D L (l + 1)).drop L.length).length = l + 1 := by rw [List.length_drop, repX_len]; omega
      rw [e1] at o1 n1 hne1 ⊢
      rw [w4, slA_sl, slL_sl, slC_sl, e2]
      rw [e2] at o1 n1 hne1
      exact ⟨rfl, ⟨a3, c3, l + 1, rfl, by omega, Part.keep (o1.sub s3) (fun z hz => f3 z (fun e => hne1 (e ▸ hz))), n1, hne1, R3⟩, by simp only [List.getD_cons_succ, List.getD_cons_zero, toInt_int]; omega⟩
  · obtain rfl : l = n.toNat := by omega
    exact ⟨P, N, R⟩
end
end Go.Proofs.YteaonnfokkfnlaaDoor
