import Derived.Test.YteaonnfokkfnlaaGreatDoorChecked
import Derived.IntWalk
import Derived.Conc.WgGenN3
import Derived.Test.YteaonnfokkfnlaaGreatDoorPz2
import Derived.Test.YteaonnfokkfnlaaGreatDoorPz3
import Derived.Test.YteaonnfokkfnlaaGreatDoorPz4
import Derived.Test.YteaonnfokkfnlaaGreatDoorPz5
import Derived.Test.YteaonnfokkfnlaaGreatDoorPz6
import Derived.Test.YteaonnfokkfnlaaGreatDoorPz7
import Derived.Test.YteaonnfokkfnlaaGreatDoorPz8
set_option maxRecDepth 100000
set_option maxHeartbeats 8000000
set_option linter.unusedVariables false
set_option linter.unusedSimpArgs false
set_option linter.unusedSectionVars false
section
namespace Go.Proofs.YteaonnfokkfnlaaGreatDoor
open Go Go.Eng Go.IntWalk
section
variable {S : Shared} {h h0 : Eng.Heap} {b : Nat} {T : TypeId} {sz : Nat} {K : List Int}
def RingAt (h0 h : Eng.Heap) (b : Nat) (T : TypeId) (sz : Nat) (K : List Int) : Prop :=
 ∃ (d : List Int) (at_ n : Nat), h b = some (zY sz d at_ n T) ∧ RingS sz d at_ n K ∧ Eng.Sub h0 h ∧ h0 b = none
theorem xq {h0 h1 : Eng.Heap} {b : Nat} {o : Obj} (hs : Eng.Sub h0 h1) (hb : h0 b = none) : Eng.Sub h0 (upd h1 b o) := fun x u hx => by
 rw [upd_ne (fun e => by rw [e, hb] at hx; cases hx)]; exact hs x u hx
theorem RingAt.sub (H : RingAt h0 h b T sz K) : Eng.Sub h0 h := by obtain ⟨_, _, _, _, _, s, _⟩ := H; exact s
theorem RingAt.mono {h1 : Eng.Heap} (H : RingAt h0 h b T sz K) (s : Eng.Sub h h1) : RingAt h0 h1 b T sz K := by
 obtain ⟨d, at_, n, hb, R, s0, hn⟩ := H
 exact ⟨d, at_, n, s b _ hb, R, s0.trans s, hn⟩
theorem Nq (hi : Eng.Inv S h0) (H : RingAt h0 h b T sz K) (a : Option Addr) (c : Nat) (ys : List Int) (hc : ys.length ≤ c) (hl : ys.length ≤ 1099511627776) (hx : ∀ h' : Eng.Heap, (∀ y, y ≠ b → h' y = h y) → zn h' .u8 a ys) :
  za Tryz.prog S jv #[.pointer (some ⟨b, 0, none⟩), .slice a ys.length c] h (fun v h' => v = .tuple #[] ∧ RingAt h0 h' b T sz (zC sz (K ++ ys)) ∧ ∀ y, y ≠ b → h' y = h y) := by
 obtain ⟨d, at_, n, hb, R, s, hbn⟩ := id H
 have hsb : ¬ S b := fun hs => hi b hs hbn
 refine Fg (vs := [.pointer (some ⟨b, 0, none⟩), .slice a ys.length c]) ⟨rfl, rfl, trivial⟩ (hi.sub s) ?_
 simp only [BR, Tr.wp, Ex.ev, coerce, toInt_int, zb, zi, zl, zj, zh, yb, yQ, kK, Ak, Bt, z6, arith, Cst.val, SV.den, z4, zP, zu, yd, List.getD_cons_zero, List.getD_cons_succ, List.getElem?_cons_zero, decide_eq_true_eq, decide_eq_false_iff_not, List.map_cons, List.map_nil, List.cons_append, List.nil_append, and_true, true_and]
 have hs1 := R.s1
 have hs2 := R.s2
 have w1 : IntKind.i64.wrap ((ys.length : Int) - (sz : Int)) = (ys.length : Int) - sz := i64_in _ (by omega)
 refine ⟨by simp, (sz : Int), by simpa [zo] using Di hb, ?_⟩
 rw [w1]
 have wm : (if (ys.length : Int) - (sz : Int) > 0 then (ys.length : Int) - (sz : Int) else 0).toNat = ys.length - sz := by split <;> omega
 obtain ⟨m, hm⟩ : ∃ m, m = ys.length - sz := ⟨_, rfl⟩
 refine ⟨by split <;> omega, by split <;> omega, ?_⟩
 rw [wm, ← hm]
 obtain ⟨zs, hz⟩ : ∃ zs, zs = ys.drop m := ⟨_, rfl⟩
 have hzl : zs.length = ys.length - m := by rw [hz, List.length_drop]
 have hdr : (ys.drop m).take (ys.length - m) = zs := by rw [hz]; exact List.take_of_length_le (by rw [List.length_drop]; omega)
 have hK : zC sz (K ++ zs) = zC sz (K ++ ys) := by rw [hz]; exact Na (by omega)
 have cut : ∀ h' : Eng.Heap, (∀ y, y ≠ b → h' y = h y) → ∃ a', kS 1 a m ys.length c = .slice a' zs.length (c - m) ∧ zn h' .u8 a' zs := fun h' hh => by
  obtain ⟨a', e, H'⟩ := Bo (hx h' hh) (lo := m) (hi := ys.length) (m := c) (by omega) (by omega) hc
  rw [hdr] at e H'
  exact ⟨a', e, H'⟩
 refine ⟨fun us h' => ∃ (i : Nat) (d : List Int) (at_ n : Nat), us = [.int .i64 i] ∧ i ≤ zs.length ∧ h' = upd h b (zY sz d at_ n T) ∧ RingS sz d at_ n (zC sz (K ++ zs.take i)), fun us _ => zs.length - (toInt (us.getD 0 undef)).toNat, ⟨0, d, at_, n, rfl, by omega, (ky hb).symm, ?_⟩, ?_⟩
 ·rw [List.take_zero, List.append_nil, K8 (by have := R.kn; have := R.n1; omega)]; exact R
 rintro x h' ⟨i, d, at_, n, hx1, hi2, rfl, R⟩
 obtain rfl : x = i := by simpa using hx1
 have hb' : upd h b (zY sz d at_ n T) b = some (zY sz d at_ n T) := upd_same
 obtain ⟨a', ea, hz'⟩ := cut (upd h b (zY sz d at_ n T)) (fun y hy => upd_ne hy)
 rw [ea]
 simp only [zo, Nat.add_zero, Nat.zero_add, Nat.mul_one, zi, zj, yg, Int.toNat_natCast]
 refine ⟨fun hlt => ?_, fun hge => ?_⟩
 ·have hi3 : i < zs.length := by omega
  obtain ⟨g1, g2⟩ := hz'.cell (List.getElem?_eq_getElem hi3)
  have ha1 := R.a1
  have hdl := R.dl
  have hn1 := R.n1
  have w2 : IntKind.i64.wrap ((i : Int) + 1) = ((i + 1 : Nat) : Int) := by rw [i64_in _ (by omega)]; omega
  have w3 : (IntKind.i64.wrap ((at_ : Int) + 1)).tmod (sz : Int) = (((at_ + 1) % sz : Nat) : Int) := by
   rw [i64_in _ (by omega), Int.tmod_eq_emod_of_nonneg (by omega)]; push_cast; rfl
  have w4 : (if (sz : Int) < IntKind.i64.wrap ((n : Int) + 1) then (sz : Int) else IntKind.i64.wrap ((n : Int) + 1)) = ((min (n + 1) sz : Nat) : Int) := by
   rw [i64_in _ (by omega)]; split <;> omega
  have P := R.push zs[i]
  rw [AE, List.append_assoc, show zs.take i ++ [zs[i]] = zs.take (i + 1) by rw [List.take_add_one, List.getElem?_eq_getElem hi3]; rfl] at P
  have s1 := O0 hb' (i := at_) (by omega) zs[i]
  rw [xj] at s1
  have hb1 : upd h b (zY sz (d.set at_ zs[i]) at_ n T) b = some (zY sz (d.set at_ zs[i]) at_ n T) := upd_same
  have hd1 : (d.set at_ zs[i]).length = 32768 := by rw [List.length_set]; exact hdl
  have s2 := Nb hb1 hd1 (((at_ + 1) % sz : Nat) : Int)
  rw [xj] at s2
  have hb2 : upd h b (zY sz (d.set at_ zs[i]) (((at_ + 1) % sz : Nat) : Int) n T) b = some (zY sz (d.set at_ zs[i]) (((at_ + 1) % sz : Nat) : Int) n T) := upd_same
  have s3 := O9 hb2 hd1 ((min (n + 1) sz : Nat) : Int)
  rw [xj] at s3
  refine ⟨by simpa using g2, by omega, hlt, zs[i], by simpa [add_add] using g1, by simp, at_, FI hb' hdl, by simp, by omega, by omega, I4 hb' hsb (Oz hb' (List.getElem?_eq_getElem (by omega))), by simp, ?_⟩
  rw [Int.toNat_natCast, s1]
  refine ⟨at_, FI hb1 hd1, by simp, sz, Di hb1, by simp; omega, by simp, I4 hb1 hsb (FI hb1 hd1), by simp, ?_⟩
  rw [w3, s2]
  refine ⟨n, K9 hb2 hd1, by simp, sz, Di hb2, by simp, I4 hb2 hsb (K9 hb2 hd1), ?_⟩
  rw [w2]
  rw [w4, s3]
  exact ⟨⟨i + 1, _, _, _, rfl, by omega, rfl, P⟩, by simp only [List.getD_cons_zero, toInt_int]; omega⟩
 ·obtain rfl : i = zs.length := by omega
  rw [List.take_length, hK] at R
  exact ⟨⟨d, at_, n, upd_same, R, xq s hbn, hbn⟩, fun y hy => upd_ne hy⟩
theorem QX (hi : Eng.Inv S h) (a : Option Addr) (c : Nat) (ys : List Int) (hc : ys.length ≤ c) (hl : ys.length ≤ 1099511627776) (hx : zn h .u8 a ys) (h1 : 1 ≤ sz) (h2 : sz ≤ 32768) :
  za Tryz.prog S AV #[.int .i64 sz, .slice a ys.length c] h (fun v h' => ∃ b T, v = .pointer (some ⟨b, 0, none⟩) ∧ RingAt h h' b T sz (zC sz ys)) := by
 refine HS (vs := [.int .i64 sz, .slice a ys.length c]) ⟨rfl, rfl, trivial⟩ hi ?_
 simp only [Ez, Tr.wp, zG, Ex.ev, coerce, toInt_int, zi, zl, zj, zh, Cst.val, SV.den, zw, zV, z7, zp, yD, z4, List.flatMap_cons, List.flatMap_nil, List.replicate_one, List.getD_cons_zero, List.getD_cons_succ, List.map_cons, List.map_nil, List.cons_append, List.nil_append, List.append_nil, if_true]
 intro b hb
 rw [OA]
 have hbn : upd h b (zY sz (List.replicate 32768 0) 0 0 146) b = some (zY sz (List.replicate 32768 0) 0 0 146) := upd_same
 have H : RingAt h (upd h b (zY sz (List.replicate 32768 0) 0 0 146)) b 146 sz [] := ⟨_, 0, 0, upd_same, RingS.new h1 h2, Sub.zN hb, hb⟩
 refine (Nq hi H a c ys hc hl fun h' hh => ?_).mono ?_
 ·intro i x hxi
  obtain ⟨ad, e, hc⟩ := hx i x hxi
  refine ⟨ad, e, ?_⟩
  have hne : (ad.add i).block ≠ b := fun e => xG hc (e ▸ hb)
  unfold ze at hc ⊢
  rw [hh _ hne, upd_ne hne]
  exact hc
 ·rintro _ h2 ⟨rfl, H2, _⟩
  rw [List.nil_append] at H2
  exact ⟨rfl, b, 146, rfl, H2⟩
end
section
variable {S : Shared} {h : Eng.Heap}
theorem QY (hi : Eng.Inv S h) (a : Option Addr) (c : Nat) (ys : List Int) (n : Nat) (hc : ys.length ≤ c) (hl : ys.length ≤ 1099511627776) (hn : n ≤ 32768) (hx : zn h .u8 a ys) :
  za Tryz.prog S AW #[.slice a ys.length c, .int .i64 n] h (fun v h' => tB.O h' v (zC n ys) ∧ tB.New h v ∧ Eng.Sub h h') := by
 refine HT (vs := [.slice a ys.length c, .int .i64 n]) ⟨rfl, rfl, trivial⟩ hi ?_
 simp only [E0, Tr.wp, Ex.ev, coerce, toInt_int, zb, zi, zl, zj, Ak, Bt, z6, arith, Cst.val, SV.den, List.getD_cons_zero, List.getD_cons_succ, List.getElem?_cons_zero, decide_eq_true_eq, decide_eq_false_iff_not, List.map_cons, List.map_nil, List.cons_append, List.nil_append]
 have w1 : IntKind.i64.wrap ((ys.length : Int) - (n : Int)) = (ys.length : Int) - n := i64_in _ (by omega)
 rw [w1]
 have fin : ∀ (a' : Option Addr) (c' : Nat) (zs : List Int), zn h .u8 a' zs → zs = zC n ys → ∀ b, h b = none → appW S 5 1 1 [.int .u8 0] (.slice (some ⟨b, 0, none⟩) 0 0) (.slice a' zs.length c') (upd h b (.cells #[] 5)) (fun v h' => tB.O h' (.slice (slA v) (slL v) (slC v)) (zC n ys) ∧ tB.New h (.slice (slA v) (slL v) (slC v)) ∧ Eng.Sub h h') := fun a' c' zs hz e b hb => by
  have s1 : Eng.Sub h (upd h b (.cells (ints .u8 []) 5)) := Sub.zN hb
  have hzl : zs.length ≤ ys.length := by rw [e, jf]; omega
  refine xI hi s1 (Own.made []).part (New.of hb) (hz.sub s1) (by simp only [List.length_nil]; omega) fun v' h' o n' s _ _ => ?_
  obtain ⟨a4, c4, rfl, _, _⟩ := o.ints
  rw [List.nil_append, e] at o n'
  simp only [zj, zi, zl, List.nil_append, e]
  exact ⟨o, n', s⟩
 refine ⟨fun hgt => ?_, fun hle _ => ?_⟩
 ·refine ⟨by omega, by omega, fun _ => ?_⟩
  have ee : ((ys.length : Int) - (n : Int)).toNat = ys.length - n := by omega
  rw [ee]
  obtain ⟨a', e, H'⟩ := Bo hx (lo := ys.length - n) (hi := ys.length) (m := c) (by omega) (by omega) hc
  have hdr : (ys.drop (ys.length - n)).take (ys.length - (ys.length - n)) = zC n ys := List.take_of_length_le (by rw [List.length_drop]; omega)
  rw [hdr] at e H'
  simp only [e, zj, zi, zl]
  exact fun b hb => fin a' _ _ H' rfl b hb
 ·exact fun b hb => fin a c ys hx (K8 (by omega)).symm b hb
def xE (d : Nat) (L : List Int) : Nat → List Int
 | 0 => L
 | n + 1 => xE d L n ++ [(xE d L n).getD ((xE d L n).length - d) 0]
theorem Cf {d : Nat} {L : List Int} {n : Nat} : (xE d L n).length = L.length + n := by
 induction n with
 | zero => rfl
 | succ n ih => simp only [xE, List.length_append, ih, List.length_singleton]; omega
theorem Ub {h0 : Eng.Heap} {b : Nat} {T : TypeId} {sz : Nat} {K : List Int} (hi : Eng.Inv S h0) (H : RingAt h0 h b T sz K) (d : Int) (h1 : 1 ≤ d) (h2 : d ≤ (K.length : Int)) :
  za Tryz.prog S qz #[.pointer (some ⟨b, 0, none⟩), .int .i64 d] h (fun v h' => v = .int .u8 (K.getD (K.length - d.toNat) 0) ∧ h' = h) := by
 obtain ⟨ds, at_, n, hb, R, s, hbn⟩ := id H
 refine E5 (vs := [.pointer (some ⟨b, 0, none⟩), .int .i64 d]) ⟨rfl, rfl, trivial⟩ (hi.sub s) ?_
 simp only [Bl, Tr.wp, Ex.ev, coerce, toInt_int, zb, zh, yb, yQ, z6, arith, Cst.val, SV.den, z4, zu, List.getD_cons_zero, List.getD_cons_succ, decide_eq_true_eq, List.cons_append, List.nil_append, and_true]
 have hs1 := R.s1
 have hs2 := R.s2
 have ha1 := R.a1
 have hdl := R.dl
 have hn1 := R.n1
 have hkn := R.kn
 have w1 : IntKind.i64.wrap (IntKind.i64.wrap ((at_ : Int) - d) + (sz : Int)) = ((at_ + sz - n + (n - d.toNat) : Nat) : Int) := by
  rw [i64_in ((at_ : Int) - d) (by omega), i64_in _ (by omega)]; omega
 have w2 : ((at_ + sz - n + (n - d.toNat) : Nat) : Int).tmod (sz : Int) = (((at_ + sz - n + (n - d.toNat)) % sz : Nat) : Int) := by
  rw [Int.tmod_eq_emod_of_nonneg (by omega)]; push_cast; rfl
 have hlt : (at_ + sz - n + (n - d.toNat)) % sz < sz := Nat.mod_lt _ (by omega)
 have hrd := R.rd (n - d.toNat) (by omega)
 simp only [zo, Nat.add_zero, Nat.zero_add]
 refine ⟨by simp, at_, FI hb hdl, by simp, sz, Di hb, by simp, sz, Di hb, by simp; omega, by simp, ?_⟩
 rw [w1, w2]
 have hk : K[n - d.toNat]? = some K[n - d.toNat] := List.getElem?_eq_getElem (by omega)
 rw [hk] at hrd
 rw [Int.toNat_natCast, Nat.mul_one]
 refine ⟨by omega, by omega, _, Oz hb hrd, ?_⟩
 have e : K.getD (K.length - d.toNat) 0 = K[n - d.toNat] := by
  have e1 : K.length - d.toNat = n - d.toNat := by omega
  rw [List.getD_eq_getElem?_getD, e1, hk]; rfl
 rw [e]
theorem Nr {sz d : Nat} {L : List Int} (h1 : 1 ≤ d) (h2 : d ≤ sz) (h3 : d ≤ L.length) : (zC sz L).getD ((zC sz L).length - d) 0 = L.getD (L.length - d) 0 := by
 rw [jf, List.getD_eq_getElem?_getD, List.getD_eq_getElem?_getD]
 unfold zC
 rw [List.getElem?_drop]
 congr 2
 omega
theorem QZ {h0 : Eng.Heap} {b : Nat} {T : TypeId} {sz : Nat} {L : List Int} (hi : Eng.Inv S h0) (H : RingAt h0 h b T sz (zC sz L)) (d n : Int) (d1 : 1 ≤ d) (d2 : d ≤ (L.length : Int)) (d3 : d ≤ (sz : Int)) (hn : 0 ≤ n ∧ n ≤ 258) (hl : L.length ≤ 32768) :
  za Tryz.prog S kQ #[.pointer (some ⟨b, 0, none⟩), .int .i64 d, .int .i64 n] h (fun v h' => tB.O h' v ((xE d.toNat L n.toNat).drop L.length) ∧ tB.New h0 v ∧ RingAt h0 h' b T sz (zC sz (xE d.toNat L n.toNat))) := by
 refine Dt (vs := [.pointer (some ⟨b, 0, none⟩), .int .i64 d, .int .i64 n]) ⟨rfl, rfl, rfl, trivial⟩ (hi.sub H.sub) ?_
 simp only [Ac, Tr.wp, zG, Ex.ev, coerce, toInt_int, zb, zi, zl, zj, yb, z6, arith, Cst.val, SV.den, zw, zV, z7, zp, zm, z4, zP, List.flatMap_cons, List.flatMap_nil, List.getD_cons_zero, List.getD_cons_succ, List.getElem?_cons_zero, decide_eq_true_eq, decide_eq_false_iff_not, List.map_cons, List.map_nil, List.cons_append, List.nil_append, List.append_nil, if_true, if_false, Bool.false_eq_true]
 intro b0 hb0
 have hrb : h b ≠ none := by obtain ⟨_, _, _, hb, _⟩ := H; rw [hb]; simp
 have hne0 : b0 ≠ b := fun e => hrb (e ▸ hb0)
 have s0 : Eng.Sub h (upd h b0 (.cells (ints .u8 []) 5)) := Sub.zN hb0
 obtain ⟨D, hD⟩ : ∃ D, D = d.toNat := ⟨_, rfl⟩
 rw [← hD]
 refine ⟨fun us h' => ∃ (a : Option Addr) (c i : Nat), us = [.slice a i c, .int .i64 i] ∧ i ≤ n.toNat ∧ Part .u8 h' (.slice a i c) ((xE D L i).drop L.length) ∧ Eng.New h0 (.slice a i c) ∧ zq (.slice a i c) ≠ some b ∧ RingAt h0 h' b T sz (zC sz (xE D L i)), fun us _ => n.toNat - (toInt (us.getD 1 undef)).toNat, ⟨_, _, 0, rfl, by omega, ?_, New.of (zZ H.sub hb0), fun e => hne0 (by cases e; rfl), H.mono s0⟩, ?_⟩
 ·have e : (xE D L 0).drop L.length = [] := by simp [xE]
  rw [e]
  exact (Own.made (k := .u8) (b := b0) (T := 5) (h := h) []).part
 rintro a l c x h' ⟨a', c', i, hx1, hi2, P, N, hne, R⟩
 obtain ⟨⟨rfl, rfl, rfl⟩, rfl⟩ : (a = a' ∧ l = i ∧ c = c') ∧ x = i := by simpa using hx1
 have hll : ((xE D L l).drop L.length).length = l := by rw [List.length_drop, Cf]; omega
 refine ⟨fun hlt => ?_, fun hge => ?_⟩
 ·have hK : d ≤ ((zC sz (xE D L l)).length : Int) := by rw [jf, Cf]; omega
  refine (Ub hi R d d1 hK).mono ?_
  rintro _ hq ⟨rfl, eq⟩
  rw [eq, ← hD, Nr (by omega) (by omega) (by rw [Cf]; omega)]
  obtain ⟨y, hy⟩ : ∃ y, y = (xE D L l).getD ((xE D L l).length - D) 0 := ⟨_, rfl⟩
  rw [← hy]
  have hrep : xE D L (l + 1) = xE D L l ++ [y] := by rw [xE, ← hy]
  refine ⟨_, rfl, fun b1 hb1 => ?_⟩
  have hrb' : h' b ≠ none := by obtain ⟨_, _, _, hb, _⟩ := R; rw [hb]; simp
  have s1 : Eng.Sub h' (upd h' b1 (.cells (ints .u8 [y]) 5)) := Sub.zN hb1
  have P1 := P.sub s1
  have P2 : Part .u8 (upd h' b1 (.cells (ints .u8 [y]) 5)) (.slice a l c) ((xE D L l).drop L.length) := P1
  refine xI hi (R.sub.trans s1) P2 N (ys := [y]) zn.new (by rw [hll]; simp only [List.length_singleton]; omega) fun v1 h1 o1 n1 s2 keep hblk => ?_
  obtain ⟨a3, c3, rfl, _, _⟩ := o1.ints
  have keep' : ∀ x, upd h' b1 (.cells (ints .u8 [y]) 5) x ≠ none → zq (.slice a l c) ≠ some x → h1 x = upd h' b1 (.cells (ints .u8 [y]) 5) x := keep
  have R1 : RingAt h0 h1 b T sz (zC sz (xE D L l)) := by
   obtain ⟨ds, at_, m, hb, RS, _, hn⟩ := R.mono s1
   refine ⟨ds, at_, m, ?_, RS, s2, hn⟩
   rw [keep' b (by rw [hb]; simp) hne]; exact hb
  have hne1 : zq (.slice a3 ((xE D L l).drop L.length ++ [y]).length c3) ≠ some b := by
   rcases hblk with e | e
   ·rw [e]; exact hne
   ·intro e2
    have h3 : upd h' b1 (.cells (ints .u8 [y]) 5) b = none := e b e2
    obtain ⟨_, _, _, hb, _⟩ := R.mono s1
    rw [hb] at h3; cases h3
  intro b2 hb2
  have hne2 : b2 ≠ b := fun e => by
   obtain ⟨_, _, _, hb, _⟩ := R1
   rw [e, hb] at hb2; cases hb2
  have s3 : Eng.Sub h1 (upd h1 b2 (.cells (ints .u8 [y]) 5)) := Sub.zN hb2
  refine (Nq hi (R1.mono s3) (some ⟨b2, 0, none⟩) 1 [y] (Nat.le_refl _) (by simp) (fun h'' hh => ?_)).mono ?_
  ·have hk : h'' b2 = (upd h1 b2 (.cells (ints .u8 [y]) 5)) b2 := hh b2 hne2
   rw [upd_same] at hk
   intro i x hxi
   refine ⟨_, rfl, ?_⟩
   rw [yw]
   simp only [ze, hk]
   exact Ky (sp := []) (xs := [y]) hxi
  ·rintro _ h3 ⟨rfl, R3, f3⟩
   rw [AE, ← hrep] at R3
   have w4 : IntKind.i64.wrap ((l : Int) + 1) = ((l + 1 : Nat) : Int) := by rw [i64_in _ (by omega)]; omega
   have e1 : (xE D L l).drop L.length ++ [y] = (xE D L (l + 1)).drop L.length := by
    rw [hrep, List.drop_append_of_le_length (by rw [Cf]; omega)]
   have e2 : ((xE D L (l + 1)).drop L.length).length = l + 1 := by rw [List.length_drop, Cf]; omega
   rw [e1] at o1 n1 hne1 ⊢
   rw [w4, zj, zi, zl, e2]
   rw [e2] at o1 n1 hne1
   exact ⟨rfl, ⟨a3, c3, l + 1, rfl, by omega, Part.keep (o1.sub s3) (fun z hz => f3 z (fun e => hne1 (e ▸ hz))), n1, hne1, R3⟩, by simp only [List.getD_cons_succ, List.getD_cons_zero, toInt_int]; omega⟩
 ·obtain rfl : l = n.toNat := by omega
  exact ⟨P, N, R⟩
end
end Go.Proofs.YteaonnfokkfnlaaGreatDoor
end
section
namespace Go.Proofs.YteaonnfokkfnlaaGreatDoor
open Go Go.Eng Go.IntWalk
abbrev SK := Int × List Int × Int × Unit
variable {S : Shared} {h : Eng.Heap} {v w : Value} {x : SK}
end Go.Proofs.YteaonnfokkfnlaaGreatDoor
end
section
namespace Go.Proofs.YteaonnfokkfnlaaGreatDoor
open Go Go.Eng Go.IntWalk
section
variable {S : Shared} {h h0 : Eng.Heap}
def tell (dl room : Nat) (r : Rd) (al d : List Int) : Rd × List Int :=
 if r.k = 0 then (if room < al.length - dl + d.length then (⟨r.i, 6⟩, al) else (r, al ++ d)) else (r, al)
def alg (r : Rd) : Rd := if r.k = 0 then ⟨(r.i + 7) / 8 * 8, 0⟩ else r
def stL (bs : List Int) (dl room : Nat) : Nat → Rd → List Int → Rd × List Int
 | 0, r, al => (r, al)
 | n + 1, r, al => if r.k = 0 then stL bs dl room n (tell dl room (tk bs 8 r).1 al [(tk bs 8 r).2]).1 (tell dl room (tk bs 8 r).1 al [(tk bs 8 r).2]).2 else (r, al)
def stN (bs : List Int) (r : Rd) : Int := (tk bs 16 (alg r)).2
def stR (bs : List Int) (r : Rd) : Rd := bd ((tk bs 16 (tk bs 16 (alg r)).1).2 != 65535 - stN bs r) (tk bs 16 (tk bs 16 (alg r)).1).1
def stF (bs : List Int) (dl room : Nat) (r : Rd) (al : List Int) : Rd × List Int := stL bs dl room (stN bs r).toNat (stR bs r) al
def yN (s : Nat) : Nat × Nat := if s = 285 then (258, 0) else if s < 265 then (s - 254, 0) else ((4 + (s - 265) % 4) * 2 ^ ((s - 265) / 4 + 1) + 3, (s - 265) / 4 + 1)
def xo (d : Nat) : Nat × Nat := if d < 4 then (d + 1, 0) else ((2 + d % 2) * 2 ^ (d / 2 - 1) + 1, d / 2 - 1)
def cpD (al : List Int) (dist n : Nat) : List Int := (List.range n).map fun k => al.getD (al.length - dist + k % dist) 0
def cp1 (bs : List Int) (r : Rd) (s : Nat) : Rd × Int := tk bs (yN s).2 r
def cp2 (bs : List Int) (cd : List (Nat × Nat)) (r : Rd) (s : Nat) : Rd × Int := sy bs cd (cp1 bs r s).1
def cp3 (bs : List Int) (cd : List (Nat × Nat)) (r : Rd) (s : Nat) : Rd := bd (decide (29 < (cp2 bs cd r s).2)) (cp2 bs cd r s).1
def cp4 (bs : List Int) (cd : List (Nat × Nat)) (r : Rd) (s : Nat) : Rd × Int := tk bs (xo (cp2 bs cd r s).2.toNat).2 (cp3 bs cd r s)
def y7 (bs : List Int) (cd : List (Nat × Nat)) (r : Rd) (s : Nat) : Nat := (xo (cp2 bs cd r s).2.toNat).1 + (cp4 bs cd r s).2.toNat
def jD (bs : List Int) (r : Rd) (s : Nat) : Nat := (yN s).1 + (cp1 bs r s).2.toNat
def cp5 (bs : List Int) (cd : List (Nat × Nat)) (sz : Nat) (r : Rd) (al : List Int) (s : Nat) : Rd := bd (decide (al.length < y7 bs cd r s) || decide (sz < y7 bs cd r s)) (cp4 bs cd r s).1
def cpF (bs : List Int) (cd : List (Nat × Nat)) (dl room sz : Nat) (r : Rd) (al : List Int) (s : Nat) : Rd × List Int :=
 if (cp3 bs cd r s).k ≠ 0 then (cp3 bs cd r s, al)
 else if (cp5 bs cd sz r al s).k ≠ 0 then (cp5 bs cd sz r al s, al)
 else tell dl room (cp5 bs cd sz r al s) al (cpD al (y7 bs cd r s) (jD bs r s))
def sy1 (bs : List Int) (cd : List (Nat × Nat)) (dl room sz : Nat) (r : Rd) (al : List Int) (x : Int) : Rd × List Int :=
 if x < 256 then tell dl room r al [x] else if 285 < x then (bd true r, al) else cpF bs cd dl room sz r al x.toNat
def syF (bs : List Int) (cl cd : List (Nat × Nat)) (dl room sz : Nat) : Nat → Rd → List Int → Rd × List Int
  | 0, r, al => (r, al)
  | f + 1, r, al => if r.k = 0 then
      (if (sy bs cl r).1.k ≠ 0 ∨ (sy bs cl r).2 = 256 then ((sy bs cl r).1, al)
       else syF bs cl cd dl room sz f (sy1 bs cd dl room sz (sy bs cl r).1 al (sy bs cl r).2).1 (sy1 bs cd dl room sz (sy bs cl r).1 al (sy bs cl r).2).2)
    else (r, al)
def le2 (r r' : Rd) : Prop := r'.k = 0 → r.k = 0 ∧ r.i ≤ r'.i
theorem le2.refl {r : Rd} : le2 r r := fun h => ⟨h, Int.le_refl _⟩
theorem le2.trans {a b c : Rd} (H : le2 a b) (G : le2 b c) : le2 a c := fun h => by
 obtain ⟨h1, h2⟩ := G h
 obtain ⟨h3, h4⟩ := H h1
 exact ⟨h3, Int.le_trans h4 h2⟩
theorem jE {bs : List Int} {n : Nat} {r : Rd} : le2 r (tk bs n r).1 := fun h => by
 have h0 := KN h
 refine ⟨h0, ?_⟩
 unfold tk at h ⊢
 rw [if_pos h0] at h ⊢
 split
 ·rename_i hgt; rw [if_pos hgt] at h; cases h
 ·simp only; omega
theorem qu {w : Bool} {r : Rd} : le2 r (bd w r) := fun h => by
 obtain ⟨h1, h2⟩ := Ft.1 h
 refine ⟨h1, ?_⟩
 unfold bd
 rw [if_neg (fun e => by rw [h2] at e; cases e.2)]
 exact Int.le_refl _
theorem D3 {dl room : Nat} {r : Rd} {al d : List Int} : le2 r (tell dl room r al d).1 := fun h => by
 unfold tell at h ⊢
 split
 ·rename_i h0
  rw [if_pos h0] at h
  split
  ·rename_i hgt; rw [if_pos hgt] at h; cases h
  ·exact ⟨h0, Int.le_refl _⟩
 ·rename_i h0; rw [if_neg h0] at h; exact absurd h h0
theorem w7 {bs : List Int} {dl room : Nat} {r : Rd} {al d : List Int} (H : okR bs r) : okR bs (tell dl room r al d).1 := by
 unfold tell
 split
 ·split
  ·intro h; cases h
  ·exact H
 ·exact H
theorem D4 {bs : List Int} {r : Rd} (H : okR bs r) : okR bs (alg r) := by
 unfold alg
 split
 ·rename_i h0
  have := H h0
  intro _; simp only; omega
 ·exact H
theorem Pq {r : Rd} : le2 r (alg r) := fun h => by
 unfold alg at h ⊢
 split
 ·rename_i h0; exact ⟨h0, by simp only; omega⟩
 ·rename_i h0; rw [if_neg h0] at h; exact absurd h h0
theorem Ns {bs : List Int} {cs : List (Nat × Nat)} {r : Rd} (h : (sy bs cs r).1.k = 0) : r.k = 0 ∧ r.i + 1 ≤ (sy bs cs r).1.i := by
 unfold sy at h ⊢
 by_cases h0 : r.k = 0
 ·rw [if_pos h0] at h ⊢
  refine ⟨h0, ?_⟩
  have hf := wy (bs := bs) (cs := cs) (i := r.i.toNat)
  simp only at h ⊢
  rcases hf with hf | hf
  ·omega
  ·rcases hf.1 with e | e
   ·rw [e] at h; simp at h
   ·rw [e] at h; simp at h
 ·rw [if_neg h0] at h; exact absurd h h0
theorem FP {bs : List Int} {cs : List (Nat × Nat)} {r : Rd} : le2 r (sy bs cs r).1 := fun h => by
 have := Ns h; exact ⟨this.1, by omega⟩
theorem Uc {bs : List Int} {cd : List (Nat × Nat)} {dl room sz : Nat} {r : Rd} {al : List Int} {s : Nat} : le2 r (cpF bs cd dl room sz r al s).1 := by
 have h3 : le2 r (cp3 bs cd r s) := (jE.trans FP).trans qu
 have h5 : le2 r (cp5 bs cd sz r al s) := h3.trans (jE.trans qu)
 unfold cpF
 split
 ·exact h3
 ·split
  ·exact h5
  ·exact h5.trans D3
theorem Ud {bs : List Int} {cd : List (Nat × Nat)} {dl room sz : Nat} {r : Rd} {al : List Int} {s : Nat} (H : okR bs r) : okR bs (cpF bs cd dl room sz r al s).1 := by
 have h3 : okR bs (cp3 bs cd r s) := kC (Az (y9 H))
 have h5 : okR bs (cp5 bs cd sz r al s) := kC (y9 h3)
 unfold cpF
 split
 ·exact h3
 ·split
  ·exact h5
  ·exact w7 h5
theorem Ps {bs : List Int} {cd : List (Nat × Nat)} {dl room sz : Nat} {r : Rd} {al : List Int} {x : Int} : le2 r (sy1 bs cd dl room sz r al x).1 := by
 unfold sy1
 split
 ·exact D3
 ·split
  ·exact qu
  ·exact Uc
theorem Pt {bs : List Int} {cd : List (Nat × Nat)} {dl room sz : Nat} {r : Rd} {al : List Int} {x : Int} (H : okR bs r) : okR bs (sy1 bs cd dl room sz r al x).1 := by
 unfold sy1
 split
 ·exact w7 H
 ·split
  ·exact kC H
  ·exact Ud H
theorem Pu {bs : List Int} {dl room : Nat} : ∀ {n : Nat} {r : Rd} {al : List Int}, okR bs r → okR bs (stL bs dl room n r al).1
 | 0, r, al, H => H
 | n + 1, r, al, H => by
  unfold stL
  split
  ·exact Pu (w7 (y9 H))
  ·exact H
theorem Pv {bs : List Int} {dl room : Nat} : ∀ {n : Nat} {r : Rd} {al : List Int}, le2 r (stL bs dl room n r al).1
 | 0, r, al => le2.refl
 | n + 1, r, al => by
  unfold stL
  split
  ·exact (jE.trans D3).trans Pv
  ·exact le2.refl
end
section
variable {S : Shared} {h h0 : Eng.Heap}
def LB : Nat → Nat × Nat
 | 0 => (3, 0)
 | j + 1 => (if 0 < j then (LB j).1 + 2 ^ (LB j).2 else (LB j).1, if 8 ≤ j then (j - 4) / 4 else 0)
theorem Ue : ∀ s : Fin 285, 257 ≤ s.1 → LB (s.1 - 257 + 1) = yN s.1 := by decide +kernel
theorem Vi : ∀ j : Fin 29, (LB j.1).1 ≤ 300 ∧ (LB j.1).2 ≤ 6 := by decide +kernel
theorem Mv : ∀ s : Fin 286, 257 ≤ s.1 → 3 ≤ (yN s.1).1 ∧ (yN s.1).1 ≤ 258 ∧ (yN s.1).2 ≤ 5 := by decide +kernel
theorem Mw : ∀ d : Fin 30, 1 ≤ (xo d.1).1 ∧ (xo d.1).1 ≤ 24577 ∧ (xo d.1).2 ≤ 13 := by decide +kernel
theorem Nt (hi : Eng.Inv S h) (s : Nat) (h1 : 257 ≤ s) (h2 : s ≤ 285) :
  za Tryz.prog S wN #[.int .i64 s] h (fun v h' => v = .tuple #[.int .i64 (yN s).1, .int .i64 (yN s).2] ∧ h' = h) := by
 refine Gh (vs := [.int .i64 s]) ⟨rfl, trivial⟩ hi ?_
 simp only [Cx, Tr.wp, zG, Ex.ev, coerce, toInt_int, zb, kK, z6, arith, Cst.val, SV.den, zw, zV, z7, zp, zm, z4, zP, List.flatMap_cons, List.flatMap_nil, List.getD_cons_zero, List.getD_cons_succ, List.getElem?_cons_zero, List.getElem?_cons_succ, decide_eq_true_eq, decide_eq_false_iff_not, List.map_cons, List.map_nil, List.cons_append, List.nil_append, List.append_nil, and_true, if_false, Bool.false_eq_true]
 refine ⟨fun he => ?_, fun hne => ?_⟩
 ·obtain rfl : s = 285 := by have : (s : Int) = 285 := beq_iff_eq.1 he; omega
  exact rfl
 ·have hne : s ≠ 285 := fun e => by subst e; simp at hne
  refine ⟨fun us h' => ∃ j : Nat, us = [.int .i64 (LB j).1, .int .i64 (LB j).2, .int .i64 ((257 + j : Nat) : Int)] ∧ 257 + j ≤ s + 1 ∧ h' = h, fun us _ => 600 - (toInt (us.getD 2 undef)).toNat, ⟨0, rfl, by omega, rfl⟩, ?_⟩
  rintro x y z h' ⟨j, hx, hj, rfl⟩
  obtain ⟨rfl, rfl, rfl⟩ : x = (LB j).1 ∧ y = (LB j).2 ∧ z = ((257 + j : Nat) : Int) := by simpa using hx
  have hb := Vi ⟨j, by omega⟩
  simp only at hb
  refine ⟨fun hle => ?_, fun hgt => ?_⟩
  ·have w1 : IntKind.i64.wrap (((257 + j : Nat) : Int) + 1) = ((257 + (j + 1) : Nat) : Int) := by rw [i64_in _ (by omega)]; omega
   have hj2 : 257 + j ≤ s := by omega
   have eE : (if ((257 + j : Nat) : Int) ≥ 265 then IntKind.i64.wrap ((IntKind.i64.wrap (((257 + j : Nat) : Int) - 261)).tdiv 4) else 0) = ((LB (j + 1)).2 : Int) := by
    simp only [LB]
    by_cases h8 : 8 ≤ j
    ·rw [if_pos (by omega), if_pos h8, i64_in (((257 + j : Nat) : Int) - 261) (by omega), Int.tdiv_eq_ediv_of_nonneg (by omega), i64_in _ (by omega)]; omega
    ·rw [if_neg (by omega), if_neg h8]; rfl
   rw [w1, eE]
   have hp : (2 : Nat) ^ (LB j).2 ≤ 64 := Nat.le_trans (Nat.pow_le_pow_right (by decide) hb.2) (by decide)
   refine ⟨fun hgt => ?_, fun hngt _ => ?_⟩
   ·refine (qp hi _ (by omega) (by omega)).mono ?_
    rintro _ h3 ⟨rfl, rfl⟩
    rw [Int.toNat_natCast]
    refine ⟨_, rfl, fun _ => ⟨⟨j + 1, ?_, by omega, rfl⟩, by simp only [List.getD_cons_succ, List.getD_cons_zero, toInt_int]; omega⟩⟩
    have e1 : (LB (j + 1)).1 = (LB j).1 + 2 ^ (LB j).2 := by simp only [LB]; rw [if_pos (by omega)]
    rw [e1, i64_in _ (by omega)]; push_cast; rfl
   ·refine ⟨⟨j + 1, ?_, by omega, rfl⟩, by simp only [List.getD_cons_succ, List.getD_cons_zero, toInt_int]; omega⟩
    have e1 : (LB (j + 1)).1 = (LB j).1 := by simp only [LB]; rw [if_neg (by omega)]
    rw [e1]
  ·obtain rfl : j = s - 257 + 1 := by omega
   have := Ue ⟨s, by omega⟩ h1
   simp only at this
   rw [this]
   exact ⟨rfl, rfl⟩
theorem Ra (hi : Eng.Inv S h) (d : Nat) (h1 : d ≤ 29) :
  za Tryz.prog S Bc #[.int .i64 d] h (fun v h' => v = .tuple #[.int .i64 (xo d).1, .int .i64 (xo d).2] ∧ h' = h) := by
 refine HQ (vs := [.int .i64 d]) ⟨rfl, trivial⟩ hi ?_
 simp only [Ey, Tr.wp, zG, Ex.ev, coerce, toInt_int, zb, z6, arith, Cst.val, SV.den, zw, zV, z7, zp, zm, z4, List.flatMap_cons, List.flatMap_nil, List.getD_cons_zero, List.getD_cons_succ, decide_eq_true_eq, decide_eq_false_iff_not, List.map_cons, List.map_nil, List.cons_append, List.nil_append, List.append_nil, and_true, if_false, Bool.false_eq_true]
 refine ⟨fun hlt => ?_, fun hge => ?_⟩
 ·have e : xo d = (d + 1, 0) := by unfold xo; rw [if_pos (by omega)]
  rw [e, i64_in ((d : Int) + 1) (by omega)]
  first | exact rfl | (push_cast; rfl)
 ·have e : xo d = ((2 + d % 2) * 2 ^ (d / 2 - 1) + 1, d / 2 - 1) := by unfold xo; rw [if_neg (by omega)]
  have w1 : IntKind.i64.wrap (IntKind.i64.wrap ((d : Int).tdiv 2) - 1) = ((d / 2 - 1 : Nat) : Int) := by
   rw [Int.tdiv_eq_ediv_of_nonneg (by omega), i64_in ((d : Int) / 2) (by omega), i64_in _ (by omega)]; omega
  have hp : (2 : Nat) ^ (d / 2 - 1) ≤ 8192 := Nat.le_trans (Nat.pow_le_pow_right (by decide) (show d / 2 - 1 ≤ 13 by omega)) (by decide)
  rw [w1]
  refine (qp hi _ (by omega) (by omega)).mono ?_
  rintro _ h3 ⟨rfl, rfl⟩
  rw [Int.toNat_natCast]
  have wm : (d : Int).tmod 2 = ((d % 2 : Nat) : Int) := by rw [Int.tmod_eq_emod_of_nonneg (by omega)]; omega
  have w2 : IntKind.i64.wrap (2 + ((d % 2 : Nat) : Int)) = ((2 + d % 2 : Nat) : Int) := by rw [i64_in _ (by omega)]; omega
  have hle : (2 + d % 2) * 2 ^ (d / 2 - 1) ≤ 24576 := by
   have := Nat.mul_le_mul (show 2 + d % 2 ≤ 3 by omega) hp
   omega
  have w3 : IntKind.i64.wrap (((2 + d % 2 : Nat) : Int) * ((2 ^ (d / 2 - 1) : Nat) : Int)) = (((2 + d % 2) * 2 ^ (d / 2 - 1) : Nat) : Int) := by
   rw [← Int.natCast_mul]; exact i64_in _ (by omega)
  rw [wm, w2, e]
  refine ⟨_, rfl, ?_, rfl⟩
  rw [w3, i64_in ((((2 + d % 2) * 2 ^ (d / 2 - 1) : Nat) : Int) + 1) (by omega)]
  push_cast; rfl
def C4 (a : Option Addr) (c : Nat) (al : List Int) (dl sz room : Nat) : Value := .agg #[.slice a al.length c, .int .i64 dl, .int .i64 sz, .int .i64 room]
def A0 (h0 : Eng.Heap) (a : Option Addr) (c : Nat) (bs : List Int) (dl sz room : Nat) (F : Rd × List Int) (v : Value) (h' : Eng.Heap) : Prop :=
 ∃ a' c', v = .tuple #[rdV a c bs F.1, C4 a' c' F.2 dl sz room] ∧ Part .u8 h' (.slice a' F.2.length c') F.2 ∧ Eng.New h0 (.slice a' F.2.length c') ∧ Eng.Sub h0 h'
theorem GL (hi : Eng.Inv S h0) (s : Eng.Sub h0 h) (a : Option Addr) (c : Nat) (bs : List Int) (r : Rd) {aa : Option Addr} {ca : Nat} {al : List Int} (P : Part .u8 h (.slice aa al.length ca) al) (N : Eng.New h0 (.slice aa al.length ca)) {dl sz room : Nat} (hd : dl ≤ al.length) (hl : al.length ≤ 2000000) (hr : room ≤ 2000000)
  {ad : Option Addr} {cd : Nat} {d : List Int} (hx : zn h .u8 ad d) (hdl : d.length ≤ 2000000) :
  za Tryz.prog S kM #[rdV a c bs r, C4 aa ca al dl sz room, .slice ad d.length cd] h (A0 h0 a c bs dl sz room (tell dl room r al d)) := by
 refine HN (vs := [.slice a bs.length c, .int .i64 r.i, .int .i64 r.k, .slice aa al.length ca, .int .i64 dl, .int .i64 sz, .int .i64 room, .slice ad d.length cd]) ⟨rfl, rfl, rfl, rfl, rfl, rfl, rfl, rfl, trivial⟩ (hi.sub s) ?_
 simp only [Ev, Tr.wp, Ex.ev, coerce, toInt_int, zb, zi, zl, zj, xV, kK, z6, arith, Cst.val, SV.den, List.getD_cons_zero, List.getD_cons_succ, List.getElem?_cons_zero, List.map_cons, List.map_nil, List.cons_append, List.nil_append, if_true]
 have w1 : IntKind.i64.wrap ((al.length : Int) - dl) = ((al.length - dl : Nat) : Int) := by rw [i64_in _ (by omega)]; omega
 have w2 : IntKind.i64.wrap (((al.length - dl : Nat) : Int) + d.length) = ((al.length - dl + d.length : Nat) : Int) := by rw [i64_in _ (by omega)]; omega
 rw [w1, w2]
 by_cases h0k : r.k = 0
 ·by_cases hroom : room < al.length - dl + d.length
  ·have et : tell dl room r al d = (⟨r.i, 6⟩, al) := by unfold tell; rw [if_pos h0k, if_pos hroom]
   have ek : (if (decide ((r.k == 0) = true) && decide (((al.length - dl + d.length : Nat) : Int) > (room : Int))) = true then 6 else r.k) = 6 := by
    rw [if_pos]; simp [h0k]; omega
   rw [ek, et]
   exact ⟨fun h => by simp at h, fun _ _ => ⟨aa, ca, rfl, P, N, s⟩⟩
  ·have et : tell dl room r al d = (r, al ++ d) := by unfold tell; rw [if_pos h0k, if_neg hroom]
   have ek : (if (decide ((r.k == 0) = true) && decide (((al.length - dl + d.length : Nat) : Int) > (room : Int))) = true then 6 else r.k) = r.k := by
    rw [if_neg]; simp [h0k]; omega
   rw [ek, et]
   refine ⟨fun _ => ?_, fun h => by rw [h0k] at h; cases h⟩
   refine xI hi s P N hx (by omega) fun v5 h5 o5 n5 s5 _ _ _ => ?_
   obtain ⟨a5, c5, rfl, _, _⟩ := o5.ints
   exact ⟨a5, c5, rfl, o5, n5, s5⟩
 ·have et : tell dl room r al d = (r, al) := by unfold tell; rw [if_neg h0k]
  have ek : (if (decide ((r.k == 0) = true) && decide (((al.length - dl + d.length : Nat) : Int) > (room : Int))) = true then 6 else r.k) = r.k := by
   rw [if_neg]; simp [h0k]
  rw [ek, et]
  exact ⟨fun h => absurd (beq_iff_eq.1 h) h0k, fun _ _ => ⟨aa, ca, rfl, P, N, s⟩⟩
theorem Eb {dl room : Nat} {r : Rd} {al d : List Int} (h1 : dl ≤ al.length) (h2 : al.length ≤ dl + room) : dl ≤ (tell dl room r al d).2.length ∧ (tell dl room r al d).2.length ≤ dl + room := by
 unfold tell
 split
 ·split
  ·exact ⟨h1, h2⟩
  ·simp only [List.length_append]; omega
 ·exact ⟨h1, h2⟩
theorem Nu (hi : Eng.Inv S h0) (s : Eng.Sub h0 h) {a : Option Addr} {c : Nat} {bs : List Int} (hx : zn h0 .u8 a bs) (L : bs.length ≤ 1048576) (r : Rd) (ok : okR bs r) {aa : Option Addr} {ca : Nat} {al : List Int} (P : Part .u8 h (.slice aa al.length ca) al) (N : Eng.New h0 (.slice aa al.length ca)) {dl sz room : Nat} (hd : dl ≤ al.length) (hl : al.length ≤ dl + room) (hdl : dl ≤ 40000) (hr : room ≤ 100000) :
  za Tryz.prog S wJ #[rdV a c bs r, C4 aa ca al dl sz room] h (A0 h0 a c bs dl sz room (stF bs dl room r al)) := by
 refine Gg (vs := [.slice a bs.length c, .int .i64 r.i, .int .i64 r.k, .slice aa al.length ca, .int .i64 dl, .int .i64 sz, .int .i64 room]) ⟨rfl, rfl, rfl, rfl, rfl, rfl, rfl, trivial⟩ (hi.sub s) ?_
 simp only [Cw, Tr.wp, zG, Ex.ev, coerce, toInt_int, zb, zi, zl, zj, xV, kK, z6, arith, Cst.val, SV.den, zw, zV, z7, zp, zm, z4, zP, List.flatMap_cons, List.flatMap_nil, List.getD_cons_zero, List.getD_cons_succ, List.getElem?_cons_zero, decide_eq_true_eq, List.map_cons, List.map_nil, List.cons_append, List.nil_append, List.append_nil, List.length_cons, List.length_nil, Nat.zero_add, if_true, if_false, Bool.false_eq_true]
 have oka := D4 ok
 have ea : (Value.agg #[.slice a bs.length c, .int .i64 (if (r.k == 0) = true then IntKind.i64.wrap (IntKind.i64.wrap ((IntKind.i64.wrap (r.i + 7)).tdiv 8) * 8) else r.i), .int .i64 r.k]) = rdV a c bs (alg r) := by
  unfold alg
  by_cases h0k : r.k = 0
  ·have h8 := ok h0k
   rw [if_pos h0k, if_pos (by simpa using h0k), i64_in (r.i + 7) (by omega), Int.tdiv_eq_ediv_of_nonneg (by omega), i64_in ((r.i + 7) / 8) (by omega), i64_in _ (by omega), h0k]; rfl
  ·rw [if_neg h0k, if_neg (by simpa using h0k)]; rfl
 rw [ea]
 have n16 := yf (bs := bs) (n := 16) (r := alg r)
 have q16 : (2 : Int) ^ 16 = 65536 := by decide
 refine (xh (hi.sub s) (hx.sub s) L (alg r) oka 16 (by omega)).mono ?_
 rintro _ h1 ⟨rfl, rfl⟩
 refine ⟨_, _, _, _, _, _, rfl, ?_⟩
 refine (xh (hi.sub s) (hx.sub s) L (tk bs 16 (alg r)).1 (y9 oka) 16 (by omega)).mono ?_
 rintro _ h1 ⟨rfl, rfl⟩
 refine ⟨_, _, _, _, _, _, rfl, ?_⟩
 have w1 : IntKind.i64.wrap (65535 - (tk bs 16 (alg r)).2) = 65535 - (tk bs 16 (alg r)).2 := i64_in _ (by omega)
 rw [w1]
 refine (xD (hi.sub s) a c bs (tk bs 16 (tk bs 16 (alg r)).1).1 _).mono ?_
 rintro _ h1 ⟨rfl, rfl⟩
 refine ⟨_, _, _, _, _, rfl, ?_⟩
 have okR3 : okR bs (stR bs r) := kC (y9 (y9 oka))
 have eR : bd ((tk bs 16 (tk bs 16 (alg r)).1).2 != 65535 - (tk bs 16 (alg r)).2) (tk bs 16 (tk bs 16 (alg r)).1).1 = stR bs r := rfl
 obtain ⟨n, hn⟩ : ∃ n : Nat, n = (stN bs r).toNat := ⟨_, rfl⟩
 have en : (tk bs 16 (alg r)).2 = (n : Int) := by rw [hn]; unfold stN; omega
 have hnl : n < 65536 := by omega
 rw [eR, en]
 refine ⟨fun us h' => ∃ (j : Nat) (z : Int) (r' : Rd) (al' : List Int) (a' : Option Addr) (c' : Nat), us = [.int .i64 z, .int .i64 j, .slice a bs.length c, .int .i64 r'.i, .int .i64 r'.k, .slice a' al'.length c', .int .i64 dl, .int .i64 sz, .int .i64 room] ∧ j ≤ n ∧ okR bs r' ∧ Part .u8 h' (.slice a' al'.length c') al' ∧ Eng.New h0 (.slice a' al'.length c') ∧ Eng.Sub h0 h' ∧ (dl ≤ al'.length ∧ al'.length ≤ dl + room) ∧ stF bs dl room r al = stL bs dl room (n - j) r' al',
  fun us _ => n - (toInt (us.getD 1 undef)).toNat, ⟨0, 0, stR bs r, al, aa, ca, rfl, by omega, okR3, P, N, s, ⟨hd, hl⟩, by rw [hn]; rfl⟩, ?_⟩
 rintro z y a1 l1 c1 i1 k1 a2 l2 c2 x4 x5 x6 h' ⟨j, z', r', al', a', c', hx1, hj, ok', P', N', s', hl', e'⟩
 simp only [List.cons.injEq, Value.int.injEq, Value.slice.injEq, true_and, and_true] at hx1
 obtain ⟨rfl, rfl, ⟨rfl, rfl, rfl⟩, rfl, rfl, ⟨rfl, rfl, rfl⟩, rfl, rfl, rfl⟩ := hx1
 rw [e']
 refine ⟨fun hlt => ?_, fun hge => ?_⟩
 ·have hlt : j < n ∧ r'.k = 0 := by simp at hlt; omega
  have n8 := yf (bs := bs) (n := 8) (r := r')
  have q8 : (2 : Int) ^ 8 = 256 := by decide
  refine (xh (hi.sub s') (hx.sub s') L r' ok' 8 (by omega)).mono ?_
  rintro _ h2 ⟨rfl, rfl⟩
  refine ⟨_, _, _, _, _, _, rfl, fun b hb => ?_⟩
  have wb : IntKind.u8.wrap (tk bs 8 r').2 = (tk bs 8 r').2 := by rw [IntKind.wrap_u8]; omega
  rw [wb]
  have sb : Eng.Sub h2 (upd h2 b (.cells (ints .u8 [(tk bs 8 r').2]) 5)) := Sub.zN hb
  have K := GL (d := [(tk bs 8 r').2]) (ad := some ⟨b, 0, none⟩) (cd := 1) (dl := dl) (sz := sz) (room := room) hi (s'.trans sb) a1 c1 bs (tk bs 8 r').1 (P'.sub sb) N' hl'.1 (by omega) (by omega) zn.new (by simp)
  refine za.mono K ?_
  rintro _ h4 ⟨a4, c4, rfl, P4, N4, s4⟩
  have el : stL bs dl room (n - j) r' al' = stL bs dl room (n - (j + 1)) (tell dl room (tk bs 8 r').1 al' [(tk bs 8 r').2]).1 (tell dl room (tk bs 8 r').1 al' [(tk bs 8 r').2]).2 := by
   rw [show n - j = (n - (j + 1)) + 1 by omega, stL, if_pos hlt.2]
  have wj : IntKind.i64.wrap ((j : Int) + 1) = ((j + 1 : Nat) : Int) := by rw [i64_in _ (by omega)]; omega
  rw [wj]
  exact ⟨_, _, _, _, _, _, _, _, _, _, _, rfl, ⟨j + 1, _, _, _, a4, c4, rfl, by omega, w7 (y9 ok'), P4, N4, s4, Eb hl'.1 hl'.2, el⟩, by simp only [List.getD_cons_succ, List.getD_cons_zero, toInt_int, Int.toNat_natCast]; omega⟩
 ·have hge : ¬ (j < n ∧ r'.k = 0) := by simp at hge; omega
  have el : stL bs dl room (n - j) r' al' = (r', al') := by
   by_cases hjn : j < n
   ·rw [show n - j = (n - (j + 1)) + 1 by omega, stL, if_neg (fun h => hge ⟨hjn, h⟩)]
   ·rw [show n - j = 0 by omega, stL]
  rw [el]
  exact ⟨a2, c2, rfl, P', N', s'⟩
end
section
variable {S : Shared} {h h0 : Eng.Heap}
theorem HX {bs : List Int} {cs : List (Nat × Nat)} {r : Rd} : 0 ≤ (sy bs cs r).2 ∧ ((sy bs cs r).2 = 0 ∨ (sy bs cs r).2 < cs.length) := by
 have hf := wy (bs := bs) (cs := cs) (i := r.i.toNat)
 unfold sy
 split
 ·simp only; omega
 ·exact ⟨Int.le_refl _, .inl rfl⟩
theorem By {al : List Int} {dist n : Nat} : (cpD al dist n).length = n := by simp [cpD]
theorem KV {al : List Int} {dist n : Nat} : cpD al dist (n + 1) = cpD al dist n ++ [al.getD (al.length - dist + n % dist) 0] := by simp [cpD, List.range_succ]
theorem Rb (hi : Eng.Inv S h0) (s0 : Eng.Sub h0 h) {a : Option Addr} {c : Nat} {bs : List Int} (hx : zn h0 .u8 a bs) (L : bs.length ≤ 1048576) (r : Rd) (ok : okR bs r) {aa : Option Addr} {ca : Nat} {al : List Int} (P : Part .u8 h (.slice aa al.length ca) al) (N : Eng.New h0 (.slice aa al.length ca)) {dl sz room : Nat} (hd : dl ≤ al.length) (hl : al.length ≤ dl + room) (hdl : dl ≤ 40000) (hr : room ≤ 100000) (hsz : sz ≤ 40000)
  (s : Nat) (hs1 : 257 ≤ s) (hs2 : s ≤ 285) {ac : Option Addr} {lc cc : Nat} {cd : List (Nat × Nat)} (C : CodesAt h ac lc cd) :
  za Tryz.prog S AY #[rdV a c bs r, C4 aa ca al dl sz room, .int .i64 s, .slice ac lc cc] h (A0 h0 a c bs dl sz room (cpF bs cd dl room sz r al s)) := by
 refine HP (vs := [.slice a bs.length c, .int .i64 r.i, .int .i64 r.k, .slice aa al.length ca, .int .i64 dl, .int .i64 sz, .int .i64 room, .int .i64 s, .slice ac lc cc]) ⟨rfl, rfl, rfl, rfl, rfl, rfl, rfl, rfl, rfl, trivial⟩ (hi.sub s0) ?_
 simp only [Ew, Tr.wp, zG, Ex.ev, coerce, toInt_int, zb, zi, zl, zj, zh, yg, wG, z6, arith, Cst.val, SV.den, zw, zV, z7, zp, zm, z4, zP, zu, List.flatMap_cons, List.flatMap_nil, List.getD_cons_zero, List.getD_cons_succ, List.getElem?_cons_zero, List.getElem?_cons_succ, decide_eq_true_eq, decide_eq_false_iff_not, List.map_cons, List.map_nil, List.cons_append, List.nil_append, List.append_nil, List.length_cons, List.length_nil, Nat.zero_add, and_true, if_true, if_false, Bool.false_eq_true]
 have hxh := hx.sub s0
 have hlen := Mv ⟨s, by omega⟩ hs1
 simp only at hlen
 have nn1 := yf (bs := bs) (n := (yN s).2) (r := r)
 have hp5 : (2 : Int) ^ (yN s).2 ≤ 32 := by
  rw [yp]; exact_mod_cast Nat.le_trans (Nat.pow_le_pow_right (by decide) hlen.2.2) (by decide)
 refine (Nt (hi.sub s0) s hs1 hs2).mono ?_
 rintro _ hq ⟨rfl, rfl⟩
 refine ⟨_, _, rfl, ?_⟩
 refine (xh (hi.sub s0) hxh L r ok (yN s).2 (by omega)).mono ?_
 rintro _ hq ⟨rfl, rfl⟩
 refine ⟨_, _, _, _, _, _, rfl, ?_⟩
 have ok1 : okR bs (cp1 bs r s).1 := y9 ok
 refine (IH (hi.sub s0) hxh L (cp1 bs r s).1 ok1 (fun _ => C)).mono ?_
 rintro _ hq ⟨rfl, rfl⟩
 refine ⟨_, _, _, _, _, _, rfl, ?_⟩
 have ok2 : okR bs (cp2 bs cd r s).1 := Az ok1
 have n2 := HX (bs := bs) (cs := cd) (r := (cp1 bs r s).1)
 refine (xD (hi.sub s0) a c bs (cp2 bs cd r s).1 (decide ((sy bs cd (cp1 bs r s).1).2 > 29))).mono ?_
 rintro _ hq ⟨rfl, rfl⟩
 refine ⟨_, _, _, _, _, rfl, ?_⟩
 have e3 : bd (decide ((sy bs cd (cp1 bs r s).1).2 > 29)) (cp2 bs cd r s).1 = cp3 bs cd r s := rfl
 rw [e3]
 have ok3 : okR bs (cp3 bs cd r s) := kC ok2
 refine ⟨fun hne => ?_, fun heq => ?_⟩
 ·have hk : (cp3 bs cd r s).k ≠ 0 := by simpa using hne
  have e : cpF bs cd dl room sz r al s = (cp3 bs cd r s, al) := if_pos hk
  rw [e]; exact ⟨aa, ca, rfl, P, N, s0⟩
 have hk3 : (cp3 bs cd r s).k = 0 := by simpa using heq
 have hd29 : (cp2 bs cd r s).2 ≤ 29 := by
  have := (Ft.1 (show (bd (decide (29 < (cp2 bs cd r s).2)) (cp2 bs cd r s).1).k = 0 from hk3)).2
  simpa using this
 have hd0 : 0 ≤ (cp2 bs cd r s).2 := n2.1
 obtain ⟨d, hdd⟩ := Int.eq_ofNat_of_zero_le hd0
 have ed : (sy bs cd (cp1 bs r s).1).2 = (d : Int) := hdd
 have hd29' : d ≤ 29 := by omega
 rw [ed]
 have hdis := Mw ⟨d, by omega⟩
 simp only at hdis
 refine (Ra (hi.sub s0) d hd29').mono ?_
 rintro _ hq ⟨rfl, rfl⟩
 refine ⟨_, _, rfl, ?_⟩
 refine (xh (hi.sub s0) hxh L (cp3 bs cd r s) ok3 (xo d).2 (by omega)).mono ?_
 rintro _ hq ⟨rfl, rfl⟩
 refine ⟨_, _, _, _, _, _, rfl, ?_⟩
 have e4 : tk bs (xo d).2 (cp3 bs cd r s) = cp4 bs cd r s := by unfold cp4; rw [hdd, Int.toNat_natCast]
 rw [e4]
 have n4 := yf (bs := bs) (n := (xo d).2) (r := cp3 bs cd r s)
 rw [e4] at n4
 have hp13 : (2 : Int) ^ (xo d).2 ≤ 8192 := by
  rw [yp]; exact_mod_cast Nat.le_trans (Nat.pow_le_pow_right (by decide) hdis.2.2) (by decide)
 obtain ⟨x4, hx4⟩ := Int.eq_ofNat_of_zero_le n4.1
 obtain ⟨x1, hx1⟩ := Int.eq_ofNat_of_zero_le (show 0 ≤ (cp1 bs r s).2 from nn1.1)
 have hx1' : (tk bs (yN s).2 r).2 = (x1 : Int) := hx1
 have hdist : y7 bs cd r s = (xo d).1 + x4 := by unfold y7; rw [hdd, Int.toNat_natCast, hx4, Int.toNat_natCast]
 have hcl : jD bs r s = (yN s).1 + x1 := by unfold jD; rw [hx1, Int.toNat_natCast]
 rw [hx4, hx1']
 have wd : IntKind.i64.wrap (((xo d).1 : Int) + (x4 : Int)) = ((y7 bs cd r s : Nat) : Int) := by rw [hdist, i64_in _ (by omega)]; omega
 have wl : IntKind.i64.wrap (((yN s).1 : Int) + (x1 : Int)) = ((jD bs r s : Nat) : Int) := by rw [hcl, i64_in _ (by omega)]; omega
 rw [wd, wl]
 have hdp : 1 ≤ y7 bs cd r s ∧ y7 bs cd r s ≤ 40000 := by omega
 have hlp : jD bs r s ≤ 400 := by omega
 have ew : (decide (((y7 bs cd r s : Nat) : Int) > (al.length : Int)) || decide (((y7 bs cd r s : Nat) : Int) > (sz : Int))) = (decide (al.length < y7 bs cd r s) || decide (sz < y7 bs cd r s)) := by
  congr 1 <;> (rw [decide_eq_decide]; omega)
 rw [ew]
 refine (xD (hi.sub s0) a c bs (cp4 bs cd r s).1 _).mono ?_
 rintro _ hq ⟨rfl, rfl⟩
 refine ⟨_, _, _, _, _, rfl, ?_⟩
 have e5 : bd (decide (al.length < y7 bs cd r s) || decide (sz < y7 bs cd r s)) (cp4 bs cd r s).1 = cp5 bs cd sz r al s := rfl
 rw [e5]
 refine ⟨fun hne => ?_, fun heq b hb => ?_⟩
 ·have hk : (cp5 bs cd sz r al s).k ≠ 0 := by simpa using hne
  have e : cpF bs cd dl room sz r al s = (cp5 bs cd sz r al s, al) := by unfold cpF; rw [if_neg (by omega), if_pos hk]
  rw [e]; exact ⟨aa, ca, rfl, P, N, s0⟩
 have hk5 : (cp5 bs cd sz r al s).k = 0 := by simpa using heq
 have hle : y7 bs cd r s ≤ al.length := by
  have := (Ft.1 (show (bd (decide (al.length < y7 bs cd r s) || decide (sz < y7 bs cd r s)) (cp4 bs cd r s).1).k = 0 from hk5)).2
  simp at this; omega
 have e : cpF bs cd dl room sz r al s = tell dl room (cp5 bs cd sz r al s) al (cpD al (y7 bs cd r s) (jD bs r s)) := by unfold cpF; rw [if_neg (by omega), if_neg (by omega)]
 rw [e]
 generalize y7 bs cd r s = D at hdp hle ⊢
 generalize jD bs r s = M at hlp ⊢
 have sb : Eng.Sub hq (upd hq b (.cells (ints .u8 []) 5)) := Sub.zN hb
 refine ⟨fun us h' => ∃ (j : Nat) (a' : Option Addr) (c' : Nat), us = [.slice a' (cpD al D j).length c', .int .i64 j] ∧ j ≤ M ∧ Part .u8 h' (.slice a' (cpD al D j).length c') (cpD al D j) ∧ Eng.New hq (.slice a' (cpD al D j).length c') ∧ Eng.Sub hq h',
  fun us _ => M - (toInt (us.getD 1 undef)).toNat, ⟨0, some ⟨b, 0, none⟩, 0, rfl, by omega, (Own.made (k := .u8) (h := hq) (b := b) (T := 5) []).part, New.of hb, sb⟩, ?_⟩
 rintro a1 l1 c1 y h' ⟨j, a', c', hx1, hj, P', N', s'⟩
 simp only [List.cons.injEq, Value.int.injEq, Value.slice.injEq, true_and, and_true] at hx1
 obtain ⟨⟨rfl, rfl, rfl⟩, rfl⟩ := hx1
 refine ⟨fun hlt => ?_, fun hge => ?_⟩
 ·have hmod : j % D < D := Nat.mod_lt _ (by omega)
  have wm : (j : Int).tmod (D : Int) = ((j % D : Nat) : Int) := by rw [Int.tmod_eq_emod_of_nonneg (by omega)]; exact (Int.natCast_emod j D).symm
  have w1 : IntKind.i64.wrap ((al.length : Int) - D) = ((al.length - D : Nat) : Int) := by rw [i64_in _ (by omega)]; omega
  have w2 : IntKind.i64.wrap (((al.length - D : Nat) : Int) + ((j % D : Nat) : Int)) = ((al.length - D + j % D : Nat) : Int) := by rw [i64_in _ (by omega)]; omega
  have wj : IntKind.i64.wrap ((j : Int) + 1) = ((j + 1 : Nat) : Int) := by rw [i64_in _ (by omega)]; omega
  rw [wm, w1, w2, wj]
  obtain ⟨_, _, ei, _, gi⟩ := (P.sub s').ints
  cases ei
  have hidx : al.length - D + j % D < al.length := by omega
  have g? : al[al.length - D + j % D]? = some (al.getD (al.length - D + j % D) 0) := by simp [List.getD, List.getElem?_eq_getElem hidx]
  obtain ⟨g1, g2⟩ := gi.cell g?
  refine ⟨by simp; omega, by simpa using g2, by omega, by omega, _, by simp only [Int.toNat_natCast, Nat.mul_one, add_add, Nat.add_zero]; exact g1, fun b' hb' => ?_⟩
  have sb' : Eng.Sub h' (upd h' b' (.cells (ints .u8 [al.getD (al.length - D + j % D) 0]) 5)) := Sub.zN hb'
  have hcl2 := By (al := al) (dist := D) (n := j)
  refine xI (ys := [al.getD (al.length - D + j % D) 0]) (a := some ⟨b', 0, none⟩) (c := 1) (hi.sub s0) (s'.trans sb') (P'.sub sb') N' zn.new (by rw [hcl2]; simp only [List.length_singleton]; omega) fun v5 h5 o5 n5 s5 _ _ => ?_
  rw [← KV] at o5
  obtain ⟨a5, c5, rfl, _, _⟩ := o5.ints
  simp only [zj, zi, zl]
  exact ⟨⟨j + 1, a5, c5, rfl, by omega, o5, n5, s5⟩, by simp only [List.getD_cons_succ, List.getD_cons_zero, toInt_int, Int.toNat_natCast]; omega⟩
 ·obtain rfl : j = M := by omega
  obtain ⟨_, _, ei, _, gi⟩ := P'.ints
  cases ei
  have K := GL (dl := dl) (sz := sz) (room := room) hi (s0.trans s') a c bs (cp5 bs cd sz r al s) (P.sub s') N hd (by omega) (by omega) gi (cd := c1) (by rw [By]; omega)
  refine za.mono K ?_
  rintro _ h4 ⟨a4, c4, rfl, P4, N4, s4⟩
  exact ⟨_, _, _, _, _, _, _, _, _, _, _, rfl, ⟨a4, c4, rfl, P4, N4, s4⟩⟩
theorem FQ {bs : List Int} {cl cd : List (Nat × Nat)} {dl room sz f : Nat} {r : Rd} {al : List Int} (h : r.k ≠ 0) : syF bs cl cd dl room sz f r al = (r, al) := by
 cases f with
 | zero => rfl
 | succ f => rw [syF, if_neg h]
theorem SL {bs : List Int} {cd : List (Nat × Nat)} {dl room sz : Nat} {r : Rd} {al : List Int} {s : Nat} (h1 : dl ≤ al.length) (h2 : al.length ≤ dl + room) : dl ≤ (cpF bs cd dl room sz r al s).2.length ∧ (cpF bs cd dl room sz r al s).2.length ≤ dl + room := by
 unfold cpF
 split
 ·exact ⟨h1, h2⟩
 ·split
  ·exact ⟨h1, h2⟩
  ·exact Eb h1 h2
theorem Mx {bs : List Int} {cd : List (Nat × Nat)} {dl room sz : Nat} {r : Rd} {al : List Int} {x : Int} (h1 : dl ≤ al.length) (h2 : al.length ≤ dl + room) : dl ≤ (sy1 bs cd dl room sz r al x).2.length ∧ (sy1 bs cd dl room sz r al x).2.length ≤ dl + room := by
 unfold sy1
 split
 ·exact Eb h1 h2
 ·split
  ·exact ⟨h1, h2⟩
  ·exact SL h1 h2
def Bz (h : Eng.Heap) (v : Value) : Eng.Heap := fun b => if zq v = some b then none else h b
theorem Uf {v : Value} : Eng.Sub (Bz h v) h := fun b o e => by
 unfold Bz at e
 split at e
 ·cases e
 ·exact e
theorem Ug {v : Value} : Eng.New (Bz h v) v := fun b hb => if_pos hb
theorem SM {v : Value} (N : Eng.New h0 v) (s : Eng.Sub h0 h) : Eng.Sub h0 (Bz h v) := fun b o e => by
 unfold Bz
 rw [if_neg (fun hb => by rw [N b hb] at e; cases e)]
 exact s b o e
theorem A0.base {a : Option Addr} {c : Nat} {bs : List Int} {dl sz room : Nat} {F : Rd × List Int} {v : Value} {h' g : Eng.Heap} (H : A0 g a c bs dl sz room F v h') (s : Eng.Sub h0 g) : A0 h0 a c bs dl sz room F v h' := by
 obtain ⟨a', c', e, p, n, t⟩ := H
 exact ⟨a', c', e, p, fun z hz => zZ s (n z hz), s.trans t⟩
theorem CodesAt.same {h' : Eng.Heap} {a : Option Addr} {l c : Nat} {cs : List (Nat × Nat)} (H : CodesAt h a l cs) (hk : ∀ z, zq (.slice a l c) = some z → h' z = h z) : CodesAt h' a l cs := by
 obtain ⟨⟨ps, h1, h2⟩, h3, h4⟩ := H
 refine ⟨⟨ps, fun i p hp => ?_, h2⟩, h3, h4⟩
 obtain ⟨ad, rfl, g1, g2⟩ := h1 i p hp
 have e := hk ad.block rfl
 have blk : ∀ n, (ad.add n).block = ad.block := fun n => by unfold Addr.add; split <;> rfl
 have hh : ∀ n, Eng.ze h' (ad.add n) = Eng.ze h (ad.add n) := fun n => by
  unfold Eng.ze; rw [show h' (ad.add n).block = h (ad.add n).block by rw [blk]; exact e]
 exact ⟨ad, rfl, (hh _).trans g1, (hh _).trans g2⟩
theorem LR (hi : Eng.Inv S h0) (s0 : Eng.Sub h0 h) {a : Option Addr} {c : Nat} {bs : List Int} (hx : zn h0 .u8 a bs) (L : bs.length ≤ 1048576) (r : Rd) (ok : okR bs r) {aa : Option Addr} {ca : Nat} {al : List Int} (P : Part .u8 h (.slice aa al.length ca) al) (N : Eng.New h0 (.slice aa al.length ca)) {dl sz room : Nat} (hd : dl ≤ al.length) (hl : al.length ≤ dl + room) (hdl : dl ≤ 40000) (hr : room ≤ 100000) (hsz : sz ≤ 40000)
    {u w : Value} {xs ys : List Int} (O1 : tI.O h u xs) (O2 : tI.O h w ys) (L1 : Fq xs) (L2 : Fq ys) (hg1 : ¬ (zk xs = 0 ∨ zk xs = 2)) (hg2 : ¬ (zk ys = 0 ∨ zk ys = 2)) (F0 : Nat) (hF0 : 8 * bs.length + 1 ≤ F0) :
    za Tryz.prog S qQ #[rdV a c bs r, C4 aa ca al dl sz room, u, w] h (A0 h0 a c bs dl sz room (syF bs (zd xs) (zd ys) dl room sz F0 r al)) := by
  obtain ⟨a1, c1, rfl, _, _⟩ := Part.ints O1
  obtain ⟨a2, c2, rfl, _, _⟩ := Part.ints O2
  refine Fc (vs := [.slice a bs.length c, .int .i64 r.i, .int .i64 r.k, .slice aa al.length ca, .int .i64 dl, .int .i64 sz, .int .i64 room, .slice a1 xs.length c1, .slice a2 ys.length c2]) ⟨rfl, rfl, rfl, rfl, rfl, rfl, rfl, rfl, rfl, trivial⟩ (hi.sub s0) ?_
  simp only [BP, Tr.wp, zG, Ex.ev, coerce, toInt_int, zb, zi, zl, zj, wG, z6, Cst.val, SV.den, zw, zV, z7, zp, zm, z4, zP, List.flatMap_cons, List.flatMap_nil, List.getD_cons_zero, List.getD_cons_succ, List.getElem?_cons_zero, List.getElem?_cons_succ, decide_eq_true_eq, decide_eq_false_iff_not, List.map_cons, List.map_nil, List.cons_append, List.nil_append, List.append_nil, List.length_cons, List.length_nil, Nat.zero_add, if_true, if_false, Bool.false_eq_true]
  refine (qV (hi.sub s0) O1 L1).mono ?_
  rintro v3 h3 ⟨OC, NC, s3⟩
  obtain ⟨a3, c3, rfl, C1⟩ := GJ OC hg1
  have el1 : (yz xs).length = xs.length := by simp only [yz, if_neg hg1]; exact jN
  refine ⟨_, _, _, rfl, ?_⟩
  refine (qV (hi.sub (s0.trans s3)) (Ty.jr O2 s3) L2).mono ?_
  rintro v4 h4 ⟨OC2, NC2, s4⟩
  obtain ⟨a4, c4, rfl, C2⟩ := GJ OC2 hg2
  refine ⟨_, _, _, rfl, ?_⟩
  have s34 := s3.trans s4
  have C1' := C1.sub s4
  have P4 := P.sub s34
  obtain ⟨g, hg⟩ : ∃ g, g = Bz h4 (.slice aa al.length ca) := ⟨_, rfl⟩
  have sg : Eng.Sub h0 g := hg ▸ SM N (s0.trans s34)
  have g4 : Eng.Sub g h4 := hg ▸ Uf
  have Ng : Eng.New g (.slice aa al.length ca) := hg ▸ Ug
  have Cg1 : CodesAt g a3 xs.length (zd xs) := by
    rw [hg]
    refine C1'.same (c := c3) fun z hz => if_neg fun hz2 => ?_
    exact tB.Oheld P (show tB.B _ z from hz2) (NC z (by rw [show AN.B (.slice a3 xs.length c3) z = (zq (.slice a3 xs.length c3) = some z) from rfl]; exact hz))
  have Cg2 : CodesAt g a4 ys.length (zd ys) := by
    rw [hg]
    refine C2.same (c := c4) fun z hz => if_neg fun hz2 => ?_
    exact tB.Oheld (P.sub s3) (show tB.B _ z from hz2) (NC2 z (by rw [show AN.B (.slice a4 ys.length c4) z = (zq (.slice a4 ys.length c4) = some z) from rfl]; exact hz))
  have hi0 := hi
  have hx0 := hx
  replace hi := hi0.sub sg
  replace hx := hx0.sub sg
  refine ⟨fun us h' => ∃ (r' : Rd) (al' : List Int) (a' : Option Addr) (c' f : Nat), us = [.slice a bs.length c, .int .i64 r'.i, .int .i64 r'.k, .slice a' al'.length c', .int .i64 dl, .int .i64 sz, .int .i64 room] ∧ okR bs r' ∧ Part .u8 h' (.slice a' al'.length c') al' ∧ Eng.New g (.slice a' al'.length c') ∧ Eng.Sub g h' ∧ (dl ≤ al'.length ∧ al'.length ≤ dl + room) ∧ (r'.k = 0 → 8 * (bs.length : Int) + 1 ≤ r'.i + f) ∧ syF bs (zd xs) (zd ys) dl room sz F0 r al = syF bs (zd xs) (zd ys) dl room sz f r' al',
    fun us _ => if toInt (us.getD 2 undef) = 0 then (8 * (bs.length : Int) + 1 - toInt (us.getD 1 undef)).toNat + 1 else 0, ⟨r, al, aa, ca, F0, rfl, ok, P4, Ng, g4, ⟨hd, hl⟩, fun hk => by have := ok hk; omega, rfl⟩, ?_⟩
  rintro b1 m1 d1 i1 k1 b2 m2 d2 x4 x5 x6 h' ⟨r', al', a', c', f, hx1, ok', P', N', s', hl', hf, e'⟩
  simp only [List.cons.injEq, Value.int.injEq, Value.slice.injEq, true_and, and_true] at hx1
  obtain ⟨⟨rfl, rfl, rfl⟩, rfl, rfl, ⟨rfl, rfl, rfl⟩, rfl, rfl, rfl⟩ := hx1
  rw [e']
  refine ⟨fun hk => ?_, fun hk => ?_⟩
  · have hk : r'.k = 0 := beq_iff_eq.1 hk
    have hpos := ok' hk
    obtain ⟨f', rfl⟩ : ∃ f', f = f' + 1 := ⟨f - 1, by have := hf hk; omega⟩
    have est : syF bs (zd xs) (zd ys) dl room sz (f' + 1) r' al' = (if (sy bs (zd xs) r').1.k ≠ 0 ∨ (sy bs (zd xs) r').2 = 256 then ((sy bs (zd xs) r').1, al')
       else syF bs (zd xs) (zd ys) dl room sz f' (sy1 bs (zd ys) dl room sz (sy bs (zd xs) r').1 al' (sy bs (zd xs) r').2).1 (sy1 bs (zd ys) dl room sz (sy bs (zd xs) r').1 al' (sy bs (zd xs) r').2).2) := by rw [syF, if_pos hk]
    refine (IH (hi.sub s') (hx.sub s') L r' ok' (fun _ => Cg1.sub s')).mono ?_
    rintro _ h2 ⟨rfl, rfl⟩
    refine ⟨_, _, _, _, _, _, rfl, ?_⟩
    have oks : okR bs (sy bs (zd xs) r').1 := Az ok'
    have lts : (sy bs (zd xs) r').1.k = 0 → r'.k = 0 ∧ r'.i + 1 ≤ (sy bs (zd xs) r').1.i := Ns
    have nns := HX (bs := bs) (cs := zd xs) (r := r')
    rw [xe] at nns
    generalize sy bs (zd xs) r' = q at est oks lts nns ⊢
    obtain ⟨r1, x⟩ := q
    simp only at est oks lts nns ⊢
    refine ⟨fun hstop => ?_, fun hgo => ?_⟩
    · have hst : r1.k ≠ 0 ∨ x = 256 := by simpa using hstop
      rw [est, if_pos hst]
      exact A0.base ⟨b2, d2, rfl, P', N', s'⟩ sg
    · have hst : ¬ (r1.k ≠ 0 ∨ x = 256) := by simpa using hgo
      rw [if_neg hst] at est
      have hk1 : r1.k = 0 := by omega
      have hx256 : x ≠ 256 := by omega
      have fin : ∀ (h'' : Eng.Heap) (a5 : Option Addr) (c5 : Nat), Part .u8 h'' (.slice a5 (sy1 bs (zd ys) dl room sz r1 al' x).2.length c5) (sy1 bs (zd ys) dl room sz r1 al' x).2 → Eng.New g (.slice a5 (sy1 bs (zd ys) dl room sz r1 al' x).2.length c5) → Eng.Sub g h'' →
          (∃ (r2 : Rd) (al2 : List Int) (a' : Option Addr) (c' f : Nat), [Value.slice b1 bs.length d1, .int .i64 (sy1 bs (zd ys) dl room sz r1 al' x).1.i, .int .i64 (sy1 bs (zd ys) dl room sz r1 al' x).1.k, .slice a5 (sy1 bs (zd ys) dl room sz r1 al' x).2.length c5, .int .i64 dl, .int .i64 sz, .int .i64 room] = [.slice b1 bs.length d1, .int .i64 r2.i, .int .i64 r2.k, .slice a' al2.length c', .int .i64 dl, .int .i64 sz, .int .i64 room] ∧ okR bs r2 ∧ Part .u8 h'' (.slice a' al2.length c') al2 ∧ Eng.New g (.slice a' al2.length c') ∧ Eng.Sub g h'' ∧ (dl ≤ al2.length ∧ al2.length ≤ dl + room) ∧ (r2.k = 0 → 8 * (bs.length : Int) + 1 ≤ r2.i + f) ∧ syF bs (zd xs) (zd ys) dl room sz (f' + 1) r' al' = syF bs (zd xs) (zd ys) dl room sz f r2 al2) ∧
          (if (sy1 bs (zd ys) dl room sz r1 al' x).1.k = 0 then (8 * (bs.length : Int) + 1 - (sy1 bs (zd ys) dl room sz r1 al' x).1.i).toNat + 1 else 0) < (if r'.k = 0 then (8 * (bs.length : Int) + 1 - r'.i).toNat + 1 else 0) := by
        intro h'' a5 c5 Q1 Q2 Q3
        have hle : le2 r1 (sy1 bs (zd ys) dl room sz r1 al' x).1 := Ps
        have hl1 := (lts hk1).2
        refine ⟨⟨_, _, a5, c5, f', rfl, Pt oks, Q1, Q2, Q3, Mx hl'.1 hl'.2, fun h => ?_, est⟩, ?_⟩
        · have := (hle h).2; have := hf hk; push_cast at this; omega
        · rw [if_pos hk]
          split
          · rename_i h; have := (hle h).2; omega
          · omega
      refine ⟨fun hlt b hb => ?_, fun hge => ⟨fun hgt => ?_, fun hle => ?_⟩⟩
      · have e1 : sy1 bs (zd ys) dl room sz r1 al' x = tell dl room r1 al' [x] := if_pos hlt
        have wb : IntKind.u8.wrap x = x := by rw [IntKind.wrap_u8]; omega
        rw [wb]
        have sb : Eng.Sub h2 (upd h2 b (.cells (ints .u8 [x]) 5)) := Sub.zN hb
        have K := GL (d := [x]) (ad := some ⟨b, 0, none⟩) (cd := 1) (dl := dl) (sz := sz) (room := room) hi (s'.trans sb) b1 d1 bs r1 (P'.sub sb) N' hl'.1 (by omega) (by omega) zn.new (by simp)
        rw [← e1] at K
        refine za.mono K ?_
        rintro _ h4 ⟨a4, c4, rfl, P4, N4, s4⟩
        exact ⟨_, _, _, _, _, _, _, _, _, _, _, rfl, fun _ => fin h4 a4 c4 P4 N4 s4⟩
      · have e1 : sy1 bs (zd ys) dl room sz r1 al' x = (bd true r1, al') := by unfold sy1; rw [if_neg (by omega), if_pos (by omega)]
        rw [e1] at fin
        refine (xD (hi.sub s') b1 d1 bs r1 true).mono ?_
        rintro _ h3 ⟨rfl, rfl⟩
        exact ⟨_, _, _, _, _, rfl, fun _ _ => fin _ b2 d2 P' N' s'⟩
      · have e1 : sy1 bs (zd ys) dl room sz r1 al' x = cpF bs (zd ys) dl room sz r1 al' x.toNat := by unfold sy1; rw [if_neg (by omega), if_neg (by omega)]
        obtain ⟨m, rfl⟩ := Int.eq_ofNat_of_zero_le (show 0 ≤ x by omega)
        have K := Rb (c := d1) (dl := dl) (sz := sz) (room := room) hi s' hx L r1 oks P' N' hl'.1 hl'.2 hdl hr hsz m (by omega) (by omega) (cc := c4) (Cg2.sub s')
        rw [show m = ((m : Int)).toNat from rfl, ← e1] at K
        refine za.mono K ?_
        rintro _ h4 ⟨a4, c4, rfl, P4, N4, s4⟩
        exact ⟨_, _, _, _, _, _, _, _, _, _, _, rfl, fun _ _ => fin h4 a4 c4 P4 N4 s4⟩
  · have hk : r'.k ≠ 0 := by simpa using hk
    rw [FQ hk]
    exact A0.base ⟨b2, d2, rfl, P', N', s'⟩ sg
end
section
variable {S : Shared} {h h0 : Eng.Heap}
theorem My {bs : List Int} {cs : List (Nat × Nat)} {tot : Nat} : ∀ {n : Nat} {r : Rd} {all : List Int}, tot - all.length ≤ n → all.length ≤ tot → (lg bs cs tot r all).1.k = 0 → (lg bs cs tot r all).2.length ≤ tot
 | 0, r, all, hn, hl, H => by rw [jB (fun e => by omega)]; exact hl
 | n + 1, r, all, hn, hl, H => by
  by_cases h : r.k = 0 ∧ all.length < tot
  ·rw [Dz h] at H ⊢
   by_cases hk : (lg1 bs cs tot r all).1.k = 0
   ·have := (Bw (bs := bs) (cs := cs) (tot := tot) (r := r) (all := all)).2.2 hk
    exact My (n := n) (by omega) this.2 H
   ·rw [jB (fun e => hk e.1)] at H; exact absurd H hk
  ·rw [jB h]; exact hl
theorem HY {bs : List Int} {r : Rd} : (zU bs r).2.1.length ≤ 1000 ∧ (zU bs r).2.2.length ≤ 1000 := by
 unfold zU
 split
 ·rename_i hk
  have n1 := yf (bs := bs) (n := 5) (r := r)
  have n2 := yf (bs := bs) (n := 5) (r := xm bs r)
  have q5 : (2 : Int) ^ 5 = 32 := by decide
  have h1 : Bg bs r ≤ 288 := by unfold Bg; omega
  have h2 : FM bs r ≤ 32 := by unfold FM; omega
  have h3 : (kD bs r).2.length ≤ Bg bs r + FM bs r := My (Nat.le_refl _) (by simp) hk
  simp only [List.length_take, List.length_drop]
  omega
 ·simp
theorem C5 {bs : List Int} {r : Rd} (ok : okR bs r) : okR bs (zU bs r).1 := by
 have := (FN ok).2.2.2.2
 unfold zU
 split
 ·exact kC this
 ·exact this
section
variable {bs : List Int} {dl room sz : Nat}
theorem IJ : ∀ {n : Nat} {r : Rd} {al : List Int}, dl ≤ al.length → al.length ≤ dl + room → dl ≤ (stL bs dl room n r al).2.length ∧ (stL bs dl room n r al).2.length ≤ dl + room
 | 0, r, al, h1, h2 => ⟨h1, h2⟩
 | n + 1, r, al, h1, h2 => by
  unfold stL
  split
  ·have := Eb (r := (tk bs 8 r).1) (d := [(tk bs 8 r).2]) h1 h2
   exact IJ this.1 this.2
  ·exact ⟨h1, h2⟩
theorem IK {cl cd : List (Nat × Nat)} : ∀ {f : Nat} {r : Rd} {al : List Int}, dl ≤ al.length → al.length ≤ dl + room → dl ≤ (syF bs cl cd dl room sz f r al).2.length ∧ (syF bs cl cd dl room sz f r al).2.length ≤ dl + room
 | 0, r, al, h1, h2 => ⟨h1, h2⟩
 | f + 1, r, al, h1, h2 => by
  unfold syF
  split
  ·split
   ·exact ⟨h1, h2⟩
   ·have := Mx (bs := bs) (cd := cd) (sz := sz) (r := (sy bs cl r).1) (x := (sy bs cl r).2) h1 h2
    exact IK this.1 this.2
  ·exact ⟨h1, h2⟩
theorem KW {cl cd : List (Nat × Nat)} : ∀ {f : Nat} {r : Rd} {al : List Int}, le2 r (syF bs cl cd dl room sz f r al).1
 | 0, r, al => le2.refl
 | f + 1, r, al => by
  unfold syF
  split
  ·split
   ·exact FP
   ·exact (FP.trans Ps).trans KW
  ·exact le2.refl
theorem KX {cl cd : List (Nat × Nat)} : ∀ {f : Nat} {r : Rd} {al : List Int}, okR bs r → okR bs (syF bs cl cd dl room sz f r al).1
 | 0, r, al, H => H
 | f + 1, r, al, H => by
  unfold syF
  split
  ·split
   ·exact Az H
   ·exact KX (Pt (Az H))
  ·exact H
theorem RQ {r : Rd} : ∀ {k : Nat}, le2 r (sm bs r k).1
 | 0 => le2.refl
 | k + 1 => RQ.trans jE
theorem Vj {r : Rd} {all : List Int} {x : Int} : le2 r (rp bs r all x).1 := by
 unfold rp
 split
 ·exact qu.trans jE
 ·split
  ·exact jE
  ·split
   ·exact jE
   ·exact le2.refl
theorem Pw {cs : List (Nat × Nat)} {tot : Nat} {r : Rd} {all : List Int} : le2 r (lg1 bs cs tot r all).1 := by
 unfold lg1
 split
 ·exact (FP.trans Vj).trans qu
 ·exact FP
theorem RR {cs : List (Nat × Nat)} {tot : Nat} : ∀ {n : Nat} {r : Rd} {all : List Int}, tot - all.length ≤ n → le2 r (lg bs cs tot r all).1
 | 0, r, all, hn => by rw [jB (fun e => by omega)]; exact le2.refl
 | n + 1, r, all, hn => by
  by_cases h : r.k = 0 ∧ all.length < tot
  ·rw [Dz h]
   by_cases hk : (lg1 bs cs tot r all).1.k = 0
   ·have := (Bw (bs := bs) (cs := cs) (tot := tot) (r := r) (all := all)).2.2 hk
    exact Pw.trans (RR (n := n) (by omega))
   ·rw [jB (fun e => hk e.1)]; exact Pw
  ·rw [jB h]; exact le2.refl
theorem GM {r : Rd} : le2 r (zU bs r).1 := by
 have h0 : le2 r (xm bs r) := jE.trans qu
 have h1 : le2 r (jC bs r) := h0.trans (jE.trans qu)
 have h2 : le2 r (yP bs r).1 := h1.trans (jE.trans RQ)
 have h3 : le2 r (DY bs r) := h2.trans qu
 have h4 : le2 r (kD bs r).1 := h3.trans (RR (Nat.le_refl _))
 unfold zU
 split
 ·exact h4.trans qu
 ·exact h4
theorem HZ {r : Rd} (h : (zU bs r).1.k = 0) : ¬ (zk (zU bs r).2.1 = 0 ∨ zk (zU bs r).2.1 = 2) ∧ ¬ (zk (zU bs r).2.2 = 0 ∨ zk (zU bs r).2.2 = 2) := by
 unfold zU at h ⊢
 split
 ·rename_i hk
  rw [if_pos hk] at h
  have hb := (Ft.1 h).2
  simp only
  unfold DZ at hb
  simp only [Bool.or_eq_false_iff, Bool.not_eq_false', Bool.or_eq_true, beq_iff_eq] at hb
  omega
 ·rename_i hk
  rw [if_neg hk] at h
  exact absurd h hk
end
def jZ : List Int := List.replicate 32 5
theorem Fz : zk jZ = 1 := by decide +kernel
def bk1 (bs : List Int) (r : Rd) : Rd × Int := tk bs 1 r
def bk2 (bs : List Int) (r : Rd) : Rd × Int := tk bs 2 (bk1 bs r).1
def bk3 (bs : List Int) (r : Rd) : Rd := bd ((bk2 bs r).2 == 3) (bk2 bs r).1
def blk (bs : List Int) (dl room sz F : Nat) (r : Rd) (al : List Int) : Rd × List Int :=
 if (bk3 bs r).k ≠ 0 then (bk3 bs r, al)
 else if (bk2 bs r).2 = 0 then stF bs dl room (bk3 bs r) al
 else if (bk2 bs r).2 = 1 then syF bs (zd yT) (zd jZ) dl room sz F (bk3 bs r) al
 else if (zU bs (bk3 bs r)).1.k ≠ 0 then ((zU bs (bk3 bs r)).1, al)
 else syF bs (zd (zU bs (bk3 bs r)).2.1) (zd (zU bs (bk3 bs r)).2.2) dl room sz F (zU bs (bk3 bs r)).1 al
def blF (bs : List Int) (dl room sz F : Nat) : Nat → Rd → List Int → Rd × List Int
 | 0, r, al => (r, al)
 | f + 1, r, al => if r.k = 0 then (if (bk1 bs r).2 ≠ 0 then blk bs dl room sz F r al else blF bs dl room sz F f (blk bs dl room sz F r al).1 (blk bs dl room sz F r al).2) else (r, al)
section
variable {bs : List Int} {dl room sz F : Nat} {r : Rd} {al : List Int}
theorem Px {n : Nat} {r : Rd} (h : (tk bs n r).1.k = 0) : (tk bs n r).1.i = r.i + n := by
 have h0 := KN h
 unfold tk at h ⊢
 rw [if_pos h0] at h ⊢
 split
 ·rename_i hgt; rw [if_pos hgt] at h; cases h
 ·rfl
theorem Py (h : (bk3 bs r).k = 0) : r.k = 0 ∧ r.i + 3 ≤ (bk3 bs r).i := by
 have h3 := qu (w := (bk2 bs r).2 == 3) (r := (bk2 bs r).1) h
 have h2 := Px (bs := bs) (n := 2) (r := (bk1 bs r).1) h3.1
 have h1 := KN (bs := bs) (n := 2) (r := (bk1 bs r).1) h3.1
 have h0 := Px (bs := bs) (n := 1) (r := r) h1
 refine ⟨KN h1, ?_⟩
 have e1 : (bk2 bs r).1.i = (bk1 bs r).1.i + 2 := h2
 have e0 : (bk1 bs r).1.i = r.i + 1 := h0
 have e3 : (bk2 bs r).1.i ≤ (bk3 bs r).i := h3.2
 omega
theorem Uh : le2 r (stF bs dl room r al).1 := (((Pq.trans jE).trans jE).trans qu).trans Pv
theorem Pz (H : okR bs r) : okR bs (stF bs dl room r al).1 := Pu (kC (y9 (y9 (D4 H))))
theorem Ui : le2 (bk3 bs r) (blk bs dl room sz F r al).1 := by
 unfold blk
 split
 ·exact le2.refl
 ·split
  ·exact Uh
  ·split
   ·exact KW
   ·split
    ·exact GM
    ·exact GM.trans KW
theorem P0 (H : okR bs r) : okR bs (bk3 bs r) := kC (y9 (y9 H))
theorem KY (H : okR bs r) : okR bs (blk bs dl room sz F r al).1 := by
 have h3 := P0 H
 unfold blk
 split
 ·exact h3
 ·split
  ·exact Pz h3
  ·split
   ·exact KX h3
   ·split
    ·exact C5 h3
    ·exact KX (C5 h3)
theorem Mz (h1 : dl ≤ al.length) (h2 : al.length ≤ dl + room) : dl ≤ (blk bs dl room sz F r al).2.length ∧ (blk bs dl room sz F r al).2.length ≤ dl + room := by
 unfold blk
 split
 ·exact ⟨h1, h2⟩
 ·split
  ·exact IJ h1 h2
  ·split
   ·exact IK h1 h2
   ·split
    ·exact ⟨h1, h2⟩
    ·exact IK h1 h2
theorem IL {f : Nat} (h : r.k ≠ 0) : blF bs dl room sz F f r al = (r, al) := by
 cases f with
 | zero => rfl
 | succ f => rw [blF, if_neg h]
end
end
section
variable {S : Shared} {h h0 : Eng.Heap}
section
variable {a : Option Addr} {c : Nat} {bs : List Int} {dl sz room : Nat}
theorem RU (hi : Eng.Inv S h0) (s0 : Eng.Sub h0 h) (hx : zn h0 .u8 a bs) (L : bs.length ≤ 1048576) (r : Rd) (ok : okR bs r) {aa : Option Addr} {ca : Nat} {al : List Int} (P : Part .u8 h (.slice aa al.length ca) al) (N : Eng.New h0 (.slice aa al.length ca)) (hd : dl ≤ al.length) (hl : al.length ≤ dl + room) (hdl : dl ≤ 40000) (hr : room ≤ 100000) (hsz : sz ≤ 40000)
  (F : Nat) (hF : 8 * bs.length + 1 ≤ F) {a1 a2 : Option Addr} {l1 c1 l2 c2 : Nat} {xs ys : List Int} (hO : r.k = 0 → Part .i64 h (.slice a1 l1 c1) xs ∧ Part .i64 h (.slice a2 l2 c2) ys ∧ Fq xs ∧ Fq ys ∧ ¬ (zk xs = 0 ∨ zk xs = 2) ∧ ¬ (zk ys = 0 ∨ zk ys = 2)) (K0 K1 K2 : Kt)
  (hK : ∀ a' c' h', Part .u8 h' (.slice a' (if r.k = 0 then syF bs (zd xs) (zd ys) dl room sz F r al else (r, al)).2.length c') (if r.k = 0 then syF bs (zd xs) (zd ys) dl room sz F r al else (r, al)).2 → Eng.New h0 (.slice a' (if r.k = 0 then syF bs (zd xs) (zd ys) dl room sz F r al else (r, al)).2.length c') → Eng.Sub h0 h' →
   K2 [.slice a bs.length c, .int .i64 (if r.k = 0 then syF bs (zd xs) (zd ys) dl room sz F r al else (r, al)).1.i, .int .i64 (if r.k = 0 then syF bs (zd xs) (zd ys) dl room sz F r al else (r, al)).1.k, .slice a' (if r.k = 0 then syF bs (zd xs) (zd ys) dl room sz F r al else (r, al)).2.length c', .int .i64 dl, .int .i64 sz, .int .i64 room] h')
  {Q : Value → Eng.Heap → Prop} (e0 e1 e2 e3 e4 e5 e6 e7 e8 e9 e10 e11 e12 e13 e14 e15 e16 e17 e18 e19 e20 e21 e22 e23 e24 e25 e26 e27 e28 e29 e34 e35 : Value) :
  bl4.wp Tryz.prog S yV Q [e0, e1, e2, e3, e4, e5, e6, e7, e8, e9, e10, e11, e12, e13, e14, e15, e16, e17, e18, e19, e20, e21, e22, e23, e24, e25, e26, e27, e28, e29, .slice aa al.length ca, .int .i64 dl, .int .i64 sz, .int .i64 room, e34, e35, .slice a1 l1 c1, .slice a2 l2 c2, .slice a bs.length c, .int .i64 r.i, .int .i64 r.k] h [K0, K1, K2] := by
 simp only [bl4, Tr.wp, zG, Ex.ev, coerce, toInt_int, zb, zi, zl, zj, z6, Cst.val, SV.den, zw, zV, z7, zp, zm, z4, List.flatMap_cons, List.flatMap_nil, List.getD_cons_zero, List.getD_cons_succ, List.getElem?_cons_zero, List.getElem?_cons_succ, List.map_cons, List.map_nil, List.cons_append, List.nil_append, List.append_nil, List.length_cons, List.length_nil, Nat.zero_add, if_true]
 refine ⟨fun hk => ?_, fun hk _ => ?_⟩
 ·have hk : r.k = 0 := beq_iff_eq.1 hk
  obtain ⟨O1, O2, L1, L2, g1, g2⟩ := hO hk
  simp only [if_pos hk] at hK
  refine za.mono (LR hi s0 hx L r ok P N hd hl hdl hr hsz O1 O2 L1 L2 g1 g2 F hF (c := c)) ?_
  rintro _ h4 ⟨a4, c4, rfl, P4, N4, s4⟩
  exact ⟨_, _, _, _, _, _, _, _, _, _, _, rfl, fun _ => hK a4 c4 h4 P4 N4 s4⟩
 ·have hk : r.k ≠ 0 := by simpa using hk
  simp only [if_neg hk] at hK
  exact hK aa ca h P N s0
def Bh (bs : List Int) (dl room sz F : Nat) (r : Rd) (kd : Int) (al : List Int) : Rd × List Int :=
  if r.k = 0 ∧ 0 < kd then
    (if kd = 2 then (if (zU bs r).1.k = 0 then syF bs (zd (zU bs r).2.1) (zd (zU bs r).2.2) dl room sz F (zU bs r).1 al else ((zU bs r).1, al))
     else (if r.k = 0 then syF bs (zd yT) (zd jZ) dl room sz F r al else (r, al)))
  else (r, al)
theorem RV (hi : Eng.Inv S h0) (s0 : Eng.Sub h0 h) (hx : zn h0 .u8 a bs) (L : bs.length ≤ 1048576) (r : Rd) (ok : okR bs r) {aa : Option Addr} {ca : Nat} {al : List Int} (P : Part .u8 h (.slice aa al.length ca) al) (N : Eng.New h0 (.slice aa al.length ca)) (hd : dl ≤ al.length) (hl : al.length ≤ dl + room) (hdl : dl ≤ 40000) (hr : room ≤ 100000) (hsz : sz ≤ 40000)
    (F : Nat) (hF : 8 * bs.length + 1 ≤ F) (kd ls : Int) (K0 K1 : Kt)
    (hK : ∀ a' c' h', Part .u8 h' (.slice a' (Bh bs dl room sz F r kd al).2.length c') (Bh bs dl room sz F r kd al).2 → Eng.New h0 (.slice a' (Bh bs dl room sz F r kd al).2.length c') → Eng.Sub h0 h' →
      K0 [.int .i64 ls, .int .i64 kd, .slice a bs.length c, .int .i64 (Bh bs dl room sz F r kd al).1.i, .int .i64 (Bh bs dl room sz F r kd al).1.k, .slice a' (Bh bs dl room sz F r kd al).2.length c', .int .i64 dl, .int .i64 sz, .int .i64 room] h')
    {Q : Value → Eng.Heap → Prop} (e0 e1 e2 e3 e4 e5 e6 e7 e8 e9 e10 e11 e12 e13 e14 e15 e16 e17 e18 e20 e21 e22 e24 e25 e26 : Value) :
    bl2.wp Tryz.prog S yV Q [e0, e1, e2, e3, e4, e5, e6, e7, e8, e9, e10, e11, e12, e13, e14, e15, e16, e17, e18, .int .i64 ls, e20, e21, e22, .int .i64 kd, e24, e25, e26, .slice a bs.length c, .int .i64 r.i, .int .i64 r.k, .slice aa al.length ca, .int .i64 dl, .int .i64 sz, .int .i64 room] h [K0, K1] := by
  simp only [bl2, Tr.wp, zG, Ex.ev, coerce, toInt_int, zb, zi, zl, zj, xV, z6, Cst.val, SV.den, zw, zV, z7, zp, zm, z4, List.flatMap_cons, List.flatMap_nil, List.getD_cons_zero, List.getD_cons_succ, List.getElem?_cons_zero, List.getElem?_cons_succ, List.map_cons, List.map_nil, List.cons_append, List.nil_append, List.append_nil, List.length_cons, List.length_nil, Nat.zero_add, if_true, if_false, Bool.false_eq_true]
  refine ⟨fun hc => ?_, fun hc _ => ?_⟩
  · have hc : r.k = 0 ∧ 0 < kd := by simpa using hc
    have eF : Bh bs dl room sz F r kd al = (if kd = 2 then (if (zU bs r).1.k = 0 then syF bs (zd (zU bs r).2.1) (zd (zU bs r).2.2) dl room sz F (zU bs r).1 al else ((zU bs r).1, al))
     else (if r.k = 0 then syF bs (zd yT) (zd jZ) dl room sz F r al else (r, al))) := if_pos hc
    rw [eF] at hK
    refine (Po (hi.sub s0)).mono ?_
    rintro _ h1 ⟨a1, c1, a2, c2, rfl, P1, P2, N1, N2, s1⟩
    refine ⟨_, _, _, _, _, _, rfl, fun h2 => ?_, fun h2 _ => ?_⟩
    · have h2 : kd = 2 := beq_iff_eq.1 h2
      rw [if_pos h2] at hK
      have okF := C5 ok
      have good := HZ (bs := bs) (r := r)
      obtain ⟨lenA, yN⟩ := HY (bs := bs) (r := r)
      refine (QP (hi.sub (s0.trans s1)) (hx.sub (s0.trans s1)) L r ok).mono ?_
      generalize zU bs r = G at hK okF good lenA yN ⊢
      rintro _ h3 ⟨u, w, rfl, hP, ⟨a3, l3, c3, a4, l4, c4, rfl, rfl⟩, s3⟩
      refine ⟨_, _, _, _, _, _, _, _, _, _, _, rfl, fun _ => ?_⟩
      exact RU (c := c) hi (s0.trans (s1.trans s3)) hx L G.1 okF (P.sub (s1.trans s3)) N hd hl hdl hr hsz F hF (xs := G.2.1) (ys := G.2.2) (fun hk => by
        obtain ⟨p1, p2, _, _⟩ := hP hk
        obtain ⟨g1, g2⟩ := good hk
        exact ⟨p1, p2, Nat.le_trans lenA (by decide), Nat.le_trans yN (by decide), g1, g2⟩) _ _ _ (fun a' c' h' q1 q2 q3 => fun _ => hK a' c' h' q1 q2 q3) _ _ _ _ _ _ _ _ _ _ _ _ _ _ _ _ _ _ _ _ _ _ _ _ _ _ _ _ _ _ _ _
    · have h2 : kd ≠ 2 := by simpa using h2
      rw [if_neg h2] at hK
      exact RU (c := c) hi (s0.trans s1) hx L r ok (P.sub s1) N hd hl hdl hr hsz F hF (xs := yT) (ys := jZ) (fun hk =>
        ⟨P1, P2, KS, by show (List.replicate 32 (5 : Int)).length ≤ 1048576; simp, Fy, by rw [Fz]; decide⟩) _ _ _ (fun a' c' h' q1 q2 q3 => fun _ => hK a' c' h' q1 q2 q3) _ _ _ _ _ _ _ _ _ _ _ _ _ _ _ _ _ _ _ _ _ _ _ _ _ _ _ _ _ _ _ _
  · have hc : ¬ (r.k = 0 ∧ 0 < kd) := by
      intro h; rw [h.1] at hc; simp [h.2] at hc
    have eF : Bh bs dl room sz F r kd al = (r, al) := if_neg hc
    rw [eF] at hK
    exact hK aa ca h P N s0
def Nv (bs : List Int) (dl room : Nat) (r : Rd) (kd : Int) (al : List Int) : Rd × List Int := if r.k = 0 ∧ kd = 0 then stF bs dl room r al else (r, al)
theorem Uj {F : Nat} {r : Rd} {al : List Int} : blk bs dl room sz F r al = Bh bs dl room sz F (Nv bs dl room (bk3 bs r) (bk2 bs r).2 al).1 (bk2 bs r).2 (Nv bs dl room (bk3 bs r) (bk2 bs r).2 al).2 := by
 have n2 := yf (bs := bs) (n := 2) (r := (bk1 bs r).1)
 have q2 : (2 : Int) ^ 2 = 4 := by decide
 have e2 : (tk bs 2 (bk1 bs r).1).2 = (bk2 bs r).2 := rfl
 rw [e2, q2] at n2
 have h3 : (bk3 bs r).k = 0 → (bk2 bs r).2 ≠ 3 := fun h e => by
  have := (Ft.1 (show (bd ((bk2 bs r).2 == 3) (bk2 bs r).1).k = 0 from h)).2
  rw [e] at this; cases this
 unfold blk Nv
 by_cases hk : (bk3 bs r).k = 0
 ·have h3 := h3 hk
  rw [if_neg (show ¬ (bk3 bs r).k ≠ 0 from fun h => h hk)]
  by_cases h0 : (bk2 bs r).2 = 0
  ·rw [if_pos h0, if_pos (show (bk3 bs r).k = 0 ∧ (bk2 bs r).2 = 0 from ⟨hk, h0⟩)]
   unfold Bh
   rw [if_neg (fun h => by omega)]
  ·rw [if_neg h0, if_neg (show ¬ ((bk3 bs r).k = 0 ∧ (bk2 bs r).2 = 0) from fun h => h0 h.2)]
   unfold Bh
   simp only
   rw [if_pos (show (bk3 bs r).k = 0 ∧ 0 < (bk2 bs r).2 from ⟨hk, by omega⟩)]
   by_cases h1 : (bk2 bs r).2 = 1
   ·rw [if_pos h1, if_neg (show ¬ (bk2 bs r).2 = 2 by omega), if_pos hk]
   ·rw [if_neg h1, if_pos (show (bk2 bs r).2 = 2 by omega)]
    by_cases hL : (zU bs (bk3 bs r)).1.k = 0
    ·rw [if_neg (show ¬ (zU bs (bk3 bs r)).1.k ≠ 0 from fun h => h hL), if_pos hL]
    ·rw [if_pos (show (zU bs (bk3 bs r)).1.k ≠ 0 from hL), if_neg hL]
 ·rw [if_pos (show (bk3 bs r).k ≠ 0 from hk), if_neg (show ¬ ((bk3 bs r).k = 0 ∧ (bk2 bs r).2 = 0) from fun h => hk h.1)]
  unfold Bh
  rw [if_neg (fun h => hk h.1)]
end
theorem Nw (hi : Eng.Inv S h0) (s0 : Eng.Sub h0 h) {a : Option Addr} {c : Nat} {bs : List Int} (hx : zn h0 .u8 a bs) (L : bs.length ≤ 1048576) (r : Rd) (ok : okR bs r) {aa : Option Addr} {ca : Nat} {al : List Int} (P : Part .u8 h (.slice aa al.length ca) al) (N : Eng.New h0 (.slice aa al.length ca)) {dl sz room : Nat} (hd : dl ≤ al.length) (hl : al.length ≤ dl + room) (hdl : dl ≤ 40000) (hr : room ≤ 100000) (hsz : sz ≤ 40000)
  (F : Nat) (hF : 8 * bs.length + 1 ≤ F) (F0 : Nat) (hF0 : 8 * bs.length + 1 ≤ F0) :
  za Tryz.prog S wI #[rdV a c bs r, C4 aa ca al dl sz room] h (A0 h0 a c bs dl sz room (blF bs dl room sz F F0 r al)) := by
 refine Gf (vs := [.slice a bs.length c, .int .i64 r.i, .int .i64 r.k, .slice aa al.length ca, .int .i64 dl, .int .i64 sz, .int .i64 room]) ⟨rfl, rfl, rfl, rfl, rfl, rfl, rfl, trivial⟩ (hi.sub s0) ?_
 simp only [Cv, Tr.wp, zG, Ex.ev, coerce, toInt_int, zb, zi, zl, zj, xV, z6, Cst.val, SV.den, zw, zV, z7, zp, zm, z4, zP, List.flatMap_cons, List.flatMap_nil, List.getD_cons_zero, List.getD_cons_succ, List.getElem?_cons_zero, List.getElem?_cons_succ, List.map_cons, List.map_nil, List.cons_append, List.nil_append, List.append_nil, List.length_cons, List.length_nil, Nat.zero_add, if_true, if_false, Bool.false_eq_true]
 refine ⟨fun us h' => ∃ (ls kd : Int) (r' : Rd) (al' : List Int) (a' : Option Addr) (c' f : Nat), us = [.int .i64 ls, .int .i64 kd, .slice a bs.length c, .int .i64 r'.i, .int .i64 r'.k, .slice a' al'.length c', .int .i64 dl, .int .i64 sz, .int .i64 room] ∧ okR bs r' ∧ Part .u8 h' (.slice a' al'.length c') al' ∧ Eng.New h0 (.slice a' al'.length c') ∧ Eng.Sub h0 h' ∧ (dl ≤ al'.length ∧ al'.length ≤ dl + room) ∧ (r'.k = 0 → ls = 0 → 8 * (bs.length : Int) + 1 ≤ r'.i + f) ∧ blF bs dl room sz F F0 r al = (if ls ≠ 0 then (r', al') else blF bs dl room sz F f r' al'),
  fun us _ => if toInt (us.getD 4 undef) = 0 ∧ toInt (us.getD 0 undef) = 0 then (8 * (bs.length : Int) + 1 - toInt (us.getD 3 undef)).toNat + 1 else 0, ⟨0, 0, r, al, aa, ca, F0, rfl, ok, P, N, s0, ⟨hd, hl⟩, fun hk _ => by have := ok hk; omega, by rw [if_neg (by simp)]⟩, ?_⟩
 rintro x0 x1 b1 m1 d1 i1 k1 b2 m2 d2 x4 x5 x6 h' ⟨ls, kd, r', al', a', c', f, hx1, ok', P', N', s', hl', hf, e'⟩
 simp only [List.cons.injEq, Value.int.injEq, Value.slice.injEq, true_and, and_true] at hx1
 obtain ⟨rfl, rfl, ⟨rfl, rfl, rfl⟩, rfl, rfl, ⟨rfl, rfl, rfl⟩, rfl, rfl, rfl⟩ := hx1
 rw [e']
 refine ⟨fun hgo => ?_, fun hend => ?_⟩
 ·have hgo : r'.k = 0 ∧ x0 = 0 := by simpa using hgo
  obtain ⟨hk, rfl⟩ := hgo
  have hpos := ok' hk
  obtain ⟨f', rfl⟩ : ∃ f', f = f' + 1 := ⟨f - 1, by have := hf hk rfl; omega⟩
  have est : (if (0 : Int) ≠ 0 then (r', al') else blF bs dl room sz F (f' + 1) r' al') = (if (bk1 bs r').2 ≠ 0 then blk bs dl room sz F r' al' else blF bs dl room sz F f' (blk bs dl room sz F r' al').1 (blk bs dl room sz F r' al').2) := by rw [if_neg (by simp), blF, if_pos hk]
  have n1 := yf (bs := bs) (n := 1) (r := r')
  have n2 := yf (bs := bs) (n := 2) (r := (bk1 bs r').1)
  have q1 : (2 : Int) ^ 1 = 2 := by decide
  have q2 : (2 : Int) ^ 2 = 4 := by decide
  refine (xh (hi.sub s') (hx.sub s') L r' ok' 1 (by omega)).mono ?_
  rintro _ h2 ⟨rfl, rfl⟩
  refine ⟨_, _, _, _, _, _, rfl, ?_⟩
  refine (xh (hi.sub s') (hx.sub s') L (bk1 bs r').1 (y9 ok') 2 (by omega)).mono ?_
  rintro _ h2 ⟨rfl, rfl⟩
  refine ⟨_, _, _, _, _, _, rfl, ?_⟩
  refine (xD (hi.sub s') b1 d1 bs (bk2 bs r').1 ((bk2 bs r').2 == 3)).mono ?_
  rintro _ h2 ⟨rfl, rfl⟩
  refine ⟨_, _, _, _, _, rfl, ?_⟩
  have e3 : bd ((bk2 bs r').2 == 3) (bk2 bs r').1 = bk3 bs r' := rfl
  have e2 : (tk bs 2 (bk1 bs r').1).2 = (bk2 bs r').2 := rfl
  rw [e3, e2]
  have e1 : (tk bs 1 r').2 = (bk1 bs r').2 := rfl
  have ok3 : okR bs (bk3 bs r') := P0 ok'
  have lt3 : (bk3 bs r').k = 0 → r'.k = 0 ∧ r'.i + 3 ≤ (bk3 bs r').i := Py
  have fin : ∀ (h'' : Eng.Heap) (a5 : Option Addr) (c5 : Nat), Part .u8 h'' (.slice a5 (blk bs dl room sz F r' al').2.length c5) (blk bs dl room sz F r' al').2 → Eng.New h0 (.slice a5 (blk bs dl room sz F r' al').2.length c5) → Eng.Sub h0 h'' →
    (∃ (ls kd : Int) (r2 : Rd) (al2 : List Int) (a' : Option Addr) (c' f : Nat), [Value.int .i64 (bk1 bs r').2, .int .i64 (bk2 bs r').2, .slice b1 bs.length d1, .int .i64 (blk bs dl room sz F r' al').1.i, .int .i64 (blk bs dl room sz F r' al').1.k, .slice a5 (blk bs dl room sz F r' al').2.length c5, .int .i64 dl, .int .i64 sz, .int .i64 room] = [.int .i64 ls, .int .i64 kd, .slice b1 bs.length d1, .int .i64 r2.i, .int .i64 r2.k, .slice a' al2.length c', .int .i64 dl, .int .i64 sz, .int .i64 room] ∧ okR bs r2 ∧ Part .u8 h'' (.slice a' al2.length c') al2 ∧ Eng.New h0 (.slice a' al2.length c') ∧ Eng.Sub h0 h'' ∧ (dl ≤ al2.length ∧ al2.length ≤ dl + room) ∧ (r2.k = 0 → ls = 0 → 8 * (bs.length : Int) + 1 ≤ r2.i + f) ∧ (if (0 : Int) ≠ 0 then (r', al') else blF bs dl room sz F (f' + 1) r' al') = (if ls ≠ 0 then (r2, al2) else blF bs dl room sz F f r2 al2)) ∧
    (if (blk bs dl room sz F r' al').1.k = 0 ∧ (bk1 bs r').2 = 0 then (8 * (bs.length : Int) + 1 - (blk bs dl room sz F r' al').1.i).toNat + 1 else 0) < (if r'.k = 0 ∧ (0 : Int) = 0 then (8 * (bs.length : Int) + 1 - r'.i).toNat + 1 else 0) := by
   intro h'' a5 c5 Q1 Q2 Q3
   have hle : le2 (bk3 bs r') (blk bs dl room sz F r' al').1 := Ui
   refine ⟨⟨_, _, _, _, a5, c5, f', rfl, KY ok', Q1, Q2, Q3, Mz hl'.1 hl'.2, fun h _ => ?_, ?_⟩, ?_⟩
   ·have h3 := hle h; have h4 := lt3 h3.1; have := hf hk rfl; push_cast at this; omega
   ·rw [est]
   ·rw [if_pos (show r'.k = 0 ∧ (0 : Int) = 0 from ⟨hk, rfl⟩)]
    split
    ·rename_i h; have h3 := hle h.1; have h4 := lt3 h3.1; omega
    ·omega
  have ebl := Uj (bs := bs) (dl := dl) (room := room) (sz := sz) (F := F) (r := r') (al := al')
  have hb1 : Nv bs dl room (bk3 bs r') (bk2 bs r').2 al' = if (bk3 bs r').k = 0 ∧ (bk2 bs r').2 = 0 then stF bs dl room (bk3 bs r') al' else (bk3 bs r', al') := rfl
  rw [ebl] at fin
  refine ⟨fun hc => ?_, fun hc _ => ?_⟩
  ·have hc : (bk3 bs r').k = 0 ∧ (bk2 bs r').2 = 0 := by simpa using hc
   rw [if_pos hc] at hb1
   rw [hb1] at fin
   refine za.mono (Nu (c := d1) (dl := dl) (sz := sz) (room := room) hi s' hx L (bk3 bs r') ok3 P' N' hl'.1 hl'.2 hdl hr) ?_
   rintro _ h4 ⟨a4, c4, rfl, P4, N4, s4⟩
   have hlen := IJ (bs := bs) (dl := dl) (room := room) (n := (stN bs (bk3 bs r')).toNat) (r := stR bs (bk3 bs r')) hl'.1 hl'.2
   refine ⟨_, _, _, _, _, _, _, _, _, _, _, rfl, fun _ => ?_⟩
   exact RV (c := d1) hi s4 hx L (stF bs dl room (bk3 bs r') al').1 (Pz ok3) P4 N4 hlen.1 hlen.2 hdl hr hsz F hF (bk2 bs r').2 (bk1 bs r').2 _ _ (fun a' c' h' q1 q2 q3 => fin h' a' c' q1 q2 q3) _ _ _ _ _ _ _ _ _ _ _ _ _ _ _ _ _ _ _ _ _ _ _ _ _
  ·have hc : ¬ ((bk3 bs r').k = 0 ∧ (bk2 bs r').2 = 0) := by
    intro h; rw [h.1, h.2] at hc; simp at hc
   rw [if_neg hc] at hb1
   rw [hb1] at fin
   exact RV (c := d1) hi s' hx L (bk3 bs r') ok3 P' N' hl'.1 hl'.2 hdl hr hsz F hF (bk2 bs r').2 (bk1 bs r').2 _ _ (fun a' c' h' q1 q2 q3 => fin h' a' c' q1 q2 q3) _ _ _ _ _ _ _ _ _ _ _ _ _ _ _ _ _ _ _ _ _ _ _ _ _
 ·have hend : ¬ (r'.k = 0 ∧ x0 = 0) := by
   intro h; rw [h.1, h.2] at hend; simp at hend
  have el : (if x0 ≠ 0 then (r', al') else blF bs dl room sz F f r' al') = (r', al') := by
   by_cases h0 : x0 ≠ 0
   ·rw [if_pos h0]
   ·rw [if_neg h0, IL (fun h => hend ⟨h, by omega⟩)]
  rw [el]
  exact ⟨b2, d2, rfl, P', N', s'⟩
end
section
variable {S : Shared} {h h0 : Eng.Heap}
theorem M0 {bs : List Int} {dl room sz F : Nat} : ∀ {f : Nat} {r : Rd} {al : List Int}, dl ≤ al.length → al.length ≤ dl + room → dl ≤ (blF bs dl room sz F f r al).2.length ∧ (blF bs dl room sz F f r al).2.length ≤ dl + room
 | 0, r, al, h1, h2 => ⟨h1, h2⟩
 | f + 1, r, al, h1, h2 => by
  have := Mz (bs := bs) (sz := sz) (F := F) (r := r) h1 h2
  unfold blF
  split
  ·split
   ·exact this
   ·exact M0 this.1 this.2
  ·exact ⟨h1, h2⟩
theorem P7 {bs : List Int} {dl room sz F : Nat} : ∀ {f : Nat} {r : Rd} {al : List Int}, okR bs r → okR bs (blF bs dl room sz F f r al).1
 | 0, r, al, H => H
 | f + 1, r, al, H => by
  unfold blF
  split
  ·split
   ·exact KY H
   ·exact P7 (KY H)
  ·exact H
theorem SN (hi : Eng.Inv S h0) (s : Eng.Sub h0 h) {aa : Option Addr} {ca : Nat} {al : List Int} (P : Part .u8 h (.slice aa al.length ca) al) {dl sz room : Nat} (hd : dl ≤ al.length) (hl : al.length ≤ 2000000) :
  za Tryz.prog S BH #[C4 aa ca al dl sz room] h (fun v h' => Part .u8 h' v (al.drop dl) ∧ Eng.New h0 v ∧ Eng.Sub h0 h') := by
 refine I9 (vs := [.slice aa al.length ca, .int .i64 dl, .int .i64 sz, .int .i64 room]) ⟨rfl, rfl, rfl, rfl, trivial⟩ (hi.sub s) ?_
 simp only [Fb, Tr.wp, Ex.ev, coerce, toInt_int, zb, zi, zl, zj, Ak, Bt, z6, Cst.val, SV.den, List.getD_cons_zero, List.getD_cons_succ, decide_eq_true_eq, List.map_cons, List.map_nil, List.cons_append, List.nil_append]
 intro b hb
 obtain ⟨_, _, ei, hca, gx⟩ := P.ints
 cases ei
 obtain ⟨a', e, H'⟩ := Bo gx (lo := dl) (hi := al.length) (m := ca) hd (Nat.le_refl _) hca
 have hdr : (al.drop dl).take (al.length - dl) = al.drop dl := List.take_of_length_le (by rw [List.length_drop]; omega)
 rw [hdr] at e H'
 rw [Int.toNat_natCast, e]
 have sb : Eng.Sub h (upd h b (.cells (ints .u8 []) 5)) := Sub.zN hb
 refine ⟨by omega, by omega, ?_⟩
 refine xI (xs := []) hi (s.trans sb) (Own.made (k := .u8) (h := h) (b := b) (T := 5) []).part (New.of (zZ s hb)) (H'.sub sb) (by simp only [List.length_nil, List.length_drop]; omega) fun v' h' o n' s' _ _ => ?_
 obtain ⟨a4, c4, rfl, _, _⟩ := o.ints
 rw [List.nil_append] at o n'
 exact ⟨o, n', s'⟩
theorem P8 (hi : Eng.Inv S h) (a : Option Addr) (c : Nat) (ds : List Int) (n room : Nat) (hc : ds.length ≤ c) (hl : ds.length ≤ 1099511627776) (hn : n ≤ 32768) (hx : zn h .u8 a ds) :
  za Tryz.prog S An #[.int .i64 n, .slice a ds.length c, .int .i64 room] h (fun v h' => ∃ a' c', v = C4 a' c' (zC n ds) (zC n ds).length n room ∧ Part .u8 h' (.slice a' (zC n ds).length c') (zC n ds) ∧ Eng.New h (.slice a' (zC n ds).length c') ∧ Eng.Sub h h') := by
 refine GC (vs := [.int .i64 n, .slice a ds.length c, .int .i64 room]) ⟨rfl, rfl, rfl, trivial⟩ hi ?_
 simp only [Dp, Tr.wp, zG, Ex.ev, coerce, toInt_int, zi, zl, zj, SV.den, zw, zV, z7, zp, zm, z4, List.flatMap_cons, List.flatMap_nil, List.getD_cons_zero, List.getD_cons_succ, List.map_cons, List.map_nil, List.cons_append, List.nil_append, List.append_nil, if_false, Bool.false_eq_true]
 refine (QY hi a c ds n hc hl hn hx).mono ?_
 rintro v1 h1 ⟨O1, N1, s1⟩
 obtain ⟨a1, c1, rfl, _, _⟩ := Part.ints O1
 exact ⟨_, _, _, rfl, a1, c1, rfl, O1, N1, s1⟩
end
end Go.Proofs.YteaonnfokkfnlaaGreatDoor
end
section
namespace Go.Proofs.YteaonnfokkfnlaaGreatDoor
open Go Go.Eng Go.IntWalk
section
variable {S : Shared} {h h0 : Eng.Heap}
theorem P9 : ∀ s : Fin 285, 265 ≤ s.1 → 0 ≤ IntKind.i64.wrap (IntKind.i64.wrap ((IntKind.i64.wrap ((s.1 : Int) - 265)).tdiv 4) + 1) ∧
  IntKind.i64.wrap (IntKind.i64.wrap (IntKind.i64.wrap (4 + (IntKind.i64.wrap ((s.1 : Int) - 265)).tmod 4) * 2 ^ min (IntKind.i64.wrap (IntKind.i64.wrap ((IntKind.i64.wrap ((s.1 : Int) - 265)).tdiv 4) + 1)).toNat IntKind.i64.bits) + 3) = ((yN s.1).1 : Int) ∧
  IntKind.i64.wrap (IntKind.i64.wrap ((IntKind.i64.wrap ((s.1 : Int) - 265)).tdiv 4) + 1) = ((yN s.1).2 : Int) := by decide +kernel
theorem PC : ∀ d : Fin 30, 4 ≤ d.1 → 0 ≤ IntKind.i64.wrap (IntKind.i64.wrap ((d.1 : Int).tdiv 2) - 1) ∧
  IntKind.i64.wrap (IntKind.i64.wrap (IntKind.i64.wrap (2 + (d.1 : Int).tmod 2) * 2 ^ min (IntKind.i64.wrap (IntKind.i64.wrap ((d.1 : Int).tdiv 2) - 1)).toNat IntKind.i64.bits) + 1) = ((xo d.1).1 : Int) ∧
  IntKind.i64.wrap (IntKind.i64.wrap ((d.1 : Int).tdiv 2) - 1) = ((xo d.1).2 : Int) := by decide +kernel
theorem Ny (hi : Eng.Inv S h) (s : Nat) (h1 : 257 ≤ s) (h2 : s ≤ 285) :
  za Tryz.prog S wO #[.int .i64 s] h (fun v h' => v = .tuple #[.int .i64 (yN s).1, .int .i64 (yN s).2] ∧ h' = h) := by
 refine Gi (vs := [.int .i64 s]) ⟨rfl, trivial⟩ hi ?_
 simp only [Cy, Tr.wp, Ex.ev, coerce, toInt_int, zb, z6, arith, Cst.val, SV.den, List.getD_cons_zero, decide_eq_true_eq, decide_eq_false_iff_not, List.map_cons, List.map_nil, and_true, if_false, Bool.false_eq_true]
 refine ⟨fun he => ?_, fun hne => ⟨fun hlt => ?_, fun hge => ?_⟩⟩
 ·obtain rfl : s = 285 := by have : (s : Int) = 285 := beq_iff_eq.1 he; omega
  rfl
 ·have e : yN s = (s - 254, 0) := by unfold yN; rw [if_neg (by omega), if_pos (by omega)]
  rw [e, i64_in ((s : Int) - 254) (by omega)]
  first | rfl | (rw [show ((s - 254 : Nat) : Int) = (s : Int) - 254 by omega]; rfl)
 ·have hne : s ≠ 285 := fun e => by subst e; simp at hne
  obtain ⟨a1, a2, a3⟩ := P9 ⟨s, by omega⟩ (by simp only; omega)
  simp only at a1 a2 a3
  rw [a2, a3]
  exact ⟨by simp, rfl⟩
theorem Rc (hi : Eng.Inv S h) (d : Nat) (h1 : d ≤ 29) :
  za Tryz.prog S Bd #[.int .i64 d] h (fun v h' => v = .tuple #[.int .i64 (xo d).1, .int .i64 (xo d).2] ∧ h' = h) := by
 refine HU (vs := [.int .i64 d]) ⟨rfl, trivial⟩ hi ?_
 simp only [E1, Tr.wp, Ex.ev, coerce, toInt_int, zb, z6, arith, Cst.val, SV.den, List.getD_cons_zero, decide_eq_true_eq, decide_eq_false_iff_not, List.map_cons, List.map_nil, and_true, if_false, Bool.false_eq_true]
 refine ⟨fun hlt => ?_, fun hge => ?_⟩
 ·have e : xo d = (d + 1, 0) := by unfold xo; rw [if_pos (by omega)]
  rw [e, i64_in ((d : Int) + 1) (by omega)]
  first | exact rfl | (push_cast; rfl)
 ·obtain ⟨a1, a2, a3⟩ := PC ⟨d, by omega⟩ (by simp only; omega)
  simp only at a1 a2 a3
  rw [a2, a3]
  exact ⟨by simp, rfl⟩
end
section
variable {S : Shared} {h h0 : Eng.Heap}
structure ErrL (h : Eng.Heap) : Prop where
 es : Errs h
 e6 : ze h ⟨5, 0, none⟩ = some (.int .i64 6)
theorem ErrL.sub {h' : Eng.Heap} (H : ErrL h) (s : Eng.Sub h h') : ErrL h' := ⟨H.es.sub s, je s H.e6⟩
structure KC where
 a : Option Addr
 c : Nat
 bs : List Int
 dl : Nat
 room : Nat
 sz : Nat
 T : TypeId
 TW : TypeId
 bm : Nat
 bw : Nat
 pre : List Int
def KC.otl (k : KC) (al : List Int) : List Int := k.pre ++ al.drop k.dl
theorem KC.M3 {k : KC} {al : List Int} : (k.otl al).length = k.pre.length + (al.length - k.dl) := by unfold KC.otl; rw [List.length_append, List.length_drop]
theorem KC.M4 {k : KC} {al ys : List Int} (h : k.dl ≤ al.length) : k.otl (al ++ ys) = k.otl al ++ ys := by unfold KC.otl; rw [List.drop_append_of_le_length h, List.append_assoc]
def yU (k : KC) (al : List Int) (out : Value) (last : Bool) (l d : Value) : MC := ⟨.pointer (some ⟨k.bw, 0, none⟩), out, (k.room : Int) - ((al.length - k.dl : Nat) : Int), last, l, d⟩
structure IM (h0 h : Eng.Heap) (k : KC) (r : Rd) (al : List Int) (last : Bool) (l d : Value) : Prop where
 mt : ∃ (p : Nat) (ao : Option Addr) (co : Nat), p ≤ 8 * k.bs.length ∧ (r.k = 0 → r.i = p) ∧ h k.bm = some (z9 k.a k.c k.bs p (yU k al (.slice ao (k.otl al).length co) last l d) k.T) ∧
  Part .u8 h (.slice ao (k.otl al).length co) (k.otl al) ∧ Eng.New (mkL h0 [k.bm, k.bw]) (.slice ao (k.otl al).length co)
 rg : RingAt h0 h k.bw k.TW k.sz (zC k.sz al)
 nm : h0 k.bm = none
 ne : k.bm ≠ k.bw
 sb : Eng.Sub h0 h
 le : k.dl ≤ al.length ∧ al.length ≤ k.dl + k.room ∧ k.pre.length ≤ 100000
section
variable {k : KC} {r : Rd} {al : List Int} {last : Bool} {l d : Value}
theorem IM.xv (N : Eng.New (mkL h0 [k.bm, k.bw]) l) {z : Nat} (hz : zq l = some z) : z ≠ k.bm ∧ z ≠ k.bw ∧ h0 z = none := by
 obtain ⟨h1, h2⟩ := qW.1 (N z hz)
 simp only [List.mem_cons, List.not_mem_nil, or_false, not_or] at h1
 exact ⟨h1.1, h1.2, h2⟩
theorem IM.KZ (H : IM h0 h k r al last l d) {r' : Rd} {last' : Bool} {l' d' : Value} {p : Nat} {ao : Option Addr} {co : Nat} (hp : p ≤ 8 * k.bs.length) (hr : r'.k = 0 → r'.i = p) (P : Part .u8 h (.slice ao (k.otl al).length co) (k.otl al)) (N : Eng.New (mkL h0 [k.bm, k.bw]) (.slice ao (k.otl al).length co)) :
  IM h0 (upd h k.bm (z9 k.a k.c k.bs p (yU k al (.slice ao (k.otl al).length co) last' l' d') k.T)) k r' al last' l' d' := by
 obtain ⟨dd, at_, n, hb, R, s, hn⟩ := H.rg
 have sb := xq (o := z9 k.a k.c k.bs p (yU k al (.slice ao (k.otl al).length co) last' l' d') k.T) H.sb H.nm
 exact ⟨⟨p, ao, co, hp, hr, upd_same, P.keep fun z hz => upd_ne (IM.xv N hz).1, N⟩, ⟨dd, at_, n, (upd_ne (Ne.symm H.ne)).trans hb, R, sb, hn⟩, H.nm, H.ne, sb, H.le⟩
theorem Cg (hi : Eng.Inv S h0) (G : Errs h0) (hx : zn h0 .u8 k.a k.bs) (L : k.bs.length ≤ 1048576) (H : IM h0 h k r al last l d) (hk : r.k = 0) (n : Nat) (hn : n ≤ 32) :
  za Tryz.prog S zM #[.pointer (some ⟨k.bm, 0, none⟩), .int .i64 n] h (fun v h' => v = .tuple #[.int .i64 (tk k.bs n r).2, zX (tk k.bs n r).1.k] ∧ IM h0 h' k (tk k.bs n r).1 al last l d) := by
 obtain ⟨p, ao, co, hp, hr, hb, P, N⟩ := H.mt
 obtain ⟨i, kk⟩ := r
 obtain rfl : kk = 0 := hk
 obtain rfl : i = (p : Int) := hr rfl
 refine za.mono (GK hi G hx L p hp n hn ⟨hb, H.nm, H.sb⟩) ?_
 rintro _ h1 ⟨rfl, rfl⟩
 have hp2 : ∃ p2 : Nat, p2 ≤ 8 * k.bs.length ∧ (tk k.bs n ⟨(p : Int), 0⟩).1.i = p2 := by
  unfold tk
  rw [if_pos rfl]
  split
  ·exact ⟨p, hp, rfl⟩
  ·rename_i h; simp only at h; exact ⟨p + n, by omega, by simp only; omega⟩
 obtain ⟨p2, hp2, e2⟩ := hp2
 rw [e2]
 exact ⟨rfl, H.KZ hp2 (fun _ => e2) P N⟩
theorem F1 {h' : Eng.Heap} {kk : IntKind} {a : Option Addr} {n c : Nat} {xs : List Int} (H : zn h kk a xs) (hk : ∀ z, zq (.slice a n c) = some z → h' z = h z) : zn h' kk a xs := fun i x hx => by
 obtain ⟨ad, rfl, g1⟩ := H i x hx
 have e := hk ad.block rfl
 have blk : ∀ n, (ad.add n).block = ad.block := fun n => by unfold Addr.add; split <;> rfl
 refine ⟨ad, rfl, ?_⟩
 rw [← g1]; unfold Eng.ze
 rw [show h' (ad.add _).block = h (ad.add _).block by rw [blk]; exact e]
theorem M5 {bm : Nat} {a : Option Addr} {c : Nat} {bs : List Int} {m : MC} {T : TypeId} {p q : Int} (hb : h bm = some (z9 a c bs p m T)) : z5 h ⟨bm, 4, none⟩ (.int .i64 q) = upd h bm (z9 a c bs p ⟨m.w, m.out, q, m.last, m.l, m.d⟩ T) := by
 rw [hset_cells' hb]; rfl
theorem La {bm : Nat} {a : Option Addr} {c : Nat} {bs : List Int} {m : MC} {T : TypeId} {p : Int} {v : Value} (hb : h bm = some (z9 a c bs p m T)) : z5 h ⟨bm, 3, none⟩ v = upd h bm (z9 a c bs p ⟨m.w, v, m.rm, m.last, m.l, m.d⟩ T) := by
 rw [hset_cells' hb]; rfl
theorem PD (hi : Eng.Inv S h0) (G : ErrL h0) (hro : k.room ≤ 200000) (hdl : k.dl ≤ 40000) (H : IM h0 h k r al last l d) (hk : r.k = 0) {ad : Option Addr} {cd : Nat} {ys : List Int} (hy : zn h .u8 ad ys) (hyc : ys.length ≤ cd) (hyl : ys.length ≤ 1000) (hyn : ∀ z, zq (.slice ad ys.length cd) = some z → z ≠ k.bm ∧ z ≠ k.bw ∧ (∀ p ao co, h k.bm = some (z9 k.a k.c k.bs p (yU k al (.slice ao (k.otl al).length co) last l d) k.T) → zq (.slice ao (k.otl al).length co) ≠ some z)) :
  za Tryz.prog S jc #[.pointer (some ⟨k.bm, 0, none⟩), .slice ad ys.length cd] h (fun v h' => v = zX (tell k.dl k.room r al ys).1.k ∧ IM h0 h' k (tell k.dl k.room r al ys).1 (tell k.dl k.room r al ys).2 last l d) := by
 obtain ⟨p, ao, co, hp, hr, hb, P, N⟩ := H.mt
 refine CN (vs := [.pointer (some ⟨k.bm, 0, none⟩), .slice ad ys.length cd]) ⟨rfl, rfl, trivial⟩ (hi.sub H.sb) ?_
 simp only [wR, Tr.wp, zG, Ex.ev, coerce, toInt_int, zb, zi, zl, zj, zh, yb, yQ, z6, arith, Cst.val, SV.den, zw, zV, z7, zp, z4, zu, yd, List.flatMap_nil, List.getD_cons_zero, List.getD_cons_succ, decide_eq_true_eq, decide_eq_false_iff_not, List.map_cons, List.map_nil, List.cons_append, List.nil_append, Nat.zero_add, Nat.add_zero, and_true, if_true, zo]
 obtain ⟨g0, g1, g2, g3, g4, _⟩ := yC hb
 have hsb : ¬ S k.bm := fun hs => hi k.bm hs H.nm
 refine ⟨by simp, _, g4, fun hgt => ?_, fun hle => ?_⟩
 ·have hgt : k.room < al.length - k.dl + ys.length := by simp only [yU] at hgt; have := H.le; omega
  have et : tell k.dl k.room r al ys = (⟨r.i, 6⟩, al) := by unfold tell; rw [if_pos hk, if_pos hgt]
  rw [et]
  refine ⟨6, (G.sub H.sb).e6, rfl, ?_⟩
  have H' := H.KZ (r' := ⟨r.i, 6⟩) (last' := last) (l' := l) (d' := d) hp (fun h => by cases h) P N
  rwa [ky hb] at H'
 ·have hle : ¬ k.room < al.length - k.dl + ys.length := by simp only [yU] at hle; have := H.le; omega
  have et : tell k.dl k.room r al ys = (r, al ++ ys) := by unfold tell; rw [if_pos hk, if_neg hle]
  rw [et]
  have hrm : IntKind.i64.wrap ((yU k al (.slice ao (k.otl al).length co) last l d).rm - (ys.length : Int)) = (k.room : Int) - (((al ++ ys).length - k.dl : Nat) : Int) := by
   have := H.le
   simp only [yU, List.length_append]
   rw [i64_in _ (by omega)]; omega
  refine ⟨by simp, _, g4, by simp, jY hb hsb g4, by simp, ?_⟩
  rw [hrm, M5 hb]
  obtain ⟨h1, hh1⟩ : ∃ h1, h1 = upd h k.bm (z9 k.a k.c k.bs p ⟨(yU k al (.slice ao (k.otl al).length co) last l d).w, (yU k al (.slice ao (k.otl al).length co) last l d).out, (k.room : Int) - (((al ++ ys).length - k.dl : Nat) : Int), (yU k al (.slice ao (k.otl al).length co) last l d).last, (yU k al (.slice ao (k.otl al).length co) last l d).l, (yU k al (.slice ao (k.otl al).length co) last l d).d⟩ k.T) := ⟨_, rfl⟩
  rw [← hh1]
  have hb1 : h1 k.bm = some (z9 k.a k.c k.bs p ⟨.pointer (some ⟨k.bw, 0, none⟩), .slice ao (k.otl al).length co, (k.room : Int) - (((al ++ ys).length - k.dl : Nat) : Int), last, l, d⟩ k.T) := by rw [hh1, upd_same]; rfl
  obtain ⟨_, _, _, q3, _⟩ := yC hb1
  have hone : ∀ z, z ≠ k.bm → h1 z = h z := fun z hz => by rw [hh1]; exact upd_ne hz
  have s1 : Eng.Sub h0 h1 := by rw [hh1]; exact xq H.sb H.nm
  have P1 : Part .u8 h1 (.slice ao (k.otl al).length co) (k.otl al) := P.keep fun z hz => hone z (IM.xv N hz).1
  have hy1 : zn h1 .u8 ad ys := F1 (n := ys.length) (c := cd) hy fun z hz => hone z (hyn z hz).1
  refine ⟨_, _, _, q3, ?_⟩
  have hdl2 : (k.otl al).length ≤ 300000 := by rw [KC.M3]; have := H.le; omega
  refine xI hi s1 P1 (fun z hz => (IM.xv N hz).2.2) hy1 (by omega) fun v5 h5 o5 n5 s5 k5 r5 => ?_
  obtain ⟨a5, c5, rfl, _, _⟩ := o5.ints
  simp only [zj, zi, zl]
  have hb5 : h5 k.bm = some (z9 k.a k.c k.bs p ⟨.pointer (some ⟨k.bw, 0, none⟩), .slice ao (k.otl al).length co, (k.room : Int) - (((al ++ ys).length - k.dl : Nat) : Int), last, l, d⟩ k.T) := (k5 k.bm (by rw [hb1]; simp) (fun e => (IM.xv N e).1 rfl)).trans hb1
  obtain ⟨_, _, _, w3, _⟩ := yC hb5
  refine ⟨by simp, jY hb5 hsb w3, by simp, ?_⟩
  rw [La hb5]
  obtain ⟨h6, hh6⟩ : ∃ h6, h6 = upd h5 k.bm (z9 k.a k.c k.bs p ⟨.pointer (some ⟨k.bw, 0, none⟩), .slice a5 (k.otl al ++ ys).length c5, (k.room : Int) - (((al ++ ys).length - k.dl : Nat) : Int), last, l, d⟩ k.T) := ⟨_, rfl⟩
  rw [← hh6]
  have hb6 : h6 k.bm = some (z9 k.a k.c k.bs p ⟨.pointer (some ⟨k.bw, 0, none⟩), .slice a5 (k.otl al ++ ys).length c5, (k.room : Int) - (((al ++ ys).length - k.dl : Nat) : Int), last, l, d⟩ k.T) := by rw [hh6, upd_same]
  obtain ⟨_, _, u2, _⟩ := yC hb6
  have h65 : ∀ z, z ≠ k.bm → h6 z = h5 z := fun z hz => by rw [hh6]; exact upd_ne hz
  have s6 : Eng.Sub h0 h6 := by rw [hh6]; exact xq s5 H.nm
  obtain ⟨dd, at_, nn, hbw, R, sR, hnw⟩ := H.rg
  have hbw1 : h1 k.bw = some (zY k.sz dd at_ nn k.TW) := (hone k.bw (Ne.symm H.ne)).trans hbw
  have hbw5 : h5 k.bw = some (zY k.sz dd at_ nn k.TW) := (k5 k.bw (by rw [hbw1]; simp) (fun e => (IM.xv N e).2.1 rfl)).trans hbw1
  have R6 : RingAt h0 h6 k.bw k.TW k.sz (zC k.sz al) := ⟨dd, at_, nn, (h65 k.bw (Ne.symm H.ne)).trans hbw5, R, s6, hnw⟩
  have nv : ∀ z, zq (.slice a5 (k.otl al ++ ys).length c5) = some z → z ≠ k.bm ∧ z ≠ k.bw := fun z hz => by
   rcases r5 with r5 | r5
   ·have := IM.xv N (r5 ▸ hz); exact ⟨this.1, this.2.1⟩
   ·have := r5 z hz
    exact ⟨fun e => (by rw [e, hb1] at this; cases this), fun e => (by rw [e, hbw1] at this; cases this)⟩
  have hy6 : zn h6 .u8 ad ys := by
   by_cases hys : ys = []
   ·rw [hys]; exact fun i x hx => by simp at hx
   refine F1 (n := ys.length) (c := cd) hy1 fun z hz => ?_
   obtain ⟨z1, z2, z3⟩ := hyn z hz
   rw [h65 z z1]
   refine k5 z ?_ (z3 p ao co hb)
   obtain ⟨y0, hy0⟩ : ∃ y0, ys[0]? = some y0 := by
    cases ys with
    | nil => exact absurd rfl hys
    | cons y0 yr => exact ⟨y0, rfl⟩
   obtain ⟨ad', e', g'⟩ := hy1 0 y0 hy0
   rw [e'] at hz
   have ez : ad'.block = z := by simpa [zq] using hz
   rw [← ez]
   intro hn
   unfold Eng.ze at g'
   have blk : (ad'.add 0).block = ad'.block := by unfold Addr.add; split <;> rfl
   rw [blk, hn] at g'; cases g'
  refine ⟨_, u2, ?_⟩
  refine za.mono (Nq hi R6 ad cd ys hyc (by omega) fun h' hh => F1 (n := ys.length) (c := cd) hy6 fun z hz => hh z (hyn z hz).2.1) ?_
  rintro _ h7 ⟨rfl, R7, hk7⟩
  rw [AE] at R7
  have ed : k.otl (al ++ ys) = k.otl al ++ ys := KC.M4 H.le.1
  refine ⟨rfl, by rw [hk]; rfl, ⟨p, a5, c5, hp, hr, ?_, ?_, ?_⟩, R7, H.nm, H.ne, R7.sub, ?_⟩
  ·rw [hk7 k.bm H.ne, hb6, ed]; rfl
  ·rw [ed]
   exact o5.keep fun z hz => (hk7 z (nv z hz).2).trans (h65 z (nv z hz).1)
  ·rw [ed]
   exact fun z hz => qW.2 ⟨by simp [(nv z hz).1, (nv z hz).2], n5 z hz⟩
  ·have := H.le
   simp only [List.length_append]; omega
end
end
section
variable {S : Shared} {h h0 hb : Eng.Heap}
def fnV (k : KC) (f : Nat) : Value := .func (.func f) #[.pointer (some ⟨k.bm, 0, none⟩)] #[]
def cont (k : KC) (F f : Nat) (last : Bool) (X : Rd × List Int) : Rd × List Int := if last = true then X else blF k.bs k.dl k.room k.sz F f X.1 X.2
theorem xF {k : KC} {F f : Nat} {last : Bool} {X : Rd × List Int} (h : X.1.k ≠ 0) : cont k F f last X = X := by
 unfold cont
 split
 ·rfl
 ·exact IL h
def Lb (h0 hb : Eng.Heap) (l d : Value) (cl cd : List (Nat × Nat)) : Prop :=
 ∃ (b1 b2 : Nat) (T1 P1 T2 P2 : List (Nat × Nat)) (a1 a2 : Option Addr) (c1 c2 : Nat), l = .pointer (some ⟨b1, 0, none⟩) ∧ d = .pointer (some ⟨b2, 0, none⟩) ∧
  TabV h0 hb b1 T1 P1 a1 c1 (Em cl cl.length) (Ym cl cl.length) ∧ TabV h0 hb b2 T2 P2 a2 c2 (Em cd cd.length) (Ym cd cd.length) ∧ T1.length ≤ 20000 ∧ T2.length ≤ 20000 ∧ (∀ c ∈ cl, c.1 ≤ 15) ∧ (∀ c ∈ cd, c.1 ≤ 15) ∧ cl.length ≤ 1000 ∧ cd.length ≤ 1000
def mz (k : KC) (r : Rd) : Nat := 4 * (8 * (k.bs.length : Int) + 8 - r.i).toNat
theorem FR {k : KC} {r rr : Rd} {m : Nat} (h : r.i + m ≤ rr.i) (h2 : rr.i ≤ 8 * (k.bs.length : Int)) : mz k rr + 4 * m ≤ mz k r := by unfold mz; omega
def Uk (h0 hb : Eng.Heap) (k : KC) (F : Nat) (Fin : Rd × List Int) (v : Value) (r : Rd) (al : List Int) (last : Bool) (l d : Value) (n : Nat) : Prop :=
  ∃ f : Nat, 8 * (k.bs.length : Int) + 1 ≤ r.i + f ∧
   ((v = fnV k yo ∧ n = mz k r + 0 ∧ Fin = blF k.bs k.dl k.room k.sz F f r al) ∨
    (v = fnV k xH ∧ n = mz k r + 3 ∧ Fin = cont k F f last (stF k.bs k.dl k.room r al)) ∨
    (v = fnV k xN ∧ n = mz k r + 3 ∧ Fin = cont k F f last (syF k.bs (zd yT) (zd jZ) k.dl k.room k.sz F r al)) ∨
    (v = fnV k x7 ∧ n = mz k r + 3 ∧ Fin = cont k F f last (if (zU k.bs r).1.k ≠ 0 then ((zU k.bs r).1, al) else syF k.bs (zd (zU k.bs r).2.1) (zd (zU k.bs r).2.2) k.dl k.room k.sz F (zU k.bs r).1 al)) ∨
    (v = fnV k yq ∧ n = mz k r + 2 ∧ ∃ (cl cd : List (Nat × Nat)) (f' : Nat), Lb h0 hb l d cl cd ∧ 8 * (k.bs.length : Int) + 1 ≤ r.i + f' ∧ Fin = cont k F f last (syF k.bs cl cd k.dl k.room k.sz f' r al)) ∨
    (v = fnV k xd ∧ n = mz k r + 1 ∧ Fin = cont k F f last (r, al)) ∨
    (v = .nilFunc ∧ n = mz k r + 0 ∧ Fin = (r, al)))
def C6 (h0 : Eng.Heap) (k : KC) (F : Nat) (Fin : Rd × List Int) (B : Nat) (v : Value) (h' : Eng.Heap) : Prop :=
 ∃ (nx : Value) (rr : Rd) (al' : List Int) (hb : Eng.Heap) (last : Bool) (l d : Value), v = .tuple #[nx, zX rr.k] ∧ Eng.Sub h0 hb ∧ IM hb h' k rr al' last l d ∧ okR k.bs rr ∧
  (rr.k ≠ 0 → Fin = (rr, al') ∧ (nx = .nilFunc ∨ ∃ f, nx = fnV k f)) ∧ (rr.k = 0 → ∃ n, n < B ∧ Uk h0 hb k F Fin nx rr al' last l d n)
section
variable {k : KC} {r : Rd} {al : List Int} {last : Bool} {l d : Value} {F : Nat} {Fin : Rd × List Int}
theorem Re (hi : Eng.Inv S h0) (sb : Eng.Sub h0 hb) (H : IM hb h k r al last l d) (hk : r.k = 0) (ok : okR k.bs r) (f : Nat) (hf : 8 * (k.bs.length : Int) + 1 ≤ r.i + f) {B : Nat} (hB : mz k r + 1 ≤ B) (hF : Fin = cont k F f last (r, al)) :
  za Tryz.prog S xd #[.pointer (some ⟨k.bm, 0, none⟩)] h (C6 h0 k F Fin B) := by
 refine BU (vs := [.pointer (some ⟨k.bm, 0, none⟩)]) ⟨rfl, trivial⟩ (hi.sub (sb.trans H.sb)) ?_
 simp only [qH, Tr.wp, Ex.ev, coerce, zb, zh, yb, yQ, Cst.val, SV.den, z4, zu, List.getD_cons_zero, List.getD_cons_succ, List.map_cons, List.map_nil, List.cons_append, List.nil_append, Nat.zero_add, Nat.add_zero, and_true, if_false, Bool.false_eq_true, zo]
 obtain ⟨p, ao, co, hp, hr, hbm, P, N⟩ := H.mt
 obtain ⟨_, _, _, _, _, g5, _⟩ := yC hbm
 have ez : zX r.k = .nilIface := by rw [hk]; rfl
 refine ⟨by simp, last, g5, fun hl => ?_, fun hl => ?_⟩
 ·refine ⟨.nilFunc, r, al, hb, last, l, d, by rw [ez], sb, H, ok, fun h => absurd hk h, fun _ => ⟨_, (by omega : mz k r + 0 < B), f, hf, .inr (.inr (.inr (.inr (.inr (.inr ⟨rfl, rfl, ?_⟩)))))⟩⟩
  rw [hF, cont, if_pos hl]
 ·refine ⟨fnV k yo, r, al, hb, last, l, d, by rw [ez]; rfl, sb, H, ok, fun h => absurd hk h, fun _ => ⟨_, (by omega : mz k r + 0 < B), f, hf, .inl ⟨rfl, rfl, ?_⟩⟩⟩
  rw [hF, cont, if_neg (by rw [hl]; decide)]
theorem PE {bs : List Int} {n : Nat} {r : Rd} (h : r.k ≠ 0) : tk bs n r = (r, 0) := by unfold tk; rw [if_neg h]
theorem AS {w : Bool} {r : Rd} (h : r.k ≠ 0) : bd w r = r := by unfold bd; rw [if_neg (fun e => h e.1)]
theorem PH {bm : Nat} {a : Option Addr} {c : Nat} {bs : List Int} {m : MC} {T : TypeId} {p : Int} {w : Bool} (hb : h bm = some (z9 a c bs p m T)) : z5 h ⟨bm, 5, none⟩ (.bool w) = upd h bm (z9 a c bs p ⟨m.w, m.out, m.rm, w, m.l, m.d⟩ T) := by
 rw [hset_cells' hb]; rfl
theorem IM.FT (H : IM hb h k r al last l d) {r' : Rd} (hr : r'.k ≠ 0) : IM hb h k r' al last l d := by
 obtain ⟨p, ao, co, hp, _, hbm, P, N⟩ := H.mt
 exact ⟨⟨p, ao, co, hp, fun h => absurd h hr, hbm, P, N⟩, H.rg, H.nm, H.ne, H.sb, H.le⟩
theorem IM.SO (H : IM hb h k r al last l d) (w : Bool) (hsb : ¬ S k.bm) : x8 S h ⟨k.bm, 5, none⟩ ∧ IM hb (z5 h ⟨k.bm, 5, none⟩ (.bool w)) k r al w l d := by
 obtain ⟨p, ao, co, hp, hr, hbm, P, N⟩ := H.mt
 obtain ⟨_, _, _, _, _, g5, _⟩ := yC hbm
 refine ⟨jY hbm hsb g5, ?_⟩
 rw [PH hbm]
 exact H.KZ hp hr P N
theorem SP (hi : Eng.Inv S h0) (G : Errs h0) (hx : zn h0 .u8 k.a k.bs) (L : k.bs.length ≤ 1048576) (sb : Eng.Sub h0 hb) (H : IM hb h k r al last l d) (hk : r.k = 0) (ok : okR k.bs r) (f : Nat) (hf : 8 * (k.bs.length : Int) + 1 ≤ r.i + f) {B : Nat} (hB : mz k r + 0 ≤ B) (hF : Fin = blF k.bs k.dl k.room k.sz F f r al) :
  za Tryz.prog S yo #[.pointer (some ⟨k.bm, 0, none⟩)] h (C6 h0 k F Fin B) := by
 refine Cl (vs := [.pointer (some ⟨k.bm, 0, none⟩)]) ⟨rfl, trivial⟩ (hi.sub (sb.trans H.sb)) ?_
 simp only [wh, Tr.wp, zG, Ex.ev, coerce, toInt_int, zb, zh, yb, yQ, z6, Cst.val, SV.den, zw, zV, z7, zp, zm, z4, zu, yd, List.flatMap_cons, List.flatMap_nil, List.getD_cons_zero, List.getD_cons_succ, List.map_cons, List.map_nil, List.cons_append, List.nil_append, List.append_nil, List.length_cons, List.length_nil, Nat.zero_add, Nat.add_zero, and_true, if_true, if_false, Bool.false_eq_true, zo]
 have hib := hi.sub sb
 have hsb : ¬ S k.bm := fun hs => hib k.bm hs H.nm
 have hpos := ok hk
 obtain ⟨f', rfl⟩ : ∃ f', f = f' + 1 := ⟨f - 1, by omega⟩
 have eF : Fin = cont k F f' ((bk1 k.bs r).2 == 1) (blk k.bs k.dl k.room k.sz F r al) := by
  rw [hF, blF, if_pos hk]
  have n1 := yf (bs := k.bs) (n := 1) (r := r)
  have q1 : (2 : Int) ^ 1 = 2 := by decide
  have e1 : (tk k.bs 1 r).2 = (bk1 k.bs r).2 := rfl
  rw [e1, q1] at n1
  unfold cont
  by_cases h1 : (bk1 k.bs r).2 = 1
  ·rw [if_pos (show (bk1 k.bs r).2 ≠ 0 by omega), if_pos (by rw [h1]; rfl)]
  ·rw [if_neg (show ¬ (bk1 k.bs r).2 ≠ 0 by omega), if_neg (by simpa using h1)]
 have ok1 : okR k.bs (bk1 k.bs r).1 := y9 ok
 refine za.mono (Cg hib (G.sub sb) (hx.sub sb) L H hk 1 (by omega)) ?_
 rintro _ h1 ⟨rfl, H1⟩
 refine ⟨_, zX (tk k.bs 1 r).1.k, zc, by rw [zc], fun hz => ?_, fun hz => ?_⟩
 ·rw [zc, zz] at hz
  have hk1 : (bk1 k.bs r).1.k ≠ 0 := by simpa [bk1] using hz
  refine ⟨.nilFunc, (bk1 k.bs r).1, al, hb, last, l, d, by rw [zc]; rfl, sb, H1, ok1, fun _ => ⟨?_, .inl rfl⟩, fun h => absurd h hk1⟩
  have e2 : bk2 k.bs r = ((bk1 k.bs r).1, 0) := PE hk1
  have e3 : bk3 k.bs r = (bk1 k.bs r).1 := by unfold bk3; rw [e2]; exact AS hk1
  have eb : blk k.bs k.dl k.room k.sz F r al = ((bk1 k.bs r).1, al) := by unfold blk; rw [e3, if_pos hk1]
  rw [eF, eb, xF hk1]
 ·rw [zc, zz] at hz
  have hk1 : (bk1 k.bs r).1.k = 0 := by simpa [bk1] using hz
  obtain ⟨oc, H2⟩ := H1.SO (S := S) ((tk k.bs 1 r).2 == 1) hsb
  refine ⟨by simp, oc, ?_⟩
  refine za.mono (Cg hib (G.sub sb) (hx.sub sb) L H2 hk1 2 (by omega)) ?_
  rintro _ h3 ⟨rfl, H3⟩
  have ok2 : okR k.bs (bk2 k.bs r).1 := y9 ok1
  have n2 := yf (bs := k.bs) (n := 2) (r := (bk1 k.bs r).1)
  have q2 : (2 : Int) ^ 2 = 4 := by decide
  have e2 : tk k.bs 2 (tk k.bs 1 r).1 = bk2 k.bs r := rfl
  have e2' : tk k.bs 2 (bk1 k.bs r).1 = bk2 k.bs r := rfl
  have e1 : (tk k.bs 1 r).2 = (bk1 k.bs r).2 := rfl
  rw [e2', q2] at n2
  rw [e2, e1] at H3
  rw [e2]
  refine ⟨_, zX (bk2 k.bs r).1.k, zc, by rw [zc], fun hz => ?_, fun hz => ?_⟩
  ·rw [zc, zz] at hz
   have hk2 : (bk2 k.bs r).1.k ≠ 0 := by simpa using hz
   refine ⟨.nilFunc, (bk2 k.bs r).1, al, hb, _, l, d, by rw [zc], sb, H3, ok2, fun _ => ⟨?_, .inl rfl⟩, fun h => absurd h hk2⟩
   have e3 : bk3 k.bs r = (bk2 k.bs r).1 := AS hk2
   have eb : blk k.bs k.dl k.room k.sz F r al = ((bk2 k.bs r).1, al) := by unfold blk; rw [e3, if_pos hk2]
   rw [eF, eb, xF hk2]
  ·rw [zc, zz] at hz
   have hk2 : (bk2 k.bs r).1.k = 0 := by simpa using hz
   have ez : zX (bk2 k.bs r).1.k = .nilIface := by rw [hk2]; rfl
   have good : (bk2 k.bs r).2 ≠ 3 → bk3 k.bs r = (bk2 k.bs r).1 ∧ 8 * (k.bs.length : Int) + 1 ≤ (bk2 k.bs r).1.i + f' ∧ mz k (bk2 k.bs r).1 + 3 < B := fun h => by
    have e3 : bk3 k.bs r = (bk2 k.bs r).1 := by unfold bk3 bd; rw [if_neg (fun e => h (by simpa using e.2))]
    have := Py (bs := k.bs) (r := r) (by rw [e3]; exact hk2)
    rw [e3] at this
    have hm := FR (k := k) (r := r) (rr := (bk2 k.bs r).1) (m := 3) (by omega) (ok2 hk2).2
    exact ⟨e3, by push_cast at hf; omega, by omega⟩
   refine ⟨fun h0 => ?_, fun h0 => ⟨fun h1' => ?_, fun h1' => ⟨fun h2' => ?_, fun h2' => ?_⟩⟩⟩
   ·have h0 : (bk2 k.bs r).2 = 0 := beq_iff_eq.1 h0
    obtain ⟨e3, hf2, hm2⟩ := good (by omega)
    refine ⟨fnV k xH, (bk2 k.bs r).1, al, hb, _, l, d, by rw [ez]; rfl, sb, H3, ok2, fun h => absurd hk2 h, fun _ => ⟨_, hm2, f', hf2, .inr (.inl ⟨rfl, rfl, ?_⟩)⟩⟩
    rw [eF]; congr 1; unfold blk; rw [e3, if_neg (show ¬ (bk2 k.bs r).1.k ≠ 0 from fun h => h hk2), if_pos h0]
   ·have h0 : (bk2 k.bs r).2 ≠ 0 := by simpa using h0
    have h1' : (bk2 k.bs r).2 = 1 := beq_iff_eq.1 h1'
    obtain ⟨e3, hf2, hm2⟩ := good (by omega)
    refine ⟨fnV k xN, (bk2 k.bs r).1, al, hb, _, l, d, by rw [ez]; rfl, sb, H3, ok2, fun h => absurd hk2 h, fun _ => ⟨_, hm2, f', hf2, .inr (.inr (.inl ⟨rfl, rfl, ?_⟩))⟩⟩
    rw [eF]; congr 1; unfold blk; rw [e3, if_neg (show ¬ (bk2 k.bs r).1.k ≠ 0 from fun h => h hk2), if_neg h0, if_pos h1']
   ·have h0 : (bk2 k.bs r).2 ≠ 0 := by simpa using h0
    have h1' : (bk2 k.bs r).2 ≠ 1 := by simpa using h1'
    have h2' : (bk2 k.bs r).2 = 2 := beq_iff_eq.1 h2'
    obtain ⟨e3, hf2, hm2⟩ := good (by omega)
    refine ⟨fnV k x7, (bk2 k.bs r).1, al, hb, _, l, d, by rw [ez]; rfl, sb, H3, ok2, fun h => absurd hk2 h, fun _ => ⟨_, hm2, f', hf2, .inr (.inr (.inr (.inl ⟨rfl, rfl, ?_⟩)))⟩⟩
    rw [eF]; congr 1; unfold blk; rw [e3, if_neg (show ¬ (bk2 k.bs r).1.k ≠ 0 from fun h => h hk2), if_neg h0, if_neg h1']
   ·have h0 : (bk2 k.bs r).2 ≠ 0 := by simpa using h0
    have h1' : (bk2 k.bs r).2 ≠ 1 := by simpa using h1'
    have h2' : (bk2 k.bs r).2 ≠ 2 := by simpa using h2'
    have e3 : bk3 k.bs r = ⟨(bk2 k.bs r).1.i, 3⟩ := by unfold bk3 bd; rw [if_pos ⟨hk2, by rw [show (bk2 k.bs r).2 = 3 by omega]; rfl⟩]
    refine ⟨3, ((G.sub sb).sub H3.sb).e3, .nilFunc, ⟨(bk2 k.bs r).1.i, 3⟩, al, hb, _, l, d, rfl, sb, H3.FT (show (3 : Int) ≠ 0 by decide), fun h => (by cases h), fun _ => ⟨?_, .inl rfl⟩, fun h => (by cases h)⟩
    have eb : blk k.bs k.dl k.room k.sz F r al = (⟨(bk2 k.bs r).1.i, 3⟩, al) := by unfold blk; rw [e3, if_pos (show (3 : Int) ≠ 0 by decide)]
    rw [eF, eb, xF (show (3 : Int) ≠ 0 by decide)]
end
end
section
variable {S : Shared} {h h0 hb : Eng.Heap}
section
variable {k : KC} {r : Rd} {al : List Int} {last : Bool} {l d : Value} {F : Nat} {Fin : Rd × List Int}
theorem M6 (hi : Eng.Inv S hb) (L : k.bs.length ≤ 1048576) (H : IM hb h k r al last l d) (hk : r.k = 0) :
  za Tryz.prog S xM #[.pointer (some ⟨k.bm, 0, none⟩)] h (fun v h' => v = .tuple #[] ∧ IM hb h' k (alg r) al last l d) := by
 refine Ck (vs := [.pointer (some ⟨k.bm, 0, none⟩)]) ⟨rfl, trivial⟩ (hi.sub H.sb) ?_
 simp only [we, Tr.wp, Ex.ev, coerce, toInt_int, zb, zh, yb, yQ, arith, Cst.val, SV.den, z4, zu, yd, List.getD_cons_zero, List.getD_cons_succ, List.map_cons, List.map_nil, List.cons_append, List.nil_append, Nat.zero_add, Nat.add_zero, and_true, true_and, zo]
 obtain ⟨p, ao, co, hp, hr, hbm, P, N⟩ := H.mt
 obtain ⟨_, g1, _⟩ := yC hbm
 have hsb : ¬ S k.bm := fun hs => hi k.bm hs H.nm
 have w : IntKind.i64.wrap (IntKind.i64.wrap ((IntKind.i64.wrap ((p : Int) + 7)).tdiv 8) * 8) = (((p + 7) / 8 * 8 : Nat) : Int) := by
  rw [i64_in ((p : Int) + 7) (by omega), Int.tdiv_eq_ediv_of_nonneg (by omega), i64_in (((p : Int) + 7) / 8) (by omega), i64_in _ (by omega)]; omega
 refine ⟨by simp, p, g1, by simp, jY hbm hsb g1, ?_⟩
 rw [w, Jv hbm]
 have ea : alg r = ⟨(r.i + 7) / 8 * 8, 0⟩ := if_pos hk
 exact H.KZ (r' := alg r) (p := (p + 7) / 8 * 8) (by omega) (fun _ => by rw [ea]; have := hr hk; simp only; omega) P N
theorem IM.sub {h' : Eng.Heap} (H : IM hb h k r al last l d) (s : Eng.Sub h h') : IM hb h' k r al last l d := by
 obtain ⟨p, ao, co, hp, hr, hbm, P, N⟩ := H.mt
 exact ⟨⟨p, ao, co, hp, hr, s _ _ hbm, P.sub s, N⟩, H.rg.mono s, H.nm, H.ne, H.sb.trans s, H.le⟩
theorem IM.fresh (H : IM hb h k r al last l d) {b : Nat} (hbn : h b = none) {o : Obj} {n c : Nat} : ∀ z, zq (.slice (some ⟨b, 0, none⟩) n c) = some z → z ≠ k.bm ∧ z ≠ k.bw ∧ (∀ p ao co, upd h b o k.bm = some (z9 k.a k.c k.bs p (yU k al (.slice ao (k.otl al).length co) last l d) k.T) → zq (.slice ao (k.otl al).length co) ≠ some z) := fun z hz => by
 obtain rfl : b = z := by simpa [zq] using hz
 obtain ⟨p, ao, co, hp, hr, hbm, P, N⟩ := H.mt
 obtain ⟨dd, at_, nn, hbw, _, _, _⟩ := H.rg
 have n1 : b ≠ k.bm := fun e => by rw [e, hbm] at hbn; cases hbn
 have n2 : b ≠ k.bw := fun e => by rw [e, hbw] at hbn; cases hbn
 refine ⟨n1, n2, fun p' ao' co' e hz => ?_⟩
 rw [upd_ne (Ne.symm n1), hbm] at e
 simp [z9, yU] at e
 obtain ⟨_, e1, e2⟩ := e
 subst e1
 subst e2
 exact tB.Oheld P (show tB.B _ b from hz) hbn
theorem D5 {bs : List Int} {dl room n : Nat} {r : Rd} {al : List Int} (h : r.k ≠ 0) : stL bs dl room n r al = (r, al) := by
 cases n with
 | zero => rfl
 | succ n => rw [stL, if_neg h]
theorem Rf {dl room : Nat} {r : Rd} {al ys : List Int} (h : r.k ≠ 0) : tell dl room r al ys = (r, al) := by unfold tell; rw [if_neg h]
theorem Rh (hi : Eng.Inv S h0) (G : ErrL h0) (hro : k.room ≤ 200000) (hdl : k.dl ≤ 40000) (hx : zn h0 .u8 k.a k.bs) (L : k.bs.length ≤ 1048576) (sb : Eng.Sub h0 hb) (H : IM hb h k r al last l d) (hk : r.k = 0) (ok : okR k.bs r) (f : Nat) (hf : 8 * (k.bs.length : Int) + 1 ≤ r.i + f) {B : Nat} (hB : mz k r + 3 ≤ B) (hF : Fin = cont k F f last (stF k.bs k.dl k.room r al)) :
  za Tryz.prog S xH #[.pointer (some ⟨k.bm, 0, none⟩)] h (C6 h0 k F Fin B) := by
 refine BS (vs := [.pointer (some ⟨k.bm, 0, none⟩)]) ⟨rfl, trivial⟩ (hi.sub (sb.trans H.sb)) ?_
 simp only [qG, Tr.wp, zG, Ex.ev, coerce, toInt_int, zb, zi, zl, zj, zh, yb, z6, arith, Cst.val, SV.den, zw, zV, z7, zp, zm, z4, zP, zu, List.flatMap_cons, List.flatMap_nil, List.getD_cons_zero, List.getD_cons_succ, List.getElem?_cons_zero, List.getElem?_cons_succ, decide_eq_true_eq, decide_eq_false_iff_not, List.map_cons, List.map_nil, List.cons_append, List.nil_append, List.append_nil, List.length_cons, List.length_nil, Nat.zero_add, Nat.add_zero, and_true, if_true, if_false, Bool.false_eq_true, zo]
 have hib := hi.sub sb
 have Gb := G.sub sb
 have hxb := hx.sub sb
 have ok0 := D4 ok
 have hk0 : (alg r).k = 0 := by unfold alg; rw [if_pos hk]
 have n16 := yf (bs := k.bs) (n := 16) (r := alg r)
 have q16 : (2 : Int) ^ 16 = 65536 := by decide
 refine za.mono (M6 hib L H hk) ?_
 rintro _ h1 ⟨rfl, H1⟩
 refine ⟨rfl, ?_⟩
 refine za.mono (Cg hib Gb.es hxb L H1 hk0 16 (by omega)) ?_
 rintro _ h2 ⟨rfl, H2⟩
 have ok1 : okR k.bs (tk k.bs 16 (alg r)).1 := y9 ok0
 refine ⟨_, zX (tk k.bs 16 (alg r)).1.k, zc, by rw [zc], fun hz => ?_, fun hz => ?_⟩
 ·rw [zc, zz] at hz
  have hk1 : (tk k.bs 16 (alg r)).1.k ≠ 0 := by simpa using hz
  refine ⟨.nilFunc, _, al, hb, last, l, d, by rw [zc], sb, H2, ok1, fun _ => ⟨?_, .inl rfl⟩, fun h => absurd h hk1⟩
  have e2 : stR k.bs r = (tk k.bs 16 (alg r)).1 := by unfold stR; rw [PE hk1]; exact AS hk1
  have es : stF k.bs k.dl k.room r al = ((tk k.bs 16 (alg r)).1, al) := by unfold stF; rw [e2, D5 hk1]
  rw [hF, es, xF hk1]
 rw [zc, zz] at hz
 have hk1 : (tk k.bs 16 (alg r)).1.k = 0 := by simpa using hz
 refine za.mono (Cg hib Gb.es hxb L H2 hk1 16 (by omega)) ?_
 rintro _ h3 ⟨rfl, H3⟩
 have ok2 : okR k.bs (tk k.bs 16 (tk k.bs 16 (alg r)).1).1 := y9 ok1
 refine ⟨_, zX (tk k.bs 16 (tk k.bs 16 (alg r)).1).1.k, zc, by rw [zc], fun hz => ?_, fun hz => ?_⟩
 ·rw [zc, zz] at hz
  have hk2 : (tk k.bs 16 (tk k.bs 16 (alg r)).1).1.k ≠ 0 := by simpa using hz
  refine ⟨.nilFunc, _, al, hb, last, l, d, by rw [zc], sb, H3, ok2, fun _ => ⟨?_, .inl rfl⟩, fun h => absurd h hk2⟩
  have e2 : stR k.bs r = (tk k.bs 16 (tk k.bs 16 (alg r)).1).1 := AS hk2
  have es : stF k.bs k.dl k.room r al = ((tk k.bs 16 (tk k.bs 16 (alg r)).1).1, al) := by unfold stF; rw [e2, D5 hk2]
  rw [hF, es, xF hk2]
 rw [zc, zz] at hz
 have hk2 : (tk k.bs 16 (tk k.bs 16 (alg r)).1).1.k = 0 := by simpa using hz
 have w1 : IntKind.i64.wrap (65535 - (tk k.bs 16 (alg r)).2) = 65535 - (tk k.bs 16 (alg r)).2 := i64_in _ (by omega)
 rw [w1]
 have eR : stR k.bs r = bd ((tk k.bs 16 (tk k.bs 16 (alg r)).1).2 != 65535 - (tk k.bs 16 (alg r)).2) (tk k.bs 16 (tk k.bs 16 (alg r)).1).1 := rfl
 refine ⟨fun hne => ?_, fun heq => ?_⟩
 ·have e3 : stR k.bs r = ⟨(tk k.bs 16 (tk k.bs 16 (alg r)).1).1.i, 3⟩ := by rw [eR]; unfold bd; rw [if_pos ⟨hk2, hne⟩]
  have es : stF k.bs k.dl k.room r al = (⟨(tk k.bs 16 (tk k.bs 16 (alg r)).1).1.i, 3⟩, al) := by unfold stF; rw [e3, D5 (show (3 : Int) ≠ 0 by decide)]
  refine ⟨3, (Gb.sub H3.sb).es.e3, .nilFunc, ⟨(tk k.bs 16 (tk k.bs 16 (alg r)).1).1.i, 3⟩, al, hb, last, l, d, rfl, sb, H3.FT (show (3 : Int) ≠ 0 by decide), fun h => (by cases h), fun _ => ⟨?_, .inl rfl⟩, fun h => (by cases h)⟩
  rw [hF, es, xF (show (3 : Int) ≠ 0 by decide)]
 have e3 : stR k.bs r = (tk k.bs 16 (tk k.bs 16 (alg r)).1).1 := by rw [eR]; unfold bd; rw [if_neg (fun h => by rw [heq] at h; cases h.2)]
 have hR : le2 r (stR k.bs r) := ((Pq.trans jE).trans jE).trans qu
 obtain ⟨n, hn⟩ : ∃ n : Nat, n = (stN k.bs r).toNat := ⟨_, rfl⟩
 have en : (tk k.bs 16 (alg r)).2 = (n : Int) := by rw [hn]; unfold stN; omega
 have hnl : n < 65536 := by omega
 rw [← e3] at H3 ok2 hk2
 rw [en]
 have eSt : stF k.bs k.dl k.room r al = stL k.bs k.dl k.room n (stR k.bs r) al := by unfold stF; rw [hn]
 refine ⟨fun us h' => ∃ (j : Nat) (r' : Rd) (al' : List Int), us = [.int .i64 j] ∧ j ≤ n ∧ r'.k = 0 ∧ okR k.bs r' ∧ IM hb h' k r' al' last l d ∧ le2 r r' ∧ stF k.bs k.dl k.room r al = stL k.bs k.dl k.room (n - j) r' al', fun us _ => n - (toInt (us.getD 0 undef)).toNat, ⟨0, stR k.bs r, al, rfl, by omega, hk2, ok2, H3, hR, eSt⟩, ?_⟩
 rintro y h' ⟨j, r', al', hx1, hj, hk', ok', H', hle', e'⟩
 simp only [List.cons.injEq, Value.int.injEq, true_and, and_true] at hx1
 subst hx1
 refine ⟨fun hlt => ?_, fun hge => ?_⟩
 ·have hlt : j < n := by omega
  have n8 := yf (bs := k.bs) (n := 8) (r := r')
  have q8 : (2 : Int) ^ 8 = 256 := by decide
  have el : stF k.bs k.dl k.room r al = stL k.bs k.dl k.room (n - (j + 1)) (tell k.dl k.room (tk k.bs 8 r').1 al' [(tk k.bs 8 r').2]).1 (tell k.dl k.room (tk k.bs 8 r').1 al' [(tk k.bs 8 r').2]).2 := by
   rw [e', show n - j = (n - (j + 1)) + 1 by omega, stL, if_pos hk']
  refine za.mono (Cg hib Gb.es hxb L H' hk' 8 (by omega)) ?_
  rintro _ h4 ⟨rfl, H4⟩
  have ok4 : okR k.bs (tk k.bs 8 r').1 := y9 ok'
  refine ⟨_, zX (tk k.bs 8 r').1.k, zc, by rw [zc], fun hz => ?_, fun hz b hbn => ?_⟩
  ·rw [zc, zz] at hz
   have hk4 : (tk k.bs 8 r').1.k ≠ 0 := by simpa using hz
   refine ⟨.nilFunc, _, al', hb, last, l, d, by rw [zc], sb, H4, ok4, fun _ => ⟨?_, .inl rfl⟩, fun h => absurd h hk4⟩
   rw [hF, el, Rf hk4, D5 hk4, xF hk4]
  ·rw [zc, zz] at hz
   have hk4 : (tk k.bs 8 r').1.k = 0 := by simpa using hz
   have wb : IntKind.u8.wrap (tk k.bs 8 r').2 = (tk k.bs 8 r').2 := by rw [IntKind.wrap_u8]; omega
   rw [wb]
   have H5 := H4.sub (Sub.zN (o := .cells (ints .u8 [(tk k.bs 8 r').2]) 5) hbn)
   refine za.mono (PD hib Gb hro hdl H5 hk4 (ad := some ⟨b, 0, none⟩) (cd := 1) (ys := [(tk k.bs 8 r').2]) zn.new (by simp) (by simp) (H4.fresh hbn)) ?_
   rintro _ h6 ⟨rfl, H6⟩
   refine ⟨zX (tell k.dl k.room (tk k.bs 8 r').1 al' [(tk k.bs 8 r').2]).1.k, zc, by rw [zc], fun hz => ?_, fun hz => ?_⟩
   ·rw [zc, zz] at hz
    have hk6 : (tell k.dl k.room (tk k.bs 8 r').1 al' [(tk k.bs 8 r').2]).1.k ≠ 0 := by simpa using hz
    refine ⟨.nilFunc, _, _, hb, last, l, d, by rw [zc], sb, H6, w7 ok4, fun _ => ⟨?_, .inl rfl⟩, fun h => absurd h hk6⟩
    rw [hF, el, D5 hk6, xF hk6]
   ·rw [zc, zz] at hz
    have hk6 : (tell k.dl k.room (tk k.bs 8 r').1 al' [(tk k.bs 8 r').2]).1.k = 0 := by simpa using hz
    have wj : IntKind.i64.wrap ((j : Int) + 1) = ((j + 1 : Nat) : Int) := by rw [i64_in _ (by omega)]; omega
    rw [wj]
    exact ⟨⟨j + 1, _, _, rfl, by omega, hk6, w7 ok4, H6, (hle'.trans jE).trans D3, el⟩, by simp only [List.getD_cons_zero, toInt_int, Int.toNat_natCast]; omega⟩
 ·obtain rfl : j = n := by omega
  have ez : zX r'.k = .nilIface := by rw [hk']; rfl
  refine ⟨fnV k xd, r', al', hb, last, l, d, by rw [ez]; rfl, sb, H', ok', fun h => absurd hk' h, fun _ => ⟨_, (by have hm := FR (k := k) (r := r) (rr := r') (m := 0) (by have := (hle' hk').2; omega) (ok' hk').2; omega : mz k r' + 1 < B), f, by have := (hle' hk').2; omega, .inr (.inr (.inr (.inr (.inr (.inl ⟨rfl, rfl, ?_⟩)))))⟩⟩
  rw [hF, e', Nat.sub_self]; rfl
end
end
section
variable {S : Shared} {h h0 hb : Eng.Heap}
def wo (h : Eng.Heap) (ls : List Nat) : Eng.Heap := fun b => if b ∈ ls then none else h b
theorem JU {ls : List Nat} : Eng.Sub (wo h ls) h := fun b o e => by
 unfold wo at e
 split at e
 ·cases e
 ·exact e
theorem Nz {g : Eng.Heap} {ls : List Nat} (s : Eng.Sub g h) (hn : ∀ b ∈ ls, g b = none) : Eng.Sub g (wo h ls) := fun b o e => by
 unfold wo
 rw [if_neg (fun hb => by rw [hn b hb] at e; cases e)]
 exact s b o e
theorem Ia {ls : List Nat} {b : Nat} (hb : b ∈ ls) : wo h ls b = none := if_pos hb
theorem Lc {ls : List Nat} {b : Nat} (hb : b ∉ ls) : wo h ls b = h b := if_neg hb
theorem TabV.up {g1 g2 g3 : Eng.Heap} {b : Nat} {T P : List (Nat × Nat)} {a : Option Addr} {c : Nat} {E : Nat → Nat → Prop} {Y : Nat → Nat → Nat} (H : TabV g1 g2 b T P a c E Y) {g0 : Eng.Heap} (hn : ∀ z, g1 z = none → g0 z = none) (hs : ∀ z, z = b ∨ zq (.slice a T.length c) = some z → g3 z = g2 z) (s : Eng.Sub g0 g3) : TabV g0 g3 b T P a c E Y :=
 ⟨by obtain ⟨TY, hb⟩ := H.hb; exact ⟨TY, (hs b (.inl rfl)).trans hb⟩, H.ow.keep fun z hz => hs z (.inr hz), fun z hz => hn z (H.nw z hz), hn b H.nb, H.ne, H.ti, s⟩
theorem TabV.N9 {g1 g2 g3 : Eng.Heap} {b : Nat} {T P : List (Nat × Nat)} {a : Option Addr} {c : Nat} {E : Nat → Nat → Prop} {Y : Nat → Nat → Nat} (H : TabV g1 g2 b T P a c E Y) (s : Eng.Sub g2 g3) : TabV g1 g3 b T P a c E Y := by
 refine H.up (fun _ h => h) (fun z hz => ?_) (H.sb.trans s)
 rcases hz with rfl | hz
 ·obtain ⟨TY, hb⟩ := H.hb
  rw [hb]; exact s _ _ hb
 ·have := H.ow.held z hz
  cases e : g2 z with
  | none => exact absurd e this
  | some o => exact s _ _ e
theorem Ri {bm : Nat} {a : Option Addr} {c : Nat} {bs : List Int} {m : MC} {T : TypeId} {p : Int} {v w : Value} (hb : h bm = some (z9 a c bs p m T)) : z5 (z5 h ⟨bm, 6, none⟩ v) ⟨bm, 7, none⟩ w = upd h bm (z9 a c bs p ⟨m.w, m.out, m.rm, m.last, v, w⟩ T) := by
 rw [hset_cells' hb]
 have hb2 : upd h bm (.cells (#[.slice a bs.length c, .int .i64 p, m.w, m.out, .int .i64 m.rm, .bool m.last, m.l, m.d].setIfInBounds 6 v) T) bm = some (z9 a c bs p ⟨m.w, m.out, m.rm, m.last, v, m.d⟩ T) := by rw [upd_same]; rfl
 rw [hset_cells' hb2, xj]; rfl
section
variable {k : KC} {r : Rd} {al : List Int} {last : Bool} {l d : Value} {F : Nat} {Fin : Rd × List Int}
theorem IM.RX {h2 : Eng.Heap} (H : IM hb h k r al last l d) (sb : Eng.Sub h0 hb) (s12 : Eng.Sub h h2) {cl cd : List (Nat × Nat)} {b1 b2 : Nat} {T1 P1 T2 P2 : List (Nat × Nat)} {a1 a2 : Option Addr} {c1 c2 : Nat}
  (V1 : TabV h h2 b1 T1 P1 a1 c1 (Em cl cl.length) (Ym cl cl.length)) (V2 : TabV h h2 b2 T2 P2 a2 c2 (Em cd cd.length) (Ym cd cd.length)) (t1 : T1.length ≤ 20000) (t2 : T2.length ≤ 20000) (m1 : ∀ c ∈ cl, c.1 ≤ 15) (m2 : ∀ c ∈ cd, c.1 ≤ 15) (l1 : cl.length ≤ 1000) (l2 : cd.length ≤ 1000) :
  ∃ hb2, Eng.Sub h0 hb2 ∧ IM hb2 (z5 (z5 h2 ⟨k.bm, 6, none⟩ (.pointer (some ⟨b1, 0, none⟩))) ⟨k.bm, 7, none⟩ (.pointer (some ⟨b2, 0, none⟩))) k r al last (.pointer (some ⟨b1, 0, none⟩)) (.pointer (some ⟨b2, 0, none⟩)) ∧ Lb h0 hb2 (.pointer (some ⟨b1, 0, none⟩)) (.pointer (some ⟨b2, 0, none⟩)) cl cd := by
 obtain ⟨p, ao, co, hp, hr, hbm, P, N⟩ := H.mt
 obtain ⟨dd, at_, nn, hbw, R, sR, hnw⟩ := H.rg
 have hbm2 := s12 _ _ hbm
 rw [Ri hbm2]
 obtain ⟨h3, hh3⟩ : ∃ h3, h3 = upd h2 k.bm (z9 k.a k.c k.bs p ⟨(yU k al (.slice ao (k.otl al).length co) last l d).w, (yU k al (.slice ao (k.otl al).length co) last l d).out, (yU k al (.slice ao (k.otl al).length co) last l d).rm, (yU k al (.slice ao (k.otl al).length co) last l d).last, .pointer (some ⟨b1, 0, none⟩), .pointer (some ⟨b2, 0, none⟩)⟩ k.T) := ⟨_, rfl⟩
 rw [← hh3]
 obtain ⟨ls, hls⟩ : ∃ ls, ls = [k.bm, k.bw] ++ (zq (.slice ao (k.otl al).length co)).toList := ⟨_, rfl⟩
 have mem : ∀ z, z ∈ ls ↔ z = k.bm ∨ z = k.bw ∨ zq (.slice ao (k.otl al).length co) = some z := fun z => by
  rw [hls]
  cases zq (.slice ao (k.otl al).length co) with
  | none => simp
  | some y => simp [eq_comm]
 have hbn : ∀ z ∈ ls, hb z = none := fun z hz => by
  rcases (mem z).1 hz with rfl | rfl | e
  ·exact H.nm
  ·exact hnw
  ·exact (IM.xv N e).2.2
 have some1 : ∀ z ∈ ls, h z ≠ none := fun z hz => by
  rcases (mem z).1 hz with rfl | rfl | e
  ·rw [hbm]; simp
  ·rw [hbw]; simp
  ·exact tB.Oheld P (show tB.B _ z from e)
 have h32 : ∀ z, z ≠ k.bm → h3 z = h2 z := fun z hz => by rw [hh3]; exact upd_ne hz
 have s3 : Eng.Sub hb h3 := by rw [hh3]; exact xq (H.sb.trans s12) H.nm
 have sb2 : Eng.Sub hb (wo h3 ls) := Nz s3 hbn
 have P2' : Part .u8 h3 (.slice ao (k.otl al).length co) (k.otl al) := (P.sub s12).keep fun z hz => h32 z (IM.xv N hz).1
 have tab : ∀ {b : Nat} {TT PP : List (Nat × Nat)} {aa : Option Addr} {cc : Nat} {E : Nat → Nat → Prop} {Y : Nat → Nat → Nat}, TabV h h2 b TT PP aa cc E Y → TabV h0 (wo h3 ls) b TT PP aa cc E Y := fun V => by
  refine V.up (fun z hz => zZ (sb.trans H.sb) hz) (fun z hz => ?_) (sb.trans sb2)
  have hzn : h z = none := by
   rcases hz with rfl | hz
   ·exact V.nb
   ·exact V.nw z hz
  have hzl : z ∉ ls := fun hm => some1 z hm hzn
  rw [Lc hzl]
  exact h32 z (fun e => hzl ((mem z).2 (.inl e)))
 refine ⟨wo h3 ls, sb.trans sb2, ⟨⟨p, ao, co, hp, hr, by rw [hh3, upd_same]; rfl, P2', fun z hz => qW.2 ⟨?_, Ia ((mem z).2 (.inr (.inr hz)))⟩⟩, ⟨dd, at_, nn, (h32 k.bw (Ne.symm H.ne)).trans (s12 _ _ hbw), R, JU, Ia ((mem _).2 (.inr (.inl rfl)))⟩, Ia ((mem _).2 (.inl rfl)), H.ne, JU, H.le⟩, b1, b2, T1, P1, T2, P2, a1, a2, c1, c2, rfl, rfl, tab V1, tab V2, t1, t2, m1, m2, l1, l2⟩
 have := IM.xv N hz
 simp [this.1, this.2.1]
end
end
section
variable {S : Shared} {h h0 hb : Eng.Heap}
theorem Ld {bm : Nat} {a : Option Addr} {c : Nat} {bs : List Int} {m : MC} {T : TypeId} {p : Int} {v : Value} (hb : h bm = some (z9 a c bs p m T)) (hs : ¬ S bm) : x8 S (z5 h ⟨bm, 6, none⟩ v) ⟨bm, 7, none⟩ := by
 rw [hset_cells' hb]
 have e : upd h bm (.cells (#[.slice a bs.length c, .int .i64 p, m.w, m.out, .int .i64 m.rm, .bool m.last, m.l, m.d].setIfInBounds 6 v) T) bm = some (z9 a c bs p ⟨m.w, m.out, m.rm, m.last, v, m.d⟩ T) := by rw [upd_same]; rfl
 obtain ⟨_, _, _, _, _, _, _, g⟩ := yC e
 exact jY e hs g
theorem codesN_15' {xs : List Int} (hg : ¬ (zk xs = 0 ∨ zk xs = 2)) : ∀ c ∈ zd xs, c.1 ≤ 15 := Jx (qi hg).2
section
variable {k : KC} {r : Rd} {al : List Int} {last : Bool} {l d : Value} {F : Nat} {Fin : Rd × List Int}
theorem SQ (hi : Eng.Inv S h0) (L : k.bs.length ≤ 1048576) (sb : Eng.Sub h0 hb) (H : IM hb h k r al last l d) (hk : r.k = 0) (ok : okR k.bs r) (hFl : 8 * k.bs.length + 1 ≤ F) (f : Nat) (hf : 8 * (k.bs.length : Int) + 1 ≤ r.i + f) {B : Nat} (hB : mz k r + 3 ≤ B) (hF : Fin = cont k F f last (syF k.bs (zd yT) (zd jZ) k.dl k.room k.sz F r al)) :
  za Tryz.prog S xN #[.pointer (some ⟨k.bm, 0, none⟩)] h (C6 h0 k F Fin B) := by
 refine Cm (vs := [.pointer (some ⟨k.bm, 0, none⟩)]) ⟨rfl, trivial⟩ (hi.sub (sb.trans H.sb)) ?_
 simp only [wv, Tr.wp, zG, Ex.ev, coerce, zb, zi, zl, zj, zh, yb, yQ, Cst.val, SV.den, zw, zV, z7, zp, zm, z4, yd, List.flatMap_cons, List.flatMap_nil, List.getD_cons_zero, List.getD_cons_succ, List.map_cons, List.map_nil, List.cons_append, List.nil_append, List.append_nil, List.length_cons, List.length_nil, Nat.zero_add, Nat.add_zero, if_true, if_false, Bool.false_eq_true, zo]
 have his := hi.sub (sb.trans H.sb)
 have hsb : ¬ S k.bm := fun hs => hi.sub sb k.bm hs H.nm
 have hpos := ok hk
 refine za.mono (LQ his) ?_
 rintro _ h1 ⟨a1, c1, a2, c2, rfl, P1, P2, N1, N2, s1⟩
 refine ⟨_, _, _, _, _, _, rfl, ?_⟩
 have e288 : (288 : Nat) = yT.length := qX.symm
 have K1 := AO (S := S) (his.sub s1) a1 c1 yT (by rw [qX]; exact P1) KS Fy
 rw [qX] at K1
 refine za.mono K1 ?_
 rintro _ h2 ⟨b1, T1, Q1, d1, e1, rfl, V1, t1⟩
 refine ⟨_, rfl, ?_⟩
 have s2 := V1.sb
 have K2 := AO (S := S) (his.sub (s1.trans s2)) a2 c2 jZ (by rw [show jZ.length = 32 by simp [jZ]]; exact P2.sub s2) (by show jZ.length ≤ 1048576; simp [jZ]) (by rw [Fz]; decide)
 rw [show jZ.length = 32 by simp [jZ]] at K2
 refine za.mono K2 ?_
 rintro _ h3 ⟨b2, T2, Q2, d2, e2, rfl, V2, t2⟩
 refine ⟨_, rfl, ?_⟩
 have s3 := V2.sb
 have s13 := s1.trans (s2.trans s3)
 obtain ⟨p, ao, co, hp, hr, hbm, P, N⟩ := H.mt
 have hbm3 := s13 _ _ hbm
 obtain ⟨_, _, _, _, _, _, g6, _⟩ := yC hbm3
 have le1 : (zd yT).length = 288 := by rw [xe, qX]
 have le2' : (zd jZ).length = 32 := by rw [xe]; simp [jZ]
 rw [← le1] at V1
 rw [← le2'] at V2
 have W1 : TabV h h3 b1 T1 Q1 d1 e1 (Em (zd yT) (zd yT).length) (Ym (zd yT) (zd yT).length) := (V1.N9 s3).up (fun z hz => zZ s1 hz) (fun _ _ => rfl) s13
 have W2 : TabV h h3 b2 T2 Q2 d2 e2 (Em (zd jZ) (zd jZ).length) (Ym (zd jZ) (zd jZ).length) := V2.up (fun z hz => zZ (s1.trans s2) hz) (fun _ _ => rfl) s13
 obtain ⟨hb2, sb2, H4, TA⟩ := H.RX sb s13 W1 W2 t1 t2 (codesN_15' Fy) (codesN_15' (by rw [Fz]; decide)) (by omega) (by omega)
 have ez : zX r.k = .nilIface := by rw [hk]; rfl
 refine ⟨by simp, jY hbm3 hsb g6, by simp, Ld hbm3 hsb, ?_⟩
 refine ⟨fnV k yq, r, al, hb2, last, _, _, by rw [ez]; rfl, sb2, H4, ok, fun h => absurd hk h, fun _ => ⟨_, (by omega : mz k r + 2 < B), f, hf, .inr (.inr (.inr (.inr (.inl ⟨rfl, rfl, _, _, F, TA, by omega, hF⟩))))⟩⟩
theorem PI (hi : Eng.Inv S h0) (G : Errs h0) (hx : zn h0 .u8 k.a k.bs) (L : k.bs.length ≤ 1048576) (sb : Eng.Sub h0 hb) (H : IM hb h k r al last l d) (hk : r.k = 0) (ok : okR k.bs r) (hFl : 8 * k.bs.length + 1 ≤ F) (f : Nat) (hf : 8 * (k.bs.length : Int) + 1 ≤ r.i + f) {B : Nat} (hB : mz k r + 3 ≤ B)
  (hF : Fin = cont k F f last (if (zU k.bs r).1.k ≠ 0 then ((zU k.bs r).1, al) else syF k.bs (zd (zU k.bs r).2.1) (zd (zU k.bs r).2.2) k.dl k.room k.sz F (zU k.bs r).1 al)) :
  za Tryz.prog S x7 #[.pointer (some ⟨k.bm, 0, none⟩)] h (C6 h0 k F Fin B) := by
 refine Bp (vs := [.pointer (some ⟨k.bm, 0, none⟩)]) ⟨rfl, trivial⟩ (hi.sub (sb.trans H.sb)) ?_
 simp only [qw, Tr.wp, zG, Ex.ev, coerce, zb, zi, zl, zj, zh, yb, yQ, Cst.val, SV.den, zw, zV, z7, zp, zm, z4, yd, List.flatMap_cons, List.flatMap_nil, List.getD_cons_zero, List.getD_cons_succ, List.map_cons, List.map_nil, List.cons_append, List.nil_append, List.append_nil, List.length_cons, List.length_nil, Nat.zero_add, Nat.add_zero, if_true, if_false, Bool.false_eq_true, zo]
 have hib := hi.sub sb
 have hsb : ¬ S k.bm := fun hs => hib k.bm hs H.nm
 have hpos := ok hk
 obtain ⟨p, ao, co, hp, hr, hbm, P, N⟩ := H.mt
 obtain ⟨dd, at_, nn, hbw, R, sR, hnw⟩ := H.rg
 obtain ⟨g, hg⟩ : ∃ g, g = wo h [k.bm] := ⟨_, rfl⟩
 have sbg : Eng.Sub hb g := hg ▸ Nz H.sb (fun b hb' => by rw [List.mem_singleton.1 hb']; exact H.nm)
 have sgh : Eng.Sub g h := hg ▸ JU
 have gb : g k.bm = none := hg ▸ Ia (List.mem_singleton.2 rfl)
 have gne : ∀ z, z ≠ k.bm → g z = h z := fun z hz => by rw [hg]; exact Lc (fun hm => hz (List.mem_singleton.1 hm))
 have er : r = ⟨(p : Int), 0⟩ := by
  obtain ⟨i, kk⟩ := r
  obtain rfl : kk = 0 := hk
  rw [show i = (p : Int) from hr rfl]
 refine za.mono (SD (hib.sub sbg) ((G.sub sb).sub sbg) ((hx.sub sb).sub sbg) L p hp ⟨hbm, gb, sgh⟩) ?_
 rw [← er]
 have okF := C5 ok
 have leF : le2 r (zU k.bs r).1 := GM
 have good := HZ (bs := k.bs) (r := r)
 obtain ⟨lenA, yN⟩ := HY (bs := k.bs) (r := r)
 generalize zU k.bs r = X at hF okF leF good lenA yN ⊢
 rintro _ h1 ⟨u, w, rfl, ⟨p', hp', M1, hpi⟩, hP, ⟨a1, l1, c1, a2, l2, c2, rfl, rfl⟩⟩
 have sg1 := M1.sb
 have hkeep : ∀ z, z ≠ k.bm → h z ≠ none → h1 z = h z := fun z hz hn => by
  cases e : h z with
  | none => exact absurd e hn
  | some o => exact sg1 z o ((gne z hz).trans e)
 have H1 : IM hb h1 k X.1 al last l d := ⟨⟨p', ao, co, hp', hpi, M1.hb, P.keep fun z hz => hkeep z (IM.xv N hz).1 (tB.Oheld P (show tB.B _ z from hz)), N⟩, ⟨dd, at_, nn, (hkeep k.bw (Ne.symm H.ne) (by rw [hbw]; simp)).trans hbw, R, sbg.trans sg1, hnw⟩, H.nm, H.ne, sbg.trans sg1, H.le⟩
 refine ⟨_, _, _, _, _, _, zX X.1.k, zc, by rw [zc], fun hz => ?_, fun hz => ?_⟩
 ·rw [zc, zz] at hz
  have hk1 : X.1.k ≠ 0 := by simpa using hz
  refine ⟨.nilFunc, X.1, al, hb, last, l, d, by rw [zc], sb, H1, okF, fun _ => ⟨?_, .inl rfl⟩, fun h => absurd h hk1⟩
  rw [hF, if_pos hk1, xF hk1]
 rw [zc, zz] at hz
 have hk1 : X.1.k = 0 := by simpa using hz
 rw [if_neg (fun h => h hk1)] at hF
 obtain ⟨P1, P2, N1, N2⟩ := hP hk1
 obtain ⟨g1, g2⟩ := good hk1
 obtain ⟨_, _, ei, _, _⟩ := P1.ints
 cases ei
 obtain ⟨_, _, ei, _, _⟩ := P2.ints
 cases ei
 have his1 := hib.sub H1.sb
 refine za.mono (AO (S := S) his1 a1 c1 X.2.1 P1 (Nat.le_trans lenA (by decide)) g1) ?_
 rintro _ h2 ⟨b1, T1, Q1, d1, e1, rfl, V1, t1⟩
 refine ⟨_, rfl, ?_⟩
 have s2 := V1.sb
 refine za.mono (AO (S := S) (his1.sub s2) a2 c2 X.2.2 (P2.sub s2) (Nat.le_trans yN (by decide)) g2) ?_
 rintro _ h3 ⟨b2, T2, Q2, d2, e2, rfl, V2, t2⟩
 refine ⟨_, rfl, ?_⟩
 have s3 := V2.sb
 have s13 := s2.trans s3
 have hbm3 := s13 _ _ M1.hb
 obtain ⟨_, _, _, _, _, _, g6, _⟩ := yC hbm3
 rw [← xe (xs := X.2.1)] at V1
 rw [← xe (xs := X.2.2)] at V2
 have W1 := V1.N9 s3
 have W2 : TabV h1 h3 b2 T2 Q2 d2 e2 (Em (zd X.2.2) (zd X.2.2).length) (Ym (zd X.2.2) (zd X.2.2).length) := V2.up (fun z hz => zZ s2 hz) (fun _ _ => rfl) s13
 obtain ⟨hb2, sb2, H4, TA⟩ := H1.RX sb s13 W1 W2 t1 t2 (codesN_15' g1) (codesN_15' g2) (by rw [xe]; omega) (by rw [xe]; omega)
 have ez : zX X.1.k = .nilIface := by rw [hk1]; rfl
 have hpos2 := okF hk1
 have hle := (leF hk1).2
 refine ⟨by simp, jY hbm3 hsb g6, by simp, Ld hbm3 hsb, ?_⟩
 refine ⟨fnV k yq, X.1, al, hb2, last, _, _, by rw [ez]; rfl, sb2, H4, okF, fun h => absurd hk1 h, fun _ => ⟨_, (by have hm := FR (k := k) (r := r) (rr := X.1) (m := 0) (by omega) hpos2.2; omega : mz k X.1 + 2 < B), f, by omega, .inr (.inr (.inr (.inr (.inl ⟨rfl, rfl, _, _, F, TA, by omega, hF⟩))))⟩⟩
end
end
section
variable {S : Shared} {h h0 hb : Eng.Heap}
theorem IN {D : Nat} {L : List Int} (h1 : 1 ≤ D) (h2 : D ≤ L.length) : ∀ n, xE D L n = L ++ cpD L D n
 | 0 => by simp [xE, cpD]
 | n + 1 => by
  have ih := IN h1 h2 n
  have hX : (L ++ cpD L D n).length = L.length + n := by rw [List.length_append, By]
  rw [xE, ih, hX, KV, ← List.append_assoc]
  congr 2
  by_cases hn : n < D
  ·simp only [List.getD]
   rw [Nat.mod_eq_of_lt hn, List.getElem?_append_left (by omega), show L.length + n - D = L.length - D + n by omega]
  ·simp only [List.getD]
   rw [List.getElem?_append_right (by omega), show L.length + n - D - L.length = n - D by omega]
   have hm : (n - D) % D = n % D := by rw [← Nat.add_mod_right (n - D) D, Nat.sub_add_cancel (by omega)]
   rw [← hm]
   simp [cpD, List.getD, show n - D < n by omega]
theorem Lg {D sz n : Nat} {al : List Int} (h1 : 1 ≤ D) (h2 : D ≤ (zC sz al).length) : cpD (zC sz al) D n = cpD al D n := by
 unfold cpD
 apply List.map_congr_left
 intro j _
 have hm : j % D < D := Nat.mod_lt _ (by omega)
 have hl := jf (n := sz) (L := al)
 rw [hl]
 rw [hl] at h2
 unfold zC
 simp only [List.getD, List.getElem?_drop]
 rw [show al.length - sz + (min al.length sz - D + j % D) = al.length - D + j % D by omega]
theorem Ul : ∀ s : Fin 286, 257 ≤ s.1 → (yN s.1).1 + 2 ^ (yN s.1).2 ≤ 259 := by decide +kernel
section
variable {k : KC} {r : Rd} {al : List Int} {last : Bool} {l d : Value} {F : Nat} {Fin : Rd × List Int}
theorem PK (hi : Eng.Inv S h0) (G : Errs h0) (hx : zn h0 .u8 k.a k.bs) (L : k.bs.length ≤ 1048576) (sb : Eng.Sub h0 hb) (H : IM hb h k r al last l d) (hk : r.k = 0) {bt : Nat} {TT PP : List (Nat × Nat)} {a2 : Option Addr} {c2 : Nat} {cs : List (Nat × Nat)} (TV : TabV h0 hb bt TT PP a2 c2 (Em cs cs.length) (Ym cs cs.length)) (hTl : TT.length ≤ 20000) (hM : ∀ c ∈ cs, c.1 ≤ 15) (hcl : cs.length ≤ 1000) :
  za Tryz.prog S yH #[.pointer (some ⟨k.bm, 0, none⟩), .pointer (some ⟨bt, 0, none⟩)] h (fun v h' => v = .tuple #[.int .i64 (sy k.bs cs r).2, zX (sy k.bs cs r).1.k] ∧ IM hb h' k (sy k.bs cs r).1 al last l d) := by
 obtain ⟨p, ao, co, hp, hr, hbm, P, N⟩ := H.mt
 obtain ⟨i, kk⟩ := r
 obtain rfl : kk = 0 := hk
 obtain rfl : i = (p : Int) := hr rfl
 refine za.mono (Jw hi G hx L p hp ⟨hbm, zZ sb H.nm, sb.trans H.sb⟩ (TV.N9 H.sb) hTl hM (fun e => ?_) (fun e => ?_) (KO _) hcl) ?_
 ·obtain ⟨TY, hbb⟩ := TV.hb
  rw [e, H.nm] at hbb; cases hbb
 ·exact TV.ow.held _ e H.nm
 rintro _ h1 ⟨rfl, p', hp', rfl, hpe⟩
 exact ⟨rfl, H.KZ hp' (fun h => (hpe h).symm) P N⟩
theorem Um {bs : List Int} {cs : List (Nat × Nat)} {r : Rd} (h : r.k ≠ 0) : sy bs cs r = (r, 0) := by unfold sy; rw [if_neg h]
theorem PM (hi : Eng.Inv S h0) (G : ErrL h0) (hro : k.room ≤ 200000) (hdl : k.dl ≤ 40000) (hsz : 1 ≤ k.sz ∧ k.sz ≤ 32768) (hx : zn h0 .u8 k.a k.bs) (L : k.bs.length ≤ 1048576) (sb : Eng.Sub h0 hb) (H : IM hb h k r al last l d) (hk : r.k = 0) (ok : okR k.bs r) (f : Nat) (hf : 8 * (k.bs.length : Int) + 1 ≤ r.i + f) {cl cd : List (Nat × Nat)} (f' : Nat) (hf' : 8 * (k.bs.length : Int) + 1 ≤ r.i + f') (TA : Lb h0 hb l d cl cd) {B : Nat} (hB : mz k r + 2 ≤ B)
    (hF : Fin = cont k F f last (syF k.bs cl cd k.dl k.room k.sz f' r al)) :
    za Tryz.prog S yq #[.pointer (some ⟨k.bm, 0, none⟩)] h (C6 h0 k F Fin B) := by
  refine Bq (vs := [.pointer (some ⟨k.bm, 0, none⟩)]) ⟨rfl, trivial⟩ (hi.sub (sb.trans H.sb)) ?_
  simp (maxSteps := 4000000) only [qx, Tr.wp, zG, Ex.ev, coerce, toInt_int, zb, zi, zl, zj, zh, yb, yQ, z6, arith, Cst.val, SV.den, zw, zV, z7, zp, zm, z4, zu, List.flatMap_cons, List.flatMap_nil, List.getD_cons_zero, List.getD_cons_succ, decide_eq_true_eq, decide_eq_false_iff_not, List.map_cons, List.map_nil, List.cons_append, List.nil_append, List.append_nil, List.length_cons, List.length_nil, Nat.zero_add, Nat.add_zero, and_true, if_true, if_false, Bool.false_eq_true, zo]
  have hib := hi.sub sb
  have Gb := G.sub sb
  have hxb := hx.sub sb
  have hsb : ¬ S k.bm := fun hs => hib k.bm hs H.nm
  have hpos := ok hk
  obtain ⟨f2, rfl⟩ : ∃ f2, f' = f2 + 1 := ⟨f' - 1, by omega⟩
  obtain ⟨b1, b2, T1, P1, T2, P2, a1, a2, c1, c2, rfl, rfl, V1, V2, t1, t2, m1, m2, l1, l2⟩ := id TA
  have est : syF k.bs cl cd k.dl k.room k.sz (f2 + 1) r al = (if (sy k.bs cl r).1.k ≠ 0 ∨ (sy k.bs cl r).2 = 256 then ((sy k.bs cl r).1, al)
       else syF k.bs cl cd k.dl k.room k.sz f2 (sy1 k.bs cd k.dl k.room k.sz (sy k.bs cl r).1 al (sy k.bs cl r).2).1 (sy1 k.bs cd k.dl k.room k.sz (sy k.bs cl r).1 al (sy k.bs cl r).2).2) := by rw [syF, if_pos hk]
  obtain ⟨_, _, _, _, _, hbm0, _, _⟩ := H.mt
  obtain ⟨_, _, _, _, _, _, g6, g7⟩ := yC hbm0
  refine ⟨by simp, _, g6, ?_⟩
  refine za.mono (PK hi G.es hx L sb H hk V1 t1 m1 l1) ?_
  rintro _ h1 ⟨rfl, H1⟩
  have ok1 : okR k.bs (sy k.bs cl r).1 := Az ok
  have lt1 : (sy k.bs cl r).1.k = 0 → r.k = 0 ∧ r.i + 1 ≤ (sy k.bs cl r).1.i := Ns
  have nn1 := HX (bs := k.bs) (cs := cl) (r := r)
  generalize sy k.bs cl r = q at est H1 ok1 lt1 nn1 ⊢
  obtain ⟨r1, x⟩ := q
  simp only at est H1 ok1 lt1 nn1 ⊢
  refine ⟨_, zX r1.k, zc, by rw [zc], fun hz => ?_, fun hz => ?_⟩
  · rw [zc, zz] at hz
    have hk1 : r1.k ≠ 0 := by simpa using hz
    refine ⟨.nilFunc, r1, al, hb, last, _, _, by rw [zc], sb, H1, ok1, fun _ => ⟨?_, .inl rfl⟩, fun h => absurd h hk1⟩
    rw [hF, est, if_pos (.inl hk1), xF hk1]
  rw [zc, zz] at hz
  have hk1 : r1.k = 0 := by simpa using hz
  have hlt1 := (lt1 hk1).2
  refine ⟨fun hlt b hbn => ?_, fun hge => ⟨fun h256 => ?_, fun h256 => ⟨fun hgt => ?_, fun hle => ?_⟩⟩⟩
  · have wb : IntKind.u8.wrap x = x := by rw [IntKind.wrap_u8]; omega
    rw [wb]
    have e1 : sy1 k.bs cd k.dl k.room k.sz r1 al x = tell k.dl k.room r1 al [x] := if_pos hlt
    rw [if_neg (by omega), e1] at est
    have H5 := H1.sub (Sub.zN (o := .cells (ints .u8 [x]) 5) hbn)
    refine za.mono (PD hib Gb hro hdl H5 hk1 (ad := some ⟨b, 0, none⟩) (cd := 1) (ys := [x]) zn.new (by simp) (by simp) (H1.fresh hbn)) ?_
    rintro _ h6 ⟨rfl, H6⟩
    refine ⟨zX (tell k.dl k.room r1 al [x]).1.k, zc, by rw [zc], ?_⟩
    rw [zc]
    refine ⟨fnV k yq, _, _, hb, last, _, _, rfl, sb, H6, w7 ok1, fun h6k => ⟨?_, .inr ⟨_, rfl⟩⟩, fun h6k => ?_⟩
    · rw [hF, est, FQ h6k, xF h6k]
    · have hle6 := (D3 (dl := k.dl) (room := k.room) (al := al) (d := [x]) h6k).2
      exact ⟨_, (by have hm := FR (k := k) (r := r) (rr := (tell k.dl k.room r1 al [x]).1) (m := 1) (by omega) (w7 ok1 h6k).2; omega : mz k (tell k.dl k.room r1 al [x]).1 + 2 < B), f, by omega, .inr (.inr (.inr (.inr (.inl ⟨rfl, rfl, _, _, f2, TA, by push_cast at hf'; omega, by rw [hF, est]⟩))))⟩
  · have h256 : x = 256 := beq_iff_eq.1 h256
    have ez : zX r1.k = .nilIface := by rw [hk1]; rfl
    refine ⟨fnV k xd, r1, al, hb, last, _, _, by rw [ez]; rfl, sb, H1, ok1, fun h => absurd hk1 h, fun _ => ⟨_, (by have hm := FR (k := k) (r := r) (rr := r1) (m := 1) (by omega) (ok1 hk1).2; omega : mz k r1 + 1 < B), f, by omega, .inr (.inr (.inr (.inr (.inr (.inl ⟨rfl, rfl, ?_⟩)))))⟩⟩
    rw [hF, est, if_pos (.inr h256)]
  · have h256 : x ≠ 256 := by simpa using h256
    have e1 : sy1 k.bs cd k.dl k.room k.sz r1 al x = (⟨r1.i, 3⟩, al) := by unfold sy1; rw [if_neg (by omega), if_pos (by omega)]; unfold bd; rw [if_pos ⟨hk1, rfl⟩]
    rw [if_neg (by omega), e1] at est
    refine ⟨3, (Gb.sub H1.sb).es.e3, .nilFunc, ⟨r1.i, 3⟩, al, hb, last, _, _, rfl, sb, H1.FT (show (3 : Int) ≠ 0 by decide), fun h => (by cases h), fun _ => ⟨?_, .inl rfl⟩, fun h => (by cases h)⟩
    rw [hF, est, FQ (show (3 : Int) ≠ 0 by decide), xF (show (3 : Int) ≠ 0 by decide)]
  · have h256 : x ≠ 256 := by simpa using h256
    obtain ⟨s, rfl⟩ := Int.eq_ofNat_of_zero_le (show 0 ≤ x by omega)
    have e1 : sy1 k.bs cd k.dl k.room k.sz r1 al (s : Int) = cpF k.bs cd k.dl k.room k.sz r1 al s := by unfold sy1; rw [if_neg (by omega), if_neg (by omega)]; rfl
    rw [if_neg (by omega), e1] at est
    have bad : ∀ (h' : Eng.Heap) (rr : Rd), cpF k.bs cd k.dl k.room k.sz r1 al s = (rr, al) → rr.k ≠ 0 → okR k.bs rr → IM hb h' k rr al last (.pointer (some ⟨b1, 0, none⟩)) (.pointer (some ⟨b2, 0, none⟩)) → C6 h0 k F Fin B (.tuple #[.nilFunc, zX rr.k]) h' := fun h' rr e hkr okr HR =>
      ⟨.nilFunc, rr, al, hb, last, _, _, rfl, sb, HR, okr, fun _ => ⟨by rw [hF, est, e, FQ hkr, xF hkr], .inl rfl⟩, fun h => absurd h hkr⟩
    have hlen := Mv ⟨s, by omega⟩ (by simp only; omega)
    simp only at hlen
    refine za.mono (Ny (hib.sub H1.sb) s (by omega) (by omega)) ?_
    rintro _ h2 ⟨rfl, rfl⟩
    refine ⟨_, _, rfl, ?_⟩
    refine za.mono (Cg hib Gb.es hxb L H1 hk1 (yN s).2 (by omega)) ?_
    rintro _ h2 ⟨rfl, H2⟩
    have okc1 : okR k.bs (cp1 k.bs r1 s).1 := y9 ok1
    have e1' : tk k.bs (yN s).2 r1 = cp1 k.bs r1 s := rfl
    rw [e1'] at H2 ⊢
    refine ⟨_, zX (cp1 k.bs r1 s).1.k, zc, by rw [zc], fun hz => ?_, fun hz => ?_⟩
    · rw [zc, zz] at hz
      have hk2 : (cp1 k.bs r1 s).1.k ≠ 0 := by simpa using hz
      rw [zc]
      refine bad h2 _ ?_ hk2 okc1 H2
      have e2 : cp2 k.bs cd r1 s = ((cp1 k.bs r1 s).1, 0) := Um hk2
      have e3 : cp3 k.bs cd r1 s = (cp1 k.bs r1 s).1 := by unfold cp3; rw [e2]; exact AS hk2
      unfold cpF; rw [e3, if_pos hk2]
    rw [zc, zz] at hz
    have hk2 : (cp1 k.bs r1 s).1.k = 0 := by simpa using hz
    obtain ⟨_, _, _, _, _, hbm2, _, _⟩ := H2.mt
    obtain ⟨_, _, _, _, _, _, _, g7'⟩ := yC hbm2
    refine ⟨by simp, _, g7', ?_⟩
    refine za.mono (PK hi G.es hx L sb H2 hk2 V2 t2 m2 l2) ?_
    rintro _ h3 ⟨rfl, H3⟩
    have okc2 : okR k.bs (cp2 k.bs cd r1 s).1 := Az okc1
    have e2' : sy k.bs cd (cp1 k.bs r1 s).1 = cp2 k.bs cd r1 s := rfl
    have nn2 := HX (bs := k.bs) (cs := cd) (r := (cp1 k.bs r1 s).1)
    rw [e2'] at H3 nn2 ⊢
    refine ⟨_, zX (cp2 k.bs cd r1 s).1.k, zc, by rw [zc], fun hz => ?_, fun hz => ?_⟩
    · rw [zc, zz] at hz
      have hk3 : (cp2 k.bs cd r1 s).1.k ≠ 0 := by simpa using hz
      rw [zc]
      refine bad h3 _ ?_ hk3 okc2 H3
      have e3 : cp3 k.bs cd r1 s = (cp2 k.bs cd r1 s).1 := AS hk3
      unfold cpF; rw [e3, if_pos hk3]
    rw [zc, zz] at hz
    have hk3 : (cp2 k.bs cd r1 s).1.k = 0 := by simpa using hz
    refine ⟨fun hgt => ?_, fun hle29 => ?_⟩
    · have e3 : cp3 k.bs cd r1 s = ⟨(cp2 k.bs cd r1 s).1.i, 3⟩ := by unfold cp3 bd; rw [if_pos ⟨hk3, decide_eq_true (by omega)⟩]
      refine ⟨3, (Gb.sub H3.sb).es.e3, bad h3 ⟨(cp2 k.bs cd r1 s).1.i, 3⟩ ?_ (show (3 : Int) ≠ 0 by decide) (fun h => (by cases h)) (H3.FT (show (3 : Int) ≠ 0 by decide))⟩
      unfold cpF; rw [e3, if_pos (show (3 : Int) ≠ 0 by decide)]
    have e3 : cp3 k.bs cd r1 s = (cp2 k.bs cd r1 s).1 := by unfold cp3 bd; rw [if_neg (fun h => by have := of_decide_eq_true h.2; omega)]
    obtain ⟨dd, hdd⟩ := Int.eq_ofNat_of_zero_le nn2.1
    have hd29 : dd ≤ 29 := by omega
    have hdis := Mw ⟨dd, by omega⟩
    simp only at hdis
    rw [hdd]
    refine za.mono (Rc (hib.sub H3.sb) dd hd29) ?_
    rintro _ h4 ⟨rfl, rfl⟩
    refine ⟨_, _, rfl, ?_⟩
    rw [← e3] at H3 hk3
    have ok3 : okR k.bs (cp3 k.bs cd r1 s) := by rw [e3]; exact okc2
    refine za.mono (Cg hib Gb.es hxb L H3 hk3 (xo dd).2 (by omega)) ?_
    rintro _ h4 ⟨rfl, H4⟩
    have e4 : tk k.bs (xo dd).2 (cp3 k.bs cd r1 s) = cp4 k.bs cd r1 s := by unfold cp4; rw [hdd, Int.toNat_natCast]
    have n4 := yf (bs := k.bs) (n := (xo dd).2) (r := cp3 k.bs cd r1 s)
    have okc4 : okR k.bs (cp4 k.bs cd r1 s).1 := y9 ok3
    rw [e4] at H4 n4 ⊢
    refine ⟨_, zX (cp4 k.bs cd r1 s).1.k, zc, by rw [zc], fun hz => ?_, fun hz => ?_⟩
    · rw [zc, zz] at hz
      have hk4 : (cp4 k.bs cd r1 s).1.k ≠ 0 := by simpa using hz
      rw [zc]
      refine bad h4 _ ?_ hk4 okc4 H4
      have e5 : cp5 k.bs cd k.sz r1 al s = (cp4 k.bs cd r1 s).1 := AS hk4
      unfold cpF; rw [if_neg (fun h => h hk3), e5, if_pos hk4]
    rw [zc, zz] at hz
    have hk4 : (cp4 k.bs cd r1 s).1.k = 0 := by simpa using hz
    have hp13 : (2 : Int) ^ (xo dd).2 ≤ 8192 := by
      rw [yp]; exact_mod_cast Nat.le_trans (Nat.pow_le_pow_right (by decide) hdis.2.2) (by decide)
    have nn1' := yf (bs := k.bs) (n := (yN s).2) (r := r1)
    have hp5 : (2 : Int) ^ (yN s).2 ≤ 32 := by
      rw [yp]; exact_mod_cast Nat.le_trans (Nat.pow_le_pow_right (by decide) hlen.2.2) (by decide)
    rw [e1'] at nn1'
    obtain ⟨x4, hx4⟩ := Int.eq_ofNat_of_zero_le n4.1
    obtain ⟨x1, hx1⟩ := Int.eq_ofNat_of_zero_le nn1'.1
    have hdist : y7 k.bs cd r1 s = (xo dd).1 + x4 := by unfold y7; rw [hdd, Int.toNat_natCast, hx4, Int.toNat_natCast]
    have hcl : jD k.bs r1 s = (yN s).1 + x1 := by unfold jD; rw [hx1, Int.toNat_natCast]
    rw [hx4, hx1]
    have wd : IntKind.i64.wrap (((xo dd).1 : Int) + (x4 : Int)) = ((y7 k.bs cd r1 s : Nat) : Int) := by rw [hdist, i64_in _ (by omega)]; omega
    have wl : IntKind.i64.wrap (((yN s).1 : Int) + (x1 : Int)) = ((jD k.bs r1 s : Nat) : Int) := by rw [hcl, i64_in _ (by omega)]; omega
    rw [wd, wl]
    have hdp : 1 ≤ y7 k.bs cd r1 s ∧ y7 k.bs cd r1 s ≤ 40000 := by omega
    have hlp : jD k.bs r1 s ≤ 400 ∧ 1 ≤ jD k.bs r1 s := by omega
    have h258 : jD k.bs r1 s ≤ 258 := by
      have e := Ul ⟨s, by omega⟩ (by simp only; omega)
      simp only at e
      have hx := nn1'.2
      rw [hx1, yp] at hx
      have : x1 < 2 ^ (yN s).2 := by exact_mod_cast hx
      omega
    obtain ⟨p, ao, co, hp, hr, hbm4, P4, N4⟩ := H4.mt
    obtain ⟨rd, at_, nn, hbw, R, sR, hnw⟩ := H4.rg
    obtain ⟨_, _, u2, u3, u4, _⟩ := yC hbm4
    have hknn : nn = min al.length k.sz := by rw [← R.kn, jf]
    have hal := H4.le
    refine ⟨by simp, _, u2, by simp, (nn : Int), by simp only [zh, zo, Nat.zero_add, Nat.add_zero]; exact K9 hbw R.dl, fun hgt => ?_, fun hle => ⟨by simp, _, u4, fun hgt2 => ?_, fun hle2 => ⟨by simp, _, u4, by simp, ?_⟩⟩⟩
    · have e5 : cp5 k.bs cd k.sz r1 al s = ⟨(cp4 k.bs cd r1 s).1.i, 3⟩ := by
        unfold cp5 bd
        rw [if_pos ⟨hk4, by simp only [Bool.or_eq_true, decide_eq_true_eq]; omega⟩]
      refine ⟨3, (Gb.sub H4.sb).es.e3, bad h4 ⟨(cp4 k.bs cd r1 s).1.i, 3⟩ ?_ (show (3 : Int) ≠ 0 by decide) (fun h => (by cases h)) (H4.FT (show (3 : Int) ≠ 0 by decide))⟩
      unfold cpF; rw [if_neg (fun h => h hk3), e5, if_pos (show (3 : Int) ≠ 0 by decide)]
    all_goals
      have e5 : cp5 k.bs cd k.sz r1 al s = (cp4 k.bs cd r1 s).1 := by
        unfold cp5 bd
        rw [if_neg (fun h => by have := h.2; simp only [Bool.or_eq_true, decide_eq_true_eq] at this; omega)]
      have ecp : cpF k.bs cd k.dl k.room k.sz r1 al s = tell k.dl k.room (cp4 k.bs cd r1 s).1 al (cpD al (y7 k.bs cd r1 s) (jD k.bs r1 s)) := by
        unfold cpF; rw [if_neg (fun h => h hk3), e5, if_neg (fun h => h hk4)]
    · refine ⟨6, (Gb.sub H4.sb).e6, bad h4 ⟨(cp4 k.bs cd r1 s).1.i, 6⟩ ?_ (show (6 : Int) ≠ 0 by decide) (fun h => (by cases h)) (H4.FT (show (6 : Int) ≠ 0 by decide))⟩
      rw [ecp]; unfold tell; rw [if_pos hk4, if_pos (by rw [By]; simp only [yU] at hgt2; omega)]
    · have ecp2 : cpF k.bs cd k.dl k.room k.sz r1 al s = ((cp4 k.bs cd r1 s).1, al ++ cpD al (y7 k.bs cd r1 s) (jD k.bs r1 s)) := by
        rw [ecp]; unfold tell; rw [if_pos hk4, if_neg (by rw [By]; simp only [yU] at hle2; omega)]
      have hrl : al.length - k.dl + jD k.bs r1 s ≤ k.room := by simp only [yU] at hle2; omega
      have lecp : le2 r1 (cp4 k.bs cd r1 s).1 := fun h => by
        have a3 := jE (bs := k.bs) (n := (xo (cp2 k.bs cd r1 s).2.toNat).2) (r := cp3 k.bs cd r1 s) h
        have a2 := qu (w := decide (29 < (cp2 k.bs cd r1 s).2)) (r := (cp2 k.bs cd r1 s).1) a3.1
        have a1 := FP (bs := k.bs) (cs := cd) (r := (cp1 k.bs r1 s).1) a2.1
        have a0 := jE (bs := k.bs) (n := (yN s).2) (r := r1) a1.1
        exact ⟨a0.1, Int.le_trans a0.2 (Int.le_trans a1.2 (Int.le_trans a2.2 a3.2))⟩
      clear ecp e5
      generalize hcp4 : (cp4 k.bs cd r1 s).1 = r4 at H4 hr hk4 okc4 ecp2 lecp
      generalize hD : y7 k.bs cd r1 s = D at hle hdp ecp2 hdist ⊢
      generalize hM : jD k.bs r1 s = M at hle2 hlp h258 ecp2 hrl hcl ⊢
      have hM2 := By (al := al) (dist := D) (n := M)
      have hDl : D ≤ (zC k.sz al).length := by rw [jf]; omega
      simp only [yd, zo, Nat.add_zero]
      have hrm : IntKind.i64.wrap ((yU k al (.slice ao (k.otl al).length co) last (.pointer (some ⟨b1, 0, none⟩)) (.pointer (some ⟨b2, 0, none⟩))).rm - (M : Int)) = (k.room : Int) - (((al ++ cpD al D M).length - k.dl : Nat) : Int) := by
        simp only [yU, List.length_append, hM2]
        rw [i64_in _ (by omega)]; omega
      refine ⟨jY hbm4 hsb u4, by simp, ?_⟩
      rw [hrm, M5 hbm4]
      obtain ⟨h5, hh5⟩ : ∃ h5, h5 = upd h4 k.bm (z9 k.a k.c k.bs p ⟨.pointer (some ⟨k.bw, 0, none⟩), .slice ao (k.otl al).length co, (k.room : Int) - (((al ++ cpD al D M).length - k.dl : Nat) : Int), last, .pointer (some ⟨b1, 0, none⟩), .pointer (some ⟨b2, 0, none⟩)⟩ k.T) := ⟨_, rfl⟩
      have eh5 : upd h4 k.bm (z9 k.a k.c k.bs p ⟨(yU k al (.slice ao (k.otl al).length co) last (.pointer (some ⟨b1, 0, none⟩)) (.pointer (some ⟨b2, 0, none⟩))).w, (yU k al (.slice ao (k.otl al).length co) last (.pointer (some ⟨b1, 0, none⟩)) (.pointer (some ⟨b2, 0, none⟩))).out, (k.room : Int) - (((al ++ cpD al D M).length - k.dl : Nat) : Int), (yU k al (.slice ao (k.otl al).length co) last (.pointer (some ⟨b1, 0, none⟩)) (.pointer (some ⟨b2, 0, none⟩))).last, (yU k al (.slice ao (k.otl al).length co) last (.pointer (some ⟨b1, 0, none⟩)) (.pointer (some ⟨b2, 0, none⟩))).l, (yU k al (.slice ao (k.otl al).length co) last (.pointer (some ⟨b1, 0, none⟩)) (.pointer (some ⟨b2, 0, none⟩))).d⟩ k.T) = h5 := by rw [hh5]; rfl
      rw [eh5]
      have hb5 : h5 k.bm = some (z9 k.a k.c k.bs p ⟨.pointer (some ⟨k.bw, 0, none⟩), .slice ao (k.otl al).length co, (k.room : Int) - (((al ++ cpD al D M).length - k.dl : Nat) : Int), last, .pointer (some ⟨b1, 0, none⟩), .pointer (some ⟨b2, 0, none⟩)⟩ k.T) := by rw [hh5, upd_same]
      have h54 : ∀ z, z ≠ k.bm → h5 z = h4 z := fun z hz => by rw [hh5]; exact upd_ne hz
      obtain ⟨_, _, w2, w3, _⟩ := yC hb5
      have s5 : Eng.Sub hb h5 := by rw [hh5]; exact xq H4.sb H4.nm
      have hbw5 : h5 k.bw = some (zY k.sz rd at_ nn k.TW) := (h54 k.bw (Ne.symm H4.ne)).trans hbw
      have P5 : Part .u8 h5 (.slice ao (k.otl al).length co) (k.otl al) := P4.keep fun z hz => h54 z (IM.xv N4 hz).1
      obtain ⟨g, hg⟩ : ∃ g, g = wo h5 [k.bw] := ⟨_, rfl⟩
      have sbg : Eng.Sub hb g := hg ▸ Nz s5 (fun b hb' => by rw [List.mem_singleton.1 hb']; exact hnw)
      have sg5 : Eng.Sub g h5 := hg ▸ JU
      have gne : ∀ z, z ≠ k.bw → g z = h5 z := fun z hz => by rw [hg]; exact Lc (fun hm => hz (List.mem_singleton.1 hm))
      have Rg : RingAt g h5 k.bw k.TW k.sz (zC k.sz (zC k.sz al)) := by
        rw [H9]
        exact ⟨rd, at_, nn, hbw5, R, sg5, hg ▸ Ia (List.mem_singleton.2 rfl)⟩
      refine ⟨_, _, _, w3, by simp, _, w2, ?_⟩
      refine za.mono (QZ (hib.sub sbg) Rg (D : Int) (M : Int) (by omega) (by omega) (by rw [jf] at hDl; omega) (by omega) (by rw [jf]; omega)) ?_
      rintro v6 h6 ⟨O6, N6, R6⟩
      rw [Int.toNat_natCast, Int.toNat_natCast, IN hdp.1 hDl, Lg hdp.1 hDl] at R6
      rw [Int.toNat_natCast, Int.toNat_natCast, IN hdp.1 hDl, Lg hdp.1 hDl, List.drop_left] at O6
      rw [AE] at R6
      obtain ⟨rd6, at6, nn6, hbw6, RS6, sg6, _⟩ := R6
      have hkeep : ∀ z, z ≠ k.bw → h5 z ≠ none → h6 z = h5 z := fun z hz hn => by
        cases e : h5 z with
        | none => exact absurd e hn
        | some o => exact sg6 z o ((gne z hz).trans e)
      have hb6 := (hkeep k.bm H4.ne (by rw [hb5]; simp)).trans hb5
      obtain ⟨_, _, x2, x3, _⟩ := yC hb6
      have P6 : Part .u8 h6 (.slice ao (k.otl al).length co) (k.otl al) := P5.keep fun z hz => hkeep z (IM.xv N4 hz).2.1 (tB.Oheld P5 (show tB.B _ z from hz))
      obtain ⟨a6, c6, rfl, _, g6'⟩ := Part.ints O6
      refine ⟨_, _, _, rfl, fun pp hpp => ?_, ?_⟩
      · obtain rfl := List.mem_singleton.1 hpp
        simp only [Ex.ev, coerce, zi, zl, zj, zh, yb, List.getD_cons_zero, List.getD_cons_succ, Nat.zero_add, zo, zh]
        first | exact x3 | (simp [zo]; exact x3)
      have hdl2 : (k.otl al).length ≤ 300000 := by rw [KC.M3]; omega
      refine xI hib (sbg.trans sg6) P6 (fun z hz => (IM.xv N4 hz).2.2) g6' (by omega) fun v7 h7 o7 n7 s7 k7 r7 => ?_
      obtain ⟨a7, c7, rfl, _, _⟩ := o7.ints
      have hb7 := (k7 k.bm (by rw [hb6]; simp) (fun e => (IM.xv N4 e).1 rfl)).trans hb6
      have hbw7 := (k7 k.bw (by rw [hbw6]; simp) (fun e => (IM.xv N4 e).2.1 rfl)).trans hbw6
      obtain ⟨_, _, _, y3, _⟩ := yC hb7
      simp only [zj, zi, zl]
      refine ⟨by simp, jY hb7 hsb y3, ?_⟩
      rw [La hb7]
      have ed : k.otl (al ++ cpD al D M) = k.otl al ++ cpD al D M := KC.M4 hal.1
      have nv : ∀ z, zq (.slice a7 (k.otl al ++ cpD al D M).length c7) = some z → z ≠ k.bm ∧ z ≠ k.bw := fun z hz => by
        rcases r7 with r7 | r7
        · have := IM.xv N4 (r7 ▸ hz); exact ⟨this.1, this.2.1⟩
        · have := r7 z hz
          exact ⟨fun e => (by rw [e, hb6] at this; cases this), fun e => (by rw [e, hbw6] at this; cases this)⟩
      obtain ⟨h8, hh8⟩ : ∃ h8, h8 = upd h7 k.bm (z9 k.a k.c k.bs p ⟨.pointer (some ⟨k.bw, 0, none⟩), .slice a7 (k.otl al ++ cpD al D M).length c7, (k.room : Int) - (((al ++ cpD al D M).length - k.dl : Nat) : Int), last, .pointer (some ⟨b1, 0, none⟩), .pointer (some ⟨b2, 0, none⟩)⟩ k.T) := ⟨_, rfl⟩
      rw [← hh8]
      have s8 : Eng.Sub hb h8 := by rw [hh8]; exact xq s7 H4.nm
      have h87 : ∀ z, z ≠ k.bm → h8 z = h7 z := fun z hz => by rw [hh8]; exact upd_ne hz
      have H8 : IM hb h8 k r4 (al ++ cpD al D M) last (.pointer (some ⟨b1, 0, none⟩)) (.pointer (some ⟨b2, 0, none⟩)) := by
        refine ⟨⟨p, a7, c7, hp, hr, ?_, ?_, ?_⟩, ⟨rd6, at6, nn6, (h87 k.bw (Ne.symm H4.ne)).trans hbw7, RS6, s8, hnw⟩, H4.nm, H4.ne, s8, ?_⟩
        · rw [hh8, upd_same, ed]; rfl
        · rw [ed]; exact o7.keep fun z hz => h87 z (nv z hz).1
        · rw [ed]; exact fun z hz => qW.2 ⟨by simp [(nv z hz).1, (nv z hz).2], n7 z hz⟩
        · rw [List.length_append, hM2]; omega
      have ez : zX r4.k = .nilIface := by rw [hk4]; rfl
      have hle4 := (lecp hk4).2
      refine ⟨fnV k yq, r4, _, hb, last, _, _, by rw [ez]; rfl, sb, H8, okc4, fun h => absurd hk4 h, fun _ => ⟨_, (by have hm := FR (k := k) (r := r) (rr := r4) (m := 1) (by omega) (okc4 hk4).2; omega : mz k r4 + 2 < B), f, by omega, .inr (.inr (.inr (.inr (.inl ⟨rfl, rfl, _, _, f2, TA, by push_cast at hf'; omega, by rw [hF, est, ecp2]⟩))))⟩⟩
end
end
section
variable {S : Shared} {h h0 hb : Eng.Heap}
section
variable {k : KC} {F : Nat} {Fin : Rd × List Int}
def A6 (h0 : Eng.Heap) (k : KC) (F : Nat) (Fin : Rd × List Int) (v : Value) (h : Eng.Heap) (n : Nat) : Prop :=
 ∃ (r : Rd) (al : List Int) (hb : Eng.Heap) (last : Bool) (l d : Value), Eng.Sub h0 hb ∧ IM hb h k r al last l d ∧ r.k = 0 ∧ okR k.bs r ∧ Uk h0 hb k F Fin v r al last l d n
def Lh (h0 : Eng.Heap) (k : KC) (Fin : Rd × List Int) (v : Value) (h' : Eng.Heap) : Prop :=
 ∃ (hb : Eng.Heap) (last : Bool) (l d : Value), v = zX Fin.1.k ∧ Eng.Sub h0 hb ∧ IM hb h' k Fin.1 Fin.2 last l d ∧ okR k.bs Fin.1
theorem least {P : Nat → Prop} : ∀ n, P n → ∃ m, P m ∧ ∀ j, P j → m ≤ j
 | n, h => by
  by_cases hs : ∃ j, j < n ∧ P j
  ·obtain ⟨j, hj, hp⟩ := hs
   exact least j hp
  ·exact ⟨n, h, fun j hp => Nat.le_of_not_lt fun hl => hs ⟨j, hl, hp⟩⟩
open Classical in
noncomputable def runM (h0 : Eng.Heap) (k : KC) (F : Nat) (Fin : Rd × List Int) (v : Value) (h : Eng.Heap) : Nat := if H : ∃ n, A6 h0 k F Fin v h n ∧ ∀ j, A6 h0 k F Fin v h j → n ≤ j then Classical.choose H else 0
theorem Jz {v : Value} {n : Nat} (H : A6 h0 k F Fin v h n) : A6 h0 k F Fin v h (runM h0 k F Fin v h) ∧ runM h0 k F Fin v h ≤ n := by
 have e := least n H
 unfold runM
 rw [dif_pos e]
 exact ⟨(Classical.choose_spec e).1, (Classical.choose_spec e).2 n H⟩
theorem Vk (hi : Eng.Inv S h0) (G : ErrL h0) (hro : k.room ≤ 200000) (hdl : k.dl ≤ 40000) (hsz : 1 ≤ k.sz ∧ k.sz ≤ 32768) (hx : zn h0 .u8 k.a k.bs) (L : k.bs.length ≤ 1048576) (hFl : 8 * k.bs.length + 1 ≤ F) {n0 : Nat} (H0 : A6 h0 k F Fin (fnV k yo) h n0) :
  za Tryz.prog S kP #[.pointer (some ⟨k.bm, 0, none⟩), .func (.func yo) #[.pointer (some ⟨k.bm, 0, none⟩)] #[]] h (Lh h0 k Fin) := by
 refine Du (vs := [.pointer (some ⟨k.bm, 0, none⟩), .func (.func yo) #[.pointer (some ⟨k.bm, 0, none⟩)] #[]]) ⟨rfl, rfl, trivial⟩ (hi.sub (by obtain ⟨_, _, hb, _, _, _, s, H, _⟩ := H0; exact s.trans H.sb)) ?_
 simp only [Ad, Tr.wp, zG, Ex.ev, coerce, zb, Cst.val, SV.den, zw, zV, z7, zp, zm, z4, zP, List.flatMap_cons, List.flatMap_nil, List.getD_cons_zero, List.getD_cons_succ, List.getElem?_cons_zero, List.map_cons, List.map_nil, List.cons_append, List.nil_append, List.append_nil, List.length_cons, List.length_nil, Nat.zero_add, if_true, if_false, Bool.false_eq_true]
 refine ⟨fun us h' => ∃ v n, us = [v] ∧ A6 h0 k F Fin v h' n, fun us h' => runM h0 k F Fin (us.getD 0 undef) h', ⟨_, n0, rfl, H0⟩, ?_⟩
 rintro v hfv h' ⟨v', n, hx1, HR⟩
 obtain rfl : v = v' := by simpa using hx1
 obtain ⟨⟨r, al, hb, last, l, d, sb, H, hk, ok, HO⟩, _⟩ := Jz HR
 obtain ⟨m, hm⟩ : ∃ m, m = runM h0 k F Fin v h' := ⟨_, rfl⟩
 rw [← hm] at HO
 have fin : ∀ v1 h1, C6 h0 k F Fin m v1 h1 → ∃ v_2, qM v_2 = v_2 ∧ ∃ v_3, jH v_3 = v_3 ∧ v1 = .tuple #[qM v_2, jH v_3] ∧ ((!xb (jH v_3)) = true → Lh h0 k Fin (jH v_3) h1) ∧
   ((!xb (jH v_3)) = false → (∃ v n, [qM v_2] = [v] ∧ A6 h0 k F Fin v h1 n) ∧ runM h0 k F Fin (([qM v_2] : List Value).getD 0 undef) h1 < runM h0 k F Fin (([v] : List Value).getD 0 undef) h') := by
  rintro v1 h1 ⟨nx, rr, al', hb', last', l', d', rfl, sb', H', ok', hbad, hgood⟩
  have hnx : qM nx = nx := by
   by_cases hkr : rr.k = 0
   ·obtain ⟨n', _, f, _, hO⟩ := hgood hkr
    rcases hO with ⟨e, _⟩ | ⟨e, _⟩ | ⟨e, _⟩ | ⟨e, _⟩ | ⟨e, _⟩ | ⟨e, _⟩ | ⟨e, _⟩ <;> (rw [e]; rfl)
   ·rcases (hbad hkr).2 with e | ⟨f, e⟩ <;> (rw [e]; rfl)
  refine ⟨nx, hnx, zX rr.k, zc, by rw [hnx, zc], fun hz => ?_, fun hz => ?_⟩
  ·rw [zc, zz] at hz
   have hkr : rr.k ≠ 0 := by simpa using hz
   obtain ⟨e, _⟩ := hbad hkr
   rw [e, zc]
   exact ⟨hb', last', l', d', rfl, sb', H', ok'⟩
  ·rw [zc, zz] at hz
   have hkr : rr.k = 0 := by simpa using hz
   obtain ⟨n', hn', hO⟩ := hgood hkr
   have RA : A6 h0 k F Fin nx h1 n' := ⟨rr, al', hb', last', l', d', sb', H', hkr, ok', hO⟩
   have := (Jz RA).2
   rw [hnx]
   refine ⟨⟨nx, n', rfl, RA⟩, ?_⟩
   show runM h0 k F Fin nx h1 < runM h0 k F Fin v h'
   omega
 obtain ⟨f, hf, hO⟩ := HO
 rcases hO with ⟨rfl, em, e⟩ | ⟨rfl, em, e⟩ | ⟨rfl, em, e⟩ | ⟨rfl, em, e⟩ | ⟨rfl, em, cl, cd, f', TA, hf', e⟩ | ⟨rfl, em, e⟩ | ⟨rfl, em, e⟩
 ·refine ⟨fun _ => ⟨_, _, _, rfl, za.mono (SP hi G.es hx L sb H hk ok f hf (B := m) (by omega) e) fin⟩, fun h => (by cases h)⟩
 ·refine ⟨fun _ => ⟨_, _, _, rfl, za.mono (Rh hi G hro hdl hx L sb H hk ok f hf (B := m) (by omega) e) fin⟩, fun h => (by cases h)⟩
 ·refine ⟨fun _ => ⟨_, _, _, rfl, za.mono (SQ hi L sb H hk ok hFl f hf (B := m) (by omega) e) fin⟩, fun h => (by cases h)⟩
 ·refine ⟨fun _ => ⟨_, _, _, rfl, za.mono (PI hi G.es hx L sb H hk ok hFl f hf (B := m) (by omega) e) fin⟩, fun h => (by cases h)⟩
 ·refine ⟨fun _ => ⟨_, _, _, rfl, za.mono (PM hi G hro hdl hsz hx L sb H hk ok f hf f' hf' TA (B := m) (by omega) e) fin⟩, fun h => (by cases h)⟩
 ·refine ⟨fun _ => ⟨_, _, _, rfl, za.mono (Re hi sb H hk ok f hf (B := m) (by omega) e) fin⟩, fun h => (by cases h)⟩
 ·refine ⟨fun h => (by cases h), fun _ => ⟨hb, last, l, d, ?_, sb, ?_, ?_⟩⟩
  ·rw [e, hk]; rfl
  ·rw [e]; exact H
  ·rw [e]; exact ok
end
end
end Go.Proofs.YteaonnfokkfnlaaGreatDoor
end
section
namespace Go.Proofs.YteaonnfokkfnlaaGreatDoor
open Go Go.Eng Go.IntWalk
variable {S : Shared} {h : Eng.Heap}
def w32 (x : Int) : Int := IntKind.u32.wrap x
def jF (p : Int × Int) (x : Int) : Int × Int :=
 ((w32 (p.1 + w32 x)).tmod 65521, (w32 (p.2 + (w32 (p.1 + w32 x)).tmod 65521)).tmod 65521)
def CU (c : Int) : Int × Int := ((c.tmod 65536).tmod 65521, (w32 (c.tdiv 65536)).tmod 65521)
def C7 (p : Int × Int) : Int := w32 (w32 (p.2 * 65536) + p.1)
def yF (c : Int) (xs : List Int) : Int := C7 (xs.foldl jF (CU c))
theorem J0 {α β : Type} (f : α → β → α) (p : α) {xs : List β} {i : Nat} (hi : i < xs.length) : (xs.take (i + 1)).foldl f p = f ((xs.take i).foldl f p) xs[i] := by
 rw [List.take_add_one, List.getElem?_eq_getElem hi, List.foldl_append]; rfl
theorem Ch (hi : Eng.Inv S h) (c0 : Int) (a : Option Addr) (c : Nat) (xs : List Int) (hx : zn h .u8 a xs) (hl : xs.length ≤ 2 ^ 48) :
  za Tryz.prog S qg #[.int .u32 c0, .slice a xs.length c] h (fun v h' => v = .int .u32 (yF c0 xs) ∧ h' = h) := by
 refine IA (vs := [.int .u32 c0, .slice a xs.length c]) ⟨rfl, rfl, trivial⟩ hi ?_
 simp only [Fh, Tr.wp, Ex.ev, coerce, toInt_int, zb, zi, zl, zj, zh, yg, z6, arith, Cst.val, SV.den, z4, zP, zu, List.getD_cons_zero, List.getD_cons_succ, List.getElem?_cons_zero, decide_eq_true_eq, decide_eq_false_iff_not, List.map_cons, List.map_nil, List.cons_append, List.nil_append, and_true]
 refine ⟨fun us h' => ∃ i : Nat, us = [.int .u32 ((xs.take i).foldl jF (CU c0)).1, .int .u32 ((xs.take i).foldl jF (CU c0)).2, .int .i64 i] ∧ i ≤ xs.length ∧ h' = h,
  fun us _ => xs.length - (toInt (us.getD 2 undef)).toNat, ⟨0, rfl, by omega, rfl⟩, ?_⟩
 rintro x y z h' ⟨i, hx1, hi2, rfl⟩
 simp only [List.cons.injEq, Value.int.injEq, true_and, and_true] at hx1
 obtain ⟨rfl, rfl, rfl⟩ := hx1
 refine ⟨fun hlt => ?_, fun hge => ?_⟩
 ·have hi3 : i < xs.length := by omega
  obtain ⟨g1, g2⟩ := hx.cell (List.getElem?_eq_getElem hi3)
  have w2 : IntKind.i64.wrap ((i : Int) + 1) = ((i + 1 : Nat) : Int) := by rw [i64_in _ (by omega)]; omega
  refine ⟨by simpa using g2, by omega, by omega, xs[i], by simpa [add_add] using g1, ⟨i + 1, ?_, by omega, rfl⟩, ?_⟩
  ·rw [w2, J0 jF (CU c0) hi3]; rfl
  ·simp only [w2, List.getD_cons_succ, List.getD_cons_zero, toInt_int, Int.toNat_natCast]; omega
 ·obtain rfl : i = xs.length := by omega
  refine ⟨?_, rfl⟩
  rw [List.take_length]; rfl
theorem AT (hi : Eng.Inv S h) (c0 : Int) (a : Option Addr) (c : Nat) (xs : List Int) (hx : zn h .u8 a xs) (hl : xs.length ≤ 2 ^ 48) :
  za Tryz.prog S j8 #[.int .u32 c0, .slice a xs.length c] h (fun v h' => v = .int .u32 (yF c0 xs) ∧ h' = h) := by
 refine DR (vs := [.int .u32 c0, .slice a xs.length c]) ⟨rfl, rfl, trivial⟩ hi ?_
 simp only [AH, Tr.wp, Ex.ev, coerce, toInt_int, zb, zi, zl, zj, zh, yg, z6, arith, Cst.val, SV.den, z4, zP, zu, List.getD_cons_zero, List.getD_cons_succ, List.getElem?_cons_zero, decide_eq_true_eq, decide_eq_false_iff_not, List.map_cons, List.map_nil, List.cons_append, List.nil_append, and_true]
 refine ⟨fun us h' => ∃ i : Nat, us = [.int .u32 ((xs.take i).foldl jF (CU c0)).1, .int .u32 ((xs.take i).foldl jF (CU c0)).2, .int .i64 i] ∧ i ≤ xs.length ∧ h' = h,
  fun us _ => xs.length - (toInt (us.getD 2 undef)).toNat, ⟨0, rfl, by omega, rfl⟩, ?_⟩
 rintro x y z h' ⟨i, hx1, hi2, rfl⟩
 simp only [List.cons.injEq, Value.int.injEq, true_and, and_true] at hx1
 obtain ⟨rfl, rfl, rfl⟩ := hx1
 refine ⟨fun hlt => ?_, fun hge => ?_⟩
 ·have hi3 : i < xs.length := by omega
  obtain ⟨g1, g2⟩ := hx.cell (List.getElem?_eq_getElem hi3)
  have w2 : IntKind.i64.wrap ((i : Int) + 1) = ((i + 1 : Nat) : Int) := by rw [i64_in _ (by omega)]; omega
  refine ⟨by simpa using g2, by omega, by omega, xs[i], by simpa [add_add] using g1, ⟨i + 1, ?_, by omega, rfl⟩, ?_⟩
  ·rw [w2, J0 jF (CU c0) hi3]; rfl
  ·simp only [w2, List.getD_cons_succ, List.getD_cons_zero, toInt_int, Int.toNat_natCast]; omega
 ·obtain rfl : i = xs.length := by omega
  refine ⟨?_, rfl⟩
  rw [List.take_length]; rfl
theorem PN (hi : Eng.Inv S h) (a : Option Addr) (c : Nat) (xs : List Int) (hx : zn h .u8 a xs) (hl : xs.length ≤ 2 ^ 48) :
  za Tryz.prog S wL #[.slice a xs.length c] h (fun v h' => v = .int .u32 (yF 1 xs) ∧ Eng.Sub h h') := by
 refine CO (vs := [.slice a xs.length c]) ⟨rfl, trivial⟩ hi ?_
 simp only [wS, Tr.wp, zG, Ex.ev, coerce, toInt_int, zi, zl, zj, Cst.val, SV.den, zw, zV, z7, zp, zm, z4, List.flatMap_cons, List.flatMap_nil, List.getD_cons_zero, List.getD_cons_succ, List.map_cons, List.map_nil, List.cons_append, List.nil_append, List.append_nil, if_false, Bool.false_eq_true]
 refine (Ch hi 1 a c xs hx hl).mono ?_
 rintro _ h' ⟨rfl, rfl⟩
 exact ⟨_, rfl, rfl, fun _ _ h => h⟩
end Go.Proofs.YteaonnfokkfnlaaGreatDoor
end
section
namespace Go.Proofs.YteaonnfokkfnlaaGreatDoor
open Go Go.Eng Go.IntWalk
def IP : List Int → Int
 | [] => 0
 | y :: ys => y + IP ys
def IQ : List Int → Int
 | [] => 0
 | y :: ys => ((ys.length : Int) + 1) * y + IQ ys
def okB (xs : List Int) : Prop := ∀ x ∈ xs, 0 ≤ x ∧ x < 256
def okS (p : Int × Int) : Prop := 0 ≤ p.1 ∧ p.1 < 65521 ∧ 0 ≤ p.2 ∧ p.2 < 65521
theorem PO {p : Int × Int} (hp : okS p) {x : Int} (hx : 0 ≤ x ∧ x < 256) : jF p x = ((p.1 + x) % 65521, (p.2 + (p.1 + x) % 65521) % 65521) ∧ okS (jF p x) := by
 obtain ⟨h1, h2, h3, h4⟩ := hp
 have w1 : w32 x = x := by unfold w32; rw [IntKind.wrap_u32]; omega
 have w2 : w32 (p.1 + x) = p.1 + x := by unfold w32; rw [IntKind.wrap_u32]; omega
 have e1 : (p.1 + x).tmod 65521 = (p.1 + x) % 65521 := Int.tmod_eq_emod_of_nonneg (by omega)
 have w3 : w32 (p.2 + (p.1 + x) % 65521) = p.2 + (p.1 + x) % 65521 := by unfold w32; rw [IntKind.wrap_u32]; omega
 have e2 : (p.2 + (p.1 + x) % 65521).tmod 65521 = (p.2 + (p.1 + x) % 65521) % 65521 := Int.tmod_eq_emod_of_nonneg (by omega)
 have e : jF p x = ((p.1 + x) % 65521, (p.2 + (p.1 + x) % 65521) % 65521) := by
  unfold jF
  rw [w1, w2, e1, w3, e2]
 refine ⟨e, ?_⟩
 rw [e]
 exact ⟨by show 0 ≤ _ % _; omega, by show _ % _ < _; omega, by show 0 ≤ _ % _; omega, by show _ % _ < _; omega⟩
theorem M7 {a b k : Int} (h : a = b + 65521 * k) : a % 65521 = b % 65521 := by rw [h]; omega
theorem Li : ∀ (xs : List Int) (p : Int × Int), okS p → okB xs → xs.foldl jF p = ((p.1 + IP xs) % 65521, (p.2 + xs.length * p.1 + IQ xs) % 65521) := by
 intro xs
 induction xs with
 | nil =>
  rintro ⟨a, b⟩ ⟨h1, h2, h3, h4⟩ _
  simp only [List.foldl_nil, IP, IQ, List.length_nil] at *
  simp only [Prod.mk.injEq]
  refine ⟨?_, ?_⟩ <;> omega
 | cons x xs ih =>
  intro p hp hb
  obtain ⟨e, ok⟩ := PO hp (hb x (by simp))
  rw [List.foldl_cons, ih _ ok (fun y hy => hb y (by simp [hy])), e]
  simp only [IP, IQ, List.length_cons, Prod.mk.injEq]
  have d1 : (p.1 + x) % 65521 = p.1 + x - 65521 * ((p.1 + x) / 65521) := by omega
  have d2 : (p.2 + (p.1 + x) % 65521) % 65521 = p.2 + (p.1 + x) % 65521 - 65521 * ((p.2 + (p.1 + x) % 65521) / 65521) := by omega
  refine ⟨M7 (k := -((p.1 + x) / 65521)) (by omega), ?_⟩
  refine M7 (k := -((p.2 + (p.1 + x) % 65521) / 65521) - ((xs.length : Int) + 1) * ((p.1 + x) / 65521)) ?_
  rw [d2, d1]
  generalize (p.1 + x) / 65521 = u
  generalize (p.2 + (p.1 + x - 65521 * u)) / 65521 = v
  push_cast
  simp only [Int.mul_add, Int.add_mul, Int.mul_sub, Int.mul_neg, Int.one_mul]
  have m1 : (xs.length : Int) * (65521 * u) = 65521 * ((xs.length : Int) * u) := by rw [← Int.mul_assoc, Int.mul_comm (xs.length : Int) 65521, Int.mul_assoc]
  omega
theorem SR {xs ys : List Int} (h : okB xs) (h' : okB ys) : okB (xs ++ ys) := fun x hx => (List.mem_append.1 hx).elim (h x) (h' x)
theorem GN {p : Int × Int} (hp : okS p) : C7 p = p.2 * 65536 + p.1 := by
 obtain ⟨h1, h2, h3, h4⟩ := hp
 unfold C7 w32
 rw [show IntKind.u32.wrap (p.2 * 65536) = p.2 * 65536 by rw [IntKind.wrap_u32]; omega, IntKind.wrap_u32]; omega
def Ib (p q n : Int) : Int :=
 IntKind.u32.wrap (IntKind.i64.wrap (IntKind.i64.wrap ((IntKind.i64.wrap ((IntKind.i64.wrap (IntKind.i64.wrap (IntKind.i64.wrap ((IntKind.u32.wrap (p.tdiv 65536)).tmod 65521) + IntKind.i64.wrap ((IntKind.u32.wrap (q.tdiv 65536)).tmod 65521)) +
  IntKind.i64.wrap (n * IntKind.i64.wrap (IntKind.i64.wrap ((p.tmod 65536).tmod 65521) - 1)))).tmod 65521 + 65521)).tmod 65521 * 65536) +
  (IntKind.i64.wrap (IntKind.i64.wrap (IntKind.i64.wrap (IntKind.i64.wrap ((p.tmod 65536).tmod 65521) + IntKind.i64.wrap ((q.tmod 65536).tmod 65521)) - 1) + 65521)).tmod 65521))
theorem PQ {p q : Int × Int} (hp : okS p) (hq : okS q) {n : Int} (h0 : 0 ≤ n) (hn : n ≤ 1000000) :
  Ib (C7 p) (C7 q) n = ((p.2 + q.2 + n * (p.1 - 1)) % 65521) * 65536 + (p.1 + q.1 - 1) % 65521 := by
 rw [GN hp, GN hq]
 obtain ⟨h1, h2, h3, h4⟩ := hp
 obtain ⟨k1, k2, k3, k4⟩ := hq
 have t1 : ∀ x : Int, 0 ≤ x → ∀ m : Int, x.tmod m = x % m := fun x hx m => Int.tmod_eq_emod_of_nonneg hx
 have a1 : (p.2 * 65536 + p.1).tmod 65536 = p.1 := by rw [t1 _ (by omega)]; omega
 have a2 : (q.2 * 65536 + q.1).tmod 65536 = q.1 := by rw [t1 _ (by omega)]; omega
 have b1 : (p.2 * 65536 + p.1).tdiv 65536 = p.2 := by rw [Int.tdiv_eq_ediv_of_nonneg (by omega)]; omega
 have b2 : (q.2 * 65536 + q.1).tdiv 65536 = q.2 := by rw [Int.tdiv_eq_ediv_of_nonneg (by omega)]; omega
 have c1 : ∀ x : Int, 0 ≤ x → x < 65521 → x.tmod 65521 = x := fun x hx hy => by rw [t1 _ hx]; omega
 have u1 : ∀ x : Int, 0 ≤ x → x < 65521 → IntKind.u32.wrap x = x := fun x hx hy => by rw [IntKind.wrap_u32]; omega
 have i1 : ∀ x : Int, -4611686018427387904 ≤ x → x < 4611686018427387904 → IntKind.i64.wrap x = x := fun x hx hy => by rw [IntKind.wrap_i64]; omega
 unfold Ib
 rw [a1, a2, b1, b2, u1 p.2 h3 h4, u1 q.2 k3 k4, c1 p.1 h1 h2, c1 q.1 k1 k2, c1 p.2 h3 h4, c1 q.2 k3 k4, i1 p.1 (by omega) (by omega), i1 q.1 (by omega) (by omega), i1 p.2 (by omega) (by omega), i1 q.2 (by omega) (by omega),
  i1 (p.1 - 1) (by omega) (by omega), i1 (p.2 + q.2) (by omega) (by omega), i1 (p.1 + q.1) (by omega) (by omega), i1 (p.1 + q.1 - 1) (by omega) (by omega), i1 (p.1 + q.1 - 1 + 65521) (by omega) (by omega)]
 have nb1 : -1000000 ≤ n * (p.1 - 1) := by
  rcases (by omega : p.1 < 1 ∨ 1 ≤ p.1) with h | h
  ·have : p.1 - 1 = -1 := by omega
   rw [this]; omega
  ·have := Int.mul_nonneg h0 (show 0 ≤ p.1 - 1 by omega); omega
 have nb2 : n * (p.1 - 1) ≤ 1000000 * 65521 := by
  rcases (by omega : p.1 < 1 ∨ 1 ≤ p.1) with h | h
  ·have : p.1 - 1 = -1 := by omega
   rw [this]; omega
  ·exact Int.mul_le_mul hn (by omega) (by omega) (by omega)
 generalize n * (p.1 - 1) = m at nb1 nb2
 rw [i1 m (by omega) (by omega), i1 (p.2 + q.2 + m) (by omega) (by omega)]
 have tm : (p.2 + q.2 + m).tmod 65521 = p.2 + q.2 + m - 65521 * (p.2 + q.2 + m).tdiv 65521 := by have := Int.tmod_add_mul_tdiv (p.2 + q.2 + m) 65521; omega
 have tl := Int.lt_tmod_of_pos (p.2 + q.2 + m) (show (0 : Int) < 65521 by omega)
 have tu := Int.tmod_lt_of_pos (p.2 + q.2 + m) (show (0 : Int) < 65521 by omega)
 generalize (p.2 + q.2 + m).tdiv 65521 = v at tm
 generalize (p.2 + q.2 + m).tmod 65521 = z at tm tl tu
 rw [i1 (z + 65521) (by omega) (by omega), t1 (z + 65521) (by omega), t1 (p.1 + q.1 - 1 + 65521) (by omega)]
 have e1 : (z + 65521) % 65521 = (p.2 + q.2 + m) % 65521 := by omega
 have e2 : (p.1 + q.1 - 1 + 65521) % 65521 = (p.1 + q.1 - 1) % 65521 := by omega
 rw [e1, e2]
 generalize hB : (p.2 + q.2 + m) % 65521 = B
 generalize hA : (p.1 + q.1 - 1) % 65521 = A
 have : 0 ≤ B ∧ B < 65521 ∧ 0 ≤ A ∧ A < 65521 := by omega
 rw [i1 (B * 65536) (by omega) (by omega), i1 _ (by omega) (by omega), IntKind.wrap_u32]; omega
theorem IS {p : Int × Int} (hp : okS p) {xs : List Int} (hb : okB xs) : okS (xs.foldl jF p) := by
 rw [Li xs p hp hb]
 exact ⟨by show 0 ≤ _ % _; omega, by show _ % _ < _; omega, by show 0 ≤ _ % _; omega, by show _ % _ < _; omega⟩
theorem Rj : CU 1 = (1, 0) := by decide
theorem SS {c : Int} (h : 0 ≤ c ∧ c < 4294967296) : okS (CU c) := by
 unfold CU w32
 rw [Int.tdiv_eq_ediv_of_nonneg h.1, Int.tmod_eq_emod_of_nonneg h.1, IntKind.wrap_u32, Int.tmod_eq_emod_of_nonneg (by omega), Int.tmod_eq_emod_of_nonneg (by omega)]
 exact ⟨by show 0 ≤ _ % _; omega, by show _ % _ < _; omega, by show 0 ≤ _ % _; omega, by show _ % _ < _; omega⟩
theorem NA {p : Int × Int} (hp : okS p) {ys : List Int} (hb : okB ys) (hn : ys.length ≤ 1000000) : Ib (C7 p) (yF 1 ys) ys.length = C7 (ys.foldl jF p) := by
 have h1 : okS (1, 0) := ⟨by decide, by decide, by decide, by decide⟩
 unfold yF
 rw [Rj, PQ hp (IS h1 hb) (by omega) (by omega), GN (IS hp hb), Li ys p hp hb, Li ys (1, 0) h1 hb]
 simp only []
 have e1 : (p.2 + (0 + (ys.length : Int) * 1 + IQ ys) % 65521 + (ys.length : Int) * (p.1 - 1)) % 65521 = (p.2 + (ys.length : Int) * p.1 + IQ ys) % 65521 := by
  rw [Int.mul_sub, Int.mul_one]; omega
 have e2 : (p.1 + (1 + IP ys) % 65521 - 1) % 65521 = (p.1 + IP ys) % 65521 := by omega
 rw [e1, e2]
end Go.Proofs.YteaonnfokkfnlaaGreatDoor
end
section
namespace Go.Proofs.YteaonnfokkfnlaaGreatDoor
open Go Go.Eng Go.IntWalk
abbrev yX := Int × List Int × Int × Unit
def zB : Ty Value yX := MZ (EU (JO .i64) (EU tB (EU (JO .i64) (MY))))
theorem Br {h : Eng.Heap} {v : Value} {x : yX} (H : zB.R h v x) : ∃ u1, v = .agg #[Value.int .i64 x.1, u1, Value.int .i64 x.2.2.1] ∧ tB.R h u1 x.2.1 := by
 obtain ⟨_, rfl, _, _, rfl, (rfl : _ = _), ⟨u1, _, rfl, H1, ⟨_, _, rfl, (rfl : _ = _), ⟨rfl⟩⟩⟩⟩ := H
 exact ⟨u1, rfl, H1⟩
theorem NB {h : Eng.Heap} {v : Value} {x : yX} (H : zB.O h v x) : ∃ u1, v = .agg #[Value.int .i64 x.1, u1, Value.int .i64 x.2.2.1] ∧ tB.O h u1 x.2.1 := by
 obtain ⟨_, rfl, _, _, rfl, (rfl : _ = _), ⟨u1, _, rfl, H1, ⟨_, _, rfl, (rfl : _ = _), ⟨rfl⟩, d2⟩, d1⟩, d0⟩ := H
 exact ⟨u1, rfl, H1⟩
theorem Ci {h : Eng.Heap} {x : yX} {u1 : Value} (H1 : tB.O h u1 x.2.1) : zB.O h (.agg #[Value.int .i64 x.1, u1, Value.int .i64 x.2.2.1]) x := by
 unfold zB; simp only [Sw, Q6, Sy, Sz, Kz, Mj, Mi, or_false, not_false_eq_true, implies_true, and_true, true_and, forall_false]
 first | exact H1 | simp_all
theorem Ed {u1 : Value} {b : Nat} {x : yX} : zB.B (.agg #[Value.int .i64 x.1, u1, Value.int .i64 x.2.2.1]) b ↔ tB.B u1 b := by
 unfold zB; simp only [Sx, Kz, Mj, Mi, false_or, or_false]
theorem Ee {h : Eng.Heap} {v : Value} {x : yX} (H : zB.R h v x) : ∃ a1 c1, v = .agg #[Value.int .i64 x.1, .slice a1 x.2.1.length c1, Value.int .i64 x.2.2.1] := by
 obtain ⟨u1, rfl, H1⟩ := Br H
 obtain ⟨a1, c1, rfl, _⟩ := H1
 exact ⟨_, _, rfl⟩
variable {S : Shared} {h : Eng.Heap} {v w : Value} {x : yX}
def kj (x : yX) : Prop := smB x.2.1
def Ef (x : yX) : Nat := KR x.2.1
theorem JG {x : yX} (H : kj x) : Ef x ≤ 1125899906842624 := by
 have h1 : x.2.1.length ≤ 1099511627776 := H
 show x.2.1.length ≤ _
 omega
def C8 (k : Int) (x : yX) : yX := (x.1, mkB k x.2.1, x.2.2.1, ())
theorem CV (hi : Eng.Inv S h) (H : zB.R h v x) (H2 : zB.R h w x) (hs : kj x) :
  za Tryz.prog S js #[v, w] h (fun u h' => u = .bool true ∧ h' = h) := by
 obtain ⟨u1, rfl, D0⟩ := Br H
 obtain ⟨u2, rfl, D2⟩ := Br H2
 obtain ⟨a4, c4, rfl⟩ := FO D0
 obtain ⟨a5, c5, rfl⟩ := FO D2
 refine Fj (vs := [.int .i64 x.1, .slice a4 x.2.1.length c4, .int .i64 x.2.2.1, .int .i64 x.1, .slice a5 x.2.1.length c5, .int .i64 x.2.2.1]) ⟨rfl, rfl, rfl, rfl, rfl, rfl, trivial⟩ hi ?_
 simp only [BW, Tr.wp, zG, Ex.ev, coerce, toInt_int, zb, zi, zl, zj, z6, Cst.val, SV.den, zw, zV, z7, zp, zm, z4, List.flatMap_cons, List.flatMap_nil, List.getD_cons_zero, List.getD_cons_succ, List.map_cons, List.map_nil, List.cons_append, List.nil_append, List.append_nil, and_true, true_and, if_false, Bool.false_eq_true]
 refine ⟨fun hne => by simp at hne, fun _ => ?_⟩
 refine (Np hi D0 D2 hs).mono ?_
 rintro _ hq ⟨rfl, eq⟩
 rw [eq]
 exact ⟨_, rfl, fun hne => by simp at hne, fun _ => ⟨fun hne => by simp at hne, fun _ => rfl⟩⟩
theorem JH (hi : Eng.Inv S h) (H : zB.O h v x) (hb : ∀ b, zB.B v b → ¬ S b) (k : Int) (k0 : 0 ≤ k) (k1 : k ≤ 1) (hs : kj x) :
  za Tryz.prog S qe #[v, .int .i64 k] h (fun u h' => u = .int .i64 (k + Ef x) ∧ zB.O h' v (C8 k x) ∧ ∀ b, ¬ zB.B v b → h' b = h b) := by
 obtain ⟨u1, rfl, D0⟩ := NB H
 obtain ⟨a4, c4, rfl⟩ := FO (tB.OR D0)
 refine DU (vs := [.int .i64 x.1, .slice a4 x.2.1.length c4, .int .i64 x.2.2.1, .int .i64 k]) ⟨rfl, rfl, rfl, rfl, trivial⟩ hi ?_
 simp only [AK, Tr.wp, zG, Ex.ev, coerce, toInt_int, zi, zl, zj, SV.den, zw, zV, z7, zp, zm, z4, List.flatMap_cons, List.flatMap_nil, List.getD_cons_zero, List.getD_cons_succ, List.map_cons, List.map_nil, List.cons_append, List.nil_append, List.append_nil, if_false, Bool.false_eq_true]
 have hB := fun b => Ed (x := x) (u1 := .slice a4 x.2.1.length c4) (b := b)
 refine (II hi D0 (fun b h => hb b ((hB b).2 h)) k k0 (by omega) hs).mono ?_
 rintro _ h1 ⟨rfl, D1, f1⟩
 exact ⟨_, rfl, rfl, Ci (x := C8 k x) D1, fun b h => f1 b fun h3 => h ((hB b).2 h3)⟩
theorem E3 (hi : Eng.Inv S h) (k : Int) (H : zB.R h v (C8 k x)) (k0 : 0 ≤ k) (k1 : k ≤ 1) (hs : kj x) :
  za Tryz.prog S j7 #[v, .int .i64 k] h (fun u h' => u = .int .i64 (k + Ef x) ∧ h' = h) := by
 obtain ⟨u1, rfl, D0⟩ := Br H
 obtain ⟨a4, c4, rfl⟩ := FO D0
 refine DV (vs := [.int .i64 x.1, .slice a4 (C8 k x).2.1.length c4, .int .i64 x.2.2.1, .int .i64 k]) ⟨rfl, rfl, rfl, rfl, trivial⟩ hi ?_
 simp only [AL, Tr.wp, zG, Ex.ev, coerce, toInt_int, zb, zi, zl, zj, z6, Cst.val, SV.den, zw, zV, z7, zp, zm, z4, List.flatMap_cons, List.flatMap_nil, List.getD_cons_zero, List.getD_cons_succ, decide_eq_true_eq, decide_eq_false_iff_not, List.map_cons, List.map_nil, List.cons_append, List.nil_append, List.append_nil, if_false, Bool.false_eq_true]
 have hc := At hs
 refine (SF hi k D0 k0 (by omega) hs).mono ?_
 rintro _ hq ⟨rfl, eq⟩
 exact ⟨_, rfl, fun hn => by omega, fun _ => ⟨rfl, eq⟩⟩
end Go.Proofs.YteaonnfokkfnlaaGreatDoor
end
section
namespace Go.Proofs.YteaonnfokkfnlaaGreatDoor
open Go Go.Eng Go.IntWalk
variable {S : Shared} {h h0 : Eng.Heap}
def hig (bs : List Int) : Nat → Rd → Int → Rd × Int
 | 0, r, x => (r, x)
 | n + 1, r, x => hig bs n (tk bs 8 r).1 (256 * x + (tk bs 8 r).2)
def bdK (k : Int) (w : Bool) (r : Rd) : Rd := if r.k = 0 ∧ w = true then ⟨r.i, k⟩ else r
theorem D6 {k : Int} {w : Bool} {r : Rd} (h : r.k ≠ 0) : bdK k w r = r := by unfold bdK; rw [if_neg (fun e => h e.1)]
theorem PS {bs : List Int} {k : Int} (hk : k ≠ 0) {w : Bool} {r : Rd} (H : okR bs r) : okR bs (bdK k w r) := by
 unfold bdK; split
 ·intro h; exact absurd h hk
 ·exact H
theorem Ic {bs : List Int} : ∀ {n : Nat} {r : Rd} {x : Int}, okR bs r → okR bs (hig bs n r x).1
 | 0, r, x, H => H
 | n + 1, r, x, H => by unfold hig; exact Ic (y9 H)
theorem SU {bs : List Int} {n : Nat} {r : Rd} (h : r.k ≠ 0) : tk bs n r = (r, 0) := by unfold tk; rw [if_neg h]
theorem D7 {bs : List Int} : ∀ {n : Nat} {r : Rd} {x : Int}, r.k ≠ 0 → (hig bs n r x).1 = r
 | 0, r, x, H => rfl
 | n + 1, r, x, H => by
  unfold hig
  have e : tk bs 8 r = (r, 0) := SU H
  rw [e]; exact D7 H
theorem M8 {bs : List Int} : ∀ {n : Nat} {r : Rd} {x : Int} {m : Int}, 0 ≤ x → x < m → 0 ≤ (hig bs n r x).2 ∧ (hig bs n r x).2 < m * 256 ^ n
 | 0, r, x, m, h0, h1 => by simp [hig]; exact ⟨h0, h1⟩
 | n + 1, r, x, m, h0, h1 => by
  unfold hig
  have nm := yf (bs := bs) (n := 8) (r := r)
  have e8 : (2 : Int) ^ 8 = 256 := by decide
  rw [e8] at nm
  have := M8 (bs := bs) (n := n) (r := (tk bs 8 r).1) (x := 256 * x + (tk bs 8 r).2) (m := 256 * m) (by omega) (by omega)
  refine ⟨this.1, ?_⟩
  have e : m * 256 ^ (n + 1) = 256 * m * 256 ^ n := by rw [Int.pow_succ]; ac_rfl
  rw [e]; exact this.2
theorem M9 {r : Rd} (h : r.k ≠ 0) : alg r = r := by unfold alg; rw [if_neg h]
def zE (bs : List Int) (sz : Nat) (us : List Int) (r : Rd) : Rd × List Int := blF bs (zC sz us).length 100000 sz (8 * bs.length + 1) (8 * bs.length + 1) r (zC sz us)
def zO (bs : List Int) (sz : Nat) (us : List Int) (r : Rd) : List Int := (zE bs sz us r).2.drop (zC sz us).length
def zT (bs : List Int) (sz : Nat) (us : List Int) (r : Rd) : Rd × Int := hig bs 4 (alg (zE bs sz us r).1) 0
def zF (bs : List Int) (sz : Nat) (us : List Int) (r : Rd) : Rd := bdK 4 ((zT bs sz us r).2 != yF 1 (zO bs sz us r)) (zT bs sz us r).1
def zA (bs : List Int) (sz : Nat) (us : List Int) (r : Rd) : yX := if (zF bs sz us r).k ≠ 0 then ((zF bs sz us r).k, zO bs sz us r, 0, ()) else (1, zO bs sz us r, (zF bs sz us r).i / 8, ())
def zH (bs : List Int) : Rd × Int := hig bs 2 ⟨0, 0⟩ 0
def zW (x : Int) : Bool := x % 31 != 0 || x / 256 % 16 != 8 || decide (7 < x / 4096)
def zR (bs : List Int) : Rd := bd (zW (zH bs).2) (zH bs).1
def zS (x : Int) : Nat := if x / 4096 ≤ 7 then 2 ^ (x / 4096 + 8).toNat else 32768
def zId (bs : List Int) : Rd × Int := hig bs 4 (zR bs) 0
def zD (bs ds : List Int) : Rd × List Int :=
 if (zH bs).2 / 32 % 2 = 1 then (bdK 5 (decide (ds.length = 0) || (yF 1 ds != (zId bs).2)) (zId bs).1, ds) else (zR bs, [])
def xi (bs ds : List Int) : yX := if bs.length > 65536 then (7, [], 0, ()) else zA bs (zS (zH bs).2) (zD bs ds).2 (zD bs ds).1
theorem Un {bs us : List Int} {sz : Nat} {r : Rd} (h : r.k ≠ 0) : zA bs sz us r = (r.k, [], 0, ()) := by
 have e1 : zE bs sz us r = (r, zC sz us) := IL h
 have e2 : zO bs sz us r = [] := by unfold zO; rw [e1]; exact List.drop_length
 have e3 : (zT bs sz us r).1 = r := by unfold zT; rw [e1]; simp only; rw [M9 h, D7 h]
 have e4 : zF bs sz us r = r := by unfold zF; rw [e3, D6 h]
 unfold zA; rw [e4, if_pos h, e2]
theorem MA {k : Int} {h' : Eng.Heap} (s : Eng.Sub h0 h') : zB.O h' (.agg #[.int .i64 k, .slice none 0 0, .int .i64 0]) (k, [], 0, ()) ∧ zB.New h0 (.agg #[.int .i64 k, .slice none 0 0, .int .i64 0]) ∧ Eng.Sub h0 h' :=
 ⟨Ci (x := (k, [], 0, ())) Part.nil, fun b hb => (by have := (Ed (x := (k, [], 0, ()))).1 hb; cases this), s⟩
theorem JV {k n : Int} {xs : List Int} {v : Value} {h' : Eng.Heap} (P : Part .u8 h' v xs) (N : Eng.New h0 v) (s : Eng.Sub h0 h') : zB.O h' (.agg #[.int .i64 k, v, .int .i64 n]) (k, xs, n, ()) ∧ zB.New h0 (.agg #[.int .i64 k, v, .int .i64 n]) ∧ Eng.Sub h0 h' :=
 ⟨Ci (x := (k, xs, n, ())) P, fun b hb => N b ((Ed (x := (k, xs, n, ()))).1 hb), s⟩
def PZ (h0 : Eng.Heap) (x : yX) (v : Value) (h' : Eng.Heap) : Prop := zB.O h' v x ∧ zB.New h0 v ∧ Eng.Sub h0 h'
theorem GO (hi : Eng.Inv S h) {a : Option Addr} {c : Nat} {bs : List Int} (hx : zn h .u8 a bs) (L : bs.length ≤ 1048576) (r : Rd) (ok : okR bs r) (n : Nat) (hn : n ≤ 4) :
  za Tryz.prog S kL #[rdV a c bs r, .int .i64 n] h (fun v h' => v = .tuple #[rdV a c bs (hig bs n r 0).1, .int .i64 (hig bs n r 0).2] ∧ h' = h) := by
 refine HV (vs := [.slice a bs.length c, .int .i64 r.i, .int .i64 r.k, .int .i64 n]) ⟨rfl, rfl, rfl, rfl, trivial⟩ hi ?_
 simp only [E2, Tr.wp, zG, Ex.ev, coerce, toInt_int, zb, zi, zl, zj, z6, arith, Cst.val, SV.den, zw, zV, z7, zp, zm, z4, zP, List.flatMap_cons, List.flatMap_nil, List.getD_cons_zero, List.getD_cons_succ, List.getElem?_cons_zero, decide_eq_true_eq, decide_eq_false_iff_not, List.map_cons, List.map_nil, List.cons_append, List.nil_append, List.append_nil, List.length_cons, List.length_nil, Nat.zero_add, if_true, if_false, Bool.false_eq_true]
 refine ⟨fun us h' => ∃ (j : Nat) (r' : Rd) (x : Int), us = [.int .i64 x, .int .i64 j, .slice a bs.length c, .int .i64 r'.i, .int .i64 r'.k] ∧ j ≤ n ∧ okR bs r' ∧ 0 ≤ x ∧ x < 256 ^ j ∧ hig bs (n - j) r' x = hig bs n r 0 ∧ h' = h, fun us _ => n - (toInt (us.getD 1 undef)).toNat, ⟨0, r, 0, rfl, by omega, ok, by omega, by simp, by simp, rfl⟩, ?_⟩
 rintro x0 x1 b1 m1 d1 x2 x3 h' ⟨j, r', x, hx1, hj, ok', g0, g1, e, rfl⟩
 simp only [List.cons.injEq, Value.int.injEq, Value.slice.injEq, true_and, and_true] at hx1
 obtain ⟨rfl, rfl, ⟨rfl, rfl, rfl⟩, rfl, rfl⟩ := hx1
 refine ⟨fun hlt => ?_, fun hge => ?_⟩
 ·have hjn : j < n := by omega
  refine (xh hi hx L r' ok' 8 (by omega)).mono ?_
  rintro _ h2 ⟨rfl, rfl⟩
  have nm := yf (bs := bs) (n := 8) (r := r')
  have e8 : (2 : Int) ^ 8 = 256 := by decide
  rw [e8] at nm
  have hp : (256 : Int) ^ j ≤ 256 ^ 3 := by
   have : ((256 ^ j : Nat) : Int) ≤ ((256 ^ 3 : Nat) : Int) := by exact_mod_cast Nat.pow_le_pow_right (by decide) (show j ≤ 3 by omega)
   simpa using this
  have e3 : (256 : Int) ^ 3 = 16777216 := by decide
  have w1 : IntKind.i64.wrap (IntKind.i64.wrap (256 * x0) + (tk bs 8 r').2) = 256 * x0 + (tk bs 8 r').2 := by
   rw [i64_in (256 * x0) (by omega), i64_in _ (by omega)]
  have w2 : IntKind.i64.wrap ((j : Int) + 1) = ((j + 1 : Nat) : Int) := by rw [i64_in _ (by omega)]; omega
  refine ⟨_, _, _, _, _, _, rfl, ?_⟩
  rw [w1, w2]
  refine ⟨⟨j + 1, (tk bs 8 r').1, _, rfl, by omega, y9 ok', by omega, by rw [Int.pow_succ]; omega, ?_, rfl⟩, by simp only [List.getD_cons_succ, List.getD_cons_zero, toInt_int]; omega⟩
  rw [← e, show n - j = n - (j + 1) + 1 by omega]; rfl
 ·obtain rfl : j = n := by omega
  rw [Nat.sub_self] at e
  rw [← e]
  exact ⟨rfl, rfl⟩
theorem LU (hi : Eng.Inv S h) (a : Option Addr) (c : Nat) {bs : List Int} (L : bs.length ≤ 1048576) (r : Rd) (ok : okR bs r) :
  za Tryz.prog S qP #[rdV a c bs r] h (fun v h' => v = rdV a c bs (alg r) ∧ h' = h) := by
 refine Fl (vs := [.slice a bs.length c, .int .i64 r.i, .int .i64 r.k]) ⟨rfl, rfl, rfl, trivial⟩ hi ?_
 simp only [BX, Tr.wp, Ex.ev, coerce, toInt_int, zb, zi, zl, zj, kK, z6, arith, Cst.val, SV.den, List.getD_cons_zero, List.getD_cons_succ, List.map_cons, List.map_nil, and_true]
 obtain ⟨i, k⟩ := r
 unfold alg rdV
 by_cases h0 : k = 0
 ·have := ok h0
  simp only at this
  subst h0
  have w : IntKind.i64.wrap (IntKind.i64.wrap ((IntKind.i64.wrap (i + 7)).tdiv 8) * 8) = (i + 7) / 8 * 8 := by
   rw [i64_in (i + 7) (by omega), Int.tdiv_eq_ediv_of_nonneg (by omega), i64_in ((i + 7) / 8) (by omega), i64_in _ (by omega)]
  simp [w]
 ·simp [h0]
theorem SW (hi : Eng.Inv S h) (a : Option Addr) (c : Nat) (bs : List Int) (r : Rd) (w : Bool) :
  za Tryz.prog S BI #[rdV a c bs r, .bool w] h (fun v h' => v = rdV a c bs (bdK 4 w r) ∧ h' = h) := by
 refine IB (vs := [.slice a bs.length c, .int .i64 r.i, .int .i64 r.k, .bool w]) ⟨rfl, rfl, rfl, rfl, trivial⟩ hi ?_
 simp only [Fo, Tr.wp, Ex.ev, coerce, toInt_int, zb, zi, zl, zj, xV, kK, z6, Cst.val, SV.den, List.getD_cons_zero, List.getD_cons_succ, List.map_cons, List.map_nil, and_true]
 obtain ⟨i, k⟩ := r
 unfold bdK rdV
 by_cases h0 : k = 0
 ·subst h0; cases w <;> simp
 ·simp [h0]
theorem J1 (xs : List Int) : IntKind.i64.wrap (yF 1 xs) = yF 1 xs := by
 have : 0 ≤ yF 1 xs ∧ yF 1 xs < 4294967296 := by unfold yF C7 w32; rw [IntKind.wrap_u32]; omega
 exact i64_in _ (by omega)
theorem GP {bs us : List Int} {sz : Nat} {r : Rd} (hsz : sz ≤ 32768) : (zC sz us).length ≤ 32768 ∧ (zC sz us).length ≤ (zE bs sz us r).2.length ∧ (zE bs sz us r).2.length ≤ (zC sz us).length + 100000 := by
 have h1 : (zC sz us).length ≤ 32768 := by rw [jf]; omega
 have := M0 (bs := bs) (dl := (zC sz us).length) (room := 100000) (sz := sz) (F := 8 * bs.length + 1) (f := 8 * bs.length + 1) (r := r) (al := zC sz us) (Nat.le_refl _) (by omega)
 exact ⟨h1, this.1, this.2⟩
theorem RY {h1 : Eng.Heap} (hi : Eng.Inv S h) (s : Eng.Sub h h1) {a : Option Addr} {c : Nat} {bs : List Int} (hx : zn h .u8 a bs) (L : bs.length ≤ 65536) (r : Rd) (ok : okR bs r) {sz : Nat} (hsz : sz ≤ 32768)
  {au : Option Addr} {cu : Nat} {us : List Int} (hu : zn h1 .u8 au us) (hcu : us.length ≤ cu) (hul : us.length ≤ 1048576) (K0 : Kt) (e0 e1 e2 e3 e4 e5 e6 e7 e8 e10 e11 : Value) :
  zsE.wp Tryz.prog S yV (PZ h (zA bs sz us r)) [e0, e1, e2, e3, e4, e5, e6, e7, e8, .int .i64 sz, e10, e11, .slice au us.length cu, .slice a bs.length c, .int .i64 r.i, .int .i64 r.k] h1 [K0] := by
 simp only [zsE, Tr.wp, zG, Ex.ev, coerce, toInt_int, zb, zi, zl, zj, z6, arith, Cst.val, SV.den, zw, zV, z7, zp, zm, z4, List.flatMap_cons, List.flatMap_nil, List.getD_cons_zero, List.getD_cons_succ, List.map_cons, List.map_nil, List.cons_append, List.nil_append, List.append_nil, List.length_cons, List.length_nil, Nat.zero_add, if_true, if_false, Bool.false_eq_true]
 obtain ⟨f1, f2, f3⟩ := GP (bs := bs) (us := us) (r := r) hsz
 have i1 := hi.sub s
 have hx1 := hx.sub s
 refine (P8 i1 au cu us sz 100000 hcu (by omega) hsz hu).mono ?_
 rintro _ h2 ⟨a3, c3, rfl, P3, N3, s3⟩
 refine ⟨_, _, _, _, _, _, rfl, ?_⟩
 have K := Nw (c := c) (dl := (zC sz us).length) (sz := sz) (room := 100000) i1 s3 hx1 (by omega) r ok P3 N3 (Nat.le_refl _) (by omega) (by omega) (by omega) (by omega) (8 * bs.length + 1) (Nat.le_refl _) (8 * bs.length + 1) (Nat.le_refl _)
 refine za.mono K ?_
 rintro _ h4 ⟨a4, c4, rfl, P4, N4, s4⟩
 have eF : blF bs (zC sz us).length 100000 sz (8 * bs.length + 1) (8 * bs.length + 1) r (zC sz us) = zE bs sz us r := rfl
 have okE : okR bs (zE bs sz us r).1 := P7 ok
 rw [eF] at P4 N4 ⊢
 refine ⟨_, _, _, _, _, _, _, _, _, _, _, rfl, ?_⟩
 refine za.mono (SN (dl := (zC sz us).length) (sz := sz) (room := 100000) i1 s4 P4 f2 (by omega)) ?_
 rintro v5 h5 ⟨P5, N5, s5⟩
 have eO : (zE bs sz us r).2.drop (zC sz us).length = zO bs sz us r := rfl
 rw [eO] at P5
 obtain ⟨a5, c5, rfl, hc5, g5⟩ := P5.ints
 refine ⟨_, _, _, rfl, ?_⟩
 refine za.mono (LU (i1.sub s5) a c (show bs.length ≤ 1048576 by omega) (zE bs sz us r).1 okE) ?_
 rintro _ h6 ⟨rfl, rfl⟩
 refine ⟨_, _, _, _, _, rfl, ?_⟩
 refine za.mono (GO (c := c) (i1.sub s5) (hx1.sub s5) (by omega) (alg (zE bs sz us r).1) (D4 okE) 4 (by omega)) ?_
 rintro _ h6 ⟨rfl, rfl⟩
 refine ⟨_, _, _, _, _, _, rfl, ?_⟩
 have hO : (zO bs sz us r).length ≤ 100000 := by unfold zO; rw [List.length_drop]; omega
 refine za.mono (AT (i1.sub s5) 1 a5 c5 (zO bs sz us r) g5 (by omega)) ?_
 rintro _ h6 ⟨rfl, rfl⟩
 refine ⟨_, rfl, ?_⟩
 have eT : hig bs 4 (alg (zE bs sz us r).1) 0 = zT bs sz us r := rfl
 rw [eT, J1]
 refine za.mono (SW (i1.sub s5) a c bs (zT bs sz us r).1 ((zT bs sz us r).2 != yF 1 (zO bs sz us r))) ?_
 rintro _ h6 ⟨rfl, rfl⟩
 have eZ : bdK 4 ((zT bs sz us r).2 != yF 1 (zO bs sz us r)) (zT bs sz us r).1 = zF bs sz us r := rfl
 rw [eZ]
 have okF : okR bs (zF bs sz us r) := PS (by decide) (Ic (D4 okE))
 have N5' : Eng.New h (.slice a5 (zO bs sz us r).length c5) := fun z hz => zZ s (N5 z hz)
 refine ⟨_, _, _, _, _, rfl, fun hne => ?_, fun heq => ?_⟩
 ·have hk : (zF bs sz us r).k ≠ 0 := by simpa using hne
  have e : zA bs sz us r = ((zF bs sz us r).k, zO bs sz us r, 0, ()) := if_pos hk
  rw [e]
  exact JV P5 N5' (s.trans s5)
 ·have hk : (zF bs sz us r).k = 0 := by simpa using heq
  have e : zA bs sz us r = (1, zO bs sz us r, (zF bs sz us r).i / 8, ()) := if_neg (fun h => h hk)
  have := okF hk
  have w : IntKind.i64.wrap ((zF bs sz us r).i.tdiv 8) = (zF bs sz us r).i / 8 := by rw [Int.tdiv_eq_ediv_of_nonneg (by omega), i64_in _ (by omega)]
  rw [e, w]
  exact JV P5 N5' (s.trans s5)
end Go.Proofs.YteaonnfokkfnlaaGreatDoor
end
section
namespace Go.Proofs.YteaonnfokkfnlaaGreatDoor
open Go Go.Eng Go.IntWalk
theorem okB_drop' {xs : List Int} (H : okB xs) (n : Nat) : okB (xs.drop n) := fun x hx => H x (List.mem_of_mem_drop hx)
theorem SX : okB [] := fun x hx => by cases hx
theorem MB {x : Int} (h : 0 ≤ x ∧ x < 256) : okB [x] := fun y hy => by rw [List.mem_singleton.1 hy]; exact h
section
variable {bs : List Int} {dl room sz : Nat}
theorem GQ {r : Rd} {al d : List Int} (H : okB al) (G : okB d) : okB (tell dl room r al d).2 := by
 unfold tell; split
 ·split
  ·exact H
  ·exact SR H G
 ·exact H
theorem SY {al : List Int} {dist n : Nat} (H : okB al) : okB (cpD al dist n) := fun x hx => by
 unfold cpD at hx
 obtain ⟨k, _, rfl⟩ := List.mem_map.1 hx
 rw [List.getD_eq_getElem?_getD]
 cases hg : al[al.length - dist + k % dist]? with
 | none => simp
 | some y => exact H y (List.mem_of_getElem? hg)
theorem MD : ∀ {n : Nat} {r : Rd} {al : List Int}, okB al → okB (stL bs dl room n r al).2
 | 0, r, al, H => H
 | n + 1, r, al, H => by
  unfold stL; split
  ·have nm := yf (bs := bs) (n := 8) (r := r)
   have e8 : (2 : Int) ^ 8 = 256 := by decide
   exact MD (GQ H (MB (by omega)))
  ·exact H
theorem SZ {cd : List (Nat × Nat)} {r : Rd} {al : List Int} {s : Nat} (H : okB al) : okB (cpF bs cd dl room sz r al s).2 := by
 unfold cpF; split
 ·exact H
 ·split
  ·exact H
  ·exact GQ H (SY H)
theorem Td {cd : List (Nat × Nat)} {r : Rd} {al : List Int} {x : Int} (hx : 0 ≤ x) (H : okB al) : okB (sy1 bs cd dl room sz r al x).2 := by
 unfold sy1; split
 ·exact GQ H (MB (by omega))
 ·split
  ·exact H
  ·exact SZ H
theorem IT {cl cd : List (Nat × Nat)} : ∀ {f : Nat} {r : Rd} {al : List Int}, okB al → okB (syF bs cl cd dl room sz f r al).2
 | 0, r, al, H => H
 | f + 1, r, al, H => by
  unfold syF; split
  ·split
   ·exact H
   ·rename_i h
    have hk : (sy bs cl r).1.k = 0 := by
     by_cases e : (sy bs cl r).1.k = 0
     ·exact e
     ·exact absurd (.inl e) h
    exact IT (Td (V4 hk).2.2.1 H)
  ·exact H
theorem ME {F : Nat} {r : Rd} {al : List Int} (H : okB al) : okB (blk bs dl room sz F r al).2 := by
 unfold blk; split
 ·exact H
 ·split
  ·exact MD H
  ·split
   ·exact IT H
   ·split
    ·exact H
    ·exact IT H
theorem MF {F : Nat} : ∀ {f : Nat} {r : Rd} {al : List Int}, okB al → okB (blF bs dl room sz F f r al).2
 | 0, r, al, H => H
 | f + 1, r, al, H => by
  unfold blF; split
  ·split
   ·exact ME H
   ·exact MF (ME H)
  ·exact H
end
theorem Uo {bs us : List Int} {sz : Nat} {r : Rd} (H : okB us) : okB (zO bs sz us r) := okB_drop' (MF (okB_drop' H _)) _
theorem Te {bs us : List Int} {sz : Nat} {r : Rd} (h : (zE bs sz us r).1.k ≠ 0) : zA bs sz us r = ((zE bs sz us r).1.k, zO bs sz us r, 0, ()) := by
 have e3 : (zT bs sz us r).1 = (zE bs sz us r).1 := by unfold zT; rw [M9 h, D7 h]
 have e4 : zF bs sz us r = (zE bs sz us r).1 := by unfold zF; rw [e3, D6 h]
 unfold zA; rw [e4, if_pos h]
theorem Tf {bs us : List Int} {sz : Nat} {r : Rd} (h : (zT bs sz us r).1.k ≠ 0) : zA bs sz us r = ((zT bs sz us r).1.k, zO bs sz us r, 0, ()) := by
 have e4 : zF bs sz us r = (zT bs sz us r).1 := by unfold zF; rw [D6 h]
 unfold zA; rw [e4, if_pos h]
theorem Uq {bs us : List Int} {sz : Nat} {r : Rd} (h : (zT bs sz us r).1.k = 0) (hs : (zT bs sz us r).2 ≠ yF 1 (zO bs sz us r)) : zA bs sz us r = (4, zO bs sz us r, 0, ()) := by
 have e4 : zF bs sz us r = ⟨(zT bs sz us r).1.i, 4⟩ := by unfold zF bdK; rw [if_pos ⟨h, by simpa using hs⟩]
 unfold zA; rw [e4, if_pos (show (4 : Int) ≠ 0 by decide)]
theorem Tg {bs us : List Int} {sz : Nat} {r : Rd} (h : (zT bs sz us r).1.k = 0) (hs : (zT bs sz us r).2 = yF 1 (zO bs sz us r)) : zA bs sz us r = (1, zO bs sz us r, (zT bs sz us r).1.i / 8, ()) := by
 have e4 : zF bs sz us r = (zT bs sz us r).1 := by unfold zF bdK; rw [if_neg (fun e => by rw [hs] at e; simp at e)]
 unfold zA; rw [e4, if_neg (fun e => e h)]
end Go.Proofs.YteaonnfokkfnlaaGreatDoor
end
section
namespace Go.Proofs.YteaonnfokkfnlaaGreatDoor
open Go Go.Eng Go.IntWalk
variable {S : Shared} {h h0 : Eng.Heap}
theorem Ie {bs : List Int} : 0 ≤ (zH bs).2 ∧ (zH bs).2 < 65536 := by
 have := M8 (bs := bs) (n := 2) (r := ⟨0, 0⟩) (x := 0) (m := 1) (by omega) (by omega)
 have e : (1 : Int) * 256 ^ 2 = 65536 := by decide
 rw [e] at this; exact this
theorem ND {x : Int} (h0 : 0 ≤ x) : zS x ≤ 32768 := by
 unfold zS
 split
 ·have : (2 : Nat) ^ (x / 4096 + 8).toNat ≤ 2 ^ 15 := Nat.pow_le_pow_right (by decide) (by omega)
  have e : (2 : Nat) ^ 15 = 32768 := by decide
  omega
 ·omega
theorem Vl {bs : List Int} : okR bs (zH bs).1 := Ic fun _ => ⟨Int.le_refl _, by simp only; omega⟩
theorem JW {bs : List Int} : okR bs (zR bs) := kC Vl
theorem Vm {bs ds : List Int} : okR bs (zD bs ds).1 := by
 unfold zD; split
 ·exact PS (by decide) (Ic JW)
 ·exact JW
theorem RZ {h1 : Eng.Heap} (hi : Eng.Inv S h) (s : Eng.Sub h h1) {a : Option Addr} {c : Nat} {bs : List Int} (hx : zn h .u8 a bs) (L : bs.length ≤ 65536)
  {ad : Option Addr} {cd : Nat} {ds : List Int} (hd : zn h .u8 ad ds) (hcd : ds.length ≤ cd) (hdl : ds.length ≤ 1048576) (K0 : Kt) (e0 e2 e3 e4 : Value) :
  zsD.wp Tryz.prog S yV (PZ h (zA bs (zS (zH bs).2) (zD bs ds).2 (zD bs ds).1)) [e0, .slice ad ds.length cd, e2, e3, e4, .int .i64 (zH bs).2, .slice a bs.length c, .int .i64 (zR bs).i, .int .i64 (zR bs).k, .int .i64 (zS (zH bs).2)] h1 [K0] := by
 simp only [zsD, Tr.wp, zG, Ex.ev, coerce, toInt_int, zb, zi, zl, zj, kK, z6, arith, Cst.val, SV.den, zw, zV, z7, zp, zm, z4, List.flatMap_cons, List.flatMap_nil, List.getD_cons_zero, List.getD_cons_succ, List.getElem?_cons_zero, List.getElem?_cons_succ, List.map_cons, List.map_nil, List.cons_append, List.nil_append, List.append_nil, List.length_cons, List.length_nil, Nat.zero_add, if_true, if_false, Bool.false_eq_true]
 intro b hb
 have hn := Ie (bs := bs)
 have wq : (IntKind.i64.wrap ((zH bs).2.tdiv 32)).tmod 2 = (zH bs).2 / 32 % 2 := by
  rw [Int.tdiv_eq_ediv_of_nonneg (by omega), i64_in _ (by omega), Int.tmod_eq_emod_of_nonneg (by omega)]
 have hsz := ND hn.1
 have s2 : Eng.Sub h1 (upd h1 b (.cells (ints .u8 []) 5)) := Sub.zN hb
 have e0' : (#[] : Array Value) = ints .u8 [] := rfl
 rw [wq]
 refine ⟨fun hc => ?_, fun hc => ?_⟩
 ·have hc : (zH bs).2 / 32 % 2 = 1 := beq_iff_eq.1 hc
  refine za.mono (GO (c := c) (hi.sub (s.trans s2)) (hx.sub (s.trans s2)) (by omega) (zR bs) JW 4 (by omega)) ?_
  rintro _ h2 ⟨rfl, rfl⟩
  have eI : hig bs 4 (zR bs) 0 = zId bs := rfl
  rw [eI]
  refine ⟨_, _, _, _, _, _, rfl, ?_⟩
  have eD2 : (zD bs ds).2 = ds := by unfold zD; rw [if_pos hc]
  have eD1 : (zD bs ds).1 = bdK 5 (decide (ds.length = 0) || (yF 1 ds != (zId bs).2)) (zId bs).1 := by unfold zD; rw [if_pos hc]
  have okD := Vm (bs := bs) (ds := ds)
  have fin : ∀ (w : Bool), ((zId bs).1.k = 0 → w = (decide (ds.length = 0) || (yF 1 ds != (zId bs).2))) → ((zId bs).1.k ≠ 0 → w = false) → (zId bs).1.i = (zD bs ds).1.i ∧ (if w = true then 5 else (zId bs).1.k) = (zD bs ds).1.k := by
   intro w h1 h2
   rw [eD1]
   unfold bdK
   by_cases hk : (zId bs).1.k = 0
   ·rw [← h1 hk]
    cases w with
    | false => rw [if_neg (by simp)]; simp
    | true => rw [if_pos ⟨hk, rfl⟩]; simp
   ·rw [if_neg (fun e => hk e.1), h2 hk]; simp
  have go : ∀ (w : Bool) (e15 : Value), ((zId bs).1.k = 0 → w = (decide (ds.length = 0) || (yF 1 ds != (zId bs).2))) → ((zId bs).1.k ≠ 0 → w = false) → ∀ (K0 : Kt) (e0 e1 e2 e3 e4 e5 e6 e7 e8 e10 e11 : Value),
    zsE.wp Tryz.prog S yV (PZ h (zA bs (zS (zH bs).2) (zD bs ds).2 (zD bs ds).1)) [e0, e1, e2, e3, e4, e5, e6, e7, e8, .int .i64 (zS (zH bs).2), e10, e11, .slice ad ds.length cd, .slice a bs.length c, .int .i64 (zId bs).1.i, .int .i64 (if w = true then 5 else (zId bs).1.k)] (upd h1 b (.cells (ints .u8 []) 5)) [K0] := by
   intro w e15 h1 h2 K0 e0 e1 e2 e3 e4 e5 e6 e7 e8 e10 e11
   obtain ⟨q1, q2⟩ := fin w h1 h2
   rw [q1, q2, eD2]
   exact RY hi (s.trans s2) hx L (zD bs ds).1 okD hsz (hd.sub (s.trans s2)) hcd hdl K0 _ _ _ _ _ _ _ _ _ _ _
  refine ⟨fun hk => ?_, fun hk => ?_⟩
  ·have hk : (zId bs).1.k = 0 := beq_iff_eq.1 hk
   refine ⟨fun hl => ?_, fun hl => ?_⟩
   ·have hl : ds.length ≠ 0 := by simpa using hl
    refine za.mono (AT (hi.sub (s.trans s2)) 1 ad cd ds (hd.sub (s.trans s2)) (by omega)) ?_
    rintro _ h3 ⟨rfl, rfl⟩
    refine ⟨_, rfl, ?_⟩
    intro _ _
    rw [J1]
    refine go _ undef (fun _ => ?_) (fun h => absurd hk h) _ _ _ _ _ _ _ _ _ _ _ _
    have : decide (ds.length = 0) = false := by simpa using hl
    rw [this, Bool.false_or]
   ·have hl : ds.length = 0 := by simpa using hl
    intro _ _
    exact go true undef (fun _ => by rw [hl]; rfl) (fun h => absurd hk h) _ _ _ _ _ _ _ _ _ _ _ _
  ·have hk : (zId bs).1.k ≠ 0 := by simpa using hk
   intro _ _
   exact go false undef (fun h => absurd h hk) (fun _ => rfl) _ _ _ _ _ _ _ _ _ _ _ _
 ·have hc : (zH bs).2 / 32 % 2 ≠ 1 := by simpa using hc
  have eD : zD bs ds = (zR bs, []) := by unfold zD; rw [if_neg hc]
  intro _
  rw [eD]
  have K := RY (S := S) (c := c) (us := []) hi (s.trans s2) hx L (zR bs) JW hsz (zn.new (k := .u8) (h := h1) (b := b) (T := 5) (xs := [])) (cu := 0) (Nat.le_refl _) (by simp) K0
  exact K _ _ _ _ _ _ _ _ _ _ _
theorem g_spec_Zlib' (hi : Eng.Inv S h) {v u : Value} {bs ds : List Int} (O : tB.O h v bs) (L : As bs) (O2 : tB.O h u ds) (L2 : As ds) :
  za Tryz.prog S Ay #[v, u] h (PZ h (xi bs ds)) := by
 obtain ⟨a, c, rfl, hc, hx⟩ := Part.ints O
 obtain ⟨a2, c2, rfl, hc2, hx2⟩ := Part.ints O2
 have hL : bs.length ≤ 1048576 := L
 have hL2 : ds.length ≤ 1048576 := L2
 refine JE (vs := [.slice a bs.length c, .slice a2 ds.length c2]) ⟨rfl, rfl, trivial⟩ hi ?_
 simp only [Gu, Tr.wp, zG, Ex.ev, coerce, toInt_int, zb, zi, zl, zj, wG, z6, arith, Cst.val, SV.den, zw, zV, z7, zp, zm, z4, List.flatMap_cons, List.flatMap_nil, List.getD_cons_zero, List.getD_cons_succ, List.getElem?_cons_zero, List.getElem?_cons_succ, decide_eq_true_eq, decide_eq_false_iff_not, List.map_cons, List.map_nil, List.cons_append, List.nil_append, List.append_nil, List.length_cons, List.length_nil, Nat.zero_add, if_true, if_false, Bool.false_eq_true]
 refine ⟨fun hgt => ?_, fun hle => ?_⟩
 ·have e : xi bs ds = (7, [], 0, ()) := if_pos (by omega)
  rw [e]; exact MA (fun _ _ e => e)
 have hle : bs.length ≤ 65536 := by omega
 have e : xi bs ds = zA bs (zS (zH bs).2) (zD bs ds).2 (zD bs ds).1 := if_neg (by omega)
 rw [e]
 have hn := Ie (bs := bs)
 have ok0 : okR bs ⟨0, 0⟩ := fun _ => ⟨Int.le_refl _, by simp only; omega⟩
 refine za.mono (GO (c := c) hi hx hL ⟨0, 0⟩ ok0 2 (by omega)) ?_
 rintro _ h1 ⟨rfl, rfl⟩
 have eH : hig bs 2 ⟨0, 0⟩ 0 = zH bs := rfl
 rw [eH]
 refine ⟨_, _, _, _, _, _, rfl, ?_⟩
 have t31 : (zH bs).2.tmod 31 = (zH bs).2 % 31 := Int.tmod_eq_emod_of_nonneg hn.1
 have t256 : IntKind.i64.wrap ((zH bs).2.tdiv 256) = (zH bs).2 / 256 := by rw [Int.tdiv_eq_ediv_of_nonneg hn.1, i64_in _ (by omega)]
 have t16 : ((zH bs).2 / 256).tmod 16 = (zH bs).2 / 256 % 16 := Int.tmod_eq_emod_of_nonneg (by omega)
 have t4096 : IntKind.i64.wrap ((zH bs).2.tdiv 4096) = (zH bs).2 / 4096 := by rw [Int.tdiv_eq_ediv_of_nonneg hn.1, i64_in _ (by omega)]
 rw [t31, t256, t16, t4096]
 have eW : (decide ((decide (((zH bs).2 % 31 != 0) = true) || (zH bs).2 / 256 % 16 != 8) = true) || decide ((zH bs).2 / 4096 > 7)) = zW (zH bs).2 := by
  unfold zW; simp only [Bool.decide_eq_true]
 rw [eW]
 refine za.mono (xD hi a c bs (zH bs).1 (zW (zH bs).2)) ?_
 rintro _ h2 ⟨rfl, rfl⟩
 have eR : bd (zW (zH bs).2) (zH bs).1 = zR bs := rfl
 rw [eR]
 refine ⟨_, _, _, _, _, rfl, fun h7 => ?_, fun h7 => ?_⟩
 ·have wp : IntKind.i64.wrap ((zH bs).2 / 4096 + 8) = (zH bs).2 / 4096 + 8 := i64_in _ (by omega)
  rw [wp]
  refine za.mono (qp hi ((zH bs).2 / 4096 + 8) (by omega) (by omega)) ?_
  rintro _ h3 ⟨rfl, rfl⟩
  refine ⟨_, rfl, fun _ => ?_⟩
  have eS : 2 ^ ((zH bs).2 / 4096 + 8).toNat = zS (zH bs).2 := by unfold zS; rw [if_pos h7]
  rw [eS]
  exact RZ hi (fun _ _ e => e) hx hle hx2 hc2 hL2 _ _ _ _ _
 ·intro _
  have eS : (32768 : Int) = ((zS (zH bs).2 : Nat) : Int) := by unfold zS; rw [if_neg h7]; rfl
  rw [eS]
  exact RZ hi (fun _ _ e => e) hx hle hx2 hc2 hL2 _ _ _ _ _
theorem sm_Zlib' {bs ds : List Int} : kj (xi bs ds) := by
 unfold xi
 split
 ·simp [kj, smB]
 ·obtain ⟨h1, h2, h3⟩ := GP (bs := bs) (us := (zD bs ds).2) (r := (zD bs ds).1) (ND (Ie (bs := bs)).1)
  have hO : (zO bs (zS (zH bs).2) (zD bs ds).2 (zD bs ds).1).length ≤ 100000 := by unfold zO; rw [List.length_drop]; omega
  unfold zA
  split
  ·exact Nat.le_trans hO (by decide)
  ·exact Nat.le_trans hO (by decide)
end Go.Proofs.YteaonnfokkfnlaaGreatDoor
end
section
namespace Go.Proofs
abbrev Tryz.link : Go.Conc.Lib.WgLink := { add := 135, done := 137, wait := 138, relMerge := 157, disable := 158, enable := 159, inBubble := 160, associate := 161, fatal := 162, uOr := 163, uAdd := 164, raceRead := 165, uLoad := 166, uStore := 167, disassociate := 168, semrelease := 169, acquire := 170, isAssociated := 171, uCas := 172, raceWrite := 173, semacquire := 174, orU64 := 183, addU64 := 184, loadU64 := 185, storeU64 := 186, casU64 := 187, tWgP := 216, tUP := 159, tAssoc := 218, tWg := 184, tAU := 182, tU64 := 98, tUint := 92, tU32 := 53, tPU32 := 222, tPAU := 242, tPU64 := 244, tNoCopy := 178, tANoCopy := 179, tAlign64 := 180 }
theorem Tryz.Ig : Go.Conc.Lib.WgLib Tryz.prog Tryz.link :=
 ⟨Tryz.func135, Tryz.func137, Tryz.func138, Tryz.func157, Tryz.func158, Tryz.func159, Tryz.func160, Tryz.func161, Tryz.func162, Tryz.func163, Tryz.func164, Tryz.func165, Tryz.func166, Tryz.func167, Tryz.func168, Tryz.func169, Tryz.func170, Tryz.func171, Tryz.func172, Tryz.func173, Tryz.func174, Tryz.func183, Tryz.func184, Tryz.func185, Tryz.func186, Tryz.func187, Tryz.underlying216, Tryz.runUnderlying216, Tryz.sizeOf216, Tryz.isAgg216, Tryz.zeroValue216, Tryz.underlying159, Tryz.runUnderlying159, Tryz.sizeOf159, Tryz.isAgg159, Tryz.zeroValue159, Tryz.underlying218, Tryz.runUnderlying218, Tryz.sizeOf218, Tryz.isAgg218, Tryz.zeroValue218, Tryz.underlying184, Tryz.runUnderlying184, Tryz.sizeOf184, Tryz.isAgg184, Tryz.zeroValue184, Tryz.underlying182, Tryz.runUnderlying182, Tryz.sizeOf182, Tryz.isAgg182, Tryz.zeroValue182, Tryz.underlying98, Tryz.runUnderlying98, Tryz.sizeOf98, Tryz.isAgg98, Tryz.zeroValue98, Tryz.underlying92, Tryz.runUnderlying92, Tryz.sizeOf92, Tryz.isAgg92, Tryz.zeroValue92, Tryz.underlying53, Tryz.runUnderlying53, Tryz.sizeOf53, Tryz.isAgg53, Tryz.zeroValue53, Tryz.underlying222, Tryz.runUnderlying222, Tryz.sizeOf222, Tryz.isAgg222, Tryz.zeroValue222, Tryz.underlying242, Tryz.runUnderlying242, Tryz.sizeOf242, Tryz.isAgg242, Tryz.zeroValue242, Tryz.underlying244, Tryz.runUnderlying244, Tryz.sizeOf244, Tryz.isAgg244, Tryz.zeroValue244, Tryz.underlying0, Tryz.runUnderlying0, Tryz.sizeOf0, Tryz.isAgg0, Tryz.zeroValue0, Tryz.underlying3, Tryz.runUnderlying3, Tryz.sizeOf3, Tryz.isAgg3, Tryz.zeroValue3, Tryz.underlying4, Tryz.runUnderlying4, Tryz.sizeOf4, Tryz.isAgg4, Tryz.zeroValue4, Tryz.underlying9, Tryz.runUnderlying9, Tryz.sizeOf9, Tryz.isAgg9, Tryz.zeroValue9, Tryz.underlying20, Tryz.runUnderlying20, Tryz.sizeOf20, Tryz.isAgg20, Tryz.zeroValue20, Tryz.underlying21, Tryz.runUnderlying21, Tryz.sizeOf21, Tryz.isAgg21, Tryz.zeroValue21, (by kernel_rfl), (by kernel_rfl)⟩
end Go.Proofs
end
