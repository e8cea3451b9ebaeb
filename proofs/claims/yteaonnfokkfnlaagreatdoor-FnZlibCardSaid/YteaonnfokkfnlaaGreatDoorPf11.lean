import Derived.Test.YteaonnfokkfnlaaGreatDoorPf3
import Derived.Test.YteaonnfokkfnlaaGreatDoorPf4
import Derived.Test.YteaonnfokkfnlaaGreatDoorPf5
import Derived.Test.YteaonnfokkfnlaaGreatDoorPf6
import Derived.Test.YteaonnfokkfnlaaGreatDoorPf7
import Derived.Test.YteaonnfokkfnlaaGreatDoorPf8
import Derived.Test.YteaonnfokkfnlaaGreatDoorPf10
set_option maxRecDepth 100000
set_option maxHeartbeats 8000000
set_option linter.unusedVariables false
set_option linter.unusedSimpArgs false
set_option linter.unusedSectionVars false
section
namespace Go.Proofs.YteaonnfokkfnlaaGreatDoor
open Go Go.Eng Go.IntWalk
variable {S : Shared} {h h0 : Eng.Heap} {b : Nat} {T : TypeId} {code : List Int} {a : Option Addr} {c : Nat}
def yM (h0 h : Eng.Heap) (b : Nat) (T : TypeId) (code : List Int) (a : Option Addr) (c : Nat) : Prop :=
 ∃ (i : Nat) (hh : Int), h b = some (.cells #[.slice a code.length c, .int .i64 i, .int .i64 hh] T) ∧ i ≤ code.length ∧ zq h0 .u8 a code ∧ Eng.Sub h0 h ∧ h0 b = none
theorem yM.sub (H : yM h0 h b T code a c) : Eng.Sub h0 h := by obtain ⟨_, _, _, _, _, s, _⟩ := H; exact s
theorem yM.held (H : yM h0 h b T code a c) : h b ≠ none := by obtain ⟨_, _, hb, _⟩ := H; rw [hb]; simp
theorem yM.mono {h1 : Eng.Heap} (H : yM h0 h b T code a c) (s : Eng.Sub h h1) : yM h0 h1 b T code a c := by
 obtain ⟨i, hh, hb, hi, hx, s0, hn⟩ := H
 exact ⟨i, hh, s b _ hb, hi, hx, s0.trans s, hn⟩
theorem yM.keep {h1 : Eng.Heap} (H : yM h0 h b T code a c) (s : Eng.Sub h0 h1) (hk : h1 b = h b) : yM h0 h1 b T code a c := by
 obtain ⟨i, hh, hb, hi, hx, s0, hn⟩ := H
 exact ⟨i, hh, hk.trans hb, hi, hx, s, hn⟩
theorem RN (hi : Eng.Inv S h) (hx : zq h .u8 a code) (hl : code.length ≤ 1048576) :
  zc Tryz.prog S AS #[.slice a code.length c] h (fun v h' => ∃ b T, v = .pointer (some ⟨b, 0, none⟩) ∧ yM h h' b T code a c) := by
 refine GW (vs := [.slice a code.length c]) ⟨rfl, trivial⟩ hi ?_
 simp only [DL, Tr.wp, Ex.ev, coerce, toInt_int, zf, zn, zu, zo, zg, yF, ya, arith, Cst.val, SV.den, yw, zG, ym, zy, List.flatMap_cons, List.flatMap_nil, List.replicate_one, List.getD_cons_zero, List.getD_cons_succ, List.getElem?_cons_zero, decide_eq_true_eq, decide_eq_false_iff_not, List.map_cons, List.map_nil, List.cons_append, List.nil_append, List.append_nil, and_true]
 refine ⟨fun us h' => ∃ (i : Nat) (x : Int), us = [.int .i64 x, .int .i64 i] ∧ i ≤ code.length ∧ h' = h, fun us _ => code.length - (toInt (us.getD 1 undef)).toNat, ⟨0, _, rfl, by omega, rfl⟩, ?_⟩
 rintro x y h' ⟨i, z, hx1, hi2, eq⟩
 subst eq
 obtain ⟨rfl, rfl⟩ : x = z ∧ y = i := by simpa using hx1
 refine ⟨fun hlt => ?_, fun hge => ?_⟩
 ·have hi3 : i < code.length := by omega
  obtain ⟨g1, g2⟩ := hx.cell (List.getElem?_eq_getElem hi3)
  have w2 : IntKind.i64.wrap ((i : Int) + 1) = ((i + 1 : Nat) : Int) := by rw [i64_in _ (by omega)]; omega
  rw [w2]
  exact ⟨by simpa using g2, by omega, hlt, code[i], by simpa [add_add] using g1, ⟨i + 1, _, rfl, by omega, rfl⟩, by simp only [List.getD_cons_succ, List.getD_cons_zero, toInt_int]; omega⟩
 ·intro b hb
  exact ⟨b, _, rfl, 0, x, upd_same, Nat.zero_le _, hx, Sub.zL hb, hb⟩
theorem Br (hi : Eng.Inv S h0) (H : yM h0 h b T code a c) (hl : code.length ≤ 1048576) :
  zc Tryz.prog S xL #[.pointer (some ⟨b, 0, none⟩)] h (fun v h' => ∃ x, v = .int .i64 x ∧ 0 ≤ x ∧ x ≤ 255 ∧ yM h0 h' b T code a c ∧ ∀ y, y ≠ b → h' y = h y) := by
 obtain ⟨i, hh, hb, hi2, hx, s, hn⟩ := H
 have hsb : ¬ S b := fun hs => hi b hs hn
 refine Gq (vs := [.pointer (some ⟨b, 0, none⟩)]) ⟨rfl, trivial⟩ (hi.sub s) ?_
 simp only [Dd, Tr.wp, Ex.ev, coerce, toInt_int, zf, zn, zu, zo, zg, zB, yF, yD, ya, arith, Cst.val, SV.den, zG, zy, zY, List.getD_cons_zero, List.getD_cons_succ, List.getElem?_cons_zero, decide_eq_true_eq, decide_eq_false_iff_not, List.map_cons, List.map_nil, List.cons_append, List.nil_append, Nat.zero_add, Nat.add_zero, and_true, zj]
 have ld : ∀ {h' : Eng.Heap} {i : Nat} {hh : Int}, h' b = some (.cells #[.slice a code.length c, .int .i64 i, .int .i64 hh] T) → zb h' ⟨b, 0, none⟩ = some (.slice a code.length c) ∧ zb h' ⟨b, 1, none⟩ = some (.int .i64 i) ∧ zb h' ⟨b, 2, none⟩ = some (.int .i64 hh) := fun {h' i hh} hb => by simp [zb, hb]
 obtain ⟨g0, g1, g2⟩ := ld hb
 have Ow : ∀ m : Int, zw h ⟨b, 2, none⟩ (.int .i64 m) = upd h b (.cells #[.slice a code.length c, .int .i64 i, .int .i64 m] T) := fun m => by rw [hset_cells' hb]; rfl
 have ok2 : xf S h ⟨b, 2, none⟩ := ⟨⟨_, g2⟩, by simp [yx, hb], hsb⟩
 refine ⟨by simp, hh, g2, by simp, ok2, ?_⟩
 rw [Ow]
 obtain ⟨m, hm⟩ : ∃ m, m = IntKind.i64.wrap (IntKind.i64.wrap (hh * 6364136223846793005) + 1442695040888963407) := ⟨_, rfl⟩
 rw [← hm]
 have hb1 : upd h b (.cells #[.slice a code.length c, .int .i64 i, .int .i64 m] T) b = some (.cells #[.slice a code.length c, .int .i64 i, .int .i64 m] T) := upd_same
 obtain ⟨k0, k1, k2⟩ := ld hb1
 have hs1 : Eng.Sub h0 (upd h b (.cells #[.slice a code.length c, .int .i64 i, .int .i64 m] T)) := fun y o hy => by rw [upd_ne (fun e => by rw [e, hn] at hy; cases hy)]; exact s y o hy
 refine ⟨by simp, m, k2, by simp, m, k2, by simp, i, k1, by simp, _, _, _, k0, fun hlt => ?_, fun hge _ => ?_⟩
 ·have hi3 : i < code.length := by omega
  obtain ⟨e1, e2⟩ := (hx.sub hs1).cell (List.getElem?_eq_getElem hi3)
  refine ⟨by simp, _, _, _, k0, by simp, i, k1, by simpa using e2, by omega, hlt, code[i], by simpa [add_add] using e1, by simp, i, k1, by simp, ⟨⟨_, k1⟩, by simp [yx, hb1], hsb⟩, ?_⟩
  intro _
  have w2 : IntKind.i64.wrap ((i : Int) + 1) = ((i + 1 : Nat) : Int) := by rw [i64_in _ (by omega)]; omega
  have Ov : zw (upd h b (.cells #[.slice a code.length c, .int .i64 i, .int .i64 m] T)) ⟨b, 1, none⟩ (.int .i64 ((i + 1 : Nat) : Int)) = upd h b (.cells #[.slice a code.length c, .int .i64 ((i + 1 : Nat) : Int), .int .i64 m] T) := by rw [hset_cells' hb1, yR]; rfl
  rw [w2, Ov]
  have hm := IS (y := IntKind.i64.wrap (Go.bits .and .i64 (Go.bits .xor .i64 (m.fdiv (2 ^ min (Int.toNat 33) IntKind.i64.bits)) (m.fdiv (2 ^ min (Int.toNat 45) IntKind.i64.bits))) 255 + IntKind.i64.wrap code[i])) (m := 255) (by omega)
  exact ⟨_, rfl, hm.1, hm.2, ⟨i + 1, m, upd_same, by omega, hx, fun y o hy => by rw [upd_ne (fun e => by rw [e, hn] at hy; cases hy)]; exact s y o hy, hn⟩, fun y hy => upd_ne hy⟩
 ·have hm := IS (y := Go.bits .xor .i64 (m.fdiv (2 ^ min (Int.toNat 33) IntKind.i64.bits)) (m.fdiv (2 ^ min (Int.toNat 45) IntKind.i64.bits))) (m := 255) (by omega)
  exact ⟨_, rfl, hm.1, hm.2, ⟨i, m, upd_same, hi2, hx, hs1, hn⟩, fun y hy => upd_ne hy⟩
theorem Aq (hi : Eng.Inv S h0) (H : yM h0 h b T code a c) (hl : code.length ≤ 1048576) (n : Int) (h1 : 1 ≤ n) (h2 : n ≤ 1000000) :
  zc Tryz.prog S xw #[.pointer (some ⟨b, 0, none⟩), .int .i64 n] h (fun v h' => ∃ x, v = .int .i64 x ∧ 0 ≤ x ∧ x < n ∧ yM h0 h' b T code a c ∧ ∀ y, y ≠ b → h' y = h y) := by
 refine Fv (vs := [.pointer (some ⟨b, 0, none⟩), .int .i64 n]) ⟨rfl, rfl, trivial⟩ (hi.sub H.sub) ?_
 simp only [Cl, Tr.wp, zX, Ex.ev, coerce, toInt_int, zf, zB, ya, arith, Cst.val, SV.den, z6, yl, zU, zt, zk, zG, List.flatMap_cons, List.flatMap_nil, List.getD_cons_zero, List.getD_cons_succ, decide_eq_true_eq, decide_eq_false_iff_not, List.map_cons, List.map_nil, List.cons_append, List.nil_append, List.append_nil, if_false, Bool.false_eq_true]
 have hn0 : (n != 0) = true := bne_iff_ne.2 (by omega)
 have md : ∀ x : Int, 0 ≤ x → 0 ≤ x.tmod n ∧ x.tmod n < n := fun x hx => by
  rw [Int.tmod_eq_emod_of_nonneg hx]
  exact ⟨Int.emod_nonneg _ (by omega), Int.emod_lt_of_pos _ (by omega)⟩
 refine ⟨fun hle => ?_, fun hgt => ?_⟩
 ·refine (Br hi H hl).mono ?_
  rintro _ h3 ⟨x, rfl, x0, x1, C, f⟩
  have := md x x0
  exact ⟨_, rfl, hn0, _, rfl, this.1, this.2, C, f⟩
 ·refine (Br hi H hl).mono ?_
  rintro _ h3 ⟨x, rfl, x0, x1, C, f⟩
  refine ⟨_, rfl, ?_⟩
  refine (Br hi C hl).mono ?_
  rintro _ h4 ⟨y, rfl, y0, y1, C2, f2⟩
  refine ⟨_, rfl, ?_⟩
  refine (Br hi C2 hl).mono ?_
  rintro _ h5 ⟨z, rfl, z0, z1, C3, f3⟩
  have w : IntKind.i64.wrap (IntKind.i64.wrap (IntKind.i64.wrap (x * 65536) + IntKind.i64.wrap (y * 256)) + z) = x * 65536 + y * 256 + z := by
   rw [i64_in (x * 65536) (by omega), i64_in (y * 256) (by omega), i64_in (x * 65536 + y * 256) (by omega), i64_in _ (by omega)]
  refine ⟨_, rfl, hn0, ?_⟩
  rw [w]
  have := md (x * 65536 + y * 256 + z) (by omega)
  exact ⟨_, rfl, this.1, this.2, C3, fun y hy => by rw [f3 y hy, f2 y hy, f y hy]⟩
theorem PX (hi : Eng.Inv S h0) (H : yM h0 h b T code a c) (hl : code.length ≤ 1048576) (n : Nat) (h2 : n ≤ 100000) :
  zc Tryz.prog S As #[.pointer (some ⟨b, 0, none⟩), .int .i64 n] h (fun v h' => ∃ ys : List Int, ys.length = n ∧ tB.O h' v ys ∧ tB.New h v ∧ yM h0 h' b T code a c ∧ (∀ y, h y ≠ none → y ≠ b → h' y = h y) ∧ ∀ y ∈ ys, 0 ≤ y ∧ y < 256) := by
 refine Gp (vs := [.pointer (some ⟨b, 0, none⟩), .int .i64 n]) ⟨rfl, rfl, trivial⟩ (hi.sub H.sub) ?_
 simp only [Dc, Tr.wp, zX, Ex.ev, coerce, toInt_int, zf, zn, zu, zo, zB, ya, arith, Cst.val, SV.den, z6, yl, zU, zt, zk, zG, ym, List.flatMap_cons, List.flatMap_nil, List.getD_cons_zero, List.getD_cons_succ, List.getElem?_cons_zero, decide_eq_true_eq, decide_eq_false_iff_not, List.map_cons, List.map_nil, List.cons_append, List.nil_append, List.append_nil, if_false, Bool.false_eq_true]
 intro b0 hb0
 have hb00 := yg H.sub hb0
 have hne0 : b0 ≠ b := fun e => H.held (e ▸ hb0)
 have s0 : Eng.Sub h (upd h b0 (.cells (ints .u8 []) 5)) := Sub.zL hb0
 refine ⟨fun us h' => ∃ (a1 : Option Addr) (c1 i : Nat) (ys : List Int), us = [.slice a1 i c1, .int .i64 i] ∧ i ≤ n ∧ ys.length = i ∧ Part .u8 h' (.slice a1 i c1) ys ∧ (∀ y, zi (.slice a1 i c1) = some y → h y = none) ∧ yM h0 h' b T code a c ∧ (∀ y, h y ≠ none → y ≠ b → h' y = h y) ∧ ∀ y ∈ ys, 0 ≤ y ∧ y < 256,
  fun us _ => n - (toInt (us.getD 1 undef)).toNat, ⟨_, _, 0, [], rfl, by omega, rfl, (Own.made []).part, New.of hb0, H.mono s0, fun y hy _ => upd_ne fun e => hy (e ▸ hb0), fun y hy => by cases hy⟩, ?_⟩
 rintro a1 l1 c1 x h' ⟨a1', c1', i, ys, hx1, hi2, hy, P, N, C, f, hbs⟩
 obtain ⟨⟨rfl, rfl, rfl⟩, rfl⟩ : (a1 = a1' ∧ l1 = i ∧ c1 = c1') ∧ x = i := by simpa using hx1
 refine ⟨fun hlt => ?_, fun hge => ?_⟩
 ·refine (Br hi C hl).mono ?_
  rintro _ h3 ⟨x, rfl, x0, x1, C2, f2⟩
  have hnb : zi (.slice a1 l1 c1) ≠ some b := fun e => by have := N b e; exact H.held this
  have P2 : Part .u8 h3 (.slice a1 l1 c1) ys := P.keep fun y hy => f2 y fun e => hnb (e ▸ hy)
  refine ⟨_, rfl, fun b1 hb1 => ?_⟩
  have s3 : Eng.Sub h3 (upd h3 b1 (.cells (ints .u8 [IntKind.u8.wrap x]) 5)) := Sub.zL hb1
  refine xo hi (C2.sub.trans s3) (P2.sub s3) (fun y hy => yg H.sub (N y hy)) (ys := [IntKind.u8.wrap x]) zq.new (by simp only [List.length_singleton]; omega) fun v' h4 o n4 s4 keep hblk => ?_
  obtain ⟨a4, c4, rfl, _, _⟩ := o.ints
  have keep' : ∀ y, upd h3 b1 (.cells (ints .u8 [IntKind.u8.wrap x]) 5) y ≠ none → zi (.slice a1 l1 c1) ≠ some y → h4 y = upd h3 b1 (.cells (ints .u8 [IntKind.u8.wrap x]) 5) y := keep
  have h3b : upd h3 b1 (.cells (ints .u8 [IntKind.u8.wrap x]) 5) b = h3 b := upd_ne fun e => C2.held (e ▸ hb1)
  have w2 : IntKind.i64.wrap ((l1 : Int) + 1) = ((l1 + 1 : Nat) : Int) := by rw [i64_in _ (by omega)]; omega
  have el : (ys ++ [IntKind.u8.wrap x]).length = l1 + 1 := by simp [hy]
  rw [el] at o n4 hblk
  simp only [zo, zn, zu, w2, el]
  refine ⟨⟨a4, c4, l1 + 1, _, rfl, by omega, el, o, ?_, C2.keep s4 (by rw [keep' b (by rw [h3b]; exact C2.held) hnb, h3b]), fun y hy1 hy2 => ?_, fun y hy => ?_⟩, by simp only [List.getD_cons_succ, List.getD_cons_zero, toInt_int]; omega⟩
  ·rcases hblk with e | e
   ·intro y hy; rw [e] at hy; exact N y hy
   ·intro y hy2
    have h5 : upd h3 b1 (.cells (ints .u8 [IntKind.u8.wrap x]) 5) y = none := e y hy2
    have h6 := yg s3 h5
    by_cases hyb : y = b
    ·subst hyb; exact absurd h6 C2.held
    ·rw [f2 y hyb] at h6
     cases hh : h y with
     | none => rfl
     | some o => rw [f y (by rw [hh]; simp) hyb, hh] at h6; cases h6
  ·have h5 : h3 y = h y := by rw [f2 y hy2, f y hy1 hy2]
   have h6 : upd h3 b1 (.cells (ints .u8 [IntKind.u8.wrap x]) 5) y = h3 y := upd_ne fun e => hy1 (by rw [← h5, e]; exact hb1)
   rw [keep' y (by rw [h6, h5]; exact hy1) (fun e => hy1 (N y e)), h6, h5]
  ·rcases List.mem_append.1 hy with hy | hy
   ·exact hbs y hy
   ·rw [List.mem_singleton.1 hy, IntKind.wrap_u8]; omega
 ·obtain rfl : l1 = n := by omega
  exact ⟨ys, hy, P, N, C, f, hbs⟩
end Go.Proofs.YteaonnfokkfnlaaGreatDoor
end
section
namespace Go.Proofs.YteaonnfokkfnlaaGreatDoor
open Go Go.Eng Go.IntWalk
variable {S : Shared} {h h0 : Eng.Heap} {b : Nat} {T : TypeId} {code : List Int} {a : Option Addr} {c : Nat}
theorem FC (hi : Eng.Inv S h0) (H : yM h0 h b T code a c) (hl : code.length ≤ 1048576) (n : Int) (h1 : 1 ≤ n) (h2 : n ≤ 1000000) :
  zc Tryz.prog S k9 #[.pointer (some ⟨b, 0, none⟩), .int .i64 n] h (fun v h' => ∃ x, v = .bool x ∧ yM h0 h' b T code a c ∧ ∀ y, y ≠ b → h' y = h y) := by
 refine Gs (vs := [.pointer (some ⟨b, 0, none⟩), .int .i64 n]) ⟨rfl, rfl, trivial⟩ (hi.sub H.sub) ?_
 simp only [Df, Tr.wp, zX, Ex.ev, coerce, toInt_int, zB, ya, Cst.val, SV.den, z6, yl, zU, zt, zk, zG, List.flatMap_cons, List.flatMap_nil, List.getD_cons_zero, List.getD_cons_succ, List.map_cons, List.map_nil, List.cons_append, List.nil_append, List.append_nil, if_false, Bool.false_eq_true]
 refine (Aq hi H hl n h1 h2).mono ?_
 rintro _ h3 ⟨x, rfl, _, _, C, f⟩
 exact ⟨_, rfl, _, rfl, C, f⟩
def Qs (h0 h : Eng.Heap) (b : Nat) (T : TypeId) (code : List Int) (a : Option Addr) (c : Nat) (P : List Int → Prop) (v : Value) (h' : Eng.Heap) : Prop :=
 ∃ ys : List Int, P ys ∧ tB.O h' v ys ∧ tB.New h v ∧ yM h0 h' b T code a c ∧ (∀ y, h y ≠ none → y ≠ b → h' y = h y) ∧ ∀ y ∈ ys, 0 ≤ y ∧ y < 256
theorem PY (hi : Eng.Inv S h0) (H : yM h0 h b T code a c) {a1 : Option Addr} {l1 c1 : Nat} {ys : List Int} {h3 : Eng.Heap} (hy : ys.length = l1) (P : Part .u8 h3 (.slice a1 l1 c1) ys) (N : ∀ y, zi (.slice a1 l1 c1) = some y → h y = none) (C2 : yM h0 h3 b T code a c) (f : ∀ y, h y ≠ none → y ≠ b → h3 y = h y) (hl : ys.length ≤ 1000000) {b1 : Nat} (hb1 : h3 b1 = none) (x : Int) {ty : TypeId} {byt : Nat} (hby : byt ≤ 16) {K : Value → Eng.Heap → Prop}
  (hK : ∀ a4 c4 h4, Part .u8 h4 (.slice a4 (l1 + 1) c4) (ys ++ [x]) → (∀ y, zi (.slice a4 (l1 + 1) c4) = some y → h y = none) → yM h0 h4 b T code a c → (∀ y, h y ≠ none → y ≠ b → h4 y = h y) → K (.slice a4 (l1 + 1) c4) h4) :
  appW S ty 1 byt [.int .u8 0] (.slice a1 l1 c1) (.slice (some ⟨b1, 0, none⟩) 1 1) (upd h3 b1 (.cells (ints .u8 [x]) 5)) K := by
 have hnb : zi (.slice a1 l1 c1) ≠ some b := fun e => H.held (N b e)
 have s3 : Eng.Sub h3 (upd h3 b1 (.cells (ints .u8 [x]) 5)) := Sub.zL hb1
 have hlen : (ys.length + [x].length) * byt ≤ 1000001 * 16 := Nat.mul_le_mul (by simp only [List.length_singleton]; omega) hby
 refine xo hi (C2.sub.trans s3) (P.sub s3) (fun y hy => yg H.sub (N y hy)) (ys := [x]) zq.new (Nat.le_trans hlen (by decide)) fun v' h4 o n4 s4 keep hblk => ?_
 obtain ⟨a4, c4, rfl, _, _⟩ := o.ints
 have h3b : upd h3 b1 (.cells (ints .u8 [x]) 5) b = h3 b := upd_ne fun e => C2.held (e ▸ hb1)
 have el : (ys ++ [x]).length = l1 + 1 := by simp [hy]
 rw [el] at o n4 hblk ⊢
 refine hK a4 c4 h4 o ?_ (C2.keep s4 (by rw [keep b (by rw [h3b]; exact C2.held) hnb, h3b])) (fun y hy1 hy2 => ?_)
 ·rcases hblk with e | e
  ·intro y hy; rw [e] at hy; exact N y hy
  ·intro y hy2
   have h6 := yg s3 (e y hy2)
   cases hh : h y with
   | none => rfl
   | some o =>
    by_cases hyb : y = b
    ·subst hyb; exact absurd h6 C2.held
    ·rw [f y (by rw [hh]; simp) hyb, hh] at h6; cases h6
 ·have h5 : h3 y = h y := f y hy1 hy2
  have h6 : upd h3 b1 (.cells (ints .u8 [x]) 5) y = h3 y := upd_ne fun e => hy1 (by rw [← h5, e]; exact hb1)
  rw [keep y (by rw [h6, h5]; exact hy1) (fun e => hy1 (N y e)), h6, h5]
theorem J2 (hi : Eng.Inv S h0) (H : yM h0 h b T code a c) (hl : code.length ≤ 1048576) (most : Int) (hm1 : 1 ≤ most) (hm2 : most ≤ 100000) :
  zc Tryz.prog S q9 #[.pointer (some ⟨b, 0, none⟩), .int .i64 most] h (Qs h0 h b T code a c fun ys => (ys.length : Int) < most) := by
 refine Gr (vs := [.pointer (some ⟨b, 0, none⟩), .int .i64 most]) ⟨rfl, rfl, trivial⟩ (hi.sub H.sub) ?_
 simp only [De, Tr.wp, zX, Ex.ev, coerce, toInt_int, zf, zn, zu, zo, zB, ya, arith, Cst.val, SV.den, z6, yl, zU, zt, zk, zG, ym, List.flatMap_cons, List.flatMap_nil, List.getD_cons_zero, List.getD_cons_succ, List.getElem?_cons_zero, List.getElem?_cons_succ, decide_eq_true_eq, decide_eq_false_iff_not, List.map_cons, List.map_nil, List.cons_append, List.nil_append, List.append_nil, if_false, Bool.false_eq_true]
 refine (Aq hi H hl most hm1 (by omega)).mono ?_
 rintro _ h1 ⟨n, rfl, n0, n1, C1, f1⟩
 refine ⟨_, rfl, ?_⟩
 refine (FC hi C1 hl 6 (by omega) (by omega)).mono ?_
 rintro _ h2 ⟨t, rfl, C2, f2⟩
 obtain ⟨m, rfl⟩ := Int.eq_ofNat_of_zero_le n0
 have back : ∀ y, h2 y = none → h y = none := fun y hy => by
  by_cases hyb : y = b
  ·subst hyb; exact absurd hy C2.held
  ·rw [f2 y hyb, f1 y hyb] at hy; exact hy
 have fw : ∀ y, y ≠ b → h2 y = h y := fun y hyb => by rw [f2 y hyb, f1 y hyb]
 refine ⟨_, rfl, fun ht => ?_, fun ht => ?_⟩
 ·refine (PX hi C2 hl m (by omega)).mono ?_
  rintro _ h3 ⟨ys, hy, O, N, C3, f3, hbs⟩
  obtain ⟨a3, c3, rfl⟩ := Lz (tB.OR O)
  exact ⟨_, _, _, rfl, ys, by omega, O, fun y hy => back y (N y hy), C3, fun y h1 h2 => by rw [f3 y (by rw [fw y h2]; exact h1) h2, fw y h2], hbs⟩
 ·intro b0 hb0
  have s0 : Eng.Sub h2 (upd h2 b0 (.cells (ints .u8 []) 5)) := Sub.zL hb0
  refine ⟨fun us h' => ∃ (a1 : Option Addr) (c1 i : Nat) (ys : List Int), us = [.slice a1 i c1, .int .i64 i] ∧ i ≤ m ∧ ys.length = i ∧ Part .u8 h' (.slice a1 i c1) ys ∧ (∀ y, zi (.slice a1 i c1) = some y → h y = none) ∧ yM h0 h' b T code a c ∧ (∀ y, h y ≠ none → y ≠ b → h' y = h y) ∧ ∀ y ∈ ys, 0 ≤ y ∧ y < 256,
   fun us _ => m - (toInt (us.getD 1 undef)).toNat, ⟨_, _, 0, [], rfl, by omega, rfl, (Own.made []).part, fun y hy => back y (New.of hb0 y hy), C2.mono s0, fun y h1 h2 => by rw [upd_ne fun e => h1 (by rw [← fw y h2, e]; exact hb0), fw y h2], fun y hy => by cases hy⟩, ?_⟩
  rintro a1 l1 c1 x h' ⟨a1', c1', i, ys, hx1, hi2, hy, P, N, C, f, hbs⟩
  obtain ⟨⟨rfl, rfl, rfl⟩, rfl⟩ : (a1 = a1' ∧ l1 = i ∧ c1 = c1') ∧ x = i := by simpa using hx1
  refine ⟨fun hlt => ?_, fun hge => ?_⟩
  ·refine (Aq hi C hl 3 (by omega) (by omega)).mono ?_
   rintro _ h3 ⟨x, rfl, x0, x1, C3, f3⟩
   have hnb : zi (.slice a1 l1 c1) ≠ some b := fun e => H.held (N b e)
   refine ⟨_, rfl, fun b1 hb1 => ?_⟩
   have w2 : IntKind.i64.wrap ((l1 : Int) + 1) = ((l1 + 1 : Nat) : Int) := by rw [i64_in _ (by omega)]; omega
   refine PY hi H hy (P.keep fun y hy => f3 y fun e => hnb (e ▸ hy)) N C3 (fun y h1 h2 => by rw [f3 y h2, f y h1 h2]) (by omega) hb1 _ (by omega) fun a4 c4 h4 P4 N4 C4 f4 => ?_
   simp only [zo, zn, zu, w2]
   refine ⟨⟨a4, c4, l1 + 1, _, rfl, by omega, by simp [hy], P4, N4, C4, f4, fun y hy => ?_⟩, by simp only [List.getD_cons_succ, List.getD_cons_zero, toInt_int]; omega⟩
   rcases List.mem_append.1 hy with hy | hy
   ·exact hbs y hy
   ·rw [List.mem_singleton.1 hy, IntKind.wrap_u8]; omega
  ·obtain rfl : l1 = m := by omega
   exact ⟨ys, by omega, P, N, C, f, hbs⟩
end Go.Proofs.YteaonnfokkfnlaaGreatDoor
end
section
namespace Go.Proofs.YteaonnfokkfnlaaGreatDoor
open Go Go.Eng Go.IntWalk
variable {S : Shared} {h : Eng.Heap}
theorem HX (hi : Eng.Inv S h) {a1 a2 : Option Addr} {c1 c2 : Nat} {xs : List Int} (H1 : zq h .u8 a1 xs) (H2 : zq h .u8 a2 xs) :
  zc Tryz.prog S qc #[.slice a1 xs.length c1, .slice a2 xs.length c2] h (fun v h' => v = .bool true ∧ h' = h) := by
 refine Fw (vs := [.slice a1 xs.length c1, .slice a2 xs.length c2]) ⟨rfl, rfl, trivial⟩ hi ?_
 simp only [Cm, Tr.wp, Ex.ev, coerce, zn, zu, zo, SV.den, List.getD_cons_zero, List.getD_cons_succ, List.cons_append, List.nil_append, and_true]
 exact ⟨xs, rfl, H1.cells (c := c1), xs, rfl, H2.cells (c := c2), by simp [KQ, AI]⟩
end Go.Proofs.YteaonnfokkfnlaaGreatDoor
end
section
namespace Go.Proofs.YteaonnfokkfnlaaGreatDoor
open Go Go.Eng Go.IntWalk
section
variable {S : Shared} {h h0 : Eng.Heap} {b : Nat} {T : TypeId} {code : List Int} {a : Option Addr} {c : Nat}
theorem Qa (hi : Eng.Inv S h0) (H : yM h0 h b T code a c) (hl : code.length ≤ 1048576) :
  zc Tryz.prog S qA #[.pointer (some ⟨b, 0, none⟩)] h (Qs h0 h b T code a c fun ys => ys.length ≤ 100) := by
 refine Gu (vs := [.pointer (some ⟨b, 0, none⟩)]) ⟨rfl, trivial⟩ (hi.sub H.sub) ?_
 simp only [Dh, Tr.wp, zX, Ex.ev, coerce, zf, zn, zu, zo, zB, Cst.val, SV.den, z6, yl, zU, zt, zk, zG, List.flatMap_cons, List.flatMap_nil, List.getD_cons_zero, List.getD_cons_succ, List.map_cons, List.map_nil, List.cons_append, List.nil_append, List.append_nil, if_false, Bool.false_eq_true]
 refine (FC hi H hl 2 (by omega) (by omega)).mono ?_
 rintro _ h1 ⟨t, rfl, C1, f1⟩
 have back : ∀ y, h1 y = none → h y = none := fun y hy => by
  by_cases hyb : y = b
  ·subst hyb; exact absurd hy C1.held
  ·rw [f1 y hyb] at hy; exact hy
 refine ⟨_, rfl, fun ht => ?_, fun ht => ?_⟩
 ·intro b0 hb0
  have e0 : (#[] : Array Value) = ints .u8 [] := rfl
  rw [e0]
  have s0 : Eng.Sub h1 (upd h1 b0 (.cells (ints .u8 []) 5)) := Sub.zL hb0
  exact ⟨[], by simp, (Own.made (k := .u8) (h := h1) (b := b0) (T := 5) []).part, fun y hy => back y (New.of hb0 y hy), C1.mono s0, fun y g1 g2 => by rw [upd_ne fun e => g1 (by rw [← f1 y g2, e]; exact hb0), f1 y g2], fun y hy => by cases hy⟩
 ·intro b0 hb0
  have e0 : (#[Value.int .u8 100] : Array Value) = ints .u8 [100] := rfl
  rw [e0]
  have s0 : Eng.Sub h1 (upd h1 b0 (.cells (ints .u8 [100]) 5)) := Sub.zL hb0
  have hb0b : b0 ≠ b := fun e => C1.held (e ▸ hb0)
  refine (J2 hi (C1.mono s0) hl 16 (by omega) (by omega)).mono ?_
  rintro _ h2 ⟨ys, hy, O, N, C2, f2, hbs⟩
  obtain ⟨a2, c2, rfl⟩ := Lz (tB.OR O)
  obtain ⟨_, _, e2, hc2, g2⟩ := Part.ints O
  cases e2
  refine ⟨_, _, _, rfl, ?_⟩
  have P0 : Part .u8 h2 (.slice (some ⟨b0, 0, none⟩) 1 1) [100] := ((Own.made (k := .u8) (h := h1) (b := b0) (T := 5) [100]).part).keep fun y hy => by
   cases hy; exact f2 b0 (by rw [upd_same]; simp) hb0b
  have hnb : ∀ o, zi (.slice (some ⟨b0, 0, none⟩) 1 1) = some o → o = b0 := fun o ho => by cases ho; rfl
  refine xo hi C2.sub P0 (fun y hy => by rw [hnb y hy]; exact yg H.sub (back b0 hb0)) g2 (by simp only [List.length_singleton]; omega) fun v' h3 o3 n3 s3 keep hblk => ?_
  have cur : h3 b = h2 b := keep b C2.held (fun e => by cases e; exact hb0b rfl)
  obtain ⟨a3, c3, rfl, _, _⟩ := o3.ints
  refine ⟨100 :: ys, by simp only [List.length_cons]; omega, o3, ?_, C2.keep s3 cur, fun y g1 g2 => ?_, fun y hy => ?_⟩
  ·rcases hblk with e | e
   ·intro y hy
    have hy : zi (.slice a3 ([100] ++ ys).length c3) = some y := hy
    rw [e] at hy; rw [hnb y hy]; exact back b0 hb0
   ·intro y hy
    have h6 := e y hy
    cases hh : h y with
    | none => rfl
    | some o =>
     by_cases hyb : y = b
     ·subst hyb; exact absurd h6 C2.held
     ·have h5 : h1 y = some o := by rw [f1 y hyb, hh]
      have hyb0 : y ≠ b0 := fun e => by rw [e, hb0] at h5; cases h5
      have : h2 y = some o := by rw [f2 y (by rw [upd_ne hyb0, h5]; simp) hyb, upd_ne hyb0, h5]
      rw [this] at h6; cases h6
  ·have h5 : h1 y = h y := f1 y g2
   have hyb0 : y ≠ b0 := fun e => g1 (by rw [← h5, e]; exact hb0)
   have h6 : h2 y = h y := by rw [f2 y (by rw [upd_ne hyb0, h5]; exact g1) g2, upd_ne hyb0, h5]
   rw [keep y (by rw [h6]; exact g1) (fun e => hyb0 (hnb y e)), h6]
  ·rcases List.mem_cons.1 hy with rfl | hy
   ·omega
   ·exact hbs y hy
theorem FD (hi : Eng.Inv S h) (hx : zq h .u8 a code) (hl : code.length ≤ 1048576) :
  zc Tryz.prog S jO #[.slice a code.length c] h (fun v h' => ∃ (a1 a2 : Option Addr) (c1 c2 : Nat) (ys ds : List Int) (n : Int), v = .tuple #[.slice a1 ys.length c1, .int .i64 n, .slice a2 ds.length c2] ∧ ys.length ≤ 29 ∧ ds.length ≤ 100 ∧ tB.O h' (.slice a1 ys.length c1) ys ∧ tB.O h' (.slice a2 ds.length c2) ds ∧ Eng.Sub h h' ∧ okB ys ∧ okB ds ∧ -1 ≤ n ∧ n ≤ 8) := by
 refine Bv (vs := [.slice a code.length c]) ⟨rfl, trivial⟩ hi ?_
 simp only [qQ, Tr.wp, zX, Ex.ev, coerce, toInt_int, zf, zn, zu, zo, zB, arith, Cst.val, SV.den, z6, yl, zU, zt, zk, zG, List.flatMap_cons, List.flatMap_nil, List.getD_cons_zero, List.getD_cons_succ, List.getElem?_cons_zero, List.map_cons, List.map_nil, List.cons_append, List.nil_append, List.append_nil, if_false, Bool.false_eq_true]
 refine (RN hi hx hl).mono ?_
 rintro _ h1 ⟨b, T, rfl, C1⟩
 refine ⟨_, rfl, ?_⟩
 refine (J2 hi C1 hl 30 (by omega) (by omega)).mono ?_
 rintro _ h2 ⟨ys, hy, O, N, C2, f2, hbs⟩
 obtain ⟨a2, c2, rfl⟩ := Lz (tB.OR O)
 have hnb : ∀ y, zi (.slice a2 ys.length c2) = some y → y ≠ b := fun y hy e => C1.held (e ▸ N y hy)
 refine ⟨_, _, _, rfl, ?_⟩
 refine (Aq hi C2 hl 8 (by omega) (by omega)).mono ?_
 rintro _ h3 ⟨p, rfl, p0, p1, C3, f3⟩
 refine ⟨_, rfl, ?_⟩
 refine (FC hi C3 hl 12 (by omega) (by omega)).mono ?_
 rintro _ h4 ⟨t, rfl, C4, f4⟩
 have O4 : tB.O h4 (.slice a2 ys.length c2) ys := tB.Okeep O fun y hy => by rw [f4 y (hnb y hy), f3 y (hnb y hy)]
 have fin : ∀ (h5 : Eng.Heap), yM h h5 b T code a c → (∀ y, y ≠ b → h5 y = h4 y) → zc Tryz.prog S qA #[.pointer (some ⟨b, 0, none⟩)] h5 (fun v h' => ∃ a6 c6 ds, v = .slice a6 ds.length c6 ∧ tB.O h' (.slice a2 ys.length c2) ys ∧ tB.O h' (.slice a6 ds.length c6) ds ∧ ds.length ≤ 100 ∧ okB ds ∧ Eng.Sub h h') := fun h5 C5 f5 =>
  (Qa hi C5 hl).mono (by
   rintro _ h6 ⟨ds, hd, O6, N6, C6, f6, hbs6⟩
   obtain ⟨a6, c6, rfl⟩ := Lz (tB.OR O6)
   have O5 : tB.O h5 (.slice a2 ys.length c2) ys := tB.Okeep O4 fun y hy => f5 y (hnb y hy)
   exact ⟨a6, c6, ds, rfl, tB.Okeep O5 fun y hy => f6 y (tB.Oheld O5 (show tB.B _ y from hy)) (hnb y hy), O6, hd, hbs6, C6.sub⟩)
 refine ⟨_, rfl, fun ht => ?_, fun ht _ => ?_⟩
 ·refine (Aq hi C4 hl 2 (by omega) (by omega)).mono ?_
  rintro _ h5 ⟨q, rfl, q0, q1, C5, f5⟩
  have w : IntKind.i64.wrap (IntKind.i64.wrap (9 * q) - 1) = 9 * q - 1 := by rw [i64_in (9 * q) (by omega), i64_in _ (by omega)]
  refine ⟨_, rfl, fun _ => ?_⟩
  rw [w]
  refine (fin h5 C5 f5).mono ?_
  rintro _ h6 ⟨a6, c6, ds, rfl, O6, D6, hd, hbd, s6⟩
  exact ⟨_, _, _, rfl, _, _, _, _, ys, ds, _, rfl, by omega, hd, O6, D6, s6, hbs, hbd, by omega, by omega⟩
 ·refine (fin h4 C4 (fun _ _ => rfl)).mono ?_
  rintro _ h6 ⟨a6, c6, ds, rfl, O6, D6, hd, hbd, s6⟩
  exact ⟨_, _, _, rfl, _, _, _, _, ys, ds, _, rfl, by omega, hd, O6, D6, s6, hbs, hbd, by omega, by omega⟩
end
section
variable {s : Nat → Prop} {h : Eng.Heap}
theorem Qb (hi : Eng.Inv (x5 Tryz.prog s) h) (G : ErrZ h) (E : CL h) (a : Option Addr) (c : Nat) (code : List Int) (hx : zq h .u8 a code) (hl : code.length ≤ maxLen) (hw : ∀ x ∈ code, (Lit.int .u8 x).wf = true) :
  zc Tryz.prog (x5 Tryz.prog s) CY #[.slice a code.length c] h (fun v h' => v = .bool true) := by
 refine Gt (vs := [.slice a code.length c]) ⟨rfl, trivial⟩ hi ?_
 simp only [Dg, Tr.wp, zX, Ex.ev, coerce, toInt_int, zf, zn, zu, zo, DC, B0, ya, Cst.val, SV.den, z6, yl, zU, zt, zk, zG, List.flatMap_cons, List.flatMap_nil, List.getD_cons_zero, List.getD_cons_succ, List.getElem?_cons_zero, List.getElem?_cons_succ, decide_eq_true_eq, decide_eq_false_iff_not, List.map_cons, List.map_nil, List.cons_append, List.nil_append, List.append_nil, List.length_cons, List.length_nil, Nat.zero_add, if_true, if_false, Bool.false_eq_true]
 refine ⟨fun _ => trivial, fun hsm => ?_⟩
 have hsm2 : code.length ≤ 1048576 := by omega
 refine (FD hi hx hsm2).mono ?_
 rintro _ h1 ⟨a1, a2, c1, c2, ys, ds, n, rfl, hy, hd, O1, D1, s1, hby, hbd, n0, n1⟩
 have hyw : ∀ y ∈ ys, 0 ≤ y ∧ y ≤ 255 := fun y hy => by have := hby y hy; omega
 have hdw : ∀ y ∈ ds, 0 ≤ y ∧ y ≤ 255 := fun y hy => by have := hbd y hy; omega
 obtain ⟨_, _, ey, hcy, hiy⟩ := Part.ints O1
 cases ey
 obtain ⟨_, _, ed, hcd, hid⟩ := Part.ints D1
 cases ed
 refine ⟨_, _, _, _, _, _, _, rfl, ?_⟩
 have wn : (Lit.int .i64 n).wf = true := by
  have e1 : IntKind.i64.min = -9223372036854775808 := by rfl
  have e2 : IntKind.i64.max = 9223372036854775807 := by rfl
  simp [Lit.wf, e1, e2]; omega
 have Ly : BS ys := by show ys.length ≤ _; omega
 have Ld : BS ds := by show ds.length ≤ _; omega
 refine (EL (hi.sub s1) O1 hyw Ly n wn D1 hdw Ld).mono ?_
 rintro _ h2 ⟨O2, N2, s2⟩
 obtain ⟨a3, c3, rfl, hc3, g3⟩ := Part.ints O2
 have s12 := s1.trans s2
 refine ⟨_, _, _, rfl, fun hbad => ?_, fun hgood => ?_⟩
 ·have e : y6 ys n ds = [] := if_pos (by simp at hbad; omega)
  rw [e]; simp
 have hgood : 0 ≤ n ∧ n ≤ 7 := by simp at hgood; omega
 have back := NJ hgood.1 hgood.2 hy hyw hbd
 have lB := (back []).1
 obtain ⟨B, hB⟩ : ∃ B, B = y6 ys n ds := ⟨_, rfl⟩
 rw [← hB] at O2 lB back g3 hc3 ⊢
 have LB : BS B := by show B.length ≤ _; omega
 refine zc.mono (g_impl_Zlib' (hi.sub s12) (G.sub s12) (E.sub s12) O2 LB (Ty.Oo D1 s2) Ld hbd) ?_
 rintro _ h3 ⟨O3, N3, s3⟩
 rw [(back ds).2.1 (.inr rfl)] at O3
 obtain ⟨u3, rfl, Q3⟩ := wG O3
 obtain ⟨a4, c4, rfl, hc4, g4⟩ := Part.ints (show Part .u8 h3 u3 ys from Q3)
 have s13 := s12.trans s3
 refine ⟨_, _, _, _, _, rfl, ?_⟩
 refine ⟨fun _ => ?_, fun hne => by simp at hne⟩
 refine (HX (hi.sub s13) g4 (hiy.sub (s2.trans s3))).mono ?_
 rintro _ hq ⟨rfl, eq⟩
 subst eq
 refine ⟨_, rfl, ?_⟩
 intro _
 refine ⟨fun h => by simp at h, fun _ => ?_⟩
 intro b1 hb1
 have e0 : (#[] : Array Value) = ints .u8 [] := rfl
 have e1 : (#[Value.int .u8 1] : Array Value) = ints .u8 [1] := rfl
 rw [e0]
 have t1 : Eng.Sub hq (upd hq b1 (.cells (ints .u8 []) 5)) := Sub.zL hb1
 have s14 := s13.trans t1
 refine xo (xs := []) hi s14 (Own.made (k := .u8) (h := hq) (b := b1) (T := 5) []).part (fun z hz => yg s13 (New.of hb1 z hz)) (hid.sub (s2.trans (s3.trans t1))) (by simp only [List.length_nil]; omega) fun v4 h4 o4 n4 s4 k4 r4 => ?_
 rw [List.nil_append] at o4
 obtain ⟨a5, c5, rfl, hc5, g5⟩ := o4.ints
 have hq4 : Eng.Sub hq h4 := fun z o hz => by
  have hzb : z ≠ b1 := fun e => by rw [e, hb1] at hz; cases hz
  have hu : upd hq b1 (.cells (ints .u8 []) 5) z = some o := (upd_ne hzb).trans hz
  exact (k4 z (by rw [hu]; simp) (fun e => by cases e; exact hzb rfl)).trans hu
 intro b2 hb2
 rw [e1]
 simp only [zo, zn, zu]
 have t2 : Eng.Sub h4 (upd h4 b2 (.cells (ints .u8 [1]) 5)) := Sub.zL hb2
 refine xo hi (s4.trans t2) (o4.sub t2) (n4) (ys := [1]) zq.new (by simp only [List.length_singleton]; omega) fun v6 h6 o6 n6 s6 k6 r6 => ?_
 obtain ⟨a7, c7, rfl, hc7, g7⟩ := o6.ints
 simp only [zo, zn, zu]
 have hq6 : Eng.Sub hq h6 := fun z o hz => by
  have h4z := hq4 z o hz
  have hu : upd h4 b2 (.cells (ints .u8 [1]) 5) z = some o := t2 z o h4z
  refine (k6 z (by rw [hu]; simp) (fun e => ?_)).trans hu
  rcases r4 with r4 | r4
  ·have e : zi (.slice a5 ds.length c5) = some z := e
   rw [r4] at e; cases e; rw [hb1] at hz; cases hz
  ·have := r4 z e
   rw [upd_ne (fun e => by rw [e, hb1] at hz; cases hz), hz] at this; cases this
 have s16 := s13.trans hq6
 have Lo : BS (ds ++ [1]) := by show (ds ++ [1]).length ≤ _; simp; omega
 have hob : okB (ds ++ [1]) := KD hbd (Hj (by omega))
 have OB : ∀ hh, Eng.Sub hq hh → tB.O hh (.slice a3 B.length c3) B := fun hh sh => Ty.Oo O2 (s3.trans sh)
 refine zc.mono (g_impl_Zlib' (hi.sub s16) (G.sub s16) (E.sub s16) (OB h6 hq6) LB o6 Lo hob) ?_
 rintro _ h7 ⟨O7, N7, s7⟩
 have s17 := s16.trans s7
 by_cases hz0 : ds.length = 0
 ·rw [(back (ds ++ [1])).2.1 (.inl hz0)] at O7
  obtain ⟨u7, rfl, Q7⟩ := wG O7
  obtain ⟨a8, c8, rfl, hc8, g8⟩ := Part.ints (show Part .u8 h7 u7 ys from Q7)
  refine ⟨_, _, _, _, _, rfl, ?_⟩
  intro b3 hb3
  have t3 : Eng.Sub h7 (upd h7 b3 (.cells (ints .u8 []) 5)) := Sub.zL hb3
  have s18 := s17.trans t3
  refine zc.mono (g_impl_Zlib' (hi.sub s18) (G.sub s18) (E.sub s18) (OB _ (hq6.trans (s7.trans t3))) LB (ds := []) (Own.made (k := .u8) (h := h7) (b := b3) (T := 5) []).part (by show ([] : List Int).length ≤ 1048576; simp) Hi) ?_
  rintro _ h9 ⟨O9, N9, s9⟩
  obtain ⟨u9, rfl, Q9⟩ := wG O9
  obtain ⟨a9, c9, rfl, _, _⟩ := Part.ints (show Part .u8 h9 u9 _ from Q9)
  refine ⟨_, _, _, _, _, rfl, fun _ => ?_, fun hne => by rw [hz0] at hne; simp at hne⟩
  refine ⟨fun _ => ?_, fun hne => by simp at hne⟩
  refine (HX (hi.sub (s18.trans s9)) (g8.sub (t3.trans s9)) (hiy.sub (s2.trans (s3.trans (hq6.trans (s7.trans (t3.trans s9))))))).mono ?_
  rintro _ hr ⟨rfl, er⟩
  exact ⟨_, rfl, by simp [xQ]⟩
 ·rw [(back (ds ++ [1])).2.2 hz0 (.inr (LU hbd))] at O7
  obtain ⟨u7, rfl, Q7⟩ := wG O7
  obtain ⟨a8, c8, rfl, hc8, g8⟩ := Part.ints (show Part .u8 h7 u7 [] from Q7)
  refine ⟨_, _, _, _, _, rfl, ?_⟩
  intro b3 hb3
  have t3 : Eng.Sub h7 (upd h7 b3 (.cells (ints .u8 []) 5)) := Sub.zL hb3
  have s18 := s17.trans t3
  refine zc.mono (g_impl_Zlib' (hi.sub s18) (G.sub s18) (E.sub s18) (OB _ (hq6.trans (s7.trans t3))) LB (ds := []) (Own.made (k := .u8) (h := h7) (b := b3) (T := 5) []).part (by show ([] : List Int).length ≤ 1048576; simp) Hi) ?_
  rintro _ h9 ⟨O9, N9, s9⟩
  rw [(back []).2.2 hz0 (.inl rfl)] at O9
  obtain ⟨u9, rfl, Q9⟩ := wG O9
  obtain ⟨a9, c9, rfl, _, _⟩ := Part.ints (show Part .u8 h9 u9 [] from Q9)
  exact ⟨_, _, _, _, _, rfl, fun he => absurd (by simpa using he) hz0, fun _ => by simp⟩
end
end Go.Proofs.YteaonnfokkfnlaaGreatDoor
end
