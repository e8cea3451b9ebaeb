import Derived.Test.YtmnialmphlbmaaaTyB
import Derived.Test.YtmnialmphlbmaaaTrL1
import Derived.Test.YtmnialmphlbmaaaEng8
set_option linter.unusedVariables false
set_option linter.unusedSimpArgs false
namespace Go.Proofs.Ytmnialmphlbmaaa
open Go Go.Eng Go.IntWalk
variable {S : Shared} {h h0 : Eng.Heap} {b : Nat} {T : TypeId} {code : List Int} {a : Option Addr} {c : Nat}

/-- The cursor of a draw, in a block of the code's own. -/
def CurAt (h0 h : Eng.Heap) (b : Nat) (T : TypeId) (code : List Int) (a : Option Addr) (c : Nat) : Prop :=
  ∃ (i : Nat) (hh : Int), h b = some (.cells #[.slice a code.length c, .int .i64 i, .int .i64 hh] T) ∧ i ≤ code.length ∧ HInts h0 .u8 a code ∧ Eng.Sub h0 h ∧ h0 b = none

theorem CurAt.sub (H : CurAt h0 h b T code a c) : Eng.Sub h0 h := by obtain ⟨_, _, _, _, _, s, _⟩ := H; exact s
theorem CurAt.fresh (H : CurAt h0 h b T code a c) : h0 b = none := by obtain ⟨_, _, _, _, _, _, n⟩ := H; exact n
theorem CurAt.held (H : CurAt h0 h b T code a c) : h b ≠ none := by obtain ⟨_, _, hb, _⟩ := H; rw [hb]; simp
theorem CurAt.mono {h1 : Eng.Heap} (H : CurAt h0 h b T code a c) (s : Eng.Sub h h1) : CurAt h0 h1 b T code a c := by
  obtain ⟨i, hh, hb, hi, hx, s0, hn⟩ := H
  exact ⟨i, hh, s b _ hb, hi, hx, s0.trans s, hn⟩
theorem CurAt.keep {h1 : Eng.Heap} (H : CurAt h0 h b T code a c) (s : Eng.Sub h0 h1) (hk : h1 b = h b) : CurAt h0 h1 b T code a c := by
  obtain ⟨i, hh, hb, hi, hx, s0, hn⟩ := H
  exact ⟨i, hh, hk.trans hb, hi, hx, s, hn⟩

theorem k_l1New (hi : Eng.Inv S h) (hx : HInts h .u8 a code) (hl : code.length ≤ 1048576) :
    CallsH Try.prog S F_spec_l1New #[.slice a code.length c] h (fun v h' => ∃ b T, v = .pointer (some ⟨b, 0, none⟩) ∧ CurAt h h' b T code a c) := by
  refine run_spec_l1New (vs := [.slice a code.length c]) ⟨rfl, trivial⟩ hi ?_
  simp only [t_spec_l1New, Tr.wp, mksW, callW, Ex.ev, coerce, toInt_int, toBool_bool, slL_sl, slC_sl, slA_sl, toAddr_ptr, ptrOf_ptr, isNil_sl, isNil_ptr, it_and, it_or, it_int, optN_int, optN_nl, cmpI, arith, Cst.val, SV.den, resShs, resV, resSV, resVals, newVars, runCells, exSh, allSh, cellsAre, storeW, List.flatMap_cons, List.flatMap_nil, List.replicate_one, List.getD_cons_zero, List.getD_cons_succ, List.getElem?_cons_zero, List.getElem?_cons_succ, decide_eq_true_eq, decide_eq_false_iff_not, List.map_cons, List.map_nil, List.cons_append, List.nil_append, List.append_nil, List.length_cons, List.length_nil, Nat.zero_add, Nat.add_zero, and_true, true_and, if_true, if_false, Bool.false_eq_true]
  refine ⟨fun us h' => ∃ (i : Nat) (x : Int), us = [.int .i64 x, .int .i64 i] ∧ i ≤ code.length ∧ h' = h, fun us _ => code.length - (toInt (us.getD 1 undef)).toNat, ⟨0, _, rfl, by omega, rfl⟩, ?_⟩
  rintro x y h' ⟨i, z, hx1, hi2, eq⟩
  subst eq
  obtain ⟨rfl, rfl⟩ : x = z ∧ y = i := by simpa using hx1
  refine ⟨fun hlt => ?_, fun hge => ?_⟩
  · have hi3 : i < code.length := by omega
    obtain ⟨g1, g2⟩ := hx.cell (List.getElem?_eq_getElem hi3)
    have w2 : IntKind.i64.wrap ((i : Int) + 1) = ((i + 1 : Nat) : Int) := by rw [i64_in _ (by omega)]; omega
    rw [w2]
    exact ⟨by simpa using g2, by omega, hlt, code[i], by simpa [add_add] using g1, ⟨i + 1, _, rfl, by omega, rfl⟩, by simp only [List.getD_cons_succ, List.getD_cons_zero, toInt_int]; omega⟩
  · intro b hb
    exact ⟨b, _, rfl, 0, x, upd_same, Nat.zero_le _, hx, Sub.of_upd hb, hb⟩

set_option maxHeartbeats 1000000 in
theorem k_l1Byte (hi : Eng.Inv S h0) (H : CurAt h0 h b T code a c) (hl : code.length ≤ 1048576) :
    CallsH Try.prog S F_spec_l1Byte #[.pointer (some ⟨b, 0, none⟩)] h (fun v h' => ∃ x, v = .int .i64 x ∧ 0 ≤ x ∧ x ≤ 255 ∧ CurAt h0 h' b T code a c ∧ ∀ y, y ≠ b → h' y = h y) := by
  obtain ⟨i, hh, hb, hi2, hx, s, hn⟩ := H
  have hsb : ¬ S b := fun hs => hi b hs hn
  refine run_spec_l1Byte (vs := [.pointer (some ⟨b, 0, none⟩)]) ⟨rfl, trivial⟩ (hi.sub s) ?_
  simp only [t_spec_l1Byte, Tr.wp, mksW, callW, Ex.ev, coerce, toInt_int, toBool_bool, slL_sl, slC_sl, slA_sl, toAddr_ptr, ptrOf_ptr, isNil_sl, isNil_ptr, it_and, it_or, it_int, optN_int, optN_nl, cmpI, arith, Cst.val, SV.den, resShs, resV, resSV, resVals, newVars, runCells, exSh, allSh, cellsAre, storeW, List.flatMap_cons, List.flatMap_nil, List.replicate_one, List.getD_cons_zero, List.getD_cons_succ, List.getElem?_cons_zero, List.getElem?_cons_succ, decide_eq_true_eq, decide_eq_false_iff_not, List.map_cons, List.map_nil, List.cons_append, List.nil_append, List.append_nil, List.length_cons, List.length_nil, Nat.zero_add, Nat.add_zero, and_true, true_and, if_true, if_false, Bool.false_eq_true, addr_add]
  have ld : ∀ {h' : Eng.Heap} {i : Nat} {hh : Int}, h' b = some (.cells #[.slice a code.length c, .int .i64 i, .int .i64 hh] T) → hcell h' ⟨b, 0, none⟩ = some (.slice a code.length c) ∧ hcell h' ⟨b, 1, none⟩ = some (.int .i64 i) ∧ hcell h' ⟨b, 2, none⟩ = some (.int .i64 hh) := fun {h' i hh} hb => by simp [hcell, hb]
  obtain ⟨g0, g1, g2⟩ := ld hb
  have set2 : ∀ m : Int, hset h ⟨b, 2, none⟩ (.int .i64 m) = upd h b (.cells #[.slice a code.length c, .int .i64 i, .int .i64 m] T) := fun m => by rw [hset_cells' hb]; rfl
  have ok2 : okCell S h ⟨b, 2, none⟩ := ⟨⟨_, g2⟩, by simp [hfrozen, hb], hsb⟩
  refine ⟨by simp, hh, g2, by simp, ok2, ?_⟩
  rw [set2]
  obtain ⟨m, hm⟩ : ∃ m, m = IntKind.i64.wrap (IntKind.i64.wrap (hh * 6364136223846793005) + 1442695040888963407) := ⟨_, rfl⟩
  rw [← hm]
  have hb1 : upd h b (.cells #[.slice a code.length c, .int .i64 i, .int .i64 m] T) b = some (.cells #[.slice a code.length c, .int .i64 i, .int .i64 m] T) := upd_same
  obtain ⟨k0, k1, k2⟩ := ld hb1
  have hs1 : Eng.Sub h0 (upd h b (.cells #[.slice a code.length c, .int .i64 i, .int .i64 m] T)) := fun y o hy => by rw [upd_ne (fun e => by rw [e, hn] at hy; cases hy)]; exact s y o hy
  refine ⟨by simp, m, k2, by simp, m, k2, by simp, i, k1, by simp, _, _, _, k0, fun hlt => ?_, fun hge _ => ?_⟩
  · have hi3 : i < code.length := by omega
    obtain ⟨e1, e2⟩ := (hx.sub hs1).cell (List.getElem?_eq_getElem hi3)
    refine ⟨by simp, _, _, _, k0, by simp, i, k1, by simpa using e2, by omega, hlt, code[i], by simpa [add_add] using e1, by simp, i, k1, by simp, ⟨⟨_, k1⟩, by simp [hfrozen, hb1], hsb⟩, ?_⟩
    intro _
    have w2 : IntKind.i64.wrap ((i : Int) + 1) = ((i + 1 : Nat) : Int) := by rw [i64_in _ (by omega)]; omega
    have set1 : hset (upd h b (.cells #[.slice a code.length c, .int .i64 i, .int .i64 m] T)) ⟨b, 1, none⟩ (.int .i64 ((i + 1 : Nat) : Int)) = upd h b (.cells #[.slice a code.length c, .int .i64 ((i + 1 : Nat) : Int), .int .i64 m] T) := by rw [hset_cells' hb1, upd_upd]; rfl
    rw [w2, set1]
    have hm := and_mask (y := IntKind.i64.wrap (Go.bits .and .i64 (Go.bits .xor .i64 (m.fdiv (2 ^ min (Int.toNat 33) IntKind.i64.bits)) (m.fdiv (2 ^ min (Int.toNat 45) IntKind.i64.bits))) 255 + IntKind.i64.wrap code[i])) (m := 255) (by omega)
    exact ⟨_, rfl, hm.1, hm.2, ⟨i + 1, m, upd_same, by omega, hx, fun y o hy => by rw [upd_ne (fun e => by rw [e, hn] at hy; cases hy)]; exact s y o hy, hn⟩, fun y hy => upd_ne hy⟩
  · have hm := and_mask (y := Go.bits .xor .i64 (m.fdiv (2 ^ min (Int.toNat 33) IntKind.i64.bits)) (m.fdiv (2 ^ min (Int.toNat 45) IntKind.i64.bits))) (m := 255) (by omega)
    exact ⟨_, rfl, hm.1, hm.2, ⟨i, m, upd_same, hi2, hx, hs1, hn⟩, fun y hy => upd_ne hy⟩

theorem k_l1Below (hi : Eng.Inv S h0) (H : CurAt h0 h b T code a c) (hl : code.length ≤ 1048576) (n : Int) (h1 : 1 ≤ n) (h2 : n ≤ 1000000) :
    CallsH Try.prog S F_spec_l1Below #[.pointer (some ⟨b, 0, none⟩), .int .i64 n] h (fun v h' => ∃ x, v = .int .i64 x ∧ 0 ≤ x ∧ x < n ∧ CurAt h0 h' b T code a c ∧ ∀ y, y ≠ b → h' y = h y) := by
  refine run_spec_l1Below (vs := [.pointer (some ⟨b, 0, none⟩), .int .i64 n]) ⟨rfl, rfl, trivial⟩ (hi.sub H.sub) ?_
  simp only [t_spec_l1Below, Tr.wp, mksW, callW, Ex.ev, coerce, toInt_int, toBool_bool, slL_sl, slC_sl, slA_sl, toAddr_ptr, ptrOf_ptr, isNil_sl, isNil_ptr, it_and, it_or, it_int, optN_int, optN_nl, cmpI, arith, Cst.val, SV.den, resShs, resV, resSV, resVals, newVars, runCells, exSh, allSh, cellsAre, storeW, List.flatMap_cons, List.flatMap_nil, List.replicate_one, List.getD_cons_zero, List.getD_cons_succ, List.getElem?_cons_zero, List.getElem?_cons_succ, decide_eq_true_eq, decide_eq_false_iff_not, List.map_cons, List.map_nil, List.cons_append, List.nil_append, List.append_nil, List.length_cons, List.length_nil, Nat.zero_add, Nat.add_zero, and_true, true_and, if_true, if_false, Bool.false_eq_true]
  have hn0 : (n != 0) = true := bne_iff_ne.2 (by omega)
  have md : ∀ x : Int, 0 ≤ x → 0 ≤ x.tmod n ∧ x.tmod n < n := fun x hx => by
    rw [Int.tmod_eq_emod_of_nonneg hx]
    exact ⟨Int.emod_nonneg _ (by omega), Int.emod_lt_of_pos _ (by omega)⟩
  refine ⟨fun hle => ?_, fun hgt => ?_⟩
  · refine (k_l1Byte hi H hl).mono ?_
    rintro _ h3 ⟨x, rfl, x0, x1, C, f⟩
    have := md x x0
    exact ⟨_, rfl, hn0, _, rfl, this.1, this.2, C, f⟩
  · refine (k_l1Byte hi H hl).mono ?_
    rintro _ h3 ⟨x, rfl, x0, x1, C, f⟩
    refine ⟨_, rfl, ?_⟩
    refine (k_l1Byte hi C hl).mono ?_
    rintro _ h4 ⟨y, rfl, y0, y1, C2, f2⟩
    refine ⟨_, rfl, ?_⟩
    refine (k_l1Byte hi C2 hl).mono ?_
    rintro _ h5 ⟨z, rfl, z0, z1, C3, f3⟩
    have w : IntKind.i64.wrap (IntKind.i64.wrap (IntKind.i64.wrap (x * 65536) + IntKind.i64.wrap (y * 256)) + z) = x * 65536 + y * 256 + z := by
      rw [i64_in (x * 65536) (by omega), i64_in (y * 256) (by omega), i64_in (x * 65536 + y * 256) (by omega), i64_in _ (by omega)]
    refine ⟨_, rfl, hn0, ?_⟩
    rw [w]
    have := md (x * 65536 + y * 256 + z) (by omega)
    exact ⟨_, rfl, this.1, this.2, C3, fun y hy => by rw [f3 y hy, f2 y hy, f y hy]⟩

theorem k_l1Some (hi : Eng.Inv S h0) (H : CurAt h0 h b T code a c) (hl : code.length ≤ 1048576) (n : Nat) (h2 : n ≤ 100000) :
    CallsH Try.prog S F_spec_l1Some #[.pointer (some ⟨b, 0, none⟩), .int .i64 n] h (fun v h' => ∃ ys : List Int, ys.length = n ∧ tB.O h' v ys ∧ tB.New h v ∧ CurAt h0 h' b T code a c ∧ (∀ y, h y ≠ none → y ≠ b → h' y = h y) ∧ ∀ y ∈ ys, 0 ≤ y ∧ y < 256) := by
  refine run_spec_l1Some (vs := [.pointer (some ⟨b, 0, none⟩), .int .i64 n]) ⟨rfl, rfl, trivial⟩ (hi.sub H.sub) ?_
  simp only [t_spec_l1Some, Tr.wp, mksW, callW, Ex.ev, coerce, toInt_int, toBool_bool, slL_sl, slC_sl, slA_sl, toAddr_ptr, ptrOf_ptr, isNil_sl, isNil_ptr, it_and, it_or, it_int, optN_int, optN_nl, cmpI, arith, Cst.val, SV.den, resShs, resV, resSV, resVals, newVars, runCells, exSh, allSh, cellsAre, storeW, List.flatMap_cons, List.flatMap_nil, List.replicate_one, List.getD_cons_zero, List.getD_cons_succ, List.getElem?_cons_zero, List.getElem?_cons_succ, decide_eq_true_eq, decide_eq_false_iff_not, List.map_cons, List.map_nil, List.cons_append, List.nil_append, List.append_nil, List.length_cons, List.length_nil, Nat.zero_add, Nat.add_zero, and_true, true_and, if_true, if_false, Bool.false_eq_true]
  intro b0 hb0
  have hb00 := sub_none H.sub hb0
  have hne0 : b0 ≠ b := fun e => H.held (e ▸ hb0)
  have s0 : Eng.Sub h (upd h b0 (.cells (ints .u8 []) 5)) := Sub.of_upd hb0
  refine ⟨fun us h' => ∃ (a1 : Option Addr) (c1 i : Nat) (ys : List Int), us = [.slice a1 i c1, .int .i64 i] ∧ i ≤ n ∧ ys.length = i ∧ Part .u8 h' (.slice a1 i c1) ys ∧ (∀ y, blkOf (.slice a1 i c1) = some y → h y = none) ∧ CurAt h0 h' b T code a c ∧ (∀ y, h y ≠ none → y ≠ b → h' y = h y) ∧ ∀ y ∈ ys, 0 ≤ y ∧ y < 256,
    fun us _ => n - (toInt (us.getD 1 undef)).toNat, ⟨_, _, 0, [], rfl, by omega, rfl, (Own.made []).part, New.of hb0, H.mono s0, fun y hy _ => upd_ne fun e => hy (e ▸ hb0), fun y hy => by cases hy⟩, ?_⟩
  rintro a1 l1 c1 x h' ⟨a1', c1', i, ys, hx1, hi2, hy, P, N, C, f, hbs⟩
  obtain ⟨⟨rfl, rfl, rfl⟩, rfl⟩ : (a1 = a1' ∧ l1 = i ∧ c1 = c1') ∧ x = i := by simpa using hx1
  refine ⟨fun hlt => ?_, fun hge => ?_⟩
  · refine (k_l1Byte hi C hl).mono ?_
    rintro _ h3 ⟨x, rfl, x0, x1, C2, f2⟩
    have hnb : blkOf (.slice a1 l1 c1) ≠ some b := fun e => by have := N b e; exact H.held this
    have P2 : Part .u8 h3 (.slice a1 l1 c1) ys := P.keep fun y hy => f2 y fun e => hnb (e ▸ hy)
    refine ⟨_, rfl, fun b1 hb1 => ?_⟩
    have s3 : Eng.Sub h3 (upd h3 b1 (.cells (ints .u8 [IntKind.u8.wrap x]) 5)) := Sub.of_upd hb1
    refine appW_part hi (C2.sub.trans s3) (P2.sub s3) (fun y hy => sub_none H.sub (N y hy)) (ys := [IntKind.u8.wrap x]) HInts.new (by simp only [List.length_singleton]; omega) fun v' h4 o n4 s4 keep hblk => ?_
    obtain ⟨a4, c4, rfl, _, _⟩ := o.ints
    have keep' : ∀ y, upd h3 b1 (.cells (ints .u8 [IntKind.u8.wrap x]) 5) y ≠ none → blkOf (.slice a1 l1 c1) ≠ some y → h4 y = upd h3 b1 (.cells (ints .u8 [IntKind.u8.wrap x]) 5) y := keep
    have h3b : upd h3 b1 (.cells (ints .u8 [IntKind.u8.wrap x]) 5) b = h3 b := upd_ne fun e => C2.held (e ▸ hb1)
    have w2 : IntKind.i64.wrap ((l1 : Int) + 1) = ((l1 + 1 : Nat) : Int) := by rw [i64_in _ (by omega)]; omega
    have el : (ys ++ [IntKind.u8.wrap x]).length = l1 + 1 := by simp [hy]
    rw [el] at o n4 hblk
    simp only [slA_sl, slL_sl, slC_sl, w2, el]
    refine ⟨⟨a4, c4, l1 + 1, _, rfl, by omega, el, o, ?_, C2.keep s4 (by rw [keep' b (by rw [h3b]; exact C2.held) hnb, h3b]), fun y hy1 hy2 => ?_, fun y hy => ?_⟩, by simp only [List.getD_cons_succ, List.getD_cons_zero, toInt_int]; omega⟩
    · rcases hblk with e | e
      · intro y hy; rw [e] at hy; exact N y hy
      · intro y hy2
        have h5 : upd h3 b1 (.cells (ints .u8 [IntKind.u8.wrap x]) 5) y = none := e y hy2
        have h6 := sub_none s3 h5
        by_cases hyb : y = b
        · subst hyb; exact absurd h6 C2.held
        · rw [f2 y hyb] at h6
          cases hh : h y with
          | none => rfl
          | some o => rw [f y (by rw [hh]; simp) hyb, hh] at h6; cases h6
    · have h5 : h3 y = h y := by rw [f2 y hy2, f y hy1 hy2]
      have h6 : upd h3 b1 (.cells (ints .u8 [IntKind.u8.wrap x]) 5) y = h3 y := upd_ne fun e => hy1 (by rw [← h5, e]; exact hb1)
      rw [keep' y (by rw [h6, h5]; exact hy1) (fun e => hy1 (N y e)), h6, h5]
    · rcases List.mem_append.1 hy with hy | hy
      · exact hbs y hy
      · rw [List.mem_singleton.1 hy, IntKind.wrap_u8]; omega
  · obtain rfl : l1 = n := by omega
    exact ⟨ys, hy, P, N, C, f, hbs⟩

theorem k_l1Number (hi : Eng.Inv S h0) (H : CurAt h0 h b T code a c) (hl : code.length ≤ 1048576) :
    CallsH Try.prog S F_spec_l1Number #[.pointer (some ⟨b, 0, none⟩)] h (fun v h' => ∃ x, v = .int .u32 x ∧ CurAt h0 h' b T code a c ∧ ∀ y, y ≠ b → h' y = h y) := by
  refine run_spec_l1Number (vs := [.pointer (some ⟨b, 0, none⟩)]) ⟨rfl, trivial⟩ (hi.sub H.sub) ?_
  simp only [t_spec_l1Number, Tr.wp, mksW, callW, Ex.ev, coerce, toInt_int, toBool_bool, slL_sl, slC_sl, slA_sl, toAddr_ptr, ptrOf_ptr, isNil_sl, isNil_ptr, it_and, it_or, it_int, optN_int, optN_nl, cmpI, arith, Cst.val, SV.den, resShs, resV, resSV, resVals, newVars, runCells, exSh, allSh, cellsAre, storeW, List.flatMap_cons, List.flatMap_nil, List.replicate_one, List.getD_cons_zero, List.getD_cons_succ, List.getElem?_cons_zero, List.getElem?_cons_succ, decide_eq_true_eq, decide_eq_false_iff_not, List.map_cons, List.map_nil, List.cons_append, List.nil_append, List.append_nil, List.length_cons, List.length_nil, Nat.zero_add, Nat.add_zero, and_true, true_and, if_true, if_false, Bool.false_eq_true]
  refine (k_l1Below hi H hl 5 (by omega) (by omega)).mono ?_
  rintro _ h3 ⟨x, rfl, x0, x1, C, f⟩
  refine ⟨_, rfl, ?_⟩
  refine (k_l1Below hi C hl 70000 (by omega) (by omega)).mono ?_
  rintro _ h4 ⟨y, rfl, y0, y1, C2, f2⟩
  refine ⟨_, rfl, ?_⟩
  refine (k_l1Below hi C2 hl 70000 (by omega) (by omega)).mono ?_
  rintro _ h5 ⟨z, rfl, z0, z1, C3, f3⟩
  refine ⟨_, rfl, ?_⟩
  have ff : ∀ y, y ≠ b → h5 y = h y := fun y hy => by rw [f3 y hy, f2 y hy, f y hy]
  exact ⟨fun _ => ⟨_, rfl, C3, ff⟩, fun _ => ⟨fun _ => ⟨_, rfl, C3, ff⟩, fun _ => ⟨fun _ => ⟨_, rfl, C3, ff⟩, fun _ => ⟨_, rfl, C3, ff⟩⟩⟩⟩

end Go.Proofs.Ytmnialmphlbmaaa
