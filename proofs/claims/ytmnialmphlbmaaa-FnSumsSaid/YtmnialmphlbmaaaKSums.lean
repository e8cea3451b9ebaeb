import Derived.Test.YtmnialmphlbmaaaKLong
import Derived.Test.YtmnialmphlbmaaaKDraw
import Derived.Test.YtmnialmphlbmaaaTrSu
set_option linter.unusedVariables false
set_option linter.unusedSimpArgs false
namespace Go.Proofs.Ytmnialmphlbmaaa
open Go Go.Eng Go.IntWalk
variable {S : Shared} {h h0 : Eng.Heap} {b : Nat} {T : TypeId} {code : List Int} {a : Option Addr} {c : Nat}

theorem k_l1Once (hi : Eng.Inv S h0) (H : CurAt h0 h b T code a c) (hl : code.length ≤ 1048576) (n : Int) (h1 : 1 ≤ n) (h2 : n ≤ 1000000) :
    CallsH Try.prog S F_spec_l1Once #[.pointer (some ⟨b, 0, none⟩), .int .i64 n] h (fun v h' => ∃ x, v = .bool x ∧ CurAt h0 h' b T code a c ∧ ∀ y, y ≠ b → h' y = h y) := by
  refine run_spec_l1Once (vs := [.pointer (some ⟨b, 0, none⟩), .int .i64 n]) ⟨rfl, rfl, trivial⟩ (hi.sub H.sub) ?_
  simp only [t_spec_l1Once, Tr.wp, mksW, callW, Ex.ev, coerce, toInt_int, toBool_bool, slL_sl, slC_sl, slA_sl, toAddr_ptr, ptrOf_ptr, isNil_sl, isNil_ptr, it_and, it_or, it_int, optN_int, optN_nl, cmpI, arith, Cst.val, SV.den, resShs, resV, resSV, resVals, newVars, runCells, exSh, allSh, cellsAre, storeW, List.flatMap_cons, List.flatMap_nil, List.replicate_one, List.getD_cons_zero, List.getD_cons_succ, List.getElem?_cons_zero, List.getElem?_cons_succ, decide_eq_true_eq, decide_eq_false_iff_not, List.map_cons, List.map_nil, List.cons_append, List.nil_append, List.append_nil, List.length_cons, List.length_nil, Nat.zero_add, Nat.add_zero, and_true, true_and, if_true, if_false, Bool.false_eq_true]
  refine (k_l1Below hi H hl n h1 h2).mono ?_
  rintro _ h3 ⟨x, rfl, _, _, C, f⟩
  exact ⟨_, rfl, _, rfl, C, f⟩

/-- A slice of bytes is written over, 255 at each place. -/
theorem k_DrawAdler (hi : Eng.Inv S h) (hx : HInts h .u8 a code) (hl : code.length ≤ 1048576) :
    CallsH Try.prog S F_spec_DrawAdlerUpdate #[.slice a code.length c] h (fun v h' => ∃ x u ys, v = .tuple #[.int .u32 x, u] ∧ ys.length ≤ 59 ∧ tB.O h' u ys ∧ Eng.Sub h h' ∧ okB ys) := by
  refine run_spec_DrawAdlerUpdate (vs := [.slice a code.length c]) ⟨rfl, trivial⟩ hi ?_
  simp only [t_spec_DrawAdlerUpdate, Tr.wp, mksW, callW, Ex.ev, coerce, toInt_int, toBool_bool, slL_sl, slC_sl, slA_sl, toAddr_ptr, ptrOf_ptr, isNil_sl, isNil_ptr, it_and, it_or, it_int, optN_int, optN_nl, cmpI, arith, Cst.val, SV.den, resShs, resV, resSV, resVals, newVars, runCells, exSh, allSh, cellsAre, List.flatMap_cons, List.flatMap_nil, List.replicate_one, List.getD_cons_zero, List.getD_cons_succ, List.getElem?_cons_zero, List.getElem?_cons_succ, decide_eq_true_eq, decide_eq_false_iff_not, List.map_cons, List.map_nil, List.cons_append, List.nil_append, List.append_nil, List.length_cons, List.length_nil, Nat.zero_add, Nat.add_zero, and_true, true_and, if_true, if_false, Bool.false_eq_true]
  refine (k_l1New hi hx hl).mono ?_
  rintro _ h1 ⟨b, T, rfl, C⟩
  refine ⟨_, rfl, ?_⟩
  refine (k_l1Number hi C hl).mono ?_
  rintro _ h2 ⟨x, rfl, C2, f2⟩
  refine ⟨_, rfl, ?_⟩
  refine (k_l1Once hi C2 hl 3 (by omega) (by omega)).mono ?_
  rintro _ h3 ⟨t, rfl, C3, f3⟩
  refine ⟨_, rfl, ?_⟩
  refine (k_l1Below hi C3 hl 60 (by omega) (by omega)).mono ?_
  rintro _ h4 ⟨y, rfl, y0, y1, C4, f4⟩
  refine ⟨_, rfl, ?_⟩
  obtain ⟨n, rfl⟩ := Int.eq_ofNat_of_zero_le y0
  refine (k_l1Some hi C4 hl n (by omega)).mono ?_
  rintro _ h5 ⟨ys, hy, O, N, C5, f5, hbs⟩
  obtain ⟨a5, c5, rfl⟩ := tB_F (tB.OR O)
  refine ⟨_, _, _, rfl, ?_⟩
  refine (k_l1Once hi C5 hl 8 (by omega) (by omega)).mono ?_
  rintro _ h6 ⟨t2, rfl, C6, f6⟩
  refine ⟨_, rfl, ?_⟩
  have hnb : blkOf (.slice a5 ys.length c5) ≠ some b := fun e => by have := N b e; exact C4.held this
  have O6 : tB.O h6 (.slice a5 ys.length c5) ys := tB.Okeep O fun y hy => f6 y fun e => hnb (e ▸ hy)
  have N0 : ∀ y, blkOf (.slice a5 ys.length c5) = some y → h y = none := fun y hy => sub_none C4.sub (N y hy)
  refine ⟨fun _ => ?_, fun _ _ => ?_⟩
  · refine ⟨fun us h' => ∃ (i : Nat) (zs : List Int), us = [.int .i64 i] ∧ i ≤ ys.length ∧ zs.length = ys.length ∧ okB zs ∧ Part .u8 h' (.slice a5 ys.length c5) zs ∧ Eng.Sub h h', fun us _ => ys.length - (toInt (us.getD 0 undef)).toNat,
      ⟨0, ys, rfl, by omega, rfl, hbs, O6, C6.sub⟩, ?_⟩
    rintro z h' ⟨i, zs, hx1, hi2, hzl, hok, P, s1⟩
    simp only [List.cons.injEq, Value.int.injEq, true_and, and_true] at hx1
    subst hx1
    refine ⟨fun hlt => ?_, fun hge _ => ?_⟩
    · have hi3 : i < ys.length := by omega
      have g2 : (!a5.isNone) = true := by
        rcases P with ⟨e, e2⟩ | ⟨_, _, _, _, _, e, _⟩
        · subst e2; simp at hzl; omega
        · have := congrArg slA e
          simp only [slA_sl] at this
          rw [this]; rfl
      have w2 : IntKind.i64.wrap ((i : Int) + 1) = ((i + 1 : Nat) : Int) := by rw [i64_in _ (by omega)]; omega
      refine ⟨g2, by omega, hlt, ?_⟩
      refine P.put (fun y hy hs => hi y hs (N0 y hy)) (i := (i : Int).toNat) (by omega) 255 fun h7 P7 k7 => ?_
      rw [w2]
      refine ⟨⟨i + 1, _, rfl, by omega, by rw [List.length_set]; exact hzl, fun z hz => ?_, P7, fun y o hy => ?_⟩, by simp only [List.getD_cons_zero, toInt_int, Int.toNat_natCast]; omega⟩
      · rcases List.mem_or_eq_of_mem_set hz with hz | rfl
        · exact hok z hz
        · omega
      · rw [k7 y fun e => by rw [N0 y e] at hy; cases hy]; exact s1 y o hy
    · exact ⟨_, _, zs, rfl, by omega, P, s1, hok⟩
  · exact ⟨_, _, ys, rfl, by omega, O6, C6.sub, hbs⟩

theorem adler_range (c : Int) (xs : List Int) : 0 ≤ adler c xs ∧ adler c xs < 4294967296 := by
  unfold adler adOut w32
  rw [IntKind.wrap_u32]; omega
theorem adIn_out {p : Int × Int} (hp : okS p) : adIn (adOut p) = p := by
  rw [adOut_eq hp]
  obtain ⟨h1, h2, h3, h4⟩ := hp
  have t1 : ∀ x : Int, 0 ≤ x → ∀ m : Int, x.tmod m = x % m := fun x hx m => Int.tmod_eq_emod_of_nonneg hx
  have a1 : (p.2 * 65536 + p.1).tmod 65536 = p.1 := by rw [t1 _ (by omega)]; omega
  have b1 : (p.2 * 65536 + p.1).tdiv 65536 = p.2 := by rw [Int.tdiv_eq_ediv_of_nonneg (by omega)]; omega
  have c1 : ∀ x : Int, 0 ≤ x → x < 65521 → x.tmod 65521 = x := fun x hx hy => by rw [t1 _ hx]; omega
  unfold adIn w32
  rw [a1, b1, c1 _ h1 h2, IntKind.wrap_u32, show p.2 % 4294967296 = p.2 by omega, c1 _ h3 h4]
theorem adler_app {xs : List Int} (H : okB xs) (n : Nat) : adler (adler 1 (xs.take n)) (xs.drop n) = adler 1 xs := by
  unfold adler
  rw [adIn_out (fold_ok (adIn_ok (c := 1) ⟨by omega, by omega⟩) (okB_take H n)), ← List.foldl_append, List.take_append_drop]

set_option maxRecDepth 100000 in
theorem k_Sums {s : Nat → Prop} {h : Eng.Heap} (hi : Eng.Inv (Team Try.prog s) h) (a : Option Addr) (c : Nat) (code : List Int) (hx : HInts h .u8 a code) (hl : code.length ≤ maxLen) (hw : ∀ x ∈ code, (Lit.int .u8 x).wf = true)
    (a2 : Option Addr) (c2 : Nat) (more : List Int) (hx2 : HInts h .u8 a2 more) (hl2 : more.length ≤ maxLen) (hw2 : ∀ x ∈ more, (Lit.int .u8 x).wf = true) :
    CallsH Try.prog (Team Try.prog s) F_laws_FnSums #[.slice a code.length c, .slice a2 more.length c2] h (fun v _ => v = .bool true) := by
  refine run_laws_FnSums (vs := [.slice a code.length c, .slice a2 more.length c2]) ⟨rfl, rfl, trivial⟩ hi ?_
  simp only [t_laws_FnSums, Tr.wp, mksW, callW, Ex.ev, coerce, toInt_int, toBool_bool, slL_sl, slC_sl, slA_sl, toAddr_ptr, ptrOf_ptr, isNil_sl, isNil_ptr, it_and, it_or, it_int, optN_int, optN_nl, cmpI, arith, Cst.val, SV.den, resShs, resV, resSV, resVals, newVars, runCells, exSh, allSh, cellsAre, storeW, List.flatMap_cons, List.flatMap_nil, List.replicate_one, List.getD_cons_zero, List.getD_cons_succ, List.getElem?_cons_zero, List.getElem?_cons_succ, decide_eq_true_eq, decide_eq_false_iff_not, List.map_cons, List.map_nil, List.cons_append, List.nil_append, List.append_nil, List.length_cons, List.length_nil, Nat.zero_add, Nat.add_zero, and_true, true_and, if_true, if_false, Bool.false_eq_true]
  refine ⟨fun _ => trivial, fun hsm => ?_⟩
  have hsm2 : code.length ≤ 1048576 ∧ more.length ≤ 1048576 := by
    simp only [Bool.or_eq_false_iff, decide_eq_false_iff_not] at hsm; omega
  have hb8 : ∀ x ∈ more, 0 ≤ x ∧ x ≤ 255 := fun x hx => by have := lit_byte hw2 x hx; omega
  refine (k_DrawAdler hi hx hsm2.1).mono ?_
  rintro _ h1 ⟨x, u, ys, rfl, hy, O, s1, hok⟩
  obtain ⟨ay, cy, rfl, hcy, hiy⟩ := O.ints
  refine ⟨_, _, _, _, rfl, ?_⟩
  have i1 := inv_sub hi s1
  refine ⟨fun hgt => ?_, fun hle _ => ?_⟩
  · refine (k_lwAt i1 (ints_sub hx2 s1) hsm2.2 hb8 0 (by omega)).mono ?_
    rintro _ hq ⟨⟨x0, rfl, l0, u0⟩, rfl⟩
    have wl : IntKind.i64.wrap ((ys.length : Int) + 1) = ((ys.length + 1 : Nat) : Int) := by rw [i64_in _ (by omega)]; omega
    rw [wl]
    refine ⟨_, rfl, bne_iff_ne.2 (by omega), fun _ => ?_⟩
    obtain ⟨n, en, hn⟩ : ∃ n : Nat, x0.tmod ((ys.length + 1 : Nat) : Int) = (n : Int) ∧ n ≤ ys.length := by
      rw [Int.tmod_eq_emod_of_nonneg l0]
      have h1 := Int.emod_nonneg x0 (show ((ys.length + 1 : Nat) : Int) ≠ 0 by omega)
      have h2 := Int.emod_lt_of_pos x0 (show (0 : Int) < ((ys.length + 1 : Nat) : Int) by omega)
      exact ⟨(x0 % ((ys.length + 1 : Nat) : Int)).toNat, by omega, by omega⟩
    rw [en]
    refine ⟨by omega, by omega, by omega, by omega, ?_⟩
    simp only [Int.toNat_natCast]
    obtain ⟨aL, cL, eL, hcL, gL⟩ := cut_to hiy (m := cy) hn hcy
    obtain ⟨aR, cR, eR, hcR, gR⟩ := cut_from hiy (m := cy) hn hcy
    rw [eL, eR]
    simp only [slL_sl]
    have hj : (ys.drop n).length ≤ 1000000 := by rw [List.length_drop]; omega
    have hj2 : (ys.take n).length ≤ ys.length := by rw [List.length_take]; omega
    refine (g_spec_AdlerUpdate i1 1 _ _ ys hiy (by omega)).mono ?_
    rintro _ h2 ⟨rfl, rfl⟩
    refine ⟨_, rfl, ?_⟩
    refine (g_spec_CrcUpdate i1 0#32 _ _ ys hiy hok (by omega)).mono ?_
    rintro _ h3 ⟨rfl, rfl⟩
    refine ⟨_, rfl, ?_⟩
    refine (g_impl_AdlerUpdate i1 1 ⟨by omega, by omega⟩ _ _ _ (okB_take hok _) gL hcL (by omega)).mono ?_
    rintro _ h4 ⟨rfl, s4⟩
    refine ⟨_, rfl, ?_⟩
    refine (g_impl_AdlerUpdate (inv_sub i1 s4) _ (adler_range _ _) _ _ _ (okB_drop hok _) (ints_sub gR s4) hcR (by omega)).mono ?_
    rintro _ h5 ⟨rfl, s5⟩
    replace s5 := s4.trans s5
    rw [adler_app hok n]
    refine ⟨_, rfl, fun _ => ?_, fun hne => by simp at hne⟩
    refine (g_impl_AdlerUpdate (inv_sub i1 s5) 1 ⟨by omega, by omega⟩ _ _ _ (okB_take hok _) (ints_sub gL s5) hcL (by omega)).mono ?_
    rintro _ h6 ⟨rfl, s6⟩
    replace s6 := s5.trans s6
    refine ⟨_, rfl, ?_⟩
    refine (g_impl_AdlerUpdate (inv_sub i1 s6) 1 ⟨by omega, by omega⟩ _ _ _ (okB_drop hok _) (ints_sub gR s6) hcR (by omega)).mono ?_
    rintro _ h7 ⟨rfl, s7⟩
    replace s7 := s6.trans s7
    refine ⟨_, rfl, ?_⟩
    refine (g_impl_AdlerJoin (inv_sub i1 s7) _ _ _ ⟨by omega, by omega⟩).mono ?_
    rintro _ h8 ⟨rfl, rfl⟩
    rw [adler_cut hok hn (by omega)]
    refine ⟨_, rfl, fun _ => ?_, fun hne => by simp at hne⟩
    refine (g_impl_CrcUpdate (inv_sub i1 s7) 0#32 _ _ _ (okB_take hok _) (ints_sub gL s7) hcL (by omega)).mono ?_
    rintro _ h9 ⟨rfl, s9⟩
    replace s9 := s7.trans s9
    refine ⟨_, rfl, ?_⟩
    refine (g_impl_CrcUpdate (inv_sub i1 s9) _ _ _ _ (okB_drop hok _) (ints_sub gR s9) hcR (by omega)).mono ?_
    rintro _ h10 ⟨rfl, s10⟩
    replace s10 := s9.trans s10
    rw [crcB_app, List.take_append_drop]
    refine ⟨_, rfl, fun _ => ?_, fun hne => by simp at hne⟩
    refine (g_impl_CrcUpdate (inv_sub i1 s10) 0#32 _ _ _ (okB_take hok _) (ints_sub gL s10) hcL (by omega)).mono ?_
    rintro _ h11 ⟨rfl, s11⟩
    replace s11 := s10.trans s11
    refine ⟨_, rfl, ?_⟩
    refine (g_impl_CrcUpdate (inv_sub i1 s11) 0#32 _ _ _ (okB_drop hok _) (ints_sub gR s11) hcR (by omega)).mono ?_
    rintro _ h12 ⟨rfl, s12⟩
    replace s12 := s11.trans s12
    refine ⟨_, rfl, ?_⟩
    refine (g_impl_CrcJoin (inv_sub i1 s12) _ _ _ hj).mono ?_
    rintro _ h13 ⟨rfl, rfl⟩
    rw [crc_cut]
    refine ⟨_, rfl, ?_⟩
    simp [shOk]
  · obtain ⟨n, en, hn⟩ : ∃ n : Nat, (0 : Int) = (n : Int) ∧ n ≤ ys.length := ⟨0, rfl, by omega⟩
    have eg : (Value.int .i64 0) = .int .i64 (n : Int) := by rw [← en]
    obtain rfl : n = 0 := by omega
    have hn : 0 ≤ ys.length := hn
    refine ⟨by omega, by omega, by omega, by omega, ?_⟩
    have z0 : (0 : Int).toNat = 0 := rfl
    obtain ⟨aL, cL, eL, hcL, gL⟩ := cut_to hiy (m := cy) (n := 0) hn hcy
    obtain ⟨aR, cR, eR, hcR, gR⟩ := cut_from hiy (m := cy) (n := 0) hn hcy
    rw [show slSub 1 ay 0 (Int.toNat 0) cy = slSub 1 ay 0 0 cy from rfl, show slSub 1 ay (Int.toNat 0) ys.length cy = slSub 1 ay 0 ys.length cy from rfl, eL, eR]
    simp only [slL_sl]
    have hj : (ys.drop 0).length ≤ 1000000 := by rw [List.length_drop]; omega
    have hj2 : (ys.take 0).length ≤ ys.length := by rw [List.length_take]; omega
    refine (g_spec_AdlerUpdate i1 1 _ _ ys hiy (by omega)).mono ?_
    rintro _ h2 ⟨rfl, rfl⟩
    refine ⟨_, rfl, ?_⟩
    refine (g_spec_CrcUpdate i1 0#32 _ _ ys hiy hok (by omega)).mono ?_
    rintro _ h3 ⟨rfl, rfl⟩
    refine ⟨_, rfl, ?_⟩
    refine (g_impl_AdlerUpdate i1 1 ⟨by omega, by omega⟩ _ _ _ (okB_take hok _) gL hcL (by omega)).mono ?_
    rintro _ h4 ⟨rfl, s4⟩
    refine ⟨_, rfl, ?_⟩
    refine (g_impl_AdlerUpdate (inv_sub i1 s4) _ (adler_range _ _) _ _ _ (okB_drop hok _) (ints_sub gR s4) hcR (by omega)).mono ?_
    rintro _ h5 ⟨rfl, s5⟩
    replace s5 := s4.trans s5
    rw [adler_app hok 0]
    refine ⟨_, rfl, fun _ => ?_, fun hne => by simp at hne⟩
    refine (g_impl_AdlerUpdate (inv_sub i1 s5) 1 ⟨by omega, by omega⟩ _ _ _ (okB_take hok _) (ints_sub gL s5) hcL (by omega)).mono ?_
    rintro _ h6 ⟨rfl, s6⟩
    replace s6 := s5.trans s6
    refine ⟨_, rfl, ?_⟩
    refine (g_impl_AdlerUpdate (inv_sub i1 s6) 1 ⟨by omega, by omega⟩ _ _ _ (okB_drop hok _) (ints_sub gR s6) hcR (by omega)).mono ?_
    rintro _ h7 ⟨rfl, s7⟩
    replace s7 := s6.trans s7
    refine ⟨_, rfl, ?_⟩
    refine (g_impl_AdlerJoin (inv_sub i1 s7) _ _ _ ⟨by omega, by omega⟩).mono ?_
    rintro _ h8 ⟨rfl, rfl⟩
    rw [adler_cut hok hn (by omega)]
    refine ⟨_, rfl, fun _ => ?_, fun hne => by simp at hne⟩
    refine (g_impl_CrcUpdate (inv_sub i1 s7) 0#32 _ _ _ (okB_take hok _) (ints_sub gL s7) hcL (by omega)).mono ?_
    rintro _ h9 ⟨rfl, s9⟩
    replace s9 := s7.trans s9
    refine ⟨_, rfl, ?_⟩
    refine (g_impl_CrcUpdate (inv_sub i1 s9) _ _ _ _ (okB_drop hok _) (ints_sub gR s9) hcR (by omega)).mono ?_
    rintro _ h10 ⟨rfl, s10⟩
    replace s10 := s9.trans s10
    rw [crcB_app, List.take_append_drop]
    refine ⟨_, rfl, fun _ => ?_, fun hne => by simp at hne⟩
    refine (g_impl_CrcUpdate (inv_sub i1 s10) 0#32 _ _ _ (okB_take hok _) (ints_sub gL s10) hcL (by omega)).mono ?_
    rintro _ h11 ⟨rfl, s11⟩
    replace s11 := s10.trans s11
    refine ⟨_, rfl, ?_⟩
    refine (g_impl_CrcUpdate (inv_sub i1 s11) 0#32 _ _ _ (okB_drop hok _) (ints_sub gR s11) hcR (by omega)).mono ?_
    rintro _ h12 ⟨rfl, s12⟩
    replace s12 := s11.trans s12
    refine ⟨_, rfl, ?_⟩
    refine (g_impl_CrcJoin (inv_sub i1 s12) _ _ _ hj).mono ?_
    rintro _ h13 ⟨rfl, rfl⟩
    rw [crc_cut]
    refine ⟨_, rfl, ?_⟩
    simp [shOk]
end Go.Proofs.Ytmnialmphlbmaaa
