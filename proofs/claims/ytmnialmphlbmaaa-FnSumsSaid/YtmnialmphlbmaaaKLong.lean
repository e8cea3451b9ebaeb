import Derived.Test.YtmnialmphlbmaaaKCrc3
import Derived.Test.YtmnialmphlbmaaaKSubF
import Derived.Test.YtmnialmphlbmaaaKAt
import Derived.Test.YtmnialmphlbmaaaTrLo
set_option linter.unusedVariables false
set_option linter.unusedSimpArgs false
namespace Go.Proofs.Ytmnialmphlbmaaa
open Go Go.Eng Go.IntWalk
variable {h : Eng.Heap}

theorem byte_or (x : Int) : 0 ≤ Go.bits .or .u8 x 128 ∧ Go.bits .or .u8 x 128 < 256 := by
  show 0 ≤ IntKind.u8.wrap _ ∧ IntKind.u8.wrap _ < 256
  rw [IntKind.wrap_u8]; omega

theorem lit_byte {xs : List Int} (hw : ∀ x ∈ xs, (Lit.int .u8 x).wf = true) : okB xs := fun x hx => by
  have H := hw x hx
  have e1 : IntKind.u8.min = 0 := by rfl
  have e2 : IntKind.u8.max = 255 := by rfl
  simp [Lit.wf, e1, e2] at H
  omega
theorem okB_take {xs : List Int} (H : okB xs) (n : Nat) : okB (xs.take n) := fun x hx => H x (List.mem_of_mem_take hx)
theorem okB_drop {xs : List Int} (H : okB xs) (n : Nat) : okB (xs.drop n) := fun x hx => H x (List.mem_of_mem_drop hx)

/-- Two cuts of a slice: to a place, and from it. -/
theorem cut_to {a : Option Addr} {xs : List Int} (H : HInts h .u8 a xs) {m n : Nat} (hn : n ≤ xs.length) (hm : xs.length ≤ m) : ∃ a' c', slSub 1 a 0 n m = .slice a' (xs.take n).length c' ∧ (xs.take n).length ≤ c' ∧ HInts h .u8 a' (xs.take n) := by
  obtain ⟨a', e, g⟩ := slSub_ints H (lo := 0) (hi := n) (m := m) (by omega) hn (by omega)
  rw [List.drop_zero, Nat.sub_zero] at e g
  exact ⟨a', _, e, by rw [List.length_take]; omega, g⟩
theorem cut_from {a : Option Addr} {xs : List Int} (H : HInts h .u8 a xs) {m n : Nat} (hn : n ≤ xs.length) (hm : xs.length ≤ m) : ∃ a' c', slSub 1 a n xs.length m = .slice a' (xs.drop n).length c' ∧ (xs.drop n).length ≤ c' ∧ HInts h .u8 a' (xs.drop n) := by
  obtain ⟨a', e, g⟩ := slSub_ints H (lo := n) (hi := xs.length) (m := m) hn (by omega) hm
  rw [List.take_of_length_le (by rw [List.length_drop]; omega)] at e g
  exact ⟨a', _, e, by rw [List.length_drop]; omega, g⟩

theorem adler_cut {xs : List Int} (H : okB xs) {n : Nat} (hn : n ≤ xs.length) (hl : xs.length ≤ 1000000) : adJoin (adler 1 (xs.take n)) (adler 1 (xs.drop n)) ((xs.drop n).length : Int) = adler 1 xs := by
  have J := adJoin_law (fold_ok (adIn_ok (c := 1) ⟨by omega, by omega⟩) (okB_take H n)) (okB_drop H n) (by rw [List.length_drop]; omega)
  unfold adler at J ⊢
  rw [J, ← List.foldl_append, List.take_append_drop]
theorem crc_cut (xs : List Int) (n : Nat) : itB (8 * (xs.drop n).length) (crcB 0#32 (xs.take n)) ^^^ crcB 0#32 (xs.drop n) = crcB 0#32 xs := by
  rw [crcJoin_law, crcB_app, List.take_append_drop]

set_option maxRecDepth 100000 in
theorem k_LongSums {s : Nat → Prop} (hi : Eng.Inv (Team Try.prog s) h) (a : Option Addr) (c : Nat) (code : List Int) (hx : HInts h .u8 a code) (hl : code.length ≤ maxLen) (hw : ∀ x ∈ code, (Lit.int .u8 x).wf = true) :
    CallsH Try.prog (Team Try.prog s) F_laws_FnLongSums #[.slice a code.length c] h (fun v _ => v = .bool true) := by
  refine run_laws_FnLongSums (vs := [.slice a code.length c]) ⟨rfl, trivial⟩ hi ?_
  simp only [t_laws_FnLongSums, Tr.wp, mksW, callW, Ex.ev, coerce, toInt_int, toBool_bool, slL_sl, slC_sl, slA_sl, toAddr_ptr, ptrOf_ptr, isNil_sl, isNil_ptr, it_and, it_or, it_int, optN_int, optN_nl, cmpI, arith, Cst.val, SV.den, resShs, resV, resSV, resVals, newVars, runCells, exSh, allSh, cellsAre, List.flatMap_cons, List.flatMap_nil, List.replicate_one, List.getD_cons_zero, List.getD_cons_succ, List.getElem?_cons_zero, List.getElem?_cons_succ, decide_eq_true_eq, decide_eq_false_iff_not, List.map_cons, List.map_nil, List.cons_append, List.nil_append, List.append_nil, List.length_cons, List.length_nil, Nat.zero_add, Nat.add_zero, and_true, true_and, if_true, if_false, Bool.false_eq_true]
  refine ⟨fun _ => trivial, fun hsm => ?_⟩
  have hb8 : ∀ x ∈ code, 0 ≤ x ∧ x ≤ 255 := fun x hx => by have := lit_byte hw x hx; omega
  refine (k_lwAt hi hx (by omega) hb8 0 (by omega)).mono ?_
  rintro _ h1 ⟨⟨x0, rfl, l0, u0⟩, rfl⟩
  refine ⟨_, rfl, ?_⟩
  refine (k_lwAt hi hx (by omega) hb8 1 (by omega)).mono ?_
  rintro _ h1 ⟨⟨x1, rfl, l1, u1⟩, rfl⟩
  refine ⟨_, rfl, ?_⟩
  obtain ⟨n, hn, hn2⟩ : ∃ n : Nat, (IntKind.i64.wrap (IntKind.i64.wrap (256 * x0) + x1)).tmod 60000 = (n : Int) ∧ n < 60000 := by
    rw [i64_in (256 * x0) (by omega), i64_in _ (by omega), Int.tmod_eq_emod_of_nonneg (by omega)]
    exact ⟨((256 * x0 + x1) % 60000).toNat, by omega, by omega⟩
  rw [hn]
  have wn : IntKind.i64.wrap (n : Int) = n := i64_in _ (by omega)
  have wq : IntKind.i64.wrap ((n : Int).tdiv 2) = ((n / 2 : Nat) : Int) := by rw [Int.tdiv_eq_ediv_of_nonneg (by omega), i64_in _ (by omega)]; omega
  have wd : IntKind.i64.wrap ((n : Int) - ((n / 2 : Nat) : Int)) = ((n - n / 2 : Nat) : Int) := by rw [i64_in _ (by omega)]; omega
  rw [wn]
  refine ⟨by omega, by omega, by omega, fun b hb => ?_⟩
  have hsb := not_shared hi hb
  have e0 : mkCells ((n : Int).toNat * 1) [Cst.val (.int .u8 0)].toArray = ints .u8 (List.replicate n 0) := by
    rw [Nat.mul_one, Int.toNat_natCast]; exact mkCells_ints n
  refine ⟨fun us h' => ∃ (i : Nat) (ys : List Int), us = [.int .i64 i] ∧ i ≤ n ∧ ys.length = i ∧ okB ys ∧ h' = upd h1 b (.cells (ints .u8 (ys ++ List.replicate (n - i) 0)) 5), fun us _ => n - (toInt (us.getD 0 undef)).toNat,
    ⟨0, [], rfl, by omega, rfl, fun x hx => by simp at hx, by rw [List.nil_append, Nat.sub_zero, ← e0]; rfl⟩, ?_⟩
  rintro x h' ⟨i, ys, hx1, hi2, hy, hok, rfl⟩
  simp only [List.cons.injEq, Value.int.injEq, true_and, and_true] at hx1
  subst hx1
  have s0 : ∀ o, Eng.Sub h1 (upd h1 b o) := fun o => sub_new hb
  refine ⟨fun hlt => ?_, fun hge => ?_⟩
  · refine (k_lwAt (inv_sub hi (s0 _)) (ints_sub hx (s0 _)) (by omega) hb8 2 (by omega)).mono ?_
    rintro _ h2 ⟨⟨x2, rfl, l2, u2⟩, rfl⟩
    refine ⟨_, rfl, rfl, by omega, by omega, ?_⟩
    have ea : ((some (⟨b, 0, none⟩ : Addr)).getD default).add ((i : Int).toNat * 1) = ⟨b, i, none⟩ := by rw [Option.getD_some, addr0_add, Nat.mul_one, Int.toNat_natCast]
    rw [ea]
    have w2 : IntKind.i64.wrap ((i : Int) + 1) = ((i + 1 : Nat) : Int) := by rw [i64_in _ (by omega)]; omega
    refine storeW_ints (T := 5) (k := .u8) hsb [Go.bits .or .u8 (IntKind.u8.wrap x2) 128] 0 _ (ys ++ List.replicate (n - i) 0) upd_same (by simp; omega) ?_
    rw [upd_upd, w2]
    refine ⟨⟨i + 1, ys ++ [Go.bits .or .u8 (IntKind.u8.wrap x2) 128], rfl, by omega, by simp [hy], fun z hz => ?_, ?_⟩, ?_⟩
    · rcases List.mem_append.1 hz with hz | hz
      · exact hok z hz
      · rw [List.mem_singleton.1 hz]; exact byte_or _
    · congr 3
      unfold splice
      rw [show i + 0 = ys.length by omega, List.take_left', List.drop_append]
      · simp only [List.length_singleton, List.drop_replicate, Nat.add_sub_cancel_left, List.append_assoc]
        rw [List.drop_of_length_le (by omega), show n - (i + 1) = n - i - 1 by omega]; simp
      · rfl
    · simp only [List.getD_cons_zero, toInt_int, Int.toNat_natCast]; omega
  · obtain rfl : i = n := by omega
    have er : ys ++ List.replicate (i - i) 0 = ys := by simp
    rw [er]
    subst hy
    generalize hH : upd h1 b (.cells (ints .u8 ys) 5) = H
    have hy : HInts H .u8 (some ⟨b, 0, none⟩) ys := hH ▸ ints_new
    have iH : Eng.Inv (Team Try.prog s) H := hH ▸ inv_sub hi (s0 _)
    clear hH
    have q1 : ys.length / 2 ≤ ys.length := Nat.div_le_self _ _
    refine (g_spec_AdlerUpdate iH 1 _ _ ys hy (by omega)).mono ?_
    rintro _ h2 ⟨rfl, rfl⟩
    refine ⟨_, rfl, ?_⟩
    refine (g_spec_CrcUpdate iH 0#32 _ _ ys hy hok (by omega)).mono ?_
    rintro _ h3 ⟨rfl, rfl⟩
    refine ⟨_, rfl, ?_⟩
    refine (g_impl_AdlerUpdate iH 1 ⟨by omega, by omega⟩ _ _ ys hok hy (by simp) (by omega)).mono ?_
    rintro _ h4 ⟨rfl, s4⟩
    refine ⟨_, rfl, fun _ => ?_, fun hne => by simp at hne⟩
    refine (g_impl_CrcUpdate (inv_sub iH s4) 0#32 _ _ ys hok (ints_sub hy s4) (by simp) (by omega)).mono ?_
    rintro _ h5 ⟨rfl, s5⟩
    replace s5 := s4.trans s5
    refine ⟨_, rfl, fun _ => ?_, fun hne => by simp at hne⟩
    rw [wq, wd]
    simp only [Int.toNat_natCast]
    refine ⟨by omega, by omega, by omega, by omega, ?_⟩
    obtain ⟨aL, cL, eL, hcL, gL⟩ := cut_to hy (m := ys.length) q1 (Nat.le_refl _)
    obtain ⟨aR, cR, eR, hcR, gR⟩ := cut_from hy (m := ys.length) q1 (Nat.le_refl _)
    rw [eL, eR]
    have dl : ys.length - ys.length / 2 = (ys.drop (ys.length / 2)).length := by rw [List.length_drop]
    have tl : (ys.take (ys.length / 2)).length ≤ ys.length := by rw [List.length_take]; omega
    have hj : (ys.drop (ys.length / 2)).length ≤ 1000000 := by rw [List.length_drop]; omega
    rw [dl]
    refine (g_impl_AdlerUpdate (inv_sub iH s5) 1 ⟨by omega, by omega⟩ _ _ _ (okB_take hok _) (ints_sub gL s5) hcL (by omega)).mono ?_
    rintro _ h6 ⟨rfl, s6⟩
    replace s6 := s5.trans s6
    refine ⟨_, rfl, ?_⟩
    refine (g_impl_AdlerUpdate (inv_sub iH s6) 1 ⟨by omega, by omega⟩ _ _ _ (okB_drop hok _) (ints_sub gR s6) hcR (by omega)).mono ?_
    rintro _ h7 ⟨rfl, s7⟩
    replace s7 := s6.trans s7
    refine ⟨_, rfl, ?_⟩
    refine (g_impl_AdlerJoin (inv_sub iH s7) _ _ _ ⟨by omega, by omega⟩).mono ?_
    rintro _ h8 ⟨rfl, rfl⟩
    rw [adler_cut hok q1 (by omega)]
    refine ⟨_, rfl, fun _ => ⟨by omega, by omega, by omega, by omega, ?_⟩, fun hne => by simp at hne⟩
    refine (g_impl_CrcUpdate (inv_sub iH s7) 0#32 _ _ _ (okB_take hok _) (ints_sub gL s7) hcL (by omega)).mono ?_
    rintro _ h9 ⟨rfl, s9⟩
    replace s9 := s7.trans s9
    refine ⟨_, rfl, ?_⟩
    refine (g_impl_CrcUpdate (inv_sub iH s9) 0#32 _ _ _ (okB_drop hok _) (ints_sub gR s9) hcR (by omega)).mono ?_
    rintro _ h10 ⟨rfl, s10⟩
    replace s10 := s9.trans s10
    refine ⟨_, rfl, ?_⟩
    refine (g_impl_CrcJoin (inv_sub iH s10) _ _ _ hj).mono ?_
    rintro _ h11 ⟨rfl, rfl⟩
    rw [crc_cut]
    refine ⟨_, rfl, ?_⟩
    simp [shOk]
end Go.Proofs.Ytmnialmphlbmaaa
