import Derived.Test.YtmnialmphlbmaaaKCrc
import Derived.Test.YtmnialmphlbmaaaEng3
set_option linter.unusedVariables false
set_option linter.unusedSimpArgs false
namespace Go.Proofs.Ytmnialmphlbmaaa
open Go Go.Eng Go.IntWalk
variable {S : Shared} {h : Eng.Heap}

/-- The first i entries of the table, zeros behind. -/
def tabL (i : Nat) : List Int := (List.range 256).map fun j => if j < i then ((itB 8 (BitVec.ofNat 32 j)).toNat : Int) else 0
theorem tabL_len (i : Nat) : (tabL i).length = 256 := by simp [tabL]
theorem tabL_zero : tabL 0 = List.replicate 256 0 := by
  refine List.ext_getElem? fun j => ?_
  unfold tabL
  rw [List.getElem?_map, List.getElem?_replicate]
  by_cases h : j < 256
  · simp [h]
  · simp [h]
theorem tabL_succ {i : Nat} (hi : i < 256) : (tabL i).set i ((itB 8 (BitVec.ofNat 32 i)).toNat : Int) = tabL (i + 1) := by
  refine List.ext_getElem? fun j => ?_
  rw [List.getElem?_set]
  unfold tabL
  simp only [List.length_map, List.length_range, List.getElem?_map]
  by_cases h : i = j
  · subst h; simp [hi]
  · simp only [h, if_false]
    by_cases hj : j < 256
    · have : (j < i) ↔ (j < i + 1) := by omega
      simp [hj, this]
    · simp [hj]
theorem tabL_get {j : Nat} (hj : j < 256) : (tabL 256)[j]? = some ((itB 8 (BitVec.ofNat 32 j)).toNat : Int) := by
  unfold tabL; simp [hj]

/-- The first store of zeros into a new block. -/
theorem storeZ {k : IntKind} {b : Nat} {T : TypeId} {n : Nat} {vs : List Value} {K : Eng.Heap → Prop} {h0 : Eng.Heap} (hb : h0 b = some (.cells (Eng.ints k (List.replicate n 0)) T)) (hs : ¬ S b) (e : vs = (List.replicate n 0).map (Value.int k)) (hK : K h0) :
    storeW S ⟨b, 0, none⟩ 0 vs h0 K := by
  subst e
  refine storeW_ints hs (List.replicate n 0) 0 h0 (List.replicate n 0) hb (by simp) ?_
  have : splice (List.replicate n (0 : Int)) (0 + 0) (List.replicate n 0) = List.replicate n 0 := by simp [splice]
  rw [this, upd_self hb]; exact hK

theorem ofNat_int (j : Nat) : BitVec.ofNat 32 j = BitVec.ofInt 32 (j : Int) := by rw [BitVec.ofInt_natCast]

set_option maxRecDepth 100000 in
theorem g_impl_crc (hi : Eng.Inv S h) (b0 : BitVec 32) (a : Option Addr) (c : Nat) (xs : List Int) (hx : HInts h .u8 a xs) (hb : ∀ x ∈ xs, 0 ≤ x ∧ x < 256) (hl : xs.length ≤ 2 ^ 48) :
    CallsH Try.prog S F_impl_crc #[bvI b0, .slice a xs.length c] h (fun v h' => v = bvI (crcB b0 xs) ∧ Eng.Sub h h') := by
  refine run_impl_crc (vs := [bvI b0, .slice a xs.length c]) ⟨rfl, rfl, trivial⟩ hi ?_
  unfold t_impl_crc
  refine fun b hnb => ?_
  have hsb : ¬ S b := not_shared hi hnb
  have eb : runCells [bvI b0, .slice a xs.length c] [(256, (.cst (.int .u32 0)))] = (List.replicate 256 (0 : Int)).map (Value.int .u32) := by
    simp [runCells, Ex.ev, Cst.val]
  rw [eb]
  refine storeZ (k := .u32) (n := 256) (b := b) upd_same hsb (by rfl) ?_
  have s0 : ∀ o, Eng.Sub h (upd h b o) := fun o => Sub.of_upd hnb
  have hread : ∀ i, HInts (upd h b (.cells (Eng.ints .u32 (tabL i)) 72)) .u8 a xs := fun i => hx.upd hnb
  have hinv : ∀ i, Eng.Inv S (upd h b (.cells (Eng.ints .u32 (tabL i)) 72)) := fun i => hi.upd
  have gen : ∀ q : BitVec 32, q.toNat < 256 → hcell (upd h b (.cells (Eng.ints .u32 (tabL 256)) 72)) (((⟨b, 0, none⟩ : Addr).add ((q.toNat : Int).toNat * 1)).add 0) = some (.int .u32 ((itB 8 (BitVec.ofNat 32 q.toNat)).toNat : Int)) := fun q hq => by
    have g3 := tabL_get hq
    generalize ((itB 8 (BitVec.ofNat 32 q.toNat)).toNat : Int) = e at g3 ⊢
    rw [add_add, addr0_add]
    simp [hcell, upd_same, Eng.ints, g3]
  have ez : upd h b (.cells (List.map (Value.int .u32) (List.replicate 256 0)).toArray 72) = upd h b (.cells (Eng.ints .u32 (tabL 0)) 72) := by rw [tabL_zero]; rfl
  simp only [Tr.wp, mksW, callW, Ex.ev, coerce, toInt_int, toBool_bool, slL_sl, slC_sl, slA_sl, toAddr_ptr, ptrOf_ptr, isNil_sl, isNil_ptr, it_and, it_or, it_int, optN_int, optN_nl, cmpI, arith, Cst.val, SV.den, resShs, resV, resSV, resVals, newVars, runCells, exSh, allSh, cellsAre, List.flatMap_cons, List.flatMap_nil, List.replicate_one, List.getD_cons_zero, List.getD_cons_succ, List.getElem?_cons_zero, List.getElem?_cons_succ, decide_eq_true_eq, decide_eq_false_iff_not, List.map_cons, List.map_nil, List.cons_append, List.nil_append, List.append_nil, List.length_cons, List.length_nil, Nat.zero_add, Nat.add_zero, and_true, true_and, if_true, if_false, Bool.false_eq_true]
  refine ⟨fun h64 => ⟨fun us h' => ∃ i : Nat, us = [.int .i64 i] ∧ i ≤ 256 ∧ h' = upd h b (.cells (Eng.ints .u32 (tabL i)) 72), fun us _ => 256 - (toInt (us.getD 0 undef)).toNat, ⟨0, rfl, by omega, ez⟩, ?_⟩, fun hlt _ => ?_⟩
  · rintro x h' ⟨j, hx1, hi2, rfl⟩
    simp only [List.cons.injEq, Value.int.injEq, true_and, and_true] at hx1
    subst hx1
    refine ⟨fun hlt => ?_, fun hge _ => ?_⟩
    · have hi3 : j < 256 := by omega
      have w0 : IntKind.u32.wrap (j : Int) = ((BitVec.ofNat 32 j).toNat : Int) := by rw [IntKind.wrap_u32, BitVec.toNat_ofNat]; omega
      rw [w0]
      have w2 : IntKind.i64.wrap ((j : Int) + 1) = ((j + 1 : Nat) : Int) := by rw [i64_in _ (by omega)]; omega
      refine ⟨fun us h2 => ∃ k : Nat, us = [bvI (itB k (BitVec.ofNat 32 j)), .int .i64 k] ∧ k ≤ 8 ∧ h2 = upd h b (.cells (Eng.ints .u32 (tabL j)) 72),
        fun us _ => 8 - (toInt (us.getD 1 undef)).toNat, ⟨0, rfl, by omega, rfl⟩, ?_⟩
      rintro x y h2 ⟨k, hx1, hk, rfl⟩
      simp only [bvI, List.cons.injEq, Value.int.injEq, true_and, and_true] at hx1
      obtain ⟨rfl, rfl⟩ := hx1
      refine ⟨fun hlt2 => ?_, fun hge => ?_⟩
      · refine (g_impl_step (hinv j) _).mono ?_
        rintro _ h3 ⟨rfl, rfl⟩
        have w3 : IntKind.i64.wrap ((k : Int) + 1) = ((k + 1 : Nat) : Int) := by rw [i64_in _ (by omega)]; omega
        refine ⟨_, rfl, ⟨k + 1, ?_, by omega, rfl⟩, ?_⟩
        · rw [w3, itB_succ]; rfl
        · simp only [w3, List.getD_cons_succ, List.getD_cons_zero, toInt_int, Int.toNat_natCast]; omega
      · obtain rfl : k = 8 := by omega
        refine ⟨by omega, by omega, ?_⟩
        rw [addr0_add]
        refine storeW_ints (T := 72) (k := .u32) hsb [((itB 8 (BitVec.ofNat 32 j)).toNat : Int)] 0 _ (tabL j) upd_same (by simp [tabL_len]; omega) ?_
        rw [upd_upd]
        have es : splice (tabL j) ((j : Int).toNat * 1 + 0) [((itB 8 (BitVec.ofNat 32 j)).toNat : Int)] = tabL (j + 1) := by
          rw [← tabL_succ hi3, show (j : Int).toNat * 1 + 0 = j by omega]
          unfold splice
          rw [List.set_eq_take_append_cons_drop, if_pos (by rw [tabL_len]; exact hi3)]
          simp
        rw [es, w2]
        refine ⟨⟨j + 1, rfl, by omega, rfl⟩, ?_⟩
        simp only [List.getD_cons_zero, toInt_int, Int.toNat_natCast]; omega
    · have hj : 64 ≤ xs.length → j = 256 := fun _ => by omega
      refine ⟨fun us h' => ∃ i : Nat, us = [bvI ((xs.take i).foldl byB (~~~ b0)), .int .i64 i] ∧ i ≤ xs.length ∧ h' = upd h b (.cells (Eng.ints .u32 (tabL j)) 72),
        fun us _ => xs.length - (toInt (us.getD 1 undef)).toNat, ⟨0, by simp only [bvI, toInt_int, not_bv]; rfl, by omega, rfl⟩, ?_⟩
      rintro x y h' ⟨i, hx1, hi2, rfl⟩
      simp only [bvI, List.cons.injEq, Value.int.injEq, true_and, and_true] at hx1
      obtain ⟨rfl, rfl⟩ := hx1
      refine ⟨fun hlt => ?_, fun hge => ?_⟩
      · have hi3 : i < xs.length := by omega
        have hbi := hb _ (List.getElem_mem hi3)
        obtain ⟨g1, g2⟩ := (hread j).cell (List.getElem?_eq_getElem hi3)
        have w2 : IntKind.i64.wrap ((i : Int) + 1) = ((i + 1 : Nat) : Int) := by rw [i64_in _ (by omega)]; omega
        refine ⟨by simpa using g2, by omega, by omega, xs[i], by simpa [add_add] using g1, fun h64 => ?_, fun h64 => ?_⟩
        · obtain rfl := hj (by omega)
          obtain ⟨l1, l2⟩ := low_bv ((xs.take i).foldl byB (~~~ b0)) hbi
          rw [l1]
          generalize hz : ((xs.take i).foldl byB (~~~ b0)) = z at l1 l2 ⊢
          refine ⟨by omega, by omega, ((itB 8 (BitVec.ofNat 32 ((z &&& 255#32) ^^^ BitVec.ofInt 32 xs[i]).toNat)).toNat : Int), ?_, ?_⟩
          · exact gen _ l2
          · have e8 : Int.fdiv (z.toNat : Int) (2 ^ min (Int.toNat 8) IntKind.u32.bits) = ((z >>> 8).toNat : Int) := shr_bv z 8
            rw [BitVec.ofNat_toNat, BitVec.setWidth_eq, e8, xor_bv, byB_table z xs[i] hbi, w2]
            refine ⟨⟨i + 1, ?_, by omega, rfl⟩, ?_⟩
            · rw [fold_next byB (~~~ b0) hi3, hz]; rfl
            · simp only [w2, List.getD_cons_succ, List.getD_cons_zero, toInt_int, Int.toNat_natCast]; omega
        · rw [wrap_byte hbi, xor_bv']
          refine ⟨fun us h2 => ∃ k : Nat, us = [bvI (itB k ((xs.take i).foldl byB (~~~ b0) ^^^ BitVec.ofInt 32 xs[i])), .int .i64 k] ∧ k ≤ 8 ∧ h2 = upd h b (.cells (Eng.ints .u32 (tabL j)) 72),
            fun us _ => 8 - (toInt (us.getD 1 undef)).toNat, ⟨0, rfl, by omega, rfl⟩, ?_⟩
          rintro x y h2 ⟨k, hx1, hk, rfl⟩
          simp only [bvI, List.cons.injEq, Value.int.injEq, true_and, and_true] at hx1
          obtain ⟨rfl, rfl⟩ := hx1
          refine ⟨fun hlt2 => ?_, fun hge => ?_⟩
          · refine (g_impl_step (hinv j) _).mono ?_
            rintro _ h3 ⟨rfl, rfl⟩
            have w3 : IntKind.i64.wrap ((k : Int) + 1) = ((k + 1 : Nat) : Int) := by rw [i64_in _ (by omega)]; omega
            refine ⟨_, rfl, ⟨k + 1, ?_, by omega, rfl⟩, ?_⟩
            · rw [w3, itB_succ]; rfl
            · simp only [w3, List.getD_cons_succ, List.getD_cons_zero, toInt_int, Int.toNat_natCast]; omega
          · obtain rfl : k = 8 := by omega
            refine ⟨⟨i + 1, ?_, by omega, rfl⟩, ?_⟩
            · rw [w2, crc_take _ hi3]; rfl
            · simp only [w2, List.getD_cons_succ, List.getD_cons_zero, toInt_int, Int.toNat_natCast]; omega
      · obtain rfl : i = xs.length := by omega
        refine ⟨?_, s0 _⟩
        rw [List.take_length, not_bv]; rfl
  · obtain ⟨j, hj, e⟩ : ∃ j, (64 ≤ xs.length → j = 256) ∧ upd h b (.cells (List.map (Value.int .u32) (List.replicate 256 0)).toArray 72) = upd h b (.cells (Eng.ints .u32 (tabL j)) 72) := ⟨0, by omega, ez⟩
    rw [e]
    refine ⟨fun us h' => ∃ i : Nat, us = [bvI ((xs.take i).foldl byB (~~~ b0)), .int .i64 i] ∧ i ≤ xs.length ∧ h' = upd h b (.cells (Eng.ints .u32 (tabL j)) 72),
      fun us _ => xs.length - (toInt (us.getD 1 undef)).toNat, ⟨0, by simp only [bvI, toInt_int, not_bv]; rfl, by omega, rfl⟩, ?_⟩
    rintro x y h' ⟨i, hx1, hi2, rfl⟩
    simp only [bvI, List.cons.injEq, Value.int.injEq, true_and, and_true] at hx1
    obtain ⟨rfl, rfl⟩ := hx1
    refine ⟨fun hlt => ?_, fun hge => ?_⟩
    · have hi3 : i < xs.length := by omega
      have hbi := hb _ (List.getElem_mem hi3)
      obtain ⟨g1, g2⟩ := (hread j).cell (List.getElem?_eq_getElem hi3)
      have w2 : IntKind.i64.wrap ((i : Int) + 1) = ((i + 1 : Nat) : Int) := by rw [i64_in _ (by omega)]; omega
      refine ⟨by simpa using g2, by omega, by omega, xs[i], by simpa [add_add] using g1, fun h64 => ?_, fun h64 => ?_⟩
      · obtain rfl := hj (by omega)
        obtain ⟨l1, l2⟩ := low_bv ((xs.take i).foldl byB (~~~ b0)) hbi
        rw [l1]
        generalize hz : ((xs.take i).foldl byB (~~~ b0)) = z at l1 l2 ⊢
        refine ⟨by omega, by omega, ((itB 8 (BitVec.ofNat 32 ((z &&& 255#32) ^^^ BitVec.ofInt 32 xs[i]).toNat)).toNat : Int), ?_, ?_⟩
        · exact gen _ l2
        · have e8 : Int.fdiv (z.toNat : Int) (2 ^ min (Int.toNat 8) IntKind.u32.bits) = ((z >>> 8).toNat : Int) := shr_bv z 8
          rw [BitVec.ofNat_toNat, BitVec.setWidth_eq, e8, xor_bv, byB_table z xs[i] hbi, w2]
          refine ⟨⟨i + 1, ?_, by omega, rfl⟩, ?_⟩
          · rw [fold_next byB (~~~ b0) hi3, hz]; rfl
          · simp only [w2, List.getD_cons_succ, List.getD_cons_zero, toInt_int, Int.toNat_natCast]; omega
      · rw [wrap_byte hbi, xor_bv']
        refine ⟨fun us h2 => ∃ k : Nat, us = [bvI (itB k ((xs.take i).foldl byB (~~~ b0) ^^^ BitVec.ofInt 32 xs[i])), .int .i64 k] ∧ k ≤ 8 ∧ h2 = upd h b (.cells (Eng.ints .u32 (tabL j)) 72),
          fun us _ => 8 - (toInt (us.getD 1 undef)).toNat, ⟨0, rfl, by omega, rfl⟩, ?_⟩
        rintro x y h2 ⟨k, hx1, hk, rfl⟩
        simp only [bvI, List.cons.injEq, Value.int.injEq, true_and, and_true] at hx1
        obtain ⟨rfl, rfl⟩ := hx1
        refine ⟨fun hlt2 => ?_, fun hge => ?_⟩
        · refine (g_impl_step (hinv j) _).mono ?_
          rintro _ h3 ⟨rfl, rfl⟩
          have w3 : IntKind.i64.wrap ((k : Int) + 1) = ((k + 1 : Nat) : Int) := by rw [i64_in _ (by omega)]; omega
          refine ⟨_, rfl, ⟨k + 1, ?_, by omega, rfl⟩, ?_⟩
          · rw [w3, itB_succ]; rfl
          · simp only [w3, List.getD_cons_succ, List.getD_cons_zero, toInt_int, Int.toNat_natCast]; omega
        · obtain rfl : k = 8 := by omega
          refine ⟨⟨i + 1, ?_, by omega, rfl⟩, ?_⟩
          · rw [w2, crc_take _ hi3]; rfl
          · simp only [w2, List.getD_cons_succ, List.getD_cons_zero, toInt_int, Int.toNat_natCast]; omega
    · obtain rfl : i = xs.length := by omega
      refine ⟨?_, s0 _⟩
      rw [List.take_length, not_bv]; rfl

theorem g_crc_1 (hi : Eng.Inv S h) (a : Option Addr) (c : Nat) (xs : List Int) (hx : HInts h .u8 a xs) (hb : ∀ x ∈ xs, 0 ≤ x ∧ x < 256) (hl : xs.length ≤ 2 ^ 48) :
    CallsH Try.prog S F_impl_CrcUpdate_1 #[.slice a xs.length c] h (fun v h' => v = bvI (crcB 0#32 xs) ∧ Eng.Sub h h') := by
  refine run_impl_CrcUpdate_1 (vs := [.slice a xs.length c]) ⟨rfl, trivial⟩ hi ?_
  simp only [t_impl_CrcUpdate_1, Tr.wp, mksW, callW, Ex.ev, coerce, toInt_int, toBool_bool, slL_sl, slC_sl, slA_sl, toAddr_ptr, ptrOf_ptr, isNil_sl, isNil_ptr, it_and, it_or, it_int, optN_int, optN_nl, cmpI, arith, Cst.val, SV.den, resShs, resV, resSV, resVals, newVars, runCells, exSh, allSh, cellsAre, storeW, List.flatMap_cons, List.flatMap_nil, List.replicate_one, List.getD_cons_zero, List.getD_cons_succ, List.getElem?_cons_zero, List.getElem?_cons_succ, decide_eq_true_eq, decide_eq_false_iff_not, List.map_cons, List.map_nil, List.cons_append, List.nil_append, List.append_nil, List.length_cons, List.length_nil, Nat.zero_add, Nat.add_zero, and_true, true_and, if_true, if_false, Bool.false_eq_true]
  refine (g_impl_crc hi 0#32 a c xs hx hb hl).mono ?_
  rintro _ h' ⟨rfl, s⟩
  exact ⟨_, rfl, rfl, s⟩

theorem g_impl_CrcJoin (hi : Eng.Inv S h) (p q : BitVec 32) (n : Nat) (hn : n ≤ 1000000) :
    CallsH Try.prog S F_impl_CrcJoin #[bvI p, bvI q, .int .i64 n] h (fun v h' => v = bvI (itB (8 * n) p ^^^ q) ∧ h' = h) := by
  refine run_impl_CrcJoin (vs := [bvI p, bvI q, .int .i64 n]) ⟨rfl, rfl, rfl, trivial⟩ hi ?_
  simp only [t_impl_CrcJoin, bvI, Tr.wp, mksW, callW, Ex.ev, coerce, toInt_int, toBool_bool, slL_sl, slC_sl, slA_sl, toAddr_ptr, ptrOf_ptr, isNil_sl, isNil_ptr, it_and, it_or, it_int, optN_int, optN_nl, cmpI, arith, Cst.val, SV.den, resShs, resV, resSV, resVals, newVars, runCells, exSh, allSh, cellsAre, storeW, List.flatMap_cons, List.flatMap_nil, List.replicate_one, List.getD_cons_zero, List.getD_cons_succ, List.getElem?_cons_zero, List.getElem?_cons_succ, decide_eq_true_eq, decide_eq_false_iff_not, List.map_cons, List.map_nil, List.cons_append, List.nil_append, List.append_nil, List.length_cons, List.length_nil, Nat.zero_add, Nat.add_zero, and_true, true_and, if_true, if_false, Bool.false_eq_true]
  refine ⟨fun c => ?_, fun _ => ?_⟩
  · simp only [Bool.or_eq_true, decide_eq_true_eq] at c
    omega
  · have w8 : IntKind.i64.wrap (8 * (n : Int)) = ((8 * n : Nat) : Int) := by rw [i64_in _ (by omega)]; omega
    refine ⟨fun us h2 => ∃ k : Nat, us = [bvI (itB k p), .int .i64 k] ∧ k ≤ 8 * n ∧ h2 = h, fun us _ => 8 * n - (toInt (us.getD 1 undef)).toNat, ⟨0, rfl, by omega, rfl⟩, ?_⟩
    rintro x y h2 ⟨k, hx1, hk, rfl⟩
    simp only [bvI, List.cons.injEq, Value.int.injEq, true_and, and_true] at hx1
    obtain ⟨rfl, rfl⟩ := hx1
    rw [w8]
    refine ⟨fun hlt2 => ?_, fun hge => ?_⟩
    · refine (g_impl_step hi _).mono ?_
      rintro _ h3 ⟨rfl, rfl⟩
      have w3 : IntKind.i64.wrap ((k : Int) + 1) = ((k + 1 : Nat) : Int) := by rw [i64_in _ (by omega)]; omega
      refine ⟨_, rfl, ⟨k + 1, ?_, by omega, rfl⟩, ?_⟩
      · rw [w3, itB_succ]; rfl
      · simp only [w3, List.getD_cons_succ, List.getD_cons_zero, toInt_int, Int.toNat_natCast]; omega
    · obtain rfl : k = 8 * n := by omega
      rw [xor_bv]
      exact ⟨rfl, rfl⟩
end Go.Proofs.Ytmnialmphlbmaaa
