import Derived.Test.YteaonnfokkfnlaaDoorKCodes2
set_option linter.unusedVariables false
set_option linter.unusedSimpArgs false
namespace Go.Proofs.YteaonnfokkfnlaaDoor
open Go Go.Eng Go.IntWalk
variable {S : Shared} {h : Eng.Heap}

theorem hints_keep {h' : Eng.Heap} {k : IntKind} {a : Option Addr} {ys : List Int} (hx : HInts h k a ys) (hs : Eng.Sub h h') : HInts h' k a ys := hx.sub hs

theorem arr_zero {b : Nat} {T : TypeId} {K : Eng.Heap → Prop} (hs : ¬ S b) (hK : K (upd h b (.cells (ints .u64 (List.replicate 17 0)) T))) :
    storeW S ⟨b, 0, none⟩ 0 [Value.int IntKind.u64 0, Value.int IntKind.u64 0, Value.int IntKind.u64 0, Value.int IntKind.u64 0, Value.int IntKind.u64 0, Value.int IntKind.u64 0, Value.int IntKind.u64 0, Value.int IntKind.u64 0, Value.int IntKind.u64 0, Value.int IntKind.u64 0, Value.int IntKind.u64 0, Value.int IntKind.u64 0, Value.int IntKind.u64 0, Value.int IntKind.u64 0, Value.int IntKind.u64 0, Value.int IntKind.u64 0, Value.int IntKind.u64 0]
      (upd h b (Obj.cells (List.replicate 17 (Value.int IntKind.u64 0)).toArray T)) K := by
  have e : (List.replicate 17 (Value.int IntKind.u64 0)).toArray = ints .u64 (List.replicate 17 0) := by unfold ints; rw [List.map_replicate]
  rw [e]
  refine storeW_ints (off := 0) hs (List.replicate 17 (0 : Int)) 0 (upd h b (.cells (ints .u64 (List.replicate 17 0)) T)) (List.replicate 17 0) upd_same (by simp) ?_
  rw [upd_upd]
  exact hK

theorem arr_get {h' : Eng.Heap} {b : Nat} {T : TypeId} {cs : List Int} (hb : h' b = some (.cells (ints .u64 cs) T)) {x : Nat} {y : Int} (hy : cs[x]? = some y) : hcell h' (((⟨b, 0, none⟩ : Addr).add (x * 1)).add 0) = some (.int .u64 y) := by
  rw [Nat.mul_one, add_add, addr0_add]
  simp only [hcell, hb, ints, Nat.add_zero, List.getElem?_toArray, List.getElem?_map, hy]
  rfl

theorem arr_set {h' : Eng.Heap} {b : Nat} {T : TypeId} {cs : List Int} {K : Eng.Heap → Prop} (hb : h' b = some (.cells (ints .u64 cs) T)) (hs : ¬ S b) {x : Nat} {y : Int} (hx : x < cs.length) (hK : K (upd h' b (.cells (ints .u64 (cs.set x y)) T))) :
    storeW S ((⟨b, 0, none⟩ : Addr).add (x * 1)) 0 [.int .u64 y] h' K := by
  have e0 : (⟨b, 0, none⟩ : Addr).add (x * 1) = ⟨b, x, none⟩ := by rw [Nat.mul_one, addr0_add]
  rw [e0]
  refine storeW_ints (off := x) hs [y] 0 h' cs hb (by simp; omega) ?_
  have e1 : splice cs (x + 0) [y] = cs.set x y := by
    unfold splice
    rw [List.set_eq_take_append_cons_drop, if_pos hx]
    simp
  rw [e1]
  exact hK

set_option maxHeartbeats 4000000 in
theorem g_impl_HuffCodes (hi : Eng.Inv S h) {v : Value} {xs : List Int} (O : tI.O h v xs) (L : limI xs) :
    CallsH Tryd.prog S F_impl_HuffCodes #[v] h (fun v h' => tCodes.O h' v (ans_HuffCodes xs) ∧ tCodes.New h v ∧ Eng.Sub h h') := by
  obtain ⟨a, c, rfl, hc, hx⟩ := Part.ints O
  refine run_impl_HuffCodes (vs := [.slice a xs.length c]) ⟨rfl, trivial⟩ hi ?_
  simp only [t_impl_HuffCodes, Tr.wp, mksW, callW, Ex.ev, coerce, toInt_int, toBool_bool, slL_sl, slC_sl, slA_sl, toAddr_ptr, ptrOf_ptr, isNil_sl, isNil_ptr, it_and, it_or, it_int, optN_int, optN_nl, cmpI, arith, Cst.val, SV.den, resShs, resV, resSV, resVals, newVars, runCells, exSh, allSh, cellsAre, List.flatMap_cons, List.flatMap_nil, List.replicate_one, List.getD_cons_zero, List.getD_cons_succ, List.getElem?_cons_zero, List.getElem?_cons_succ, decide_eq_true_eq, decide_eq_false_iff_not, List.map_cons, List.map_nil, List.cons_append, List.nil_append, List.append_nil, List.length_cons, List.length_nil, Nat.zero_add, Nat.add_zero, and_true, true_and, if_true, if_false, Bool.false_eq_true]
  refine (k_impl_HuffKind hi a c xs hx).mono ?_
  rintro _ hq ⟨rfl, eq⟩
  rw [eq]
  refine ⟨_, rfl, fun hbad => ?_, fun hok1 => ?_⟩
  · have hb : hkind xs = 0 ∨ hkind xs = 2 := by simpa using hbad
    intro b hb0
    simp only [ans_HuffCodes, if_pos hb]
    exact ⟨⟨b, [], _, rfl, upd_same⟩, fun z hz => by cases hz; exact hb0, Sub.of_upd hb0⟩
  have hg : ¬ (hkind xs = 0 ∨ hkind xs = 2) := by simpa using hok1
  obtain ⟨hlen, hok⟩ := hkind_ok hg
  simp only [ans_HuffCodes, if_neg hg]
  intro b1 hb1
  have hs1 : ¬ S b1 := fun hs => hi b1 hs hb1
  refine arr_zero hs1 ?_
  -- how many codes of each length
  refine ⟨fun us h' => ∃ i : Nat, us = [.int .i64 i] ∧ i ≤ xs.length ∧ h' = upd h b1 (.cells (ints .u64 (cntL xs i)) 79), fun us _ => xs.length - (toInt (us.getD 0 undef)).toNat, ⟨0, rfl, by omega, by rw [cntL_zero]⟩, ?_⟩
  rintro x h' ⟨i, hx1, hi2, rfl⟩
  obtain rfl : x = i := by simpa using hx1
  have sub1 : Eng.Sub h (upd h b1 (.cells (ints .u64 (cntL xs i)) 79)) := Sub.of_upd hb1
  have w2 : IntKind.i64.wrap ((i : Int) + 1) = ((i + 1 : Nat) : Int) := by rw [i64_in _ (by omega)]; omega
  refine ⟨fun hlt => ?_, fun hge => ?_⟩
  · have hi3 : i < xs.length := by omega
    obtain ⟨g1, g2⟩ := (hx.sub sub1).cell (List.getElem?_eq_getElem hi3)
    have hb := hok _ (List.getElem_mem hi3)
    rw [w2]
    refine ⟨by simpa using g2, by omega, hlt, xs[i], by simpa [add_add] using g1, fun hpos => ?_, fun hnp _ => ?_⟩
    · obtain ⟨k, hk⟩ := Int.eq_ofNat_of_zero_le hb.1
      have hk1 : 1 ≤ k ∧ k < 17 := by omega
      have hcl := count_take_le (a := (k : Int)) (i := i) hlen
      have hg := cntL_get (xs := xs) (i := i) hk1.2
      rw [if_neg (by omega)] at hg
      rw [hk, Int.toNat_natCast]
      refine ⟨by omega, by omega, _, arr_get upd_same hg, by omega, by omega, ?_⟩
      refine arr_set upd_same hs1 (by rw [cntL_len]; omega) fun _ => ?_
      rw [u64_in _ (by omega), upd_upd, ← cntL_step hi3 hk hk1.1 hk1.2]
      exact ⟨⟨i + 1, rfl, by omega, rfl⟩, by simp only [List.getD_cons_zero, toInt_int]; omega⟩
    · exact ⟨⟨i + 1, rfl, by omega, by rw [cntL_skip hi3 (by omega)]⟩, by simp only [List.getD_cons_zero, toInt_int]; omega⟩
  obtain rfl : i = xs.length := by omega
  obtain ⟨h1, hh1⟩ : ∃ h1, h1 = upd h b1 (.cells (ints .u64 (cntL xs xs.length)) 79) := ⟨_, rfl⟩
  rw [← hh1] at sub1 ⊢
  intro b2 hb2
  have hb20 := sub_none sub1 hb2
  have hs2 : ¬ S b2 := fun hs => hi b2 hs hb20
  have hne : b1 ≠ b2 := fun e => by rw [hh1, ← e, upd_same] at hb2; cases hb2
  refine arr_zero hs2 ?_
  refine ⟨fun us h' => ∃ l : Nat, us = [.int .i64 l] ∧ 1 ≤ l ∧ l ≤ 16 ∧ h' = upd h1 b2 (.cells (ints .u64 (nxL xs l)) 79), fun us _ => 16 - (toInt (us.getD 0 undef)).toNat, ⟨1, rfl, by omega, by omega, by rw [nxL_one]⟩, ?_⟩
  rintro x h' ⟨l, hx1, hl1, hl2, rfl⟩
  obtain rfl : x = l := by simpa using hx1
  have w2 : IntKind.i64.wrap ((l : Int) + 1) = ((l + 1 : Nat) : Int) := by rw [i64_in _ (by omega)]; omega
  refine ⟨fun hle => ?_, fun hgt => ?_⟩
  · have w3 : IntKind.i64.wrap ((l : Int) - 1) = ((l - 1 : Nat) : Int) := by rw [i64_in _ (by omega)]; omega
    rw [w2, w3]
    have gn := nxL_get (xs := xs) (i := l) (l := l - 1) (by omega)
    rw [if_pos (by omega)] at gn
    have gc := cntL_get (xs := xs) (i := xs.length) (l := l - 1) (by omega)
    rw [List.take_length] at gc
    have hc1 : upd h1 b2 (.cells (ints .u64 (nxL xs l)) 79) b1 = some (.cells (ints .u64 (cntL xs xs.length)) 79) := by rw [upd_ne hne, hh1, upd_same]
    refine ⟨by omega, by omega, _, arr_get upd_same gn, by omega, by omega, _, arr_get hc1 gc, by omega, by omega, ?_⟩
    refine arr_set upd_same hs2 (by rw [nxL_len]; omega) ?_
    have hs := cst_small (xs := xs) hlen (l := l) (by omega)
    have hs0 := cst_small (xs := xs) hlen (l := l - 1) (by omega)
    have hcs : cst xs l = 2 * (cst xs (l - 1) + (if l - 1 = 0 then 0 else ((xs.count ((l - 1 : Nat) : Int) : Nat) : Int))) := by
      conv => lhs; rw [show l = l - 1 + 1 by omega, cst]
    have hcc : 0 ≤ (if l - 1 = 0 then (0 : Int) else ((xs.count ((l - 1 : Nat) : Int) : Nat) : Int)) := by split <;> omega
    have m1 : min (Int.toNat 1) IntKind.u64.bits = 1 := by decide
    rw [m1, Int.pow_one, u64_in (cst xs (l - 1) + _) (by omega), u64_in _ (by omega), Int.mul_comm, ← hcs, upd_upd, Int.toNat_natCast, ← nxL_step (by omega)]
    exact ⟨⟨l + 1, rfl, by omega, by omega, rfl⟩, by simp only [List.getD_cons_zero, toInt_int]; omega⟩
  obtain rfl : l = 16 := by omega
  have wl : IntKind.i64.wrap (xs.length : Int) = xs.length := i64_in _ (by omega)
  have sub2 : Eng.Sub h (upd h1 b2 (.cells (ints .u64 (nxL xs 16)) 79)) := sub1.trans (Sub.of_upd hb2)
  obtain ⟨h2, hh2⟩ : ∃ h2, h2 = upd h1 b2 (.cells (ints .u64 (nxL xs 16)) 79) := ⟨_, rfl⟩
  rw [← hh2] at sub2 ⊢
  rw [wl]
  refine ⟨by omega, by omega, by omega, fun b3 hb3 => ?_⟩
  have hb30 := sub_none sub2 hb3
  have hne2 : b3 ≠ b2 := fun e => by rw [hh2, e, upd_same] at hb3; cases hb3
  rw [Int.toNat_natCast, mkCells_pairs]
  have s3 : Eng.Sub h (upd h2 b3 (.cells (Eng.pairs (List.replicate xs.length (0, 0))) 27)) := sub2.trans (Sub.of_upd hb3)
  refine ⟨fun us h' => ∃ s : Nat, us = [.int .i64 s] ∧ s ≤ xs.length ∧ OwnP h' (.slice (some ⟨b3, 0, none⟩) xs.length xs.length) (outI xs s) ∧ h' b2 = some (.cells (ints .u64 (nxS xs s)) 79) ∧ Eng.Sub h h', fun us _ => xs.length - (toInt (us.getD 0 undef)).toNat, ⟨0, rfl, by omega, ?_, ?_, s3⟩, ?_⟩
  · rw [outI_zero]
    have := OwnP.made (h := h2) (b := b3) (T := 27) (List.replicate xs.length ((0 : Int), (0 : Int)))
    rwa [List.length_replicate] at this
  · rw [upd_ne hne2.symm, hh2, upd_same, nxS_zero]
  rintro x h' ⟨s, hx1, hi2, OW, hn, sb⟩
  obtain rfl : x = s := by simpa using hx1
  have w2 : IntKind.i64.wrap ((s : Int) + 1) = ((s + 1 : Nat) : Int) := by rw [i64_in _ (by omega)]; omega
  refine ⟨fun hlt => ?_, fun hge => ?_⟩
  · have hi3 : s < xs.length := by omega
    obtain ⟨g1, g2⟩ := (hx.sub sb).cell (List.getElem?_eq_getElem hi3)
    have hb := hok _ (List.getElem_mem hi3)
    rw [w2]
    refine ⟨by simpa using g2, by omega, hlt, xs[s], by simpa [add_add] using g1, fun hpos => ?_, fun hnp _ => ?_⟩
    · obtain ⟨k, hk⟩ := Int.eq_ofNat_of_zero_le hb.1
      have hk1 : 1 ≤ k ∧ k < 16 := by omega
      have hcl := count_take_le (a := (k : Int)) (i := s) hlen
      have hs := cst_small (xs := xs) hlen (l := k) (by omega)
      have hg := nxS_get (xs := xs) (i := s) hk1.2 hk1.1
      rw [hk, Int.toNat_natCast]
      refine ⟨by omega, by omega, _, arr_get hn hg, ?_⟩
      refine (k_turned (hi.sub sb) _ k (by omega) (by omega) (by omega)).mono ?_
      rintro _ hq ⟨rfl, eq⟩
      rw [eq]
      refine ⟨_, rfl, ?_⟩
      have hno : ∀ b, blkOf (.slice (some ⟨b3, 0, none⟩) xs.length xs.length) = some b → ¬ S b := fun z hz hs => by cases hz; exact hi b3 hs hb30
      obtain ⟨o1, o2, o3, o4⟩ := own_set OW hno (i := s) (by rw [outI_len]; exact hi3) (k : Int) (tl (cst xs k + (((xs.take s).count (k : Int) : Nat) : Int)) k)
      rw [Int.toNat_natCast]
      refine ⟨by simp, by omega, hlt, o1, o2, ?_⟩
      have hn2 := (o4 b2 (fun e => hne2 (by cases e; rfl))).trans hn
      have sb2 : Eng.Sub h (hset (hset h' ((((some (⟨b3, 0, none⟩ : Addr)).getD default).add (s * 2)).add 0) (.int .i64 k)) ((((some (⟨b3, 0, none⟩ : Addr)).getD default).add (s * 2)).add (0 + 1)) (.int .u64 (tl (cst xs k + (((xs.take s).count (k : Int) : Nat) : Int)) k))) := fun y o hy => by
        rw [o4 y (fun e => by cases e; rw [hb30] at hy; cases hy)]; exact sb y o hy
      refine ⟨by omega, by omega, _, arr_get hn2 hg, by omega, by omega, ?_⟩
      refine arr_set hn2 hs2 (by rw [nxS_len]; omega) fun _ => ?_
      rw [u64_in _ (by omega), ← nxS_step hi3 hk hk1.1 hk1.2]
      have hcode : codeAt xs s = ((k : Int), tl (cst xs k + (((xs.take s).count (k : Int) : Nat) : Int)) k) := by
        unfold codeAt
        rw [getD_get hi3, hk, Int.toNat_natCast]
      refine ⟨⟨s + 1, rfl, by omega, ?_, upd_same, fun y o hy => ?_⟩, by simp only [List.getD_cons_zero, toInt_int]; omega⟩
      · rw [outI_step hi3 (by omega), hcode]
        exact o3.keep fun z hz => upd_ne fun e => hne2 (by cases hz; exact e)
      · rw [upd_ne (fun e => by rw [e, hb20] at hy; cases hy)]; exact sb2 y o hy
    · exact ⟨⟨s + 1, rfl, by omega, by rw [outI_skip hi3 (by omega)]; exact OW, by rw [nxS_skip hi3 (by omega)]; exact hn, sb⟩, by simp only [List.getD_cons_zero, toInt_int]; omega⟩
  obtain rfl : s = xs.length := by omega
  rw [outI_full] at OW
  exact ⟨OW, fun z hz => by cases hz; exact hb30, sb⟩

set_option maxHeartbeats 4000000 in
theorem g_spec_HuffCodes (hi : Eng.Inv S h) {v : Value} {xs : List Int} (O : tI.O h v xs) (L : limI xs) :
    CallsH Tryd.prog S F_spec_HuffCodes #[v] h (fun v h' => tCodes.O h' v (ans_HuffCodes xs) ∧ tCodes.New h v ∧ Eng.Sub h h') := by
  obtain ⟨a, c, rfl, hc, hx⟩ := Part.ints O
  refine run_spec_HuffCodes (vs := [.slice a xs.length c]) ⟨rfl, trivial⟩ hi ?_
  simp only [t_spec_HuffCodes, Tr.wp, mksW, callW, Ex.ev, coerce, toInt_int, toBool_bool, slL_sl, slC_sl, slA_sl, toAddr_ptr, ptrOf_ptr, isNil_sl, isNil_ptr, it_and, it_or, it_int, optN_int, optN_nl, cmpI, arith, Cst.val, SV.den, resShs, resV, resSV, resVals, newVars, runCells, exSh, allSh, cellsAre, List.flatMap_cons, List.flatMap_nil, List.replicate_one, List.getD_cons_zero, List.getD_cons_succ, List.getElem?_cons_zero, List.getElem?_cons_succ, decide_eq_true_eq, decide_eq_false_iff_not, List.map_cons, List.map_nil, List.cons_append, List.nil_append, List.append_nil, List.length_cons, List.length_nil, Nat.zero_add, Nat.add_zero, and_true, true_and, if_true, if_false, Bool.false_eq_true]
  intro b0 hb0
  have e0 : (Obj.cells #[] 27) = .cells (Eng.pairs []) 27 := rfl
  have s0 : Eng.Sub h (upd h b0 (.cells (Eng.pairs []) 27)) := Sub.of_upd hb0
  refine (k_spec_HuffKind (hi.sub s0) a c xs (hx.sub s0)).mono ?_
  rintro _ hq ⟨rfl, eq⟩
  rw [eq]
  refine ⟨_, rfl, fun hbad => ?_, fun hok1 => ?_⟩
  · have hb : hkind xs = 0 ∨ hkind xs = 2 := by simpa using hbad
    simp only [ans_HuffCodes, if_pos hb]
    exact ⟨⟨b0, [], _, rfl, upd_same⟩, fun z hz => by cases hz; exact hb0, s0⟩
  have hg : ¬ (hkind xs = 0 ∨ hkind xs = 2) := by simpa using hok1
  obtain ⟨hlen, hok⟩ := hkind_ok hg
  simp only [ans_HuffCodes, if_neg hg]
  refine ⟨fun us h' => ∃ (a : Option Addr) (c i : Nat), us = [.slice a i c, .int .i64 i] ∧ i ≤ xs.length ∧ OwnP h' (.slice a i c) (List.replicate i (0, 0)) ∧ Eng.New h (.slice a i c) ∧ Eng.Sub h h', fun us _ => xs.length - (toInt (us.getD 1 undef)).toNat, ⟨_, _, 0, rfl, by omega, OwnP.made [], New.of hb0, s0⟩, ?_⟩
  rintro a1 l1 c1 x h1 ⟨a1', c1', i, hx1, hi2, OW, N1, s1⟩
  obtain ⟨⟨rfl, rfl, rfl⟩, rfl⟩ : (a1 = a1' ∧ l1 = i ∧ c1 = c1') ∧ x = i := by simpa using hx1
  refine ⟨fun hlt => ?_, fun hge => ?_⟩
  · intro b hb
    have s2 : Eng.Sub h1 (upd h1 b (.cells (Eng.pairs [(0, 0)]) 27)) := Sub.of_upd hb
    have OW2 : OwnP (upd h1 b (.cells (Eng.pairs [(0, 0)]) 27)) (.slice a1 l1 c1) (List.replicate l1 (0, 0)) := OW.keep fun z hz => upd_ne fun e => by
      rw [e] at hz; exact OW.held b hz hb
    refine appW_ownP hi (s1.trans s2) OW2 N1 (p := (0, 0)) (HPairs.of (sp := []) upd_same) (by rw [List.length_replicate]; omega) fun v' h2 o2 n2 s3 _ _ => ?_
    obtain ⟨a2, c2, rfl, _, _⟩ := o2.pairs
    have e1 : List.replicate l1 ((0 : Int), (0 : Int)) ++ [(0, 0)] = List.replicate (l1 + 1) (0, 0) := by rw [List.replicate_succ']
    have w2 : IntKind.i64.wrap ((l1 : Int) + 1) = ((l1 + 1 : Nat) : Int) := by rw [i64_in _ (by omega)]; omega
    rw [e1] at o2 n2
    simp only [slA_sl, slL_sl, slC_sl, e1, w2, List.length_replicate]
    rw [List.length_replicate] at o2 n2
    exact ⟨⟨a2, c2, l1 + 1, rfl, by omega, o2, n2, s3⟩, by simp only [List.getD_cons_succ, List.getD_cons_zero, toInt_int]; omega⟩
  obtain rfl : l1 = xs.length := by omega
  have hno : ∀ b, blkOf (.slice a1 xs.length c1) = some b → ¬ S b := fun z hz hs => hi z hs (N1 z hz)
  -- length by length
  refine ⟨fun us h' => ∃ l : Nat, us = [.int .i64 (cst xs (l - 1) + (if l = 1 then 0 else ((xs.count ((l - 1 : Nat) : Int) : Nat) : Int))), .int .i64 l] ∧ 1 ≤ l ∧ l ≤ 16 ∧ OwnP h' (.slice a1 xs.length c1) (outL xs l 0) ∧ Eng.Sub h h', fun us _ => 16 - (toInt (us.getD 1 undef)).toNat, ⟨1, by simp [cst], by omega, by omega, by rw [outL_zero]; exact OW, s1⟩, ?_⟩
  rintro x y h2 ⟨l, hx2, hl1, hl2, OW2, s2⟩
  obtain ⟨rfl, rfl⟩ : x = cst xs (l - 1) + (if l = 1 then 0 else ((xs.count ((l - 1 : Nat) : Int) : Nat) : Int)) ∧ y = l := by simpa using hx2
  refine ⟨fun hle => ?_, fun hgt => ?_⟩
  · have hs := cst_small (xs := xs) hlen (l := l) (by omega)
    have hs0 := cst_small (xs := xs) hlen (l := l - 1) (by omega)
    have hcs : cst xs l = 2 * (cst xs (l - 1) + (if l = 1 then 0 else ((xs.count ((l - 1 : Nat) : Int) : Nat) : Int))) := by
      have e1 : (if l = 1 then (0 : Int) else ((xs.count ((l - 1 : Nat) : Int) : Nat) : Int)) = (if l - 1 = 0 then (0 : Int) else ((xs.count ((l - 1 : Nat) : Int) : Nat) : Int)) := by
        by_cases h : l = 1
        · rw [if_pos h, if_pos (by omega)]
        · rw [if_neg h, if_neg (by omega)]
      rw [e1]
      conv => lhs; rw [show l = l - 1 + 1 by omega, cst]
    have w1 : IntKind.i64.wrap (2 * (cst xs (l - 1) + (if l = 1 then 0 else ((xs.count ((l - 1 : Nat) : Int) : Nat) : Int)))) = cst xs l := by rw [← hcs]; exact i64_in _ (by omega)
    rw [w1]
    refine ⟨fun us h' => ∃ i : Nat, us = [.int .i64 (cst xs l + (((xs.take i).count (l : Int) : Nat) : Int)), .int .i64 i] ∧ i ≤ xs.length ∧ OwnP h' (.slice a1 xs.length c1) (outL xs l i) ∧ Eng.Sub h h', fun us _ => xs.length - (toInt (us.getD 1 undef)).toNat, ⟨0, by simp, by omega, OW2, s2⟩, ?_⟩
    rintro x y h3 ⟨i, hx3, hi2, OW3, s3⟩
    obtain ⟨rfl, rfl⟩ : x = cst xs l + (((xs.take i).count (l : Int) : Nat) : Int) ∧ y = i := by simpa using hx3
    have hcl := count_take_le (a := (l : Int)) (i := i) hlen
    refine ⟨fun hlt => ?_, fun hge => ?_⟩
    · have hi3 : i < xs.length := by omega
      obtain ⟨g1, g2⟩ := (hx.sub s3).cell (List.getElem?_eq_getElem hi3)
      have w2 : IntKind.i64.wrap ((i : Int) + 1) = ((i + 1 : Nat) : Int) := by rw [i64_in _ (by omega)]; omega
      have hcn := count_snoc hi3 (l : Int)
      refine ⟨by simpa using g2, by omega, hlt, xs[i], by simpa [add_add] using g1, fun heq => ?_, fun hneq _ => ?_⟩
      · have heq : xs[i] = (l : Int) := by simpa using heq
        refine (k_l3Turn (hi.sub s3) _ l (by omega) (by omega) (by omega)).mono ?_
        rintro _ hq ⟨rfl, eq⟩
        rw [eq]
        obtain ⟨o1, o2, o3, o4⟩ := own_set OW3 hno (i := i) (by rw [outL_len]; exact hi3) (l : Int) (tl (cst xs l + (((xs.take i).count (l : Int) : Nat) : Int)) l)
        have ha : a1.isSome = true := by obtain ⟨_, _, _, e, _⟩ := OW; simp only [Value.slice.injEq] at e; rw [e.1]; rfl
        have hcode : codeAt xs i = ((l : Int), tl (cst xs l + (((xs.take i).count (l : Int) : Nat) : Int)) l) := by
          unfold codeAt
          rw [getD_get hi3, heq, Int.toNat_natCast]
        refine ⟨_, rfl, by simpa using ha, by omega, hlt, ?_⟩
        rw [Int.toNat_natCast]
        refine ⟨o1, o2, fun _ => ?_⟩
        have w3 : IntKind.i64.wrap (cst xs l + (((xs.take i).count (l : Int) : Nat) : Int) + 1) = cst xs l + (((xs.take (i + 1)).count (l : Int) : Nat) : Int) := by
          rw [i64_in _ (by omega), hcn, if_pos heq]; omega
        rw [w2, w3]
        refine ⟨⟨i + 1, rfl, by omega, ?_, fun y o hy => ?_⟩, by simp only [List.getD_cons_succ, List.getD_cons_zero, toInt_int]; omega⟩
        · rw [outL_step hi3 heq, hcode]; exact o3
        · rw [o4 y (fun e => by rw [N1 y e] at hy; cases hy)]; exact s3 y o hy
      · have hneq : xs[i] ≠ (l : Int) := by simpa using hneq
        have w3 : cst xs l + (((xs.take i).count (l : Int) : Nat) : Int) = cst xs l + (((xs.take (i + 1)).count (l : Int) : Nat) : Int) := by
          rw [hcn, if_neg hneq]; rfl
        rw [w2]
        exact ⟨⟨i + 1, by rw [w3], by omega, by rw [outL_skip hi3 hneq]; exact OW3, s3⟩, by simp only [List.getD_cons_succ, List.getD_cons_zero, toInt_int]; omega⟩
    · obtain rfl : i = xs.length := by omega
      have w2 : IntKind.i64.wrap ((l : Int) + 1) = ((l + 1 : Nat) : Int) := by rw [i64_in _ (by omega)]; omega
      rw [w2, List.take_length]
      rw [outL_next hl1] at OW3
      exact ⟨⟨l + 1, by rw [Nat.add_sub_cancel, if_neg (by omega)], by omega, by omega, OW3, s3⟩, by simp only [List.getD_cons_succ, List.getD_cons_zero, toInt_int]; omega⟩
  · obtain rfl : l = 16 := by omega
    rw [outL_full hok] at OW2
    exact ⟨OW2, N1, s2⟩
end Go.Proofs.YteaonnfokkfnlaaDoor
