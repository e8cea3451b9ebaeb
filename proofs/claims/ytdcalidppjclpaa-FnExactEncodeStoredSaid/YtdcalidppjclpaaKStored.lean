import Derived.Test.YtdcalidppjclpaaKMarks
import Derived.Test.YtdcalidppjclpaaTrES
set_option linter.unusedVariables false
set_option linter.unusedSimpArgs false
namespace Go.Proofs.Ytdcalidppjclpaa
open Go Go.Eng Go.IntWalk
variable {S : Nat → Prop} {h : Eng.Heap}

/-- The head of a block of n bytes. -/
def shead (last : Int) (n : Nat) : List Int := [last, ((n % 256 : Nat) : Int), ((n / 256 : Nat) : Int), 255 - ((n % 256 : Nat) : Int), 255 - ((n / 256 : Nat) : Int)]

def senc (per : Nat) (xs : List Int) : List Int :=
  if h : per = 0 ∨ xs.length ≤ per then shead 1 xs.length ++ xs else shead 0 per ++ xs.take per ++ senc per (xs.drop per)
termination_by xs.length
decreasing_by simp only [List.length_drop]; omega

def sans (per : Int) (xs : List Int) : List Int := if per < 1 ∨ per > 65535 ∨ xs.length > 100000 then [] else senc per.toNat xs

theorem senc_last {per : Nat} {xs : List Int} (h : xs.length ≤ per) : senc per xs = shead 1 xs.length ++ xs := by
  unfold senc; rw [dif_pos (.inr h)]
theorem senc_more {per : Nat} {xs : List Int} (h0 : 0 < per) (h : per < xs.length) : senc per xs = shead 0 per ++ xs.take per ++ senc per (xs.drop per) := by
  rw [senc]; rw [dif_neg (by omega)]

theorem k_spec_EncodeStored (hi : Eng.Inv S h) (a : Option Addr) (c : Nat) (xs : List Int) (per : Int) (hx : HInts h .u8 a xs) (hc : xs.length ≤ c) :
    CallsH Try.prog S F_spec_EncodeStored #[.slice a xs.length c, .int .i64 per] h (fun v h' => Own .u8 h' v (sans per xs) ∧ New h v ∧ Eng.Sub h h') := by
  refine run_spec_EncodeStored (vs := [.slice a xs.length c, .int .i64 per]) ⟨rfl, rfl, trivial⟩ hi ?_
  simp only [t_spec_EncodeStored, Tr.wp, mksW, callW, Ex.ev, coerce, toInt_int, toBool_bool, slL_sl, slC_sl, slA_sl, toAddr_ptr, ptrOf_ptr, isNil_sl, isNil_ptr, it_and, it_or, it_int, optN_int, optN_nl, cmpI, arith, Cst.val, SV.den, resShs, resV, resSV, resVals, newVars, runCells, exSh, allSh, cellsAre, storeW, List.flatMap_cons, List.flatMap_nil, List.replicate_one, List.getD_cons_zero, List.getD_cons_succ, List.getElem?_cons_zero, List.getElem?_cons_succ, decide_eq_true_eq, decide_eq_false_iff_not, List.map_cons, List.map_nil, List.cons_append, List.nil_append, List.append_nil, List.length_cons, List.length_nil, Nat.zero_add, Nat.add_zero, and_true, true_and, if_true, if_false, Bool.false_eq_true]
  intro b hb
  refine ⟨fun hout => ?_, fun hin => ?_⟩
  · have : sans per xs = [] := if_pos (by simp at hout; omega)
    rw [this]
    exact ⟨Own.made [], New.of hb, Sub.of_upd hb⟩
  have hin2 : ¬ (per < 1 ∨ per > 65535 ∨ xs.length > 100000) := by simp at hin; omega
  have hsans : sans per xs = senc per.toNat xs := if_neg hin2
  refine ⟨fun us h' => ∃ (rest pre : List Int) (a' : Option Addr) (c' : Nat) (v : Value), us = [.slice a' rest.length c', v] ∧ HInts h .u8 a' rest ∧ rest.length ≤ c' ∧ pre ++ senc per.toNat rest = senc per.toNat xs ∧ rest.length ≤ xs.length ∧
      Own .u8 h' v pre ∧ New h v ∧ Eng.Sub h h' ∧ pre.length + 6 * rest.length ≤ 6 * xs.length, fun us _ => slL (us.getD 0 undef), ⟨xs, [], a, c, _, rfl, hx, hc, rfl, by omega, Own.made [], New.of hb, Sub.of_upd hb, by simp⟩, ?_⟩
  rintro a1 l1 c1 a2 l2 c2 h' ⟨rest, pre, a', c', v, hus, hr, hrc, heq, hrl, hown, hnew, hsub, hplen⟩
  simp only [List.cons.injEq, Value.slice.injEq, and_true] at hus
  obtain ⟨⟨rfl, rfl, rfl⟩, rfl⟩ := hus
  simp only [Tr.wp, mksW, callW, Ex.ev, coerce, toInt_int, toBool_bool, slL_sl, slC_sl, slA_sl, toAddr_ptr, ptrOf_ptr, isNil_sl, isNil_ptr, it_and, it_or, it_int, optN_int, optN_nl, cmpI, arith, Cst.val, SV.den, resShs, resV, resSV, resVals, newVars, runCells, exSh, allSh, cellsAre, storeW, List.flatMap_cons, List.flatMap_nil, List.replicate_one, List.getD_cons_zero, List.getD_cons_succ, List.getElem?_cons_zero, List.getElem?_cons_succ, decide_eq_true_eq, decide_eq_false_iff_not, List.map_cons, List.map_nil, List.cons_append, List.nil_append, List.append_nil, List.length_cons, List.length_nil, Nat.zero_add, Nat.add_zero, and_true, true_and, if_true, if_false, Bool.false_eq_true]
  intro b2 hb2
  obtain ⟨n, hn⟩ : ∃ n : Nat, (if (rest.length : Int) > per then per else (rest.length : Int)) = (n : Int) := ⟨min per.toNat rest.length, by split <;> omega⟩
  have hn1 : n = per.toNat ∨ n = rest.length := by split at hn <;> omega
  have hn2 : n ≤ rest.length ∧ n ≤ 65535 := by split at hn <;> omega
  have hlast : (if (rest.length : Int) > per then (0 : Int) else 1) = if per.toNat < rest.length then 0 else 1 := by
    by_cases hq : (rest.length : Int) > per
    · rw [if_pos hq, if_pos (by omega)]
    · rw [if_neg hq, if_neg (by omega)]
  simp only [hn, hlast]
  have t1 : (n : Int).tmod 256 = ((n % 256 : Nat) : Int) := by rw [Int.tmod_eq_emod_of_nonneg (by omega)]; omega
  have t2 : (n : Int).tdiv 256 = ((n / 256 : Nat) : Int) := by rw [Int.tdiv_eq_ediv_of_nonneg (by omega)]; omega
  have q1 : n % 256 < 256 := Nat.mod_lt _ (by omega)
  have q2 : n / 256 < 256 := by omega
  have e1 : IntKind.u8.wrap ((n % 256 : Nat) : Int) = ((n % 256 : Nat) : Int) := u8_in _ (by omega)
  have e2 : IntKind.i64.wrap ((n / 256 : Nat) : Int) = ((n / 256 : Nat) : Int) := i64_in _ (by omega)
  have e3 : IntKind.u8.wrap ((n / 256 : Nat) : Int) = ((n / 256 : Nat) : Int) := u8_in _ (by omega)
  have e4 : IntKind.i64.wrap (255 - ((n % 256 : Nat) : Int)) = 255 - ((n % 256 : Nat) : Int) := i64_in _ (by omega)
  have e5 : IntKind.u8.wrap (255 - ((n % 256 : Nat) : Int)) = 255 - ((n % 256 : Nat) : Int) := u8_in _ (by omega)
  have e6 : IntKind.i64.wrap (255 - ((n / 256 : Nat) : Int)) = 255 - ((n / 256 : Nat) : Int) := i64_in _ (by omega)
  have e7 : IntKind.u8.wrap (255 - ((n / 256 : Nat) : Int)) = 255 - ((n / 256 : Nat) : Int) := u8_in _ (by omega)
  simp only [t1, t2, e1, e2, e3, e4, e5, e6, e7]
  generalize hd : shead (if per.toNat < rest.length then 0 else 1) n = hdl
  have hcell : (#[Value.int IntKind.u8 (if per.toNat < rest.length then 0 else 1), Value.int IntKind.u8 ((n % 256 : Nat) : Int), Value.int IntKind.u8 ((n / 256 : Nat) : Int), Value.int IntKind.u8 (255 - ((n % 256 : Nat) : Int)), Value.int IntKind.u8 (255 - ((n / 256 : Nat) : Int))] : Array Value) = ints .u8 hdl := by subst hd; rfl
  have hdlen : hdl.length = 5 := by subst hd; rfl
  rw [hcell]
  have hsub2 := hsub.trans (Sub.of_upd (o := .cells (ints .u8 hdl) 5) hb2)
  have x5 : HInts (upd h' b2 (.cells (ints .u8 hdl) 5)) .u8 (some ⟨b2, 0, none⟩) hdl := HInts.new
  rw [show (5 : Nat) = hdl.length from hdlen.symm] at x5 ⊢
  refine appW_own hi (by rw [hdlen]; exact hsub2) (by rw [hdlen]; exact hown.sub (Sub.of_upd hb2)) hnew x5 (by omega) fun v1 h1 o1 n1 s1 _ _ => ?_
  obtain ⟨bb, sp, T, rfl, hbb⟩ := o1
  have o1 : Own .u8 h1 (.slice (some ⟨bb, 0, none⟩) (pre ++ hdl).length ((pre ++ hdl).length + sp.length)) (pre ++ hdl) := ⟨bb, sp, T, rfl, hbb⟩
  simp only [slA_sl, slL_sl, slC_sl, Int.toNat_natCast]
  refine ⟨by omega, by omega, ?_⟩
  obtain ⟨a3, he3, hx3⟩ := slSub_ints hr (lo := 0) (hi := n) (m := c1) (by omega) hn2.1 (by omega)
  simp only [List.drop_zero, Nat.sub_zero] at he3 hx3
  rw [he3]
  have htl : (rest.take n).length = n := by rw [List.length_take]; omega
  refine appW_own hi s1 o1 n1 (hx3.sub s1) (by rw [htl]; simp only [List.length_append, hdlen]; omega) fun v2 h2 o2 n2 s2 _ _ => ?_
  obtain ⟨bc, sp2, T2, rfl, hbc⟩ := o2
  have o2 : Own .u8 h2 (.slice (some ⟨bc, 0, none⟩) (pre ++ hdl ++ rest.take n).length ((pre ++ hdl ++ rest.take n).length + sp2.length)) (pre ++ hdl ++ rest.take n) := ⟨bc, sp2, T2, rfl, hbc⟩
  simp only [slA_sl, slL_sl, slC_sl]
  refine ⟨by omega, by omega, fun hq => ?_, fun hq => ?_⟩
  · have hq2 : rest.length ≤ per.toNat := by
      by_cases hh : per.toNat < rest.length
      · rw [if_pos hh] at hq; simp at hq
      · omega
    have hnr : n = rest.length := by omega
    refine ⟨?_, n2, s2⟩
    have : sans per xs = pre ++ hdl ++ rest.take n := by
      rw [hsans, ← heq, senc_last hq2, ← hd, if_neg (by omega), hnr, List.take_length, List.append_assoc]
    rw [this]; exact o2
  · have hq2 : per.toNat < rest.length := by
      by_cases hh : per.toNat < rest.length
      · exact hh
      · rw [if_neg hh] at hq; simp at hq
    have hnp : n = per.toNat := by split at hn <;> omega
    obtain ⟨a4, he4, hx4⟩ := slSub_ints hr (lo := n) (hi := rest.length) (m := c1) hn2.1 (by omega) (by omega)
    have hdr : (rest.drop n).take (rest.length - n) = rest.drop n := List.take_of_length_le (by rw [List.length_drop]; omega)
    rw [hdr] at he4 hx4
    rw [he4]
    refine ⟨⟨rest.drop n, pre ++ hdl ++ rest.take n, a4, _, _, rfl, hx4, by rw [List.length_drop]; omega, ?_, by rw [List.length_drop]; omega, o2, n2, s2, ?_⟩, ?_⟩
    · rw [← heq, senc_more (by omega) hq2, ← hd, if_pos hq2, hnp]; simp [List.append_assoc]
    · simp only [List.length_append, hdlen, htl, List.length_drop]; omega
    · simp only [slL_sl, List.length_drop]; omega

theorem xor255_fin : ∀ x : Fin 256, Go.bits .xor .u8 255 ((x : Nat) : Int) = 255 - ((x : Nat) : Int) := by decide +kernel
theorem xor255 {n : Nat} (h : n < 256) : Go.bits .xor .u8 255 (n : Int) = 255 - (n : Int) := xor255_fin ⟨n, h⟩

theorem k_impl_EncodeStored (hi : Eng.Inv S h) (a : Option Addr) (c : Nat) (xs : List Int) (per : Int) (hx : HInts h .u8 a xs) (hc : xs.length ≤ c) :
    CallsH Try.prog S F_impl_EncodeStored #[.slice a xs.length c, .int .i64 per] h (fun v h' => Own .u8 h' v (sans per xs) ∧ New h v ∧ Eng.Sub h h') := by
  refine run_impl_EncodeStored (vs := [.slice a xs.length c, .int .i64 per]) ⟨rfl, rfl, trivial⟩ hi ?_
  simp only [t_impl_EncodeStored, Tr.wp, mksW, callW, Ex.ev, coerce, toInt_int, toBool_bool, slL_sl, slC_sl, slA_sl, toAddr_ptr, ptrOf_ptr, isNil_sl, isNil_ptr, it_and, it_or, it_int, optN_int, optN_nl, cmpI, arith, Cst.val, SV.den, resShs, resV, resSV, resVals, newVars, runCells, exSh, allSh, cellsAre, storeW, List.flatMap_cons, List.flatMap_nil, List.replicate_one, List.getD_cons_zero, List.getD_cons_succ, List.getElem?_cons_zero, List.getElem?_cons_succ, decide_eq_true_eq, decide_eq_false_iff_not, List.map_cons, List.map_nil, List.cons_append, List.nil_append, List.append_nil, List.length_cons, List.length_nil, Nat.zero_add, Nat.add_zero, and_true, true_and, if_true, if_false, Bool.false_eq_true]
  refine ⟨fun hout b hb => ?_, fun hin b hb => ?_⟩
  · have : sans per xs = [] := if_pos (by simp at hout; omega)
    rw [this]
    exact ⟨Own.made [], New.of hb, Sub.of_upd hb⟩
  have hin2 : ¬ (per < 1 ∨ per > 65535 ∨ xs.length > 100000) := by simp at hin; omega
  have hsans : sans per xs = senc per.toNat xs := if_neg hin2
  refine ⟨fun us h' => ∃ (rest pre : List Int) (a' : Option Addr) (c' : Nat) (v : Value) (first : Bool), us = [.slice a' rest.length c', v, .bool first] ∧ HInts h .u8 a' rest ∧ rest.length ≤ c' ∧
      (if first = true ∨ rest ≠ [] then pre ++ senc per.toNat rest = senc per.toNat xs else pre = senc per.toNat xs) ∧ rest.length ≤ xs.length ∧
      Own .u8 h' v pre ∧ New h v ∧ Eng.Sub h h' ∧ pre.length + 6 * rest.length ≤ 6 * xs.length + (if first = true then 0 else 5), fun us _ => 2 * slL (us.getD 0 undef) + (if toBool (us.getD 2 undef) = true then 1 else 0),
      ⟨xs, [], a, c, _, true, rfl, hx, hc, by simp, by omega, Own.made [], New.of hb, Sub.of_upd hb, by simp⟩, ?_⟩
  rintro a1 l1 c1 a2 l2 c2 fb h' ⟨rest, pre, a', c', v, first, hus, hr, hrc, heq, hrl, hown, hnew, hsub, hplen⟩
  simp only [List.cons.injEq, Value.slice.injEq, Value.bool.injEq, and_true] at hus
  obtain ⟨⟨rfl, rfl, rfl⟩, rfl, rfl⟩ := hus
  simp only [Tr.wp, mksW, callW, Ex.ev, coerce, toInt_int, toBool_bool, slL_sl, slC_sl, slA_sl, toAddr_ptr, ptrOf_ptr, isNil_sl, isNil_ptr, it_and, it_or, it_int, optN_int, optN_nl, cmpI, arith, Cst.val, SV.den, resShs, resV, resSV, resVals, newVars, runCells, exSh, allSh, cellsAre, storeW, List.flatMap_cons, List.flatMap_nil, List.replicate_one, List.getD_cons_zero, List.getD_cons_succ, List.getElem?_cons_zero, List.getElem?_cons_succ, decide_eq_true_eq, decide_eq_false_iff_not, List.map_cons, List.map_nil, List.cons_append, List.nil_append, List.append_nil, List.length_cons, List.length_nil, Nat.zero_add, Nat.add_zero, and_true, true_and, if_true, if_false, Bool.false_eq_true]
  refine ⟨fun hgo b2 hb2 => ?_, fun hend => ?_⟩
  · obtain ⟨n, hn⟩ : ∃ n : Nat, (if (rest.length : Int) < per then (rest.length : Int) else per) = (n : Int) := ⟨min per.toNat rest.length, by split <;> omega⟩
    have hn1 : n = per.toNat ∨ n = rest.length := by split at hn <;> omega
    have hn2 : n ≤ rest.length ∧ n ≤ 65535 ∧ n ≤ per.toNat := by split at hn <;> omega
    have hlast : (if ((n : Int) == (rest.length : Int)) = true then (1 : Int) else 0) = if per.toNat < rest.length then 0 else 1 := by
      by_cases hq : per.toNat < rest.length
      · rw [if_pos hq, if_neg (by simp; omega)]
      · rw [if_neg hq, if_pos (by simp; omega)]
    have hpos : fb = true ∨ rest ≠ [] := by
      simp at hgo
      rcases hgo with h1 | h1
      · exact .inl h1
      · exact .inr (by intro e; rw [e] at h1; simp at h1)
    rw [if_pos hpos] at heq
    simp only [hn, hlast]
    have q1 : n % 256 < 256 := Nat.mod_lt _ (by omega)
    have q2 : n / 256 < 256 := by omega
    have t1 : IntKind.u8.wrap (n : Int) = ((n % 256 : Nat) : Int) := by rw [IntKind.wrap_u8]; omega
    have t2 : (n : Int).fdiv (2 ^ min (Int.toNat 8) IntKind.i64.bits) = ((n / 256 : Nat) : Int) := by
      have : (2 : Int) ^ min (Int.toNat 8) IntKind.i64.bits = 256 := by decide
      rw [this, Int.fdiv_eq_ediv_of_nonneg _ (by omega)]; omega
    have e3 : IntKind.u8.wrap ((n / 256 : Nat) : Int) = ((n / 256 : Nat) : Int) := u8_in _ (by omega)
    simp only [t1, t2, e3, xor255 q1, xor255 q2]
    generalize hd : shead (if per.toNat < rest.length then 0 else 1) n = hdl
    have hcell : (#[Value.int IntKind.u8 (if per.toNat < rest.length then 0 else 1), Value.int IntKind.u8 ((n % 256 : Nat) : Int), Value.int IntKind.u8 ((n / 256 : Nat) : Int), Value.int IntKind.u8 (255 - ((n % 256 : Nat) : Int)), Value.int IntKind.u8 (255 - ((n / 256 : Nat) : Int))] : Array Value) = ints .u8 hdl := by subst hd; rfl
    have hdlen : hdl.length = 5 := by subst hd; rfl
    rw [hcell]
    have hsub2 := hsub.trans (Sub.of_upd (o := .cells (ints .u8 hdl) 5) hb2)
    have x5 : HInts (upd h' b2 (.cells (ints .u8 hdl) 5)) .u8 (some ⟨b2, 0, none⟩) hdl := HInts.new
    rw [show (5 : Nat) = hdl.length from hdlen.symm] at x5 ⊢
    have hpl : pre.length ≤ 600005 := by
      have : (if fb = true then 0 else 5) ≤ 5 := by split <;> omega
      omega
    refine appW_own hi (by rw [hdlen]; exact hsub2) (by rw [hdlen]; exact hown.sub (Sub.of_upd hb2)) hnew x5 (by omega) fun v1 h1 o1 n1 s1 _ _ => ?_
    obtain ⟨bb, sp, T, rfl, hbb⟩ := o1
    have o1 : Own .u8 h1 (.slice (some ⟨bb, 0, none⟩) (pre ++ hdl).length ((pre ++ hdl).length + sp.length)) (pre ++ hdl) := ⟨bb, sp, T, rfl, hbb⟩
    simp only [slA_sl, slL_sl, slC_sl, Int.toNat_natCast]
    refine ⟨by omega, by omega, ?_⟩
    obtain ⟨a3, he3, hx3⟩ := slSub_ints hr (lo := 0) (hi := n) (m := c1) (by omega) hn2.1 (by omega)
    simp only [List.drop_zero, Nat.sub_zero] at he3 hx3
    rw [he3]
    have htl : (rest.take n).length = n := by rw [List.length_take]; omega
    refine appW_own hi s1 o1 n1 (hx3.sub s1) (by rw [htl]; simp only [List.length_append, hdlen]; omega) fun v2 h2 o2 n2 s2 _ _ => ?_
    obtain ⟨bc, sp2, T2, rfl, hbc⟩ := o2
    have o2 : Own .u8 h2 (.slice (some ⟨bc, 0, none⟩) (pre ++ hdl ++ rest.take n).length ((pre ++ hdl ++ rest.take n).length + sp2.length)) (pre ++ hdl ++ rest.take n) := ⟨bc, sp2, T2, rfl, hbc⟩
    simp only [slA_sl, slL_sl, slC_sl]
    obtain ⟨a4, he4, hx4⟩ := slSub_ints hr (lo := n) (hi := rest.length) (m := c1) hn2.1 (by omega) (by omega)
    have hdr : (rest.drop n).take (rest.length - n) = rest.drop n := List.take_of_length_le (by rw [List.length_drop]; omega)
    rw [hdr] at he4 hx4
    rw [he4]
    have hfn : n = 0 → fb = true := by
      intro h0
      rcases hpos with h1 | h1
      · exact h1
      · have : rest.length ≠ 0 := fun e => h1 (List.length_eq_zero_iff.1 e)
        omega
    refine ⟨by omega, by omega, ⟨rest.drop n, pre ++ hdl ++ rest.take n, a4, _, _, false, rfl, hx4, by rw [List.length_drop]; omega, ?_, by rw [List.length_drop]; omega, o2, n2, s2, ?_⟩, ?_⟩
    · by_cases hq2 : per.toNat < rest.length
      · have hnp : n = per.toNat := by omega
        rw [if_pos (.inr (by intro e; have := congrArg List.length e; simp at this; omega))]
        rw [← heq, senc_more (by omega) hq2, ← hd, if_pos hq2, hnp]; simp [List.append_assoc]
      · have hnr : n = rest.length := by omega
        rw [if_neg (by rintro (h1 | h1); cases h1; exact h1 (by rw [hnr, List.drop_length]))]
        rw [← heq, senc_last (by omega), ← hd, if_neg hq2, hnr, List.take_length, List.append_assoc]
    · simp only [List.length_append, hdlen, htl, List.length_drop]
      by_cases h0 : n = 0
      · rw [hfn h0] at hplen; simp at hplen ⊢; omega
      · have : (if fb = true then 0 else 5) ≤ 5 := by split <;> omega
        simp; omega
    · simp only [slL_sl, List.length_drop]
      by_cases h0 : n = 0
      · rw [hfn h0]; simp; omega
      · omega
  · simp at hend
    obtain ⟨rfl, h0⟩ := hend
    have h0 : rest = [] := by
      cases rest with
      | nil => rfl
      | cons _ _ => simp at h0
    subst h0
    rw [if_neg (by simp)] at heq
    rw [hsans, ← heq]
    exact ⟨hown, hnew, hsub⟩
end Go.Proofs.Ytdcalidppjclpaa
