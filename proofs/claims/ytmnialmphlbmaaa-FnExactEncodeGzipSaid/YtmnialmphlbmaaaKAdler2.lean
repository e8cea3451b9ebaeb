import Derived.Test.YtmnialmphlbmaaaKAdlerLaw
import Derived.Test.YtmnialmphlbmaaaKParts5
set_option linter.unusedVariables false
set_option linter.unusedSimpArgs false
namespace Go.Proofs.Ytmnialmphlbmaaa
open Go Go.Eng Go.IntWalk
variable {S : Shared} {h : Eng.Heap}

theorem g_impl_AdlerJoin (hi : Eng.Inv S h) (p q n : Int) (hn : 0 ≤ n ∧ n ≤ 1000000) :
    CallsH Try.prog S F_impl_AdlerJoin #[.int .u32 p, .int .u32 q, .int .i64 n] h (fun v h' => v = .int .u32 (adJoin p q n) ∧ h' = h) := by
  refine run_impl_AdlerJoin (vs := [.int .u32 p, .int .u32 q, .int .i64 n]) ⟨rfl, rfl, rfl, trivial⟩ hi ?_
  simp only [t_impl_AdlerJoin, Tr.wp, mksW, callW, Ex.ev, coerce, toInt_int, toBool_bool, slL_sl, slC_sl, slA_sl, toAddr_ptr, ptrOf_ptr, isNil_sl, isNil_ptr, it_and, it_or, it_int, optN_int, optN_nl, cmpI, arith, Cst.val, SV.den, resShs, resV, resSV, resVals, newVars, runCells, exSh, allSh, cellsAre, storeW, List.flatMap_cons, List.flatMap_nil, List.replicate_one, List.getD_cons_zero, List.getD_cons_succ, List.getElem?_cons_zero, List.getElem?_cons_succ, decide_eq_true_eq, decide_eq_false_iff_not, List.map_cons, List.map_nil, List.cons_append, List.nil_append, List.append_nil, List.length_cons, List.length_nil, Nat.zero_add, Nat.add_zero, and_true, true_and, if_true, if_false, Bool.false_eq_true]
  refine ⟨fun c => ?_, fun _ => rfl⟩
  simp only [Bool.or_eq_true, decide_eq_true_eq] at c
  omega

theorem part_take (xs : List Int) {n j : Nat} (hn : n = (xs.length + 32767) / 32768) (hj : j < n) : xs.take (min ((j + 1) * 32768) xs.length) = xs.take (min (j * 32768) xs.length) ++ partOf xs j := by
  have e1 : min (j * 32768) xs.length = j * 32768 := by omega
  have h1 : j * 32768 ≤ min ((j + 1) * 32768) xs.length := by omega
  have e2 : min ((j + 1) * 32768) xs.length = j * 32768 + partLen xs.length j := (Nat.add_sub_cancel' h1).symm
  rw [e1, e2, List.take_add]
  simp only [partOf]
theorem part_ok {xs : List Int} (hb : okB xs) (j : Nat) : okB (partOf xs j) := fun x hx => by
  unfold partOf at hx
  have h1 := List.mem_of_mem_take hx
  have h2 := List.mem_of_mem_drop h1
  exact hb x h2

theorem g_impl_AdlerUpdate {s : Nat → Prop} (hi : Eng.Inv (Team Try.prog s) h) (c0 : Int) (hc0 : 0 ≤ c0 ∧ c0 < 4294967296) (a : Option Addr) (c : Nat) (xs : List Int) (hb : okB xs) (hx : HInts h .u8 a xs) (hc : xs.length ≤ c) (hl : xs.length < 2 ^ 40) :
    CallsH Try.prog (Team Try.prog s) F_impl_AdlerUpdate #[.int .u32 c0, .slice a xs.length c] h (fun v h' => v = .int .u32 (adler c0 xs) ∧ Eng.Sub h h') := by
  refine run_impl_AdlerUpdate (vs := [.int .u32 c0, .slice a xs.length c]) ⟨rfl, rfl, trivial⟩ hi ?_
  simp only [t_impl_AdlerUpdate, Tr.wp, mksW, callW, Ex.ev, coerce, toInt_int, toBool_bool, slL_sl, slC_sl, slA_sl, toAddr_ptr, ptrOf_ptr, isNil_sl, isNil_ptr, it_and, it_or, it_int, optN_int, optN_nl, cmpI, arith, Cst.val, SV.den, resShs, resV, resSV, resVals, newVars, runCells, exSh, allSh, cellsAre, storeW, List.flatMap_cons, List.flatMap_nil, List.replicate_one, List.getD_cons_zero, List.getD_cons_succ, List.getElem?_cons_zero, List.getElem?_cons_succ, decide_eq_true_eq, decide_eq_false_iff_not, List.map_cons, List.map_nil, List.cons_append, List.nil_append, List.append_nil, List.length_cons, List.length_nil, Nat.zero_add, Nat.add_zero, and_true, true_and, if_true, if_false, Bool.false_eq_true]
  refine ⟨fun hle => ?_, fun hgt => ?_⟩
  · refine (g_impl_adler hi c0 a c xs hx (by omega)).mono ?_
    rintro _ h' ⟨rfl, rfl⟩
    exact ⟨_, rfl, rfl, fun _ _ h => h⟩
  · refine (g_impl_adler hi c0 none 0 [] (fun i x hx => by simp at hx) (by simp)).mono ?_
    rintro _ h' ⟨rfl, rfl⟩
    refine ⟨_, rfl, ?_⟩
    obtain ⟨n, hn⟩ : ∃ n, n = (xs.length + 32767) / 32768 := ⟨_, rfl⟩
    refine (g_impl_inParts (g := 31) (F := adler 1) hi hx hc hl (fun S' h' a' c' ys hi' hx' hl' _ => g_adler_1 hi' a' c' ys hx' (by omega)) hn).mono ?_
    rintro _ h1 ⟨bC, bS, rfl, e1, e2, s1⟩
    have i1 : Eng.Inv (Team Try.prog s) h1 := fun y hy => by
      cases e : h' y with
      | none => exact absurd e (hi y hy)
      | some o => rw [s1 y o e]; simp
    have ok0 := adIn_ok hc0
    refine ⟨_, _, _, _, _, _, rfl, fun us h2 => ∃ j : Nat, us = [.int .u32 (adler c0 (xs.take (min (j * 32768) xs.length))), .int .i64 j] ∧ j ≤ n ∧ h2 = h1, fun us _ => n - (toInt (us.getD 1 undef)).toNat, ⟨0, by simp, by omega, rfl⟩, ?_⟩
    rintro x y h2 ⟨j, hx1, hj, rfl⟩
    simp only [List.cons.injEq, Value.int.injEq, true_and, and_true] at hx1
    obtain ⟨rfl, rfl⟩ := hx1
    refine ⟨fun hlt => ?_, fun hge => ?_⟩
    · have hjn : j < n := by omega
      have w2 : IntKind.i64.wrap ((j : Int) + 1) = ((j + 1 : Nat) : Int) := by rw [i64_in _ (by omega)]; omega
      have c1 : hcell h2 (((((some (⟨bC, 0, none⟩ : Addr)).getD default).add ((j : Int).toNat * 1))).add 0) = some (.int .u32 (adler 1 (partOf xs j))) := by
        simp [add_add, addr_add, hcell, e1, sumsV, hjn]
      have c2 : hcell h2 (((((some (⟨bS, 0, none⟩ : Addr)).getD default).add ((j : Int).toNat * 1))).add 0) = some (.int .i64 (partLen xs.length j)) := by
        simp [add_add, addr_add, hcell, e2, szv, hjn]
      refine ⟨rfl, by omega, by omega, _, c1, rfl, by omega, by omega, _, c2, ?_⟩
      have hpl : partLen xs.length j ≤ 1000000 := by unfold partLen; omega
      refine (g_impl_AdlerJoin i1 _ _ _ ⟨by omega, by omega⟩).mono ?_
      rintro _ h3 ⟨rfl, rfl⟩
      refine ⟨_, rfl, ⟨j + 1, ?_, by omega, rfl⟩, ?_⟩
      · have okt : okB (xs.take (min (j * 32768) xs.length)) := fun z hz => hb z (List.mem_of_mem_take hz)
        have J := adJoin_law (fold_ok ok0 okt) (part_ok hb j) (by rw [partOf_length]; exact hpl)
        rw [partOf_length] at J
        rw [w2, part_take xs hn hjn]
        simp only [List.cons.injEq, Value.int.injEq, true_and, and_true]
        unfold adler at J ⊢
        rw [J, List.foldl_append]
      · simp only [w2, List.getD_cons_succ, List.getD_cons_zero, toInt_int, Int.toNat_natCast]; omega
    · obtain rfl : j = n := by omega
      refine ⟨?_, s1⟩
      rw [show min (j * 32768) xs.length = xs.length by omega, List.take_length]
end Go.Proofs.Ytmnialmphlbmaaa
