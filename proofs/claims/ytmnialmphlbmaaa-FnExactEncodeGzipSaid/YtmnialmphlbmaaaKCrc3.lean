import Derived.Test.YtmnialmphlbmaaaKCrc2
import Derived.Test.YtmnialmphlbmaaaKAdler2
set_option linter.unusedVariables false
set_option linter.unusedSimpArgs false
namespace Go.Proofs.Ytmnialmphlbmaaa
open Go Go.Eng Go.IntWalk
variable {S : Shared} {h : Eng.Heap}
set_option maxRecDepth 100000

theorem g_impl_CrcUpdate {s : Nat → Prop} (hi : Eng.Inv (Team Try.prog s) h) (b0 : BitVec 32) (a : Option Addr) (c : Nat) (xs : List Int) (hb : okB xs) (hx : HInts h .u8 a xs) (hc : xs.length ≤ c) (hl : xs.length < 2 ^ 40) :
    CallsH Try.prog (Team Try.prog s) F_impl_CrcUpdate #[bvI b0, .slice a xs.length c] h (fun v h' => v = bvI (crcB b0 xs) ∧ Eng.Sub h h') := by
  refine run_impl_CrcUpdate (vs := [bvI b0, .slice a xs.length c]) ⟨rfl, rfl, trivial⟩ hi ?_
  simp only [t_impl_CrcUpdate, bvI, Tr.wp, mksW, callW, Ex.ev, coerce, toInt_int, toBool_bool, slL_sl, slC_sl, slA_sl, toAddr_ptr, ptrOf_ptr, isNil_sl, isNil_ptr, it_and, it_or, it_int, optN_int, optN_nl, cmpI, arith, Cst.val, SV.den, resShs, resV, resSV, resVals, newVars, runCells, exSh, allSh, cellsAre, storeW, List.flatMap_cons, List.flatMap_nil, List.replicate_one, List.getD_cons_zero, List.getD_cons_succ, List.getElem?_cons_zero, List.getElem?_cons_succ, decide_eq_true_eq, decide_eq_false_iff_not, List.map_cons, List.map_nil, List.cons_append, List.nil_append, List.append_nil, List.length_cons, List.length_nil, Nat.zero_add, Nat.add_zero, and_true, true_and, if_true, if_false, Bool.false_eq_true]
  refine ⟨fun hle => ?_, fun hgt => ?_⟩
  · refine (g_impl_crc hi b0 a c xs hx hb (by omega)).mono ?_
    rintro _ h' ⟨rfl, s⟩
    exact ⟨_, rfl, rfl, s⟩
  · obtain ⟨n, hn⟩ : ∃ n, n = (xs.length + 32767) / 32768 := ⟨_, rfl⟩
    refine (g_impl_inParts (g := F_impl_CrcUpdate_1) (F := fun ys => ((crcB 0#32 ys).toNat : Int)) hi hx hc hl (fun S' h' a' c' ys hi' hx' hl' hm => g_crc_1 hi' a' c' ys hx' (fun y hy => hb y (hm y hy)) (by omega)) hn).mono ?_
    rintro _ h1 ⟨bC, bS, rfl, e1, e2, s1⟩
    have i1 : Eng.Inv (Team Try.prog s) h1 := fun y hy => by
      cases e : h y with
      | none => exact absurd e (hi y hy)
      | some o => rw [s1 y o e]; simp
    refine ⟨_, _, _, _, _, _, rfl, fun us h2 => ∃ j : Nat, us = [bvI (crcB b0 (xs.take (min (j * 32768) xs.length))), .int .i64 j] ∧ j ≤ n ∧ h2 = h1, fun us _ => n - (toInt (us.getD 1 undef)).toNat, ⟨0, by simp [bvI, crcB], by omega, rfl⟩, ?_⟩
    rintro x y h2 ⟨j, hx1, hj, rfl⟩
    simp only [bvI, List.cons.injEq, Value.int.injEq, true_and, and_true] at hx1
    obtain ⟨rfl, rfl⟩ := hx1
    refine ⟨fun hlt => ?_, fun hge => ?_⟩
    · have hjn : j < n := by omega
      have w2 : IntKind.i64.wrap ((j : Int) + 1) = ((j + 1 : Nat) : Int) := by rw [i64_in _ (by omega)]; omega
      have c1 : hcell h2 (((((some (⟨bC, 0, none⟩ : Addr)).getD default).add ((j : Int).toNat * 1))).add 0) = some (bvI (crcB 0#32 (partOf xs j))) := by
        simp [add_add, addr_add, hcell, e1, sumsV, hjn, bvI]
      have c2 : hcell h2 (((((some (⟨bS, 0, none⟩ : Addr)).getD default).add ((j : Int).toNat * 1))).add 0) = some (.int .i64 (partLen xs.length j)) := by
        simp [add_add, addr_add, hcell, e2, szv, hjn]
      refine ⟨rfl, by omega, by omega, _, c1, rfl, by omega, by omega, _, c2, ?_⟩
      have hpl : partLen xs.length j ≤ 1000000 := by unfold partLen; omega
      refine (g_impl_CrcJoin i1 _ _ _ hpl).mono ?_
      rintro _ h3 ⟨rfl, rfl⟩
      refine ⟨_, rfl, ⟨j + 1, ?_, by omega, rfl⟩, ?_⟩
      · have J := crcJoin_law (crcB b0 (xs.take (min (j * 32768) xs.length))) (partOf xs j)
        rw [partOf_length] at J
        rw [w2, part_take xs hn hjn, J, crcB_app]; rfl
      · simp only [w2, List.getD_cons_succ, List.getD_cons_zero, toInt_int, Int.toNat_natCast]; omega
    · obtain rfl : j = n := by omega
      refine ⟨?_, s1⟩
      rw [show min (j * 32768) xs.length = xs.length by omega, List.take_length]
end Go.Proofs.Ytmnialmphlbmaaa
