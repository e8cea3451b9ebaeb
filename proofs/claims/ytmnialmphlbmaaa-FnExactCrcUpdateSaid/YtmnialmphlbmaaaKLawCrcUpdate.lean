import Derived.Test.YtmnialmphlbmaaaKCrc3
import Derived.Test.YtmnialmphlbmaaaKBytes
import Derived.Test.YtmnialmphlbmaaaKSubF
set_option linter.unusedVariables false
set_option linter.unusedSimpArgs false
namespace Go.Proofs.Ytmnialmphlbmaaa
open Go Go.Eng Go.IntWalk
variable {h : Eng.Heap}

set_option maxRecDepth 100000 in
theorem k_CrcUpdate {s : Nat → Prop} (hi : Eng.Inv (Team Try.prog s) h) (b0 : BitVec 32) (a : Option Addr) (c : Nat) (xs : List Int) (hx : HInts h .u8 a xs) (hb : okB xs) :
    CallsH Try.prog (Team Try.prog s) F_laws_FnExactCrcUpdate #[bvI b0, .slice a xs.length c] h (fun v _ => v = .bool true) := by
  refine run_laws_FnExactCrcUpdate (vs := [bvI b0, .slice a xs.length c]) ⟨rfl, rfl, trivial⟩ hi ?_
  simp only [t_laws_FnExactCrcUpdate, bvI, Tr.wp, mksW, callW, Ex.ev, coerce, toInt_int, toBool_bool, slL_sl, slC_sl, slA_sl, toAddr_ptr, ptrOf_ptr, isNil_sl, isNil_ptr, it_and, it_or, it_int, optN_int, optN_nl, cmpI, arith, Cst.val, SV.den, resShs, resV, resSV, resVals, newVars, runCells, exSh, allSh, cellsAre, storeW, List.flatMap_cons, List.flatMap_nil, List.replicate_one, List.getD_cons_zero, List.getD_cons_succ, List.getElem?_cons_zero, List.getElem?_cons_succ, decide_eq_true_eq, decide_eq_false_iff_not, List.map_cons, List.map_nil, List.cons_append, List.nil_append, List.append_nil, List.length_cons, List.length_nil, Nat.zero_add, Nat.add_zero, and_true, true_and, if_true, if_false, Bool.false_eq_true]
  refine ⟨fun _ => trivial, fun hsm => ?_⟩
  have hl2 : xs.length < 2 ^ 40 := by omega
  have hl : xs.length ≤ 2 ^ 48 := by omega
  refine (k_toByteS hi a c xs hx hl).mono ?_
  rintro _ h1 ⟨b1, T1, n1, rfl, rfl⟩
  refine ⟨_, _, _, rfl, ?_⟩
  have s1 := sub_new (o := .cells (ints .u8 xs) T1) n1
  refine (g_spec_CrcUpdate (inv_sub hi s1) b0 _ _ xs ints_new hb hl).mono ?_
  rintro _ h2 ⟨rfl, rfl⟩
  refine ⟨_, rfl, ?_⟩
  refine (k_toByteS (inv_sub hi s1) a c xs (ints_sub hx s1) hl).mono ?_
  rintro _ h3 ⟨b2, T2, n2, rfl, rfl⟩
  refine ⟨_, _, _, rfl, ?_⟩
  have s2 := s1.trans (sub_new (o := .cells (ints .u8 xs) T2) n2)
  refine (g_impl_CrcUpdate (inv_sub hi s2) b0 _ _ xs hb ints_new (Nat.le_refl _) hl2).mono ?_
  rintro _ h4 ⟨rfl, s4⟩
  refine ⟨_, rfl, fun hne => by simp at hne, fun _ => ?_⟩
  have s3 := s2.trans s4
  refine (k_toByteS (inv_sub hi s3) a c xs (ints_sub hx s3) hl).mono ?_
  rintro _ h5 ⟨b3, T3, n3, rfl, rfl⟩
  refine ⟨_, _, _, rfl, ?_⟩
  have s5 := s4.trans (sub_new (o := .cells (ints .u8 xs) T3) n3)
  refine (k_eqByteS (inv_sub hi (s3.trans (sub_new n3))) _ _ _ _ xs xs (ints_sub ints_new s5) ints_new hl).mono ?_
  rintro _ h6 ⟨rfl, rfl⟩
  refine ⟨_, rfl, fun hne => by simp at hne, fun _ => trivial⟩
end Go.Proofs.Ytmnialmphlbmaaa
