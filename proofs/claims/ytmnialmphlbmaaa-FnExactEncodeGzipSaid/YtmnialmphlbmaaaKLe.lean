import Derived.Test.YtmnialmphlbmaaaTyB
import Derived.Test.YtmnialmphlbmaaaTrZl
import Derived.IntWalk
set_option linter.unusedVariables false
set_option linter.unusedSimpArgs false
namespace Go.Proofs.Ytmnialmphlbmaaa
open Go Go.Eng Go.IntWalk
variable {S : Shared} {h h0 : Eng.Heap}

/-- A number in n bytes, the lowest first. -/
def le (x n : Nat) : List Int := (List.range n).map fun i => ((x / 256 ^ i % 256 : Nat) : Int)
def be (x n : Nat) : List Int := (le x n).reverse
theorem le_len {x n : Nat} : (le x n).length = n := by simp [le]
theorem be_len {x n : Nat} : (be x n).length = n := by simp [be, le_len]
theorem le_succ {x n : Nat} : le x (n + 1) = le x n ++ [((x / 256 ^ n % 256 : Nat) : Int)] := by simp [le, List.range_succ]
theorem be_succ {x n : Nat} : be x (n + 1) = [((x / 256 ^ n % 256 : Nat) : Int)] ++ be x n := by simp [be, le_succ]
theorem le_byte {x n : Nat} : ∀ y ∈ le x n, 0 ≤ y ∧ y < 256 := fun y hy => by
  obtain ⟨i, _, rfl⟩ := List.mem_map.1 hy; omega
theorem be_byte {x n : Nat} : ∀ y ∈ be x n, 0 ≤ y ∧ y < 256 := fun y hy => le_byte y (List.mem_reverse.1 hy)
theorem be2 {x : Nat} : be x 2 = [((x / 256 % 256 : Nat) : Int), ((x % 256 : Nat) : Int)] := by
  simp [be, le, List.range_succ]
theorem be4 {x : Nat} : be x 4 = [((x / 16777216 % 256 : Nat) : Int), ((x / 65536 % 256 : Nat) : Int), ((x / 256 % 256 : Nat) : Int), ((x % 256 : Nat) : Int)] := by
  simp [be, le, List.range_succ]

def put6 (x n : Nat) (hb : Bool) : List Int := if hb then be x n else le x n
theorem put6_len {x n : Nat} {hb : Bool} : (put6 x n hb).length = n := by unfold put6; split <;> simp [be_len, le_len]

set_option maxHeartbeats 1000000 in
theorem k_l6Put (hi : Eng.Inv S h) (x : Nat) (hx : x < 18446744073709551616) (n : Nat) (hn : n ≤ 8) (hb : Bool) :
    CallsH Try.prog S F_spec_l6Put #[.int .u64 x, .int .i64 n, .bool hb] h (fun v h' => Part .u8 h' v (put6 x n hb) ∧ Eng.New h v ∧ Eng.Sub h h') := by
  refine run_spec_l6Put (vs := [.int .u64 x, .int .i64 n, .bool hb]) ⟨rfl, rfl, rfl, trivial⟩ hi ?_
  simp only [t_spec_l6Put, Tr.wp, mksW, callW, Ex.ev, coerce, toInt_int, toBool_bool, slL_sl, slC_sl, slA_sl, toAddr_ptr, ptrOf_ptr, isNil_sl, isNil_ptr, it_and, it_or, it_int, optN_int, optN_nl, cmpI, arith, Cst.val, SV.den, resShs, resV, resSV, resVals, newVars, runCells, exSh, allSh, cellsAre, storeW, List.flatMap_cons, List.flatMap_nil, List.replicate_one, List.getD_cons_zero, List.getD_cons_succ, List.getElem?_cons_zero, List.getElem?_cons_succ, decide_eq_true_eq, decide_eq_false_iff_not, List.map_cons, List.map_nil, List.cons_append, List.nil_append, List.append_nil, List.length_cons, List.length_nil, Nat.zero_add, Nat.add_zero, and_true, true_and, if_true, if_false, Bool.false_eq_true]
  intro b0 hb0
  refine ⟨fun us h' => ∃ (i : Nat) (a : Option Addr) (c : Nat), us = [.int .u64 ((x / 256 ^ i : Nat) : Int), .slice a i c, .int .i64 i] ∧ i ≤ n ∧ Part .u8 h' (.slice a i c) (put6 x i hb) ∧ Eng.New h (.slice a i c) ∧ Eng.Sub h h',
    fun us _ => n - (toInt (us.getD 2 undef)).toNat, ⟨0, some ⟨b0, 0, none⟩, 0, by simp, by omega, ?_, New.of hb0, Sub.of_upd hb0⟩, ?_⟩
  · have e : put6 x 0 hb = [] := by cases hb <;> rfl
    rw [e]
    exact (Own.made (k := .u8) (h := h) (b := b0) (T := 5) []).part
  rintro y a1 l1 c1 z h' ⟨i, a2, c2, hx1, hi2, P, N, s⟩
  simp only [List.cons.injEq, Value.int.injEq, Value.slice.injEq, true_and, and_true] at hx1
  obtain ⟨rfl, ⟨rfl, rfl, rfl⟩, rfl⟩ := hx1
  refine ⟨fun hlt => ?_, fun hge => ?_⟩
  · have hp : 0 < 256 ^ l1 := Nat.pow_pos (by omega)
    have hle : x / 256 ^ l1 ≤ x := Nat.div_le_self _ _
    have wb : IntKind.u8.wrap (((x / 256 ^ l1 : Nat) : Int).tmod 256) = ((x / 256 ^ l1 % 256 : Nat) : Int) := by
      generalize x / 256 ^ l1 = q at hle
      rw [Int.tmod_eq_emod_of_nonneg (by omega), IntKind.wrap_u8]; omega
    have wd : IntKind.u64.wrap (((x / 256 ^ l1 : Nat) : Int).tdiv 256) = ((x / 256 ^ (l1 + 1) : Nat) : Int) := by
      rw [Nat.pow_succ, ← Nat.div_div_eq_div_mul]
      generalize x / 256 ^ l1 = q at hle
      rw [u64_quo _ _ ⟨by omega, by omega, by omega⟩]; omega
    have w2 : IntKind.i64.wrap ((l1 : Int) + 1) = ((l1 + 1 : Nat) : Int) := by rw [i64_in _ (by omega)]; omega
    have hl0 : (put6 x l1 hb).length = l1 := put6_len
    rw [wb, wd, w2]
    obtain ⟨a3, c3, e3, hc3, g3⟩ := P.ints
    rw [hl0] at e3
    cases e3
    have hlt2 : l1 < n := by omega
    have fin : ∀ (v' : Value) (h3 : Eng.Heap), Part .u8 h3 v' (put6 x (l1 + 1) hb) → Eng.New h v' → Eng.Sub h h3 →
        (fun (us : List Value) (h' : Eng.Heap) => ∃ (i : Nat) (a : Option Addr) (c : Nat), us = [.int .u64 ((x / 256 ^ i : Nat) : Int), .slice a i c, .int .i64 i] ∧ i ≤ n ∧ Part .u8 h' (.slice a i c) (put6 x i hb) ∧ Eng.New h (.slice a i c) ∧ Eng.Sub h h') [.int .u64 ((x / 256 ^ (l1 + 1) : Nat) : Int), .slice (slA v') (slL v') (slC v'), .int .i64 ((l1 + 1 : Nat) : Int)] h3 ∧
        (fun (us : List Value) (_ : Eng.Heap) => n - (toInt (us.getD 2 undef)).toNat) [.int .u64 ((x / 256 ^ (l1 + 1) : Nat) : Int), .slice (slA v') (slL v') (slC v'), .int .i64 ((l1 + 1 : Nat) : Int)] h3 < (fun (us : List Value) (_ : Eng.Heap) => n - (toInt (us.getD 2 undef)).toNat) [.int .u64 ((x / 256 ^ l1 : Nat) : Int), .slice a1 l1 c1, .int .i64 (l1 : Int)] h' := by
      intro v' h3 o n3 s4
      have el : (put6 x (l1 + 1) hb).length = l1 + 1 := put6_len
      obtain ⟨a4, c4, rfl, _, _⟩ := o.ints
      rw [el] at o n3
      simp only [slA_sl, slL_sl, slC_sl, el]
      exact ⟨⟨l1 + 1, a4, c4, rfl, by omega, o, n3, s4⟩, by simp only [List.getD_cons_succ, List.getD_cons_zero, toInt_int, Int.toNat_natCast]; omega⟩
    have sb : ∀ b, h' b = none → Eng.Sub h' (upd h' b (.cells (ints .u8 [((x / 256 ^ l1 % 256 : Nat) : Int)]) 5)) := fun b hnb => Sub.of_upd hnb
    have hb1 : [((x / 256 ^ l1 % 256 : Nat) : Int)] ++ put6 x l1 true = put6 x (l1 + 1) true := be_succ.symm
    have hb0 : put6 x l1 false ++ [((x / 256 ^ l1 % 256 : Nat) : Int)] = put6 x (l1 + 1) false := le_succ.symm
    generalize hz : put6 x l1 hb = zs at P g3 hl0
    generalize ((x / 256 ^ l1 % 256 : Nat) : Int) = q at sb hb0 hb1 ⊢
    obtain rfl : l1 = zs.length := hl0.symm
    refine ⟨fun hh b hnb => ?_, fun hh b hnb => ?_⟩
    · subst hh
      refine appW_part (xs := [q]) hi (s.trans (sb b hnb)) (Own.made (k := .u8) [q]).part (New.of (sub_none s hnb)) (ys := zs) (g3.sub (sb b hnb)) (by simp only [List.length_singleton]; omega) fun v' h3 o n3 s4 _ _ => fun _ => fin v' h3 ?_ n3 s4
      rw [hz] at hb1; rw [← hb1]; exact o
    · subst hh
      refine appW_part (xs := zs) hi (s.trans (sb b hnb)) (P.sub (sb b hnb)) N (ys := [q]) HInts.new (by simp only [List.length_singleton]; omega) fun v' h3 o n3 s4 _ _ => fun _ => fin v' h3 ?_ n3 s4
      rw [hz] at hb0; rw [← hb0]; exact o
  · obtain rfl : l1 = n := by omega
    exact ⟨P, N, s⟩
end Go.Proofs.Ytmnialmphlbmaaa
