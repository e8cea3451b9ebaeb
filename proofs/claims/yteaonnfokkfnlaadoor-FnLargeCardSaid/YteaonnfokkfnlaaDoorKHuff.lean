import Derived.Test.YteaonnfokkfnlaaDoorKInts
import Derived.Test.YteaonnfokkfnlaaDoorTrHK
set_option linter.unusedVariables false
set_option linter.unusedSimpArgs false
namespace Go.Proofs.YteaonnfokkfnlaaDoor
open Go Go.Eng Go.IntWalk
variable {S : Shared} {h : Eng.Heap}

theorem pow_le62 {i : Nat} (h : i ≤ 62) : ((2 ^ i : Nat) : Int) ≤ 4611686018427387904 := by
  have : 2 ^ i ≤ 2 ^ 62 := Nat.pow_le_pow_right (by omega) h
  have e : (2 : Nat) ^ 62 = 4611686018427387904 := by decide
  omega

theorem pow_pos0 (i : Nat) : 0 ≤ ((2 ^ i : Nat) : Int) := Int.natCast_nonneg _

theorem k_l3Pow (hi : Eng.Inv S h) (n : Int) (hn0 : 0 ≤ n) (hn : n ≤ 62) :
    CallsH Tryd.prog S F_spec_l3Pow #[.int .i64 n] h (fun v h' => v = .int .i64 ((2 ^ n.toNat : Nat) : Int) ∧ h' = h) := by
  refine run_spec_l3Pow (vs := [.int .i64 n]) ⟨rfl, trivial⟩ hi ?_
  simp only [t_spec_l3Pow, Tr.wp, mksW, callW, Ex.ev, coerce, toInt_int, toBool_bool, slL_sl, slC_sl, slA_sl, toAddr_ptr, ptrOf_ptr, isNil_sl, isNil_ptr, it_and, it_or, it_int, optN_int, optN_nl, cmpI, arith, Cst.val, SV.den, resShs, resV, resSV, resVals, newVars, runCells, exSh, allSh, cellsAre, storeW, List.flatMap_cons, List.flatMap_nil, List.replicate_one, List.getD_cons_zero, List.getD_cons_succ, List.getElem?_cons_zero, List.getElem?_cons_succ, decide_eq_true_eq, decide_eq_false_iff_not, List.map_cons, List.map_nil, List.cons_append, List.nil_append, List.append_nil, List.length_cons, List.length_nil, Nat.zero_add, Nat.add_zero, and_true, true_and, if_true, if_false, Bool.false_eq_true]
  refine ⟨fun us h' => ∃ i : Nat, us = [.int .i64 ((2 ^ i : Nat) : Int), .int .i64 i] ∧ (i : Int) ≤ n ∧ h' = h, fun us _ => n.toNat - (toInt (us.getD 1 undef)).toNat, ⟨0, rfl, hn0, rfl⟩, ?_⟩
  rintro x y h' ⟨i, hx, hi2, rfl⟩
  obtain ⟨rfl, rfl⟩ : x = ((2 ^ i : Nat) : Int) ∧ y = i := by simpa using hx
  simp only [Tr.wp, mksW, callW, Ex.ev, coerce, toInt_int, toBool_bool, slL_sl, slC_sl, slA_sl, toAddr_ptr, ptrOf_ptr, isNil_sl, isNil_ptr, it_and, it_or, it_int, optN_int, optN_nl, cmpI, arith, Cst.val, SV.den, resShs, resV, resSV, resVals, newVars, runCells, exSh, allSh, cellsAre, storeW, List.flatMap_cons, List.flatMap_nil, List.replicate_one, List.getD_cons_zero, List.getD_cons_succ, List.getElem?_cons_zero, List.getElem?_cons_succ, decide_eq_true_eq, decide_eq_false_iff_not, List.map_cons, List.map_nil, List.cons_append, List.nil_append, List.append_nil, List.length_cons, List.length_nil, Nat.zero_add, Nat.add_zero, and_true, true_and, if_true, if_false, Bool.false_eq_true]
  refine ⟨fun hlt => ?_, fun hge => ?_⟩
  · have p1 := pow_le62 (i := i + 1) (by omega)
    have p0 := pow_pos0 (i + 1)
    have e1 : 2 * ((2 ^ i : Nat) : Int) = ((2 ^ (i + 1) : Nat) : Int) := by rw [Nat.pow_succ]; omega
    have w1 : IntKind.i64.wrap (2 * ((2 ^ i : Nat) : Int)) = ((2 ^ (i + 1) : Nat) : Int) := by rw [e1]; exact i64_in _ (by omega)
    have w2 : IntKind.i64.wrap ((i : Int) + 1) = ((i + 1 : Nat) : Int) := by rw [i64_in _ (by omega)]; omega
    rw [w1, w2]
    refine ⟨⟨i + 1, rfl, by omega⟩, by omega⟩
  · obtain rfl : n = i := by omega
    simp

/-! What the lengths make, in plain words -/

def kterm (x : Int) : Int := if 0 < x then ((2 ^ (15 - x).toNat : Nat) : Int) else 0
def kr (xs : List Int) : Int := (xs.map kterm).sum
def cn (xs : List Int) : Int := (xs.map fun x => if 0 < x then 1 else 0).sum
def hok (xs : List Int) : Prop := ∀ x ∈ xs, 0 ≤ x ∧ x ≤ 15
instance (xs : List Int) : Decidable (hok xs) := by unfold hok; infer_instance
def hkind (xs : List Int) : Int :=
  if xs.length > 320 then 0 else if ¬ hok xs then 0 else if cn xs = 0 then 5 else if kr xs > 32768 then 2 else if kr xs = 32768 then 1 else if cn xs = 1 ∧ kr xs = 16384 then 4 else 3

theorem kterm_le (x : Int) (h : 0 ≤ x) : 0 ≤ kterm x ∧ kterm x ≤ 32768 := by
  unfold kterm
  split
  · have h1 : 2 ^ (15 - x).toNat ≤ 2 ^ 15 := Nat.pow_le_pow_right (by omega) (by omega)
    have e : (2 : Nat) ^ 15 = 32768 := by decide
    have h2 := pow_pos0 (15 - x).toNat
    exact ⟨h2, by rw [e] at h1; exact Int.ofNat_le.2 h1⟩
  · omega

theorem kr_le : ∀ (xs : List Int), hok xs → 0 ≤ kr xs ∧ kr xs ≤ 32768 * xs.length
  | [], _ => by simp [kr]
  | x :: r, h => by
    have h1 := kterm_le x (h x (by simp)).1
    have h2 := kr_le r fun y hy => h y (by simp [hy])
    simp only [kr, List.map_cons, List.sum_cons, List.length_cons] at h2 ⊢
    omega

theorem cn_le : ∀ (xs : List Int), 0 ≤ cn xs ∧ cn xs ≤ xs.length
  | [] => by simp [cn]
  | x :: r => by
    have h2 := cn_le r
    simp only [cn, List.map_cons, List.sum_cons, List.length_cons] at h2 ⊢
    split <;> omega

theorem take_snoc {xs : List Int} {i : Nat} (hi : i < xs.length) : xs.take (i + 1) = xs.take i ++ [xs[i]] := by
  rw [List.take_add_one, List.getElem?_eq_getElem hi]; rfl

theorem kr_snoc {xs : List Int} {i : Nat} (hi : i < xs.length) : kr (xs.take (i + 1)) = kr (xs.take i) + kterm xs[i] := by
  unfold kr; rw [take_snoc hi, List.map_append, List.sum_append]; simp
theorem cn_snoc {xs : List Int} {i : Nat} (hi : i < xs.length) : cn (xs.take (i + 1)) = cn (xs.take i) + (if 0 < xs[i] then 1 else 0) := by
  unfold cn; rw [take_snoc hi, List.map_append, List.sum_append]; simp
theorem hok_snoc {xs : List Int} {i : Nat} (hi : i < xs.length) (h : hok (xs.take i)) (hx : 0 ≤ xs[i] ∧ xs[i] ≤ 15) : hok (xs.take (i + 1)) := by
  rw [take_snoc hi]
  intro x hm
  rcases List.mem_append.1 hm with h1 | h1
  · exact h x h1
  · simp at h1; subst h1; exact hx
theorem not_hok {xs : List Int} {i : Nat} (hi : i < xs.length) (hx : ¬ (0 ≤ xs[i] ∧ xs[i] ≤ 15)) : ¬ hok xs := fun h => hx (h _ (List.getElem_mem hi))

theorem kr_zero : ∀ {xs : List Int}, cn xs = 0 → kr xs = 0
  | [], _ => rfl
  | x :: r, h => by
    have h2 := cn_le r
    simp only [cn, List.map_cons, List.sum_cons] at h h2
    split at h
    · omega
    · rename_i hx
      have ih : kr r = 0 := kr_zero (by simp only [cn]; omega)
      simp only [kr, List.map_cons, List.sum_cons] at ih ⊢
      rw [ih]; simp [kterm, hx]

theorem shl_term {x : Int} (h0 : x > 0) (h1 : x ≤ 15) : IntKind.i64.wrap (1 * 2 ^ min (15 - x).toNat IntKind.i64.bits) = kterm x := by
  have e : min (15 - x).toNat IntKind.i64.bits = (15 - x).toNat := Nat.min_eq_left (by show _ ≤ 64; omega)
  have hk := kterm_le x (by omega)
  have e2 : (1 : Int) * 2 ^ (15 - x).toNat = kterm x := by simp [kterm, h0]
  rw [e, e2]
  exact i64_in _ (by omega)

theorem kterm_one {x : Int} (h0 : 1 ≤ x) (h1 : x ≤ 15) : kterm x = 16384 ↔ x = 1 := by
  have : x = 1 ∨ x = 2 ∨ x = 3 ∨ x = 4 ∨ x = 5 ∨ x = 6 ∨ x = 7 ∨ x = 8 ∨ x = 9 ∨ x = 10 ∨ x = 11 ∨ x = 12 ∨ x = 13 ∨ x = 14 ∨ x = 15 := by omega
  rcases this with rfl | rfl | rfl | rfl | rfl | rfl | rfl | rfl | rfl | rfl | rfl | rfl | rfl | rfl | rfl <;> decide

theorem k_impl_HuffKind (hi : Eng.Inv S h) (a : Option Addr) (c : Nat) (xs : List Int) (hx : HInts h .i64 a xs) :
    CallsH Tryd.prog S F_impl_HuffKind #[.slice a xs.length c] h (fun v h' => v = .int .i64 (hkind xs) ∧ h' = h) := by
  refine run_impl_HuffKind (vs := [.slice a xs.length c]) ⟨rfl, trivial⟩ hi ?_
  simp only [t_impl_HuffKind, Tr.wp, mksW, callW, Ex.ev, coerce, toInt_int, toBool_bool, slL_sl, slC_sl, slA_sl, toAddr_ptr, ptrOf_ptr, isNil_sl, isNil_ptr, it_and, it_or, it_int, optN_int, optN_nl, cmpI, arith, Cst.val, SV.den, resShs, resV, resSV, resVals, newVars, runCells, exSh, allSh, cellsAre, storeW, List.flatMap_cons, List.flatMap_nil, List.replicate_one, List.getD_cons_zero, List.getD_cons_succ, List.getElem?_cons_zero, List.getElem?_cons_succ, decide_eq_true_eq, decide_eq_false_iff_not, List.map_cons, List.map_nil, List.cons_append, List.nil_append, List.append_nil, List.length_cons, List.length_nil, Nat.zero_add, Nat.add_zero, and_true, true_and, if_true, if_false, Bool.false_eq_true]
  refine ⟨fun hbig => ?_, fun hsm => ?_⟩
  · have : xs.length > 320 := by omega
    simp [hkind, this]
  have hlen : xs.length ≤ 320 := by omega
  refine ⟨fun us h' => ∃ (i : Nat) (l : Int), us = [.int .i64 (kr (xs.take i)), .int .i64 (cn (xs.take i)), .int .i64 l, .int .i64 i] ∧ i ≤ xs.length ∧ h' = h ∧ hok (xs.take i) ∧ (cn (xs.take i) = 1 → 1 ≤ l ∧ l ≤ 15 ∧ kr (xs.take i) = kterm l),
    fun us _ => xs.length - (toInt (us.getD 3 undef)).toNat, ⟨0, 0, rfl, by omega, rfl, by simp [hok], by simp [cn]⟩, ?_⟩
  rintro x y z u h' ⟨i, l, hx1, hi2, rfl, hk, hone⟩
  obtain ⟨rfl, rfl, rfl, rfl⟩ : x = kr (xs.take i) ∧ y = cn (xs.take i) ∧ z = l ∧ u = i := by simpa using hx1
  simp only [Tr.wp, mksW, callW, Ex.ev, coerce, toInt_int, toBool_bool, slL_sl, slC_sl, slA_sl, toAddr_ptr, ptrOf_ptr, isNil_sl, isNil_ptr, it_and, it_or, it_int, optN_int, optN_nl, cmpI, arith, Cst.val, SV.den, resShs, resV, resSV, resVals, newVars, runCells, exSh, allSh, cellsAre, storeW, List.flatMap_cons, List.flatMap_nil, List.replicate_one, List.getD_cons_zero, List.getD_cons_succ, List.getElem?_cons_zero, List.getElem?_cons_succ, decide_eq_true_eq, decide_eq_false_iff_not, List.map_cons, List.map_nil, List.cons_append, List.nil_append, List.append_nil, List.length_cons, List.length_nil, Nat.zero_add, Nat.add_zero, and_true, true_and, if_true, if_false, Bool.false_eq_true]
  have b1 := kr_le _ hk
  have b2 := cn_le (xs.take i)
  have b3 : (xs.take i).length ≤ 320 := by rw [List.length_take]; omega
  refine ⟨fun hlt => ?_, fun hge => ?_⟩
  · have hi3 : i < xs.length := by omega
    obtain ⟨g1, g2⟩ := hx.cell (List.getElem?_eq_getElem hi3)
    refine ⟨by simpa using g2, by omega, by omega, xs[i], by simpa [add_add] using g1, fun hbad => ?_, fun hgood => ?_⟩
    · have : ¬ hok xs := not_hok hi3 (by simp at hbad; omega)
      simp [hkind, this]
    · have hr : 0 ≤ xs[i] ∧ xs[i] ≤ 15 := by simp at hgood; omega
      have w2 : IntKind.i64.wrap ((i : Int) + 1) = ((i + 1 : Nat) : Int) := by rw [i64_in _ (by omega)]; omega
      have w4 : IntKind.i64.wrap (15 - xs[i]) = 15 - xs[i] := i64_in _ (by omega)
      have hk2 := hok_snoc hi3 hk hr
      have kt := kterm_le xs[i] hr.1
      rw [w2, w4]
      refine ⟨fun hpos => ⟨by omega, fun _ => ⟨⟨i + 1, xs[i], ?_, by omega, hk2, fun h1 => ?_⟩, by omega⟩⟩, fun hneg _ => ⟨⟨i + 1, z, ?_, by omega, hk2, fun h1 => ?_⟩, by omega⟩⟩
      · rw [shl_term hpos hr.2, kr_snoc hi3, cn_snoc hi3, if_pos (by omega), i64_in (kr _ + _) (by omega), i64_in (cn _ + 1) (by omega)]
      · rw [cn_snoc hi3, if_pos (by omega)] at h1
        rw [kr_snoc hi3, kr_zero (show cn (xs.take i) = 0 by omega)]
        omega
      · rw [kr_snoc hi3, cn_snoc hi3, if_neg hneg, show kterm xs[i] = 0 from if_neg hneg, Int.add_zero, Int.add_zero]
      · rw [cn_snoc hi3, if_neg hneg, Int.add_zero] at h1
        rw [kr_snoc hi3, show kterm xs[i] = 0 from if_neg hneg, Int.add_zero]
        exact hone h1
  · obtain rfl : i = xs.length := by omega
    rw [List.take_length] at *
    have hl : ¬ xs.length > 320 := by omega
    by_cases h1 : cn xs = 0
    · simp [hkind, hl, hk, h1]
    by_cases h2 : kr xs > 32768
    · simp [hkind, hl, hk, h1, h2]
    by_cases h3 : kr xs = 32768
    · simp [hkind, hl, hk, h1, h3]
    by_cases h4 : cn xs = 1
    · obtain ⟨o1, o2, o3⟩ := hone h4
      have o4 := kterm_one o1 o2
      rw [← o3] at o4
      by_cases h5 : z = 1
      · simp [hkind, hl, hk, h1, h2, h3, h4, h5, o4.2 h5]
      · have : ¬ kr xs = 16384 := fun e => h5 (o4.1 e)
        simp [hkind, hl, hk, h1, h2, h3, h4, h5, this]
    · simp [hkind, hl, hk, h1, h2, h3, h4]

theorem k_spec_HuffKind (hi : Eng.Inv S h) (a : Option Addr) (c : Nat) (xs : List Int) (hx : HInts h .i64 a xs) :
    CallsH Tryd.prog S F_spec_HuffKind #[.slice a xs.length c] h (fun v h' => v = .int .i64 (hkind xs) ∧ h' = h) := by
  refine run_spec_HuffKind (vs := [.slice a xs.length c]) ⟨rfl, trivial⟩ hi ?_
  simp only [t_spec_HuffKind, Tr.wp, mksW, callW, Ex.ev, coerce, toInt_int, toBool_bool, slL_sl, slC_sl, slA_sl, toAddr_ptr, ptrOf_ptr, isNil_sl, isNil_ptr, it_and, it_or, it_int, optN_int, optN_nl, cmpI, arith, Cst.val, SV.den, resShs, resV, resSV, resVals, newVars, runCells, exSh, allSh, cellsAre, storeW, List.flatMap_cons, List.flatMap_nil, List.replicate_one, List.getD_cons_zero, List.getD_cons_succ, List.getElem?_cons_zero, List.getElem?_cons_succ, decide_eq_true_eq, decide_eq_false_iff_not, List.map_cons, List.map_nil, List.cons_append, List.nil_append, List.append_nil, List.length_cons, List.length_nil, Nat.zero_add, Nat.add_zero, and_true, true_and, if_true, if_false, Bool.false_eq_true]
  refine ⟨fun hbig => ?_, fun hsm => ?_⟩
  · have : xs.length > 320 := by omega
    simp [hkind, this]
  have hlen : xs.length ≤ 320 := by omega
  refine ⟨fun us h' => ∃ (i : Nat), us = [.int .i64 (kr (xs.take i)), .int .i64 (cn (xs.take i)), .int .i64 i] ∧ i ≤ xs.length ∧ h' = h ∧ hok (xs.take i),
    fun us _ => xs.length - (toInt (us.getD 2 undef)).toNat, ⟨0, rfl, by omega, rfl, by simp [hok]⟩, ?_⟩
  rintro x y u h' ⟨i, hx1, hi2, rfl, hk⟩
  obtain ⟨rfl, rfl, rfl⟩ : x = kr (xs.take i) ∧ y = cn (xs.take i) ∧ u = i := by simpa using hx1
  simp only [Tr.wp, mksW, callW, Ex.ev, coerce, toInt_int, toBool_bool, slL_sl, slC_sl, slA_sl, toAddr_ptr, ptrOf_ptr, isNil_sl, isNil_ptr, it_and, it_or, it_int, optN_int, optN_nl, cmpI, arith, Cst.val, SV.den, resShs, resV, resSV, resVals, newVars, runCells, exSh, allSh, cellsAre, storeW, List.flatMap_cons, List.flatMap_nil, List.replicate_one, List.getD_cons_zero, List.getD_cons_succ, List.getElem?_cons_zero, List.getElem?_cons_succ, decide_eq_true_eq, decide_eq_false_iff_not, List.map_cons, List.map_nil, List.cons_append, List.nil_append, List.append_nil, List.length_cons, List.length_nil, Nat.zero_add, Nat.add_zero, and_true, true_and, if_true, if_false, Bool.false_eq_true]
  have b1 := kr_le _ hk
  have b2 := cn_le (xs.take i)
  have b3 : (xs.take i).length ≤ 320 := by rw [List.length_take]; omega
  refine ⟨fun hlt => ?_, fun hge => ?_⟩
  · have hi3 : i < xs.length := by omega
    obtain ⟨g1, g2⟩ := hx.cell (List.getElem?_eq_getElem hi3)
    have hnn : (!a.isNone) = true := by simpa using g2
    have g3 : hcell h' (((a.getD default).add ((i : Int).toNat * 1)).add 0) = some (Value.int IntKind.i64 xs[i]) := by simpa [add_add] using g1
    have w2 : IntKind.i64.wrap ((i : Int) + 1) = ((i + 1 : Nat) : Int) := by rw [i64_in _ (by omega)]; omega
    rw [w2]
    refine ⟨hnn, by omega, hlt, xs[i], g3, fun hpos => ⟨hnn, by omega, hlt, xs[i], g3, fun _ => ⟨fun hbig => ?_, fun hsm2 => ⟨hnn, by omega, hlt, xs[i], g3, fun hp => ⟨hnn, by omega, hlt, xs[i], g3, ?_⟩, fun hz _ => ⟨⟨i + 1, ?_, by omega, ?_⟩, by omega⟩⟩⟩⟩, fun hneg _ => ⟨fun _ => ?_, fun h => by cases h⟩⟩
    · have : ¬ hok xs := not_hok hi3 (by omega)
      simp [hkind, this]
    · have w4 : IntKind.i64.wrap (15 - xs[i]) = 15 - xs[i] := i64_in _ (by omega)
      rw [w4]
      refine (k_l3Pow hi (15 - xs[i]) (by omega) (by omega)).mono ?_
      rintro _ _ ⟨rfl, rfl⟩
      have kt := kterm_le xs[i] (by omega)
      have ke : ((2 ^ (15 - xs[i]).toNat : Nat) : Int) = kterm xs[i] := (if_pos hp).symm
      refine ⟨_, rfl, fun _ => ⟨⟨i + 1, ?_, by omega, rfl, hok_snoc hi3 hk ⟨by omega, by omega⟩⟩, by omega⟩⟩
      rw [ke, kr_snoc hi3, cn_snoc hi3, if_pos (by omega), i64_in (kr _ + _) (by omega), i64_in (cn _ + 1) (by omega)]
    · rw [kr_snoc hi3, cn_snoc hi3, if_neg hz, show kterm xs[i] = 0 from if_neg hz, Int.add_zero, Int.add_zero]
    · exact hok_snoc hi3 hk ⟨by simp at hpos; omega, by omega⟩
    · have : ¬ hok xs := not_hok hi3 (by simp at hneg; omega)
      simp [hkind, this]
  · obtain rfl : i = xs.length := by omega
    rw [List.take_length] at *
    have hl : ¬ xs.length > 320 := by omega
    have p15 : ((2 ^ (15 : Int).toNat : Nat) : Int) = 32768 := by decide
    have p14 : ((2 ^ (14 : Int).toNat : Nat) : Int) = 16384 := by decide
    refine ⟨fun h1 => ?_, fun h1 => ?_⟩
    · have h1 : cn xs = 0 := by simpa using h1
      simp [hkind, hl, hk, h1]
    have h1 : ¬ cn xs = 0 := by simpa using h1
    refine (k_l3Pow hi 15 (by omega) (by omega)).mono ?_
    rintro _ _ ⟨rfl, rfl⟩
    rw [p15]
    refine ⟨_, rfl, fun h2 => ?_, fun h2 => ?_⟩
    · simp [hkind, hl, hk, h1, h2]
    refine (k_l3Pow hi 15 (by omega) (by omega)).mono ?_
    rintro _ _ ⟨rfl, rfl⟩
    rw [p15]
    refine ⟨_, rfl, fun h3 => ?_, fun h3 => ⟨fun h4 => ?_, fun h4 _ => ⟨fun h => h.elim, fun _ => ?_⟩⟩⟩
    · have h3 : kr xs = 32768 := by simpa using h3
      simp [hkind, hl, hk, h1, h3]
    · have h3 : ¬ kr xs = 32768 := by simpa using h3
      have h4 : cn xs = 1 := by simpa using h4
      refine (k_l3Pow hi 14 (by omega) (by omega)).mono ?_
      rintro _ _ ⟨rfl, rfl⟩
      rw [p14]
      refine ⟨_, rfl, fun _ => ⟨fun h5 => ?_, fun h5 => ?_⟩⟩
      · have h5 : kr xs = 16384 := by simpa using h5
        simp [hkind, hl, hk, h4, h5]
      · have h5 : ¬ kr xs = 16384 := by simpa using h5
        simp [hkind, hl, hk, h2, h3, h4, h5]
    · have h3 : ¬ kr xs = 32768 := by simpa using h3
      have h4 : ¬ cn xs = 1 := by simpa using h4
      simp [hkind, hl, hk, h1, h2, h3, h4]
end Go.Proofs.YteaonnfokkfnlaaDoor
