import Derived.Test.YtchlnichbaoeaaaKCut
import Derived.Test.YtchlnichbaoeaaaKTake
import Derived.Test.YtchlnichbaoeaaaKBitsFi
import Derived.Test.YtchlnichbaoeaaaTrFF
set_option linter.unusedVariables false
set_option linter.unusedSimpArgs false
namespace Go.Proofs.Ytchlnichbaoeaaa
open Go Go.Eng Go.IntWalk
variable {S : Nat → Prop} {h : Eng.Heap}

/-- The reader when F bytes of ys are fed, A bits of them taken. -/
def rdr (ys : List Int) (F A : Nat) : XBits := ((ys.take F).drop (A / 8), ((A % 8 : Nat) : Int), (A : Int), ())

theorem rdr_len {ys : List Int} {F A : Nat} (hF : F ≤ ys.length) : (rdr ys F A).1.length = F - A / 8 := by
  show ((ys.take F).drop (A / 8)).length = _
  rw [List.length_drop, List.length_take]; omega

theorem rdr_valid {ys : List Int} {F A : Nat} (hF : F ≤ ys.length) (hl : ys.length ≤ 1000) (hA : A ≤ 8 * F) : vbits (rdr ys F A).1.length (rdr ys F A).2.1 (rdr ys F A).2.2.1 := by
  rw [rdr_len hF]
  show 0 ≤ ((A % 8 : Nat) : Int) ∧ _
  refine ⟨by omega, by show ((A % 8 : Nat) : Int) ≤ 7; omega, ?_, by omega, by show 0 ≤ (A : Int); omega, by show (A : Int) ≤ _; omega, ?_⟩
  · show ((A % 8 : Nat) : Int) = 0 ∨ _
    omega
  · show (A : Int).tmod 8 = ((A % 8 : Nat) : Int)
    rw [Int.tmod_eq_emod_of_nonneg (by omega)]; omega

theorem rdr_feed {ys : List Int} {F A n : Nat} (hA : A ≤ 8 * F) (hF : F + n ≤ ys.length) : (ys.take F).drop (A / 8) ++ (ys.drop F).take n = (ys.take (F + n)).drop (A / 8) := by
  have e : ys.take (F + n) = ys.take F ++ (ys.drop F).take n := by rw [List.take_add]
  rw [e, List.drop_append_of_le_length (by rw [List.length_take]; omega)]

theorem rdr_skip {ys : List Int} {F A n : Nat} : skipX (rdr ys F A) (n : Int) = rdr ys F (A + n) := by
  unfold skipX rdr
  have e1 : ((((A % 8 : Nat) : Int) + (n : Int)) / 8).toNat = (A % 8 + n) / 8 := by omega
  have e2 : (((A % 8 : Nat) : Int) + (n : Int)) % 8 = (((A + n) % 8 : Nat) : Int) := by omega
  simp only [e1, e2, List.drop_drop]
  have e3 : A / 8 + (A % 8 + n) / 8 = (A + n) / 8 := by omega
  rw [e3]
  have e4 : (A : Int) + (n : Int) = ((A + n : Nat) : Int) := by omega
  rw [e4]

theorem bitAt_drop {xs : List Int} {d i : Nat} : bitAt (xs.drop d) i = bitAt xs (8 * d + i) := by
  unfold bitAt
  rw [List.getD_eq_getElem?_getD, List.getD_eq_getElem?_getD, List.getElem?_drop, show d + i / 8 = (8 * d + i) / 8 by omega, show (8 * d + i) % 8 = i % 8 by omega]

theorem bitAt_take {xs : List Int} {F i : Nat} (h : i / 8 < F) : bitAt (xs.take F) i = bitAt xs i := by
  unfold bitAt
  rw [List.getD_eq_getElem?_getD, List.getD_eq_getElem?_getD, List.getElem?_take, if_pos h]

theorem numAt_rdr {ys : List Int} {F A : Nat} : ∀ {n : Nat}, A + n ≤ 8 * F → numAt ((ys.take F).drop (A / 8)) (A % 8) n = numAt ys A n
  | 0, _ => rfl
  | n + 1, h => by
    rw [numAt, numAt, numAt_rdr (by omega), bitAt_drop, show 8 * (A / 8) + (A % 8 + n) = A + n by omega, bitAt_take (by omega)]

theorem rdr_take {ys : List Int} {F A n : Nat} (hF : F ≤ ys.length) (hl : ys.length ≤ 1000) (hA : A ≤ 8 * F) (hn : n ≤ 32) :
    ans_BitsTake (rdr ys F A) (n : Int) = if A + n ≤ 8 * F then (true, numAt ys A n, rdr ys F (A + n)) else (false, 0, rdr ys F A) := by
  have hv := rdr_valid hF hl hA
  have hh : hasX (rdr ys F A) (n : Int) ↔ A + n ≤ 8 * F := by
    unfold hasX
    rw [rdr_len hF]
    show (n : Int) ≤ 8 * ((F - A / 8 : Nat) : Int) - ((A % 8 : Nat) : Int) ∧ (A : Int) + n ≤ _ ↔ _
    omega
  unfold ans_BitsTake
  rw [if_pos hv]
  by_cases h : A + n ≤ 8 * F
  · have : ¬ ((n : Int) < 0 ∨ 32 < (n : Int) ∨ ¬ hasX (rdr ys F A) (n : Int)) := by
      rintro (h1 | h1 | h1)
      · omega
      · omega
      · exact h1 (hh.2 h)
    rw [if_neg this, if_pos h, rdr_skip]
    have e : numAt (rdr ys F A).1 (rdr ys F A).2.1.toNat (n : Int).toNat = numAt ys A n := by
      show numAt ((ys.take F).drop (A / 8)) ((A % 8 : Nat) : Int).toNat (n : Int).toNat = _
      rw [Int.toNat_natCast, Int.toNat_natCast, numAt_rdr h]
    rw [e]
  · rw [if_pos (.inr (.inr fun h1 => h (hh.1 h1))), if_neg h]

theorem wf_i64 {n : Int} (h : -9223372036854775808 ≤ n ∧ n ≤ 9223372036854775807) : (Lit.int .i64 n).wf = true := by
  have e1 : IntKind.i64.min = -9223372036854775808 := by rfl
  have e2 : IntKind.i64.max = 9223372036854775807 := by rfl
  simp [Lit.wf, e1, e2]; exact h

set_option maxRecDepth 100000 in
set_option maxHeartbeats 8000000 in
theorem k_FnFeed (hi : Eng.Inv S h) (a0 : Option Addr) (c0 : Nat) (xs0 : List Int) (hx0 : HInts h .u8 a0 xs0) (hl0 : xs0.length ≤ maxLen) (hw0 : ∀ x ∈ xs0, (Lit.int .u8 x).wf = true) (a1 : Option Addr) (c1 : Nat) (xs1 : List Int) (hx1 : HInts h .u8 a1 xs1) (hl1 : xs1.length ≤ maxLen) (hw1 : ∀ x ∈ xs1, (Lit.int .u8 x).wf = true) :
    CallsH Try.prog S F_laws_FnFeed #[.slice a0 xs0.length c0, .slice a1 xs1.length c1] h (fun v _ => v = .bool true) := by
  refine run_laws_FnFeed (vs := [.slice a0 xs0.length c0, .slice a1 xs1.length c1]) ⟨rfl, rfl, trivial⟩ hi ?_
  simp (maxSteps := 4000000) only [t_laws_FnFeed, Tr.wp, mksW, callW, Ex.ev, coerce, toInt_int, toBool_bool, slL_sl, slC_sl, slA_sl, toAddr_ptr, ptrOf_ptr, isNil_sl, isNil_ptr, it_and, it_or, it_int, optN_int, optN_nl, cmpI, arith, Cst.val, SV.den, resShs, resV, resSV, resVals, newVars, runCells, exSh, allSh, cellsAre, storeW, List.flatMap_cons, List.flatMap_nil, List.replicate_one, List.getD_cons_zero, List.getD_cons_succ, List.getElem?_cons_zero, List.getElem?_cons_succ, decide_eq_true_eq, decide_eq_false_iff_not, List.map_cons, List.map_nil, List.cons_append, List.nil_append, List.append_nil, List.length_cons, List.length_nil, Nat.zero_add, Nat.add_zero, and_true, true_and, if_true, if_false, Bool.false_eq_true]
  refine ⟨fun _ => trivial, fun hsm => ?_⟩
  have hs : xs0.length ≤ 1048576 ∧ xs1.length ≤ 1048576 := by simp at hsm; omega
  have hw : ∀ x ∈ xs1, 0 ≤ x ∧ x ≤ 255 := fun x hx => by
    have := hw1 x hx
    have e1 : IntKind.u8.min = 0 := by rfl
    have e2 : IntKind.u8.max = 255 := by rfl
    simpa [Lit.wf, e1, e2] using this
  refine (k_DrawCrc hi hx0 hs.1).mono ?_
  rintro _ h1 ⟨z, u, ys, rfl, hyl, OY, NY, s1⟩
  obtain ⟨ab, cb, rfl, hcb, hxb⟩ := Part.ints OY
  refine ⟨_, _, _, _, rfl, ?_⟩
  refine (k_lwCut (hi.sub s1) hxb hcb (by omega) (hx1.sub s1) hs.2 hw 1 (by omega)).mono ?_
  rintro _ h2 ⟨vs, ds, OV, CH, hfl, hdl, s2⟩
  obtain ⟨av, cv, rfl, hcv, hxv⟩ := OV.vals
  have hvl := CH.1
  refine ⟨_, _, _, rfl, ?_⟩
  have s02 := s1.trans s2
  have hsum : ∀ k, ((ds.take k).flatten).length ≤ ys.length := fun k => by
    have e := congrArg List.length hfl
    rw [← List.take_append_drop k ds, List.flatten_append, List.length_append] at e
    omega
  refine ⟨fun us h' => ∃ (F A k : Nat) (a : Option Addr) (c : Nat), us = [.int .i64 (8 * (F : Int)), .int .i64 A, .int .i64 k, .slice a (rdr ys F A).1.length c, .int .i64 (rdr ys F A).2.1, .int .i64 (rdr ys F A).2.2.1] ∧ k ≤ 255 ∧ F = ((ds.take k).flatten).length ∧ A ≤ 8 * F ∧ Part .u8 h' (.slice a (rdr ys F A).1.length c) (rdr ys F A).1 ∧ Eng.Sub h2 h',
    fun us _ => 300 - (toInt (us.getD 2 undef)).toNat, ⟨0, 0, 0, none, 0, rfl, by omega, rfl, by omega, Part.nil, fun _ _ e => e⟩, ?_⟩
  rintro fed at_ k held l c p q h' ⟨F, A, k', a', c', hx2, hk, hF, hA, PT, sb⟩
  simp only [List.cons.injEq, Value.int.injEq, Value.slice.injEq, true_and, and_true] at hx2
  obtain ⟨rfl, rfl, rfl, ⟨rfl, rfl, rfl⟩, rfl, rfl⟩ := hx2
  have hFl0 : F ≤ ys.length := by rw [hF]; exact hsum k'
  obtain ⟨k, rfl⟩ : ∃ k, k = k' := ⟨_, rfl⟩
  refine ⟨fun hgo => ⟨fun hlt => ?_, fun hge _ => ?_⟩, fun hend => ⟨fun heq => ?_, fun hne => ?_⟩⟩
  · have hlt2 : k < ds.length := by omega
    have hdk : ds[k]? = some ds[k] := List.getElem?_eq_getElem hlt2
    obtain ⟨ad, cd, hv1, hp1⟩ := CH.get hdk
    obtain ⟨g1, g2⟩ := (hxv.sub sb).cell hv1
    have ecell : (((av.getD default).add ((k : Int).toNat * 1)).add 0).add 0 = (av.getD default).add k := by
      rw [Int.toNat_natCast, Nat.mul_one, add_add, add_add, Nat.add_zero]
    obtain ⟨ad', cd', e1, _, hxd⟩ := hp1.ints
    simp only [Value.slice.injEq] at e1
    obtain ⟨rfl, _, rfl⟩ := e1
    have htk : (ds.take (k + 1)).flatten = (ds.take k).flatten ++ ds[k] := by
      rw [List.take_add_one, hdk, List.flatten_append]; simp
    have hF2 : F + ds[k].length = ((ds.take (k + 1)).flatten).length := by rw [htk, List.length_append, hF]
    have hFl : F + ds[k].length ≤ ys.length := by rw [hF2]; exact hsum (k + 1)
    have hpre : ds[k] = (ys.drop F).take ds[k].length := by
      have e2 : ys = (ds.take k).flatten ++ (ds[k] ++ (ds.drop (k + 1)).flatten) := by
        rw [← List.append_assoc, ← htk, ← List.flatten_append, List.take_append_drop, hfl]
      rw [e2, hF, List.drop_left', List.take_left']
      · rfl
      · rfl
    obtain ⟨a9, c9, e9, _, hx9⟩ := PT.ints
    simp only [Value.slice.injEq] at e9
    obtain ⟨rfl, _, rfl⟩ := e9
    refine ⟨by simpa using g2, by omega, hlt, ad, ds[k].length, cd, by rw [ecell]; exact g1, ?_⟩
    refine (k_impl_BitsFeed (hi.sub (s02.trans sb)) _ ad _ cd (rdr ys F A).1 ds[k] _ _ hx9 (hxd.sub sb) (by rw [rdr_len hFl0]; omega) (by omega)).mono ?_
    rintro _ h4 ⟨a4, l4, c4, p4, q4, zs, rfl, P4, N4, s4, hz⟩
    rw [if_pos (rdr_valid hFl0 (by omega) hA)] at hz
    obtain ⟨rfl, rfl, rfl⟩ := hz
    have hfeed : feedX (rdr ys F A).1 ds[k] = (rdr ys (F + ds[k].length) A).1 := by
      unfold feedX
      rw [if_pos (by rw [rdr_len hFl0]; omega)]
      show (ys.take F).drop (A / 8) ++ ds[k] = _
      conv => lhs; rw [hpre]
      exact rdr_feed hA hFl
    rw [hfeed] at P4
    obtain ⟨a8, c8, e8, _, _⟩ := P4.ints
    simp only [Value.slice.injEq] at e8
    obtain ⟨rfl, rfl, rfl⟩ := e8
    have SX := sb.trans s4
    have PT2 := P4
    have hA2 : A ≤ 8 * (F + ds[k].length) := by omega
    obtain ⟨g3, g4⟩ := (hxv.sub SX).cell hv1
    refine ⟨_, _, _, _, _, rfl, by simpa using g4, by omega, hlt, ad, ds[k].length, cd, by rw [ecell]; exact g3, fun _ => ?_⟩
    have wf8 : IntKind.i64.wrap (8 * (F : Int) + IntKind.i64.wrap (8 * ((ds[k].length : Nat) : Int))) = 8 * ((F + ds[k].length : Nat) : Int) := by
      rw [i64_in (8 * ((ds[k].length : Nat) : Int)) (by omega), i64_in _ (by omega)]; omega
    rw [wf8]
    refine (k_lwAt (hi.sub (s02.trans SX)) (hx1.sub (s02.trans SX)) hs.2 hw k (by omega)).mono ?_
    rintro _ hq ⟨⟨x, rfl, x0, x1⟩, eq⟩
    rw [eq]
    refine ⟨_, rfl, ?_⟩
    obtain ⟨n, hn⟩ := Int.eq_ofNat_of_zero_le (show 0 ≤ x.tmod 20 by rw [Int.tmod_eq_emod_of_nonneg x0]; omega)
    have hn20 : n < 20 := by rw [Int.tmod_eq_emod_of_nonneg x0] at hn; omega
    rw [hn]
    have hT := rdr_take (n := n) hFl (by omega) hA2 (by omega)
    refine (g_impl_BitsTake (hi.sub (s02.trans SX)) (x := rdr ys (F + ds[k].length) A) (tBits_mkO PT2) (by show (rdr ys (F + ds[k].length) A).1.length ≤ 1048576; rw [rdr_len hFl]; omega) n (wf_i64 (by omega))).mono ?_
    rintro v3 h3 ⟨O3, N3, s3⟩
    rw [hT] at O3
    have S3 := SX.trans s3
    have i3 := hi.sub (s02.trans S3)
    have wd : IntKind.i64.wrap (8 * ((F + ds[k].length : Nat) : Int) - (A : Int)) = 8 * ((F + ds[k].length : Nat) : Int) - A := i64_in _ (by omega)
    by_cases hok : A + n ≤ 8 * (F + ds[k].length)
    · rw [if_pos hok] at O3
      obtain ⟨a5, c5, rfl⟩ := tBitRes_F (tBitRes.OR O3)
      have P5 := tBitRes_invO O3
      have hv5 := rdr_valid (ys := ys) (F := F + ds[k].length) (A := A + n) hFl (by omega) (by omega)
      refine ⟨_, _, _, _, _, _, _, rfl, fun _ => ?_, fun hbad => ?_⟩
      · refine (k_spec_ValidBits i3 a5 (rdr ys (F + ds[k].length) (A + n)).1.length c5 (rdr ys (F + ds[k].length) (A + n)).2.1 (rdr ys (F + ds[k].length) (A + n)).2.2.1).mono ?_
        rintro _ hq ⟨rfl, eq⟩
        rw [eq]
        refine ⟨_, rfl, fun _ => ?_, fun hb => ?_⟩
        · refine (k_lwOne i3 _).mono ?_
          rintro _ hq ⟨rfl, eq⟩
          rw [eq]
          have wu : IntKind.i64.wrap ((A : Int) + IntKind.i64.wrap ((n : Int) * (if true = true then 1 else 0))) = ((A + n : Nat) : Int) := by
            rw [if_pos rfl, Int.mul_one, i64_in (n : Int) (by omega), i64_in _ (by omega)]; omega
          refine ⟨_, rfl, fun _ => ⟨fun hne => ?_, fun _ => ⟨fun _ => ?_, fun h => by cases h⟩⟩⟩
          · exfalso
            have hne2 : ((((A + n : Nat) : Int)) != IntKind.i64.wrap ((A : Int) + IntKind.i64.wrap ((n : Int) * (if true = true then 1 else 0)))) = true := hne
            rw [wu] at hne2
            simp at hne2
          · have w1 : IntKind.i64.wrap ((n : Int) - 1) = (n : Int) - 1 := i64_in _ (by omega)
            rw [w1]
            refine ⟨fun us h' => ∃ j : Nat, us = [.int .u64 (numAt ys (A + j) (n - j)), .int .i64 ((j : Int) - 1)] ∧ j ≤ n ∧ h' = h3, fun us _ => (toInt (us.getD 1 undef) + 1).toNat, ⟨n, by rw [Nat.sub_self]; rfl, by omega, rfl⟩, ?_⟩
            rintro x y h'' ⟨j, hx3, hj, eq3⟩
            subst eq3
            obtain ⟨rfl, rfl⟩ : x = numAt ys (A + j) (n - j) ∧ y = (j : Int) - 1 := by simpa using hx3
            refine ⟨fun hge => ?_, fun hlt => ?_⟩
            · obtain ⟨m, rfl⟩ : ∃ m, j = m + 1 := ⟨j - 1, by omega⟩
              have w2 : IntKind.i64.wrap ((A : Int) + (((m + 1 : Nat) : Int) - 1)) = ((A + m : Nat) : Int) := by rw [i64_in _ (by omega)]; omega
              have w3 : IntKind.i64.wrap (((A + m : Nat) : Int).tdiv 8) = (((A + m) / 8 : Nat) : Int) := by rw [Int.tdiv_eq_ediv_of_nonneg (by omega)]; exact i64_in _ (by omega)
              have w4 : ((A + m : Nat) : Int).tmod 8 = (((A + m) % 8 : Nat) : Int) := by rw [Int.tmod_eq_emod_of_nonneg (by omega)]; omega
              have w5 : IntKind.u64.wrap (((A + m) % 8 : Nat) : Int) = (((A + m) % 8 : Nat) : Int) := u64_in _ (by omega)
              have hlt8 : (A + m) / 8 < ys.length := by omega
              obtain ⟨g1, g2⟩ := ((hxb.sub s2).sub S3).cell (List.getElem?_eq_getElem hlt8)
              rw [w2, w3, w4, w5]
              refine ⟨by simpa using g2, by omega, by omega, ys[(A + m) / 8], by simp only [Int.toNat_natCast, Nat.mul_one, add_add, Nat.add_zero]; exact g1, by simp; omega, ?_⟩
              have m1 : min (((A + m) % 8 : Nat) : Int).toNat IntKind.u8.bits = (A + m) % 8 := by
                have : IntKind.u8.bits = 8 := rfl
                rw [this]; omega
              have e1 : ys.getD ((A + m) / 8) 0 = ys[(A + m) / 8] := by simp [List.getD, List.getElem?_eq_getElem hlt8]
              have hbt : (IntKind.u64.wrap (ys[(A + m) / 8].fdiv (2 ^ ((A + m) % 8)))).tmod 2 = bitAt ys (A + m) := by
                rw [bitAt, e1, IntKind.wrap_u64, Int.tmod_eq_emod_of_nonneg (by omega)]; omega
              have hbit := bitAt_le (xs := ys) (i := A + m)
              obtain ⟨k2, hk2⟩ : ∃ k2, n - (m + 1) = k2 := ⟨_, rfl⟩
              have hk3 : n - m = k2 + 1 := by omega
              have lt := numAt_lt (xs := ys) (a := A + (m + 1)) (n := k2)
              have hp : (2 : Int) ^ k2 ≤ 2 ^ 32 := by
                rw [pow_cast, pow_cast]; exact_mod_cast Nat.pow_le_pow_right (by decide) (by omega)
              have hp32 : (2 : Int) ^ 32 = 4294967296 := by decide
              rw [m1, hbt, hk2]
              have w6 : IntKind.u64.wrap (IntKind.u64.wrap (2 * numAt ys (A + (m + 1)) k2) + bitAt ys (A + m)) = numAt ys (A + m) (k2 + 1) := by
                rw [u64_in (2 * numAt ys (A + (m + 1)) k2) (by omega), u64_in _ (by omega), numAt_low, Nat.add_assoc]
              have w7 : IntKind.i64.wrap (((m + 1 : Nat) : Int) - 1 - 1) = (m : Int) - 1 := by rw [i64_in _ (by omega)]; omega
              rw [w6, w7]
              refine ⟨⟨m, ?_, by omega, ?_⟩, ?_⟩
              · rw [hk3]
              · rfl
              · show (toInt (Value.int .i64 ((m : Int) - 1)) + 1).toNat < (toInt (Value.int .i64 (((m + 1 : Nat) : Int) - 1)) + 1).toNat
                rw [toInt_int, toInt_int]; omega
            · obtain rfl : j = 0 := by omega
              rw [Nat.add_zero, Nat.sub_zero]
              have wn : IntKind.i64.wrap ((A : Int) + (n : Int)) = ((A + n : Nat) : Int) := by rw [i64_in _ (by omega)]; omega
              have wk : IntKind.i64.wrap ((k : Int) + 1) = ((k + 1 : Nat) : Int) := by rw [i64_in _ (by omega)]; omega
              rw [wn, wk]
              refine ⟨fun hne => ?_, fun _ _ => ⟨⟨F + ds[k].length, A + n, k + 1, a5, c5, rfl, by omega, hF2, by omega, P5, S3⟩, by simp only [List.getD_cons_succ, List.getD_cons_zero, toInt_int]; omega⟩⟩
              exfalso
              have hne2 : (numAt ys A n != numAt ys A n) = true := hne
              simp at hne2
        · exfalso
          have hb2 : (!!decide (vbits (rdr ys (F + ds[k].length) (A + n)).1.length (rdr ys (F + ds[k].length) (A + n)).2.1 (rdr ys (F + ds[k].length) (A + n)).2.2.1)) = false := hb
          simp [hv5] at hb2
      · exfalso
        have hb2 : (!!true == decide ((n : Int) ≤ IntKind.i64.wrap (8 * ((F + ds[k].length : Nat) : Int) - (A : Int)))) = false := hbad
        rw [wd] at hb2
        simp at hb2
        omega
    · rw [if_neg hok] at O3
      obtain ⟨a5, c5, rfl⟩ := tBitRes_F (tBitRes.OR O3)
      have P5 := tBitRes_invO O3
      have hv5 := rdr_valid (ys := ys) (F := F + ds[k].length) (A := A) hFl (by omega) (by omega)
      refine ⟨_, _, _, _, _, _, _, rfl, fun _ => ?_, fun hbad => ?_⟩
      · refine (k_spec_ValidBits i3 a5 (rdr ys (F + ds[k].length) (A)).1.length c5 (rdr ys (F + ds[k].length) (A)).2.1 (rdr ys (F + ds[k].length) (A)).2.2.1).mono ?_
        rintro _ hq ⟨rfl, eq⟩
        rw [eq]
        refine ⟨_, rfl, fun _ => ?_, fun hb => ?_⟩
        · refine (k_lwOne i3 _).mono ?_
          rintro _ hq ⟨rfl, eq⟩
          rw [eq]
          have wu : IntKind.i64.wrap ((A : Int) + IntKind.i64.wrap ((n : Int) * (if false = true then 1 else 0))) = (A : Int) := by
            rw [if_neg (by simp), Int.mul_zero, i64_in 0 (by omega), Int.add_zero, i64_in _ (by omega)]
          have wk : IntKind.i64.wrap ((k : Int) + 1) = ((k + 1 : Nat) : Int) := by rw [i64_in _ (by omega)]; omega
          refine ⟨_, rfl, fun _ => ⟨fun hne => ?_, fun _ => ⟨fun h => (by cases h), fun _ _ => ?_⟩⟩⟩
          · exfalso
            have hne2 : ((A : Int) != IntKind.i64.wrap ((A : Int) + IntKind.i64.wrap ((n : Int) * (if false = true then 1 else 0)))) = true := hne
            rw [wu] at hne2
            simp at hne2
          · rw [wk]
            exact ⟨⟨F + ds[k].length, A, k + 1, a5, c5, rfl, by omega, hF2, by omega, P5, S3⟩, by simp only [List.getD_cons_succ, List.getD_cons_zero, toInt_int]; omega⟩
        · exfalso
          have hb2 : (!!decide (vbits (rdr ys (F + ds[k].length) A).1.length (rdr ys (F + ds[k].length) A).2.1 (rdr ys (F + ds[k].length) A).2.2.1)) = false := hb
          simp [hv5] at hb2
      · exfalso
        have hb2 : (!!false == decide ((n : Int) ≤ IntKind.i64.wrap (8 * ((F + ds[k].length : Nat) : Int) - (A : Int)))) = false := hbad
        rw [wd] at hb2
        simp at hb2
        omega
  · have hF2 : F = ((ds.take (k + 1)).flatten).length := by
      rw [hF, List.take_of_length_le (show ds.length ≤ k by omega), List.take_of_length_le (show ds.length ≤ k + 1 by omega)]
    have hFl := hFl0
    have SX := sb
    have PT2 := PT
    have hA2 := hA
    have hk40 : k < 40 := by simp at hgo; omega
    refine (k_lwAt (hi.sub (s02.trans SX)) (hx1.sub (s02.trans SX)) hs.2 hw k (by omega)).mono ?_
    rintro _ hq ⟨⟨x, rfl, x0, x1⟩, eq⟩
    rw [eq]
    refine ⟨_, rfl, ?_⟩
    obtain ⟨n, hn⟩ := Int.eq_ofNat_of_zero_le (show 0 ≤ x.tmod 20 by rw [Int.tmod_eq_emod_of_nonneg x0]; omega)
    have hn20 : n < 20 := by rw [Int.tmod_eq_emod_of_nonneg x0] at hn; omega
    rw [hn]
    have hT := rdr_take (n := n) hFl (by omega) hA2 (by omega)
    refine (g_impl_BitsTake (hi.sub (s02.trans SX)) (x := rdr ys F A) (tBits_mkO PT2) (by show (rdr ys F A).1.length ≤ 1048576; rw [rdr_len hFl]; omega) n (wf_i64 (by omega))).mono ?_
    rintro v3 h3 ⟨O3, N3, s3⟩
    rw [hT] at O3
    have S3 := SX.trans s3
    have i3 := hi.sub (s02.trans S3)
    have wd : IntKind.i64.wrap (8 * ((F : Nat) : Int) - (A : Int)) = 8 * ((F : Nat) : Int) - A := i64_in _ (by omega)
    by_cases hok : A + n ≤ 8 * (F)
    · rw [if_pos hok] at O3
      obtain ⟨a5, c5, rfl⟩ := tBitRes_F (tBitRes.OR O3)
      have P5 := tBitRes_invO O3
      have hv5 := rdr_valid (ys := ys) (F := F) (A := A + n) hFl (by omega) (by omega)
      refine ⟨_, _, _, _, _, _, _, rfl, fun _ => ?_, fun hbad => ?_⟩
      · refine (k_spec_ValidBits i3 a5 (rdr ys (F) (A + n)).1.length c5 (rdr ys (F) (A + n)).2.1 (rdr ys (F) (A + n)).2.2.1).mono ?_
        rintro _ hq ⟨rfl, eq⟩
        rw [eq]
        refine ⟨_, rfl, fun _ => ?_, fun hb => ?_⟩
        · refine (k_lwOne i3 _).mono ?_
          rintro _ hq ⟨rfl, eq⟩
          rw [eq]
          have wu : IntKind.i64.wrap ((A : Int) + IntKind.i64.wrap ((n : Int) * (if true = true then 1 else 0))) = ((A + n : Nat) : Int) := by
            rw [if_pos rfl, Int.mul_one, i64_in (n : Int) (by omega), i64_in _ (by omega)]; omega
          refine ⟨_, rfl, fun _ => ⟨fun hne => ?_, fun _ => ⟨fun _ => ?_, fun h => by cases h⟩⟩⟩
          · exfalso
            have hne2 : ((((A + n : Nat) : Int)) != IntKind.i64.wrap ((A : Int) + IntKind.i64.wrap ((n : Int) * (if true = true then 1 else 0)))) = true := hne
            rw [wu] at hne2
            simp at hne2
          · have w1 : IntKind.i64.wrap ((n : Int) - 1) = (n : Int) - 1 := i64_in _ (by omega)
            rw [w1]
            refine ⟨fun us h' => ∃ j : Nat, us = [.int .u64 (numAt ys (A + j) (n - j)), .int .i64 ((j : Int) - 1)] ∧ j ≤ n ∧ h' = h3, fun us _ => (toInt (us.getD 1 undef) + 1).toNat, ⟨n, by rw [Nat.sub_self]; rfl, by omega, rfl⟩, ?_⟩
            rintro x y h'' ⟨j, hx3, hj, eq3⟩
            subst eq3
            obtain ⟨rfl, rfl⟩ : x = numAt ys (A + j) (n - j) ∧ y = (j : Int) - 1 := by simpa using hx3
            refine ⟨fun hge => ?_, fun hlt => ?_⟩
            · obtain ⟨m, rfl⟩ : ∃ m, j = m + 1 := ⟨j - 1, by omega⟩
              have w2 : IntKind.i64.wrap ((A : Int) + (((m + 1 : Nat) : Int) - 1)) = ((A + m : Nat) : Int) := by rw [i64_in _ (by omega)]; omega
              have w3 : IntKind.i64.wrap (((A + m : Nat) : Int).tdiv 8) = (((A + m) / 8 : Nat) : Int) := by rw [Int.tdiv_eq_ediv_of_nonneg (by omega)]; exact i64_in _ (by omega)
              have w4 : ((A + m : Nat) : Int).tmod 8 = (((A + m) % 8 : Nat) : Int) := by rw [Int.tmod_eq_emod_of_nonneg (by omega)]; omega
              have w5 : IntKind.u64.wrap (((A + m) % 8 : Nat) : Int) = (((A + m) % 8 : Nat) : Int) := u64_in _ (by omega)
              have hlt8 : (A + m) / 8 < ys.length := by omega
              obtain ⟨g1, g2⟩ := ((hxb.sub s2).sub S3).cell (List.getElem?_eq_getElem hlt8)
              rw [w2, w3, w4, w5]
              refine ⟨by simpa using g2, by omega, by omega, ys[(A + m) / 8], by simp only [Int.toNat_natCast, Nat.mul_one, add_add, Nat.add_zero]; exact g1, by simp; omega, ?_⟩
              have m1 : min (((A + m) % 8 : Nat) : Int).toNat IntKind.u8.bits = (A + m) % 8 := by
                have : IntKind.u8.bits = 8 := rfl
                rw [this]; omega
              have e1 : ys.getD ((A + m) / 8) 0 = ys[(A + m) / 8] := by simp [List.getD, List.getElem?_eq_getElem hlt8]
              have hbt : (IntKind.u64.wrap (ys[(A + m) / 8].fdiv (2 ^ ((A + m) % 8)))).tmod 2 = bitAt ys (A + m) := by
                rw [bitAt, e1, IntKind.wrap_u64, Int.tmod_eq_emod_of_nonneg (by omega)]; omega
              have hbit := bitAt_le (xs := ys) (i := A + m)
              obtain ⟨k2, hk2⟩ : ∃ k2, n - (m + 1) = k2 := ⟨_, rfl⟩
              have hk3 : n - m = k2 + 1 := by omega
              have lt := numAt_lt (xs := ys) (a := A + (m + 1)) (n := k2)
              have hp : (2 : Int) ^ k2 ≤ 2 ^ 32 := by
                rw [pow_cast, pow_cast]; exact_mod_cast Nat.pow_le_pow_right (by decide) (by omega)
              have hp32 : (2 : Int) ^ 32 = 4294967296 := by decide
              rw [m1, hbt, hk2]
              have w6 : IntKind.u64.wrap (IntKind.u64.wrap (2 * numAt ys (A + (m + 1)) k2) + bitAt ys (A + m)) = numAt ys (A + m) (k2 + 1) := by
                rw [u64_in (2 * numAt ys (A + (m + 1)) k2) (by omega), u64_in _ (by omega), numAt_low, Nat.add_assoc]
              have w7 : IntKind.i64.wrap (((m + 1 : Nat) : Int) - 1 - 1) = (m : Int) - 1 := by rw [i64_in _ (by omega)]; omega
              rw [w6, w7]
              refine ⟨⟨m, ?_, by omega, ?_⟩, ?_⟩
              · rw [hk3]
              · rfl
              · show (toInt (Value.int .i64 ((m : Int) - 1)) + 1).toNat < (toInt (Value.int .i64 (((m + 1 : Nat) : Int) - 1)) + 1).toNat
                rw [toInt_int, toInt_int]; omega
            · obtain rfl : j = 0 := by omega
              rw [Nat.add_zero, Nat.sub_zero]
              have wn : IntKind.i64.wrap ((A : Int) + (n : Int)) = ((A + n : Nat) : Int) := by rw [i64_in _ (by omega)]; omega
              have wk : IntKind.i64.wrap ((k : Int) + 1) = ((k + 1 : Nat) : Int) := by rw [i64_in _ (by omega)]; omega
              rw [wn, wk]
              refine ⟨fun hne => ?_, fun _ _ => ⟨⟨F, A + n, k + 1, a5, c5, rfl, by omega, hF2, by omega, P5, S3⟩, by simp only [List.getD_cons_succ, List.getD_cons_zero, toInt_int]; omega⟩⟩
              exfalso
              have hne2 : (numAt ys A n != numAt ys A n) = true := hne
              simp at hne2
        · exfalso
          have hb2 : (!!decide (vbits (rdr ys (F) (A + n)).1.length (rdr ys (F) (A + n)).2.1 (rdr ys (F) (A + n)).2.2.1)) = false := hb
          simp [hv5] at hb2
      · exfalso
        have hb2 : (!!true == decide ((n : Int) ≤ IntKind.i64.wrap (8 * ((F : Nat) : Int) - (A : Int)))) = false := hbad
        rw [wd] at hb2
        simp at hb2
        omega
    · rw [if_neg hok] at O3
      obtain ⟨a5, c5, rfl⟩ := tBitRes_F (tBitRes.OR O3)
      have P5 := tBitRes_invO O3
      have hv5 := rdr_valid (ys := ys) (F := F) (A := A) hFl (by omega) (by omega)
      refine ⟨_, _, _, _, _, _, _, rfl, fun _ => ?_, fun hbad => ?_⟩
      · refine (k_spec_ValidBits i3 a5 (rdr ys (F) (A)).1.length c5 (rdr ys (F) (A)).2.1 (rdr ys (F) (A)).2.2.1).mono ?_
        rintro _ hq ⟨rfl, eq⟩
        rw [eq]
        refine ⟨_, rfl, fun _ => ?_, fun hb => ?_⟩
        · refine (k_lwOne i3 _).mono ?_
          rintro _ hq ⟨rfl, eq⟩
          rw [eq]
          have wu : IntKind.i64.wrap ((A : Int) + IntKind.i64.wrap ((n : Int) * (if false = true then 1 else 0))) = (A : Int) := by
            rw [if_neg (by simp), Int.mul_zero, i64_in 0 (by omega), Int.add_zero, i64_in _ (by omega)]
          have wk : IntKind.i64.wrap ((k : Int) + 1) = ((k + 1 : Nat) : Int) := by rw [i64_in _ (by omega)]; omega
          refine ⟨_, rfl, fun _ => ⟨fun hne => ?_, fun _ => ⟨fun h => (by cases h), fun _ _ => ?_⟩⟩⟩
          · exfalso
            have hne2 : ((A : Int) != IntKind.i64.wrap ((A : Int) + IntKind.i64.wrap ((n : Int) * (if false = true then 1 else 0)))) = true := hne
            rw [wu] at hne2
            simp at hne2
          · rw [wk]
            exact ⟨⟨F, A, k + 1, a5, c5, rfl, by omega, hF2, by omega, P5, S3⟩, by simp only [List.getD_cons_succ, List.getD_cons_zero, toInt_int]; omega⟩
        · exfalso
          have hb2 : (!!decide (vbits (rdr ys (F) A).1.length (rdr ys (F) A).2.1 (rdr ys (F) A).2.2.1)) = false := hb
          simp [hv5] at hb2
      · exfalso
        have hb2 : (!!false == decide ((n : Int) ≤ IntKind.i64.wrap (8 * ((F : Nat) : Int) - (A : Int)))) = false := hbad
        rw [wd] at hb2
        simp at hb2
        omega
  · refine (k_impl_ValidBits (hi.sub (s02.trans sb)) held (rdr ys F A).1.length c (rdr ys F A).2.1 (rdr ys F A).2.2.1).mono ?_
    rintro _ hq ⟨rfl, eq⟩
    refine ⟨_, rfl, fun _ => ?_⟩
    rw [decide_eq_true (rdr_valid hFl0 (by omega) hA)]
  · exfalso
    have hne2 : ((A : Int) == (A : Int)) = false := hne
    simp at hne2
end Go.Proofs.Ytchlnichbaoeaaa
