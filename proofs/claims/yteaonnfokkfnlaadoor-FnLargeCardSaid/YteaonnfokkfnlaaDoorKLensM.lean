import Derived.Test.YteaonnfokkfnlaaDoorKRdL
import Derived.Test.YteaonnfokkfnlaaDoorKAs2
import Derived.Test.YteaonnfokkfnlaaDoorTrMa
import Derived.Test.YteaonnfokkfnlaaDoorKTable
import Derived.Test.YteaonnfokkfnlaaDoorKRdL2
import Derived.Test.YteaonnfokkfnlaaDoorCutimplmachinelens
set_option linter.unusedVariables false
set_option linter.unusedSimpArgs false
namespace Go.Proofs.YteaonnfokkfnlaaDoor
open Go Go.Eng Go.IntWalk
section
variable {S : Shared} {h h0 : Eng.Heap}

/-! ### The program's machine -/
/-- The machine's fields behind its place. -/
structure MC where
  w : Value
  out : Value
  rm : Int
  last : Bool
  l : Value
  d : Value
def machO (a : Option Addr) (c : Nat) (bs : List Int) (p : Int) (m : MC) (T : TypeId) : Obj :=
  .cells #[.slice a bs.length c, .int .i64 p, m.w, m.out, .int .i64 m.rm, .bool m.last, m.l, m.d] T

/-- The machine stands in block bm, made behind h0. -/
structure MAt (h0 h : Eng.Heap) (bm : Nat) (a : Option Addr) (c : Nat) (bs : List Int) (p : Int) (m : MC) (T : TypeId) : Prop where
  hb : h bm = some (machO a c bs p m T)
  nb : h0 bm = none
  sb : Eng.Sub h0 h

/-- The program's errors, as they are laid. -/
structure Errs (h : Eng.Heap) : Prop where
  e2 : hcell h ⟨1, 0, none⟩ = some (.int .i64 2)
  e3 : hcell h ⟨0, 0, none⟩ = some (.int .i64 3)
theorem Errs.sub {h' : Eng.Heap} (H : Errs h) (s : Eng.Sub h h') : Errs h' := ⟨hcell_sub s H.e2, hcell_sub s H.e3⟩

/-- An error of class k (0: none). -/
def errI (k : Int) : Value := if k = 0 then .nilIface else .iface tCl (.agg #[.int .i64 k])
theorem errI_nil {k : Int} : isNilV (errI k) = decide (k = 0) := by
  unfold errI; split
  · rename_i h; simp [isNilV, h]
  · rename_i h; simp [isNilV, h]
theorem errI_if {k : Int} : ifOf (errI k) = errI k := by unfold errI; split <;> rfl
theorem errI_zero : errI 0 = .nilIface := rfl
theorem errI_ne {k : Int} (h : k ≠ 0) : errI k = .iface tCl (.agg #[.int .i64 k]) := if_neg h

theorem MAt.keep {h' : Eng.Heap} {bm : Nat} {a : Option Addr} {c : Nat} {bs : List Int} {p q : Int} {m : MC} {T : TypeId} (H : MAt h0 h bm a c bs p m T) (e : h' = upd h bm (machO a c bs q m T)) : MAt h0 h' bm a c bs q m T := by
  subst e
  exact ⟨upd_same, H.nb, fun y o hy => by rw [upd_ne (fun e => by rw [e, H.nb] at hy; cases hy)]; exact H.sb y o hy⟩

section
variable {bm : Nat} {a : Option Addr} {c : Nat} {bs : List Int} {m : MC} {T : TypeId}

theorem mach_ld {h : Eng.Heap} {p : Int} (hb : h bm = some (machO a c bs p m T)) : hcell h ⟨bm, 0, none⟩ = some (.slice a bs.length c) ∧ hcell h ⟨bm, 1, none⟩ = some (.int .i64 p) ∧ hcell h ⟨bm, 2, none⟩ = some m.w ∧ hcell h ⟨bm, 3, none⟩ = some m.out ∧ hcell h ⟨bm, 4, none⟩ = some (.int .i64 m.rm) ∧ hcell h ⟨bm, 5, none⟩ = some (.bool m.last) ∧ hcell h ⟨bm, 6, none⟩ = some m.l ∧ hcell h ⟨bm, 7, none⟩ = some m.d := by
  simp [hcell, hb, machO]
theorem mach_set1 {h : Eng.Heap} {p q : Int} (hb : h bm = some (machO a c bs p m T)) : hset h ⟨bm, 1, none⟩ (.int .i64 q) = upd h bm (machO a c bs q m T) := by
  rw [hset_cells' hb]; rfl
theorem mach_ok {h : Eng.Heap} {p : Int} (hb : h bm = some (machO a c bs p m T)) (hs : ¬ S bm) {i : Nat} {v : Value} (hc : hcell h ⟨bm, i, none⟩ = some v) : okCell S h ⟨bm, i, none⟩ := ⟨⟨_, hc⟩, by simp [hfrozen, hb, machO], hs⟩

theorem bit_and {x : Int} {k : Nat} (hx : 0 ≤ x ∧ x < 256) (hk : k < 8) : IntKind.i64.wrap (Go.bits .and .u8 (Int.fdiv x (2 ^ min k IntKind.u8.bits)) 1) = x.fdiv (2 ^ k) % 2 := by
  have e : min k IntKind.u8.bits = k := by
    have : IntKind.u8.bits = 8 := rfl
    rw [this]; omega
  rw [e, and1_u8, i64_in _ (by omega)]

theorem k_mbit (hi : Eng.Inv S h0) (hx : HInts h0 .u8 a bs) (L : bs.length ≤ 1048576) (p : Nat) (hp : p ≤ 8 * bs.length) (M : MAt h0 h bm a c bs p m T) :
    CallsH Tryd.prog S F_impl_machine__bit #[.pointer (some ⟨bm, 0, none⟩)] h (fun v h' => (p = 8 * bs.length ∧ v = .int .i64 (-1) ∧ h' = h) ∨ (p < 8 * bs.length ∧ v = .int .i64 (bitAt bs p) ∧ h' = upd h bm (machO a c bs ((p + 1 : Nat) : Int) m T))) := by
  have hsb : ¬ S bm := fun hs => hi bm hs M.nb
  refine run_impl_machine__bit (vs := [.pointer (some ⟨bm, 0, none⟩)]) ⟨rfl, trivial⟩ (hi.sub M.sb) ?_
  simp only [t_impl_machine__bit, Tr.wp, mksW, callW, Ex.ev, coerce, toInt_int, toBool_bool, slL_sl, slC_sl, slA_sl, toAddr_ptr, ptrOf_ptr, isNil_sl, isNil_ptr, it_and, it_or, it_int, optN_int, optN_nl, cmpI, arith, Cst.val, SV.den, resShs, resV, resSV, resVals, newVars, runCells, exSh, allSh, cellsAre, storeW, List.flatMap_cons, List.flatMap_nil, List.replicate_one, List.getD_cons_zero, List.getD_cons_succ, List.getElem?_cons_zero, List.getElem?_cons_succ, decide_eq_true_eq, decide_eq_false_iff_not, List.map_cons, List.map_nil, List.cons_append, List.nil_append, List.append_nil, List.length_cons, List.length_nil, Nat.zero_add, Nat.add_zero, and_true, true_and, if_true, if_false, Bool.false_eq_true, addr_add]
  obtain ⟨g0, g1, _⟩ := mach_ld M.hb
  have w8 : IntKind.i64.wrap (8 * (bs.length : Int)) = 8 * (bs.length : Int) := i64_in _ (by omega)
  have w1 : IntKind.i64.wrap ((p : Int) + 1) = ((p + 1 : Nat) : Int) := by rw [i64_in _ (by omega)]; omega
  have wd : IntKind.i64.wrap ((p : Int).tdiv 8) = ((p / 8 : Nat) : Int) := by rw [Int.tdiv_eq_ediv_of_nonneg (by omega)]; exact i64_in _ (by omega)
  have wm : (p : Int).tmod 8 = ((p % 8 : Nat) : Int) := by rw [Int.tmod_eq_emod_of_nonneg (by omega)]; omega
  refine ⟨by simp, p, g1, by simp, _, _, _, g0, fun hge => ?_, fun hlt => ?_⟩
  · rw [w8] at hge
    exact .inl (by omega)
  · rw [w8] at hlt
    have hlt : p < 8 * bs.length := by omega
    have hpl : p / 8 < bs.length := by omega
    refine ⟨by simp, p, g1, by simp, p, g1, by simp, mach_ok M.hb hsb g1, ?_⟩
    rw [w1, mach_set1 M.hb]
    have M' := M.keep (q := ((p + 1 : Nat) : Int)) rfl
    obtain ⟨k0, _⟩ := mach_ld M'.hb
    obtain ⟨x1, x2⟩ := (hx.sub M'.sb).cell (List.getElem?_eq_getElem hpl)
    rw [wd, wm]
    refine ⟨by simp, _, _, _, k0, by simpa using x2, by omega, by omega, bs[p / 8], by simp only [Int.toNat_natCast, Nat.mul_one, add_add, Nat.add_zero]; exact x1, by omega, .inr ⟨hlt, ?_, rfl⟩⟩
    rw [Int.toNat_natCast]
    have e : bs.getD (p / 8) 0 = bs[p / 8] := by simp [List.getD, List.getElem?_eq_getElem hpl]
    have e2 : min (p % 8) IntKind.u8.bits = p % 8 := by
      have : IntKind.u8.bits = 8 := rfl
      rw [this]; omega
    rw [e2, and1_u8, i64_in _ (by omega), bitAt, e]

theorem or_i64 {v : Int} {i : Nat} (b : Int) (h0 : 0 ≤ v) (h1 : v < 2 ^ i) (hb : 0 ≤ b ∧ b ≤ 1) (hi : i < 62) : Go.bits .or .i64 v (IntKind.i64.wrap (b * 2 ^ i)) = v + b * 2 ^ i := by
  have hp : (2 : Int) ^ i ≤ 2 ^ 61 := by
    rw [pow_cast, pow_cast]
    exact_mod_cast Nat.pow_le_pow_right (by decide) (show i ≤ 61 by omega)
  have hp0 : (0 : Int) < 2 ^ i := Int.pow_pos (by decide)
  have hb1 : 0 ≤ b * 2 ^ i ∧ b * 2 ^ i ≤ 2 ^ 61 := by
    obtain rfl | rfl : b = 0 ∨ b = 1 := by omega
    · rw [Int.zero_mul]; omega
    · rw [Int.one_mul]; omega
  have hw : IntKind.i64.wrap (b * 2 ^ i) = b * 2 ^ i := i64_in _ (by omega)
  have h := or_u64 b h0 h1 hb (show i < 64 by omega)
  have hX : IntKind.u64.wrap ((BitVec.ofInt 64 v ||| BitVec.ofInt 64 (b * 2 ^ i)).toNat : Int) = v + b * 2 ^ i := h
  rw [hw]
  show IntKind.i64.wrap ((BitVec.ofInt 64 v ||| BitVec.ofInt 64 (b * 2 ^ i)).toNat : Int) = _
  have hl := (BitVec.ofInt 64 v ||| BitVec.ofInt 64 (b * 2 ^ i)).isLt
  generalize (BitVec.ofInt 64 v ||| BitVec.ofInt 64 (b * 2 ^ i)).toNat = X at hX hl ⊢
  rw [u64_in _ (by omega)] at hX
  rw [hX]; exact i64_in _ (by omega)

set_option maxHeartbeats 1000000 in
theorem k_number (hi : Eng.Inv S h0) (G : Errs h0) (hx : HInts h0 .u8 a bs) (L : bs.length ≤ 1048576) (p : Nat) (hp : p ≤ 8 * bs.length) (n : Nat) (hn : n ≤ 32) (M : MAt h0 h bm a c bs p m T) :
    CallsH Tryd.prog S F_impl_machine__number #[.pointer (some ⟨bm, 0, none⟩), .int .i64 n] h (fun v h' => v = .tuple #[.int .i64 (tk bs n ⟨p, 0⟩).2, errI (tk bs n ⟨p, 0⟩).1.k] ∧ h' = upd h bm (machO a c bs (tk bs n ⟨p, 0⟩).1.i m T)) := by
  refine run_impl_machine__number (vs := [.pointer (some ⟨bm, 0, none⟩), .int .i64 n]) ⟨rfl, rfl, trivial⟩ (hi.sub M.sb) ?_
  simp only [t_impl_machine__number, Tr.wp, mksW, callW, Ex.ev, coerce, toInt_int, toBool_bool, slL_sl, slC_sl, slA_sl, toAddr_ptr, ptrOf_ptr, isNil_sl, isNil_ptr, it_and, it_or, it_int, optN_int, optN_nl, cmpI, arith, Cst.val, SV.den, resShs, resV, resSV, resVals, newVars, runCells, exSh, allSh, cellsAre, storeW, List.flatMap_cons, List.flatMap_nil, List.replicate_one, List.getD_cons_zero, List.getD_cons_succ, List.getElem?_cons_zero, List.getElem?_cons_succ, decide_eq_true_eq, decide_eq_false_iff_not, List.map_cons, List.map_nil, List.cons_append, List.nil_append, List.append_nil, List.length_cons, List.length_nil, Nat.zero_add, Nat.add_zero, and_true, true_and, if_true, if_false, Bool.false_eq_true, addr_add]
  obtain ⟨g0, g1, _⟩ := mach_ld M.hb
  have w8 : IntKind.i64.wrap (8 * (bs.length : Int)) = 8 * (bs.length : Int) := i64_in _ (by omega)
  have ws : IntKind.i64.wrap (8 * (bs.length : Int) - (p : Int)) = 8 * (bs.length : Int) - (p : Int) := i64_in _ (by omega)
  refine ⟨by simp, _, _, _, g0, by simp, p, g1, fun hgt => ?_, fun hle => ?_⟩
  · rw [w8, ws] at hgt
    have e : tk bs n ⟨(p : Int), 0⟩ = (⟨(p : Int), 2⟩, 0) := by unfold tk; rw [if_pos rfl, if_pos (by simp only; omega)]
    rw [e]
    exact ⟨2, (G.sub M.sb).e2, rfl, (upd_self M.hb).symm⟩
  · rw [w8, ws] at hle
    have e : tk bs n ⟨(p : Int), 0⟩ = (⟨(p : Int) + n, 0⟩, numAt bs p n) := by unfold tk; rw [if_pos rfl, if_neg (by simp only; omega)]; rfl
    rw [e]
    refine ⟨fun us h' => ∃ j : Nat, us = [.int .i64 (numAt bs p j), .int .i64 j] ∧ j ≤ n ∧ h' = upd h bm (machO a c bs ((p + j : Nat) : Int) m T), fun us _ => n - (toInt (us.getD 1 undef)).toNat, ⟨0, rfl, by omega, (upd_self M.hb).symm⟩, ?_⟩
    rintro x y h' ⟨j, hx1, hj, rfl⟩
    obtain ⟨rfl, rfl⟩ : x = numAt bs p j ∧ y = j := by simpa using hx1
    refine ⟨fun hlt => ?_, fun hge => ?_⟩
    · have hjn : j < n := by omega
      refine (k_mbit hi hx L (p + j) (by omega) (M.keep rfl)).mono ?_
      rintro _ h2 (⟨e1, _, _⟩ | ⟨_, rfl, rfl⟩)
      · omega
      · rw [upd_upd]
        have lt := numAt_lt (xs := bs) (a := p) (n := j)
        have m64 : min (j : Int).toNat IntKind.i64.bits = j := by
          have : IntKind.i64.bits = 64 := rfl
          rw [this]; omega
        have w2 : IntKind.i64.wrap ((j : Int) + 1) = ((j + 1 : Nat) : Int) := by rw [i64_in _ (by omega)]; omega
        refine ⟨_, rfl, by omega, ?_⟩
        rw [m64, or_i64 _ lt.1 lt.2 bitAt_le (by omega), w2]
        exact ⟨⟨j + 1, rfl, by omega, rfl⟩, by simp only [List.getD_cons_succ, List.getD_cons_zero, toInt_int, Int.toNat_natCast]; omega⟩
    · obtain rfl : j = n := by omega
      refine ⟨rfl, ?_⟩
      rw [show ((p + j : Nat) : Int) = (p : Int) + (j : Int) by omega]
end
end

section
variable {S : Shared} {h h0 : Eng.Heap}

/-- The bits of a number of bits. -/
theorem num_bit {bs : List Int} {p : Nat} : ∀ {n l : Nat}, l < n → (((numAt bs p n).toNat / 2 ^ l % 2 : Nat) : Int) = bitAt bs (p + l)
  | 0, l, h => by omega
  | n + 1, l, h => by
    have lt := numAt_lt (xs := bs) (a := p) (n := n)
    have hb := bitAt_le (xs := bs) (i := p + n)
    obtain ⟨B, hB⟩ := Int.eq_ofNat_of_zero_le hb.1
    obtain ⟨N, hN⟩ := Int.eq_ofNat_of_zero_le lt.1
    have e : (numAt bs p (n + 1)).toNat = N + 2 ^ n * B := by
      have e1 : numAt bs p (n + 1) = ((N + 2 ^ n * B : Nat) : Int) := by
        rw [numAt, hN, hB]; push_cast; rw [Int.mul_comm]
      rw [e1, Int.toNat_natCast]
    have hN2 : N < 2 ^ n := by
      have := lt.2; rw [hN, pow_cast] at this; exact_mod_cast this
    have hp : 0 < 2 ^ n := Nat.two_pow_pos n
    rw [e]
    by_cases hl : l = n
    · subst hl
      rw [Nat.add_mul_div_left _ _ hp, Nat.div_eq_of_lt hN2, hB]; omega
    · have ih := num_bit (bs := bs) (p := p) (n := n) (l := l) (by omega)
      rw [hN, Int.toNat_natCast] at ih
      rw [← ih]
      obtain ⟨d, rfl⟩ : ∃ d, n = l + (d + 1) := ⟨n - l - 1, by omega⟩
      rw [Nat.pow_add, Nat.mul_assoc, Nat.add_mul_div_left _ _ (Nat.two_pow_pos l), Nat.pow_succ]
      have : 2 ^ d * 2 * B = 2 * (2 ^ d * B) := by rw [Nat.mul_comm (2 ^ d) 2, Nat.mul_assoc]
      rw [this]; omega

section
variable {bm : Nat} {a : Option Addr} {c : Nat} {bs : List Int} {m : MC} {T : TypeId}

set_option maxHeartbeats 4000000 in
theorem k_mnext {bt : Nat} {TT PP : List (Nat × Nat)} {a2 : Option Addr} {c2 : Nat} {cs : List (Nat × Nat)} (hi : Eng.Inv S h0) (hx : HInts h0 .u8 a bs) (L : bs.length ≤ 1048576) (p : Nat) (hp : p ≤ 8 * bs.length) (M : MAt h0 h bm a c bs p m T)
    (TV : TabV h0 h bt TT PP a2 c2 (Em cs cs.length) (Ym cs cs.length)) (hTl : TT.length ≤ 20000) (hM : ∀ c ∈ cs, c.1 ≤ 15) (hbt : bt ≠ bm) (hbl : blkOf (.slice a2 TT.length c2) ≠ some bm) (hsl : Ym cs cs.length 0 0 = 0) (hcl : cs.length ≤ 1000) :
    CallsH Tryd.prog S F_impl_codeTable__next #[.pointer (some ⟨bt, 0, none⟩), .func (.func F_impl_machine__bit) #[.pointer (some ⟨bm, 0, none⟩)] #[]] h (fun v h' => v = nres (nxB bs cs p) ∧ ∃ p' : Nat, p' ≤ 8 * bs.length ∧ h' = upd h bm (machO a c bs p' m T) ∧ ((nxB bs cs p).1 = 1 → (p' : Int) = p + (nxB bs cs p).2.2)) := by
  refine run_impl_codeTable__next (vs := [.pointer (some ⟨bt, 0, none⟩), .func (.func F_impl_machine__bit) #[.pointer (some ⟨bm, 0, none⟩)] #[]]) ⟨rfl, rfl, trivial⟩ (hi.sub TV.sb) ?_
  simp only [t_impl_codeTable__next, Tr.wp, mksW, callW, Ex.ev, coerce, toInt_int, toBool_bool, slL_sl, slC_sl, slA_sl, toAddr_ptr, ptrOf_ptr, isNil_sl, isNil_ptr, it_and, it_or, it_int, optN_int, optN_nl, cmpI, arith, Cst.val, SV.den, resShs, resV, resSV, resVals, newVars, runCells, exSh, allSh, cellsAre, storeW, List.flatMap_cons, List.flatMap_nil, List.replicate_one, List.getD_cons_zero, List.getD_cons_succ, List.getElem?_cons_zero, List.getElem?_cons_succ, decide_eq_true_eq, decide_eq_false_iff_not, List.map_cons, List.map_nil, List.cons_append, List.nil_append, List.append_nil, List.length_cons, List.length_nil, Nat.zero_add, Nat.add_zero, and_true, true_and, if_true, if_false, Bool.false_eq_true]
  obtain ⟨s0, q0, hT0⟩ := TV.ti.get TV.ti.root
  have hk0 := (List.getElem?_eq_some_iff.1 hT0).1
  obtain ⟨g1, g2, g3⟩ := TV.cell hT0
  obtain ⟨n, hn⟩ : ∃ n, n = look bs p := ⟨_, rfl⟩
  obtain ⟨b, hb⟩ : ∃ b, b = (numAt bs p n).toNat := ⟨_, rfl⟩
  have hn15 : n ≤ 15 := hn ▸ look_le
  have enx : nxB bs cs p = nxt cs b (n + 1) 0 := by unfold nxB; rw [← hn, ← hb]
  rw [enx]
  refine ⟨by simp, _, _, _, by simpa [addr_add] using TV.ld, by simpa using g3, by simp, by omega, (s0 : Int), (q0 : Int), ⟨by simpa [add_add] using g1, by simpa [add_add] using g2⟩, ?_⟩
  have tv : ∀ q : Int, TabV h0 (upd h bm (machO a c bs q m T)) bt TT PP a2 c2 (Em cs cs.length) (Ym cs cs.length) := fun q =>
    ⟨by obtain ⟨TY, hb⟩ := TV.hb; exact ⟨TY, (upd_ne hbt).trans hb⟩, TV.ow.keep fun z hz => upd_ne fun e => hbl (e ▸ hz), TV.nw, TV.nb, TV.ne, TV.ti, (M.keep (q := q) rfl).sb⟩
  refine ⟨fun us h' => ∃ (l k s q : Nat), us = [.int .i64 l, .int .i64 s, .int .i64 q] ∧ TT[k]? = some (s, q) ∧ PP[k]? = some (l, b % 2 ^ l) ∧ l ≤ n ∧ h' = upd h bm (machO a c bs ((p + l : Nat) : Int) m T) ∧ nxt cs b (n + 1) 0 = nxt cs b (n + 1 - l) l, fun us _ => n - (toInt (us.getD 0 undef)).toNat, ⟨0, 0, s0, q0, rfl, hT0, by rw [TV.ti.root]; simp [Nat.mod_one], by omega, (upd_self M.hb).symm, rfl⟩, ?_⟩
  rintro x y z h' ⟨l, k, s, q, hx1, hT, hP, hl, rfl, hnx⟩
  obtain ⟨rfl, rfl, rfl⟩ : x = l ∧ y = s ∧ z = q := by simpa using hx1
  obtain ⟨f, hf⟩ : ∃ f, n + 1 - l = f + 1 := ⟨n - l, by omega⟩
  have hnx2 : nxt cs b (n + 1) 0 = (if s ≠ 0 then (1, (s : Int) - 1, (l : Int)) else if Ec cs l (b % 2 ^ l) then nxt cs b f (l + 1) else (0, 0, 0)) := by rw [hnx, hf, nxt, ← TV.ti.sym hT hP]
  have hsub := (tv ((p + l : Nat) : Int)).sb
  have hsy : s ≤ cs.length := by
    rw [TV.ti.sym hT hP]
    by_cases h0 : Ym cs cs.length l (b % 2 ^ l) = 0
    · omega
    · obtain ⟨t, ht, _, _, e⟩ := Ym_some h0; omega
  have hpl : p + l ≤ 8 * bs.length := by unfold look at hn; omega
  refine ⟨fun hs => ?_, fun hs => ⟨fun hq => ?_, fun hq => ?_⟩⟩
  · rw [hnx2, if_pos (by omega)]
    refine ⟨?_, p + l, hpl, rfl, fun _ => by simp only; omega⟩
    unfold nres
    simp only
    rw [i64_in _ (by omega)]
  · have hs0 : s = 0 := by omega
    have hq0 : q = 0 := by have : (q : Int) = 0 := beq_iff_eq.1 hq; omega
    have hE : ¬ Ec cs l (b % 2 ^ l) := fun h => by
      have := (TV.ti.ext hT hP).2 (Em_full.2 h)
      exact this hq0
    rw [hnx2, if_neg (by omega), if_neg hE]
    exact ⟨rfl, p + l, hpl, rfl, fun h => by cases h⟩
  · have hs0 : s = 0 := by omega
    have hqn : q ≠ 0 := fun e => by subst e; simp at hq
    have hE : Ec cs l (b % 2 ^ l) := Em_full.1 ((TV.ti.ext hT hP).1 hqn)
    rw [if_neg (by omega), if_pos hE] at hnx2
    obtain ⟨k0, k1⟩ := TV.ti.kid hT hP hqn
    have hkk := (List.getElem?_eq_some_iff.1 k1).1
    rw [TV.ti.len] at hkk
    have hl15 : l < 15 := Em_lt hM hE
    refine ⟨_, _, _, rfl, ?_⟩
    refine (k_mbit hi hx L (p + l) hpl (M.keep (q := ((p + l : Nat) : Int)) rfl)).mono ?_
    rintro _ h4 (⟨e8, rfl, rfl⟩ | ⟨hln, rfl, rfl⟩)
    · refine ⟨_, rfl, fun _ => ?_, fun h => by omega⟩
      have : f = 0 := by unfold look at hn; omega
      rw [hnx2, this]
      exact ⟨rfl, p + l, hpl, rfl, fun h => by cases h⟩
    · rw [upd_upd]
      have hb01 := bitAt_le (xs := bs) (i := p + l)
      have hlt : l < n := by unfold look at hn; omega
      have hbit : bitAt bs (p + l) = ((b / 2 ^ l % 2 : Nat) : Int) := by rw [hb, num_bit hlt]
      rw [hbit] at hb01 ⊢
      refine ⟨_, rfl, fun h => by omega, fun _ => ?_⟩
      have w1 : IntKind.i64.wrap ((q : Int) + ((b / 2 ^ l % 2 : Nat) : Int)) = ((q + b / 2 ^ l % 2 : Nat) : Int) := by rw [i64_in _ (by omega)]; omega
      have w2 : IntKind.i64.wrap ((l : Int) + 1) = ((l + 1 : Nat) : Int) := by rw [i64_in _ (by omega)]; omega
      have hP' : PP[q + b / 2 ^ l % 2]? = some (l + 1, b % 2 ^ (l + 1)) := by
        rw [next_bit]
        rcases (show b / 2 ^ l % 2 = 0 ∨ b / 2 ^ l % 2 = 1 by omega) with h | h <;> rw [h]
        · simpa using k0
        · simpa using k1
      obtain ⟨s', q', hT'⟩ := TV.ti.get hP'
      have TV' := tv ((p + l + 1 : Nat) : Int)
      obtain ⟨g4, g5, g6⟩ := TV'.cell hT'
      rw [w1, w2]
      refine ⟨by simp, _, _, _, by simpa [addr_add] using TV'.ld, by simpa using g6, by omega, by omega, (s' : Int), (q' : Int), ⟨by simp only [Int.toNat_natCast, add_add, Nat.add_zero]; exact g4, by simp only [Int.toNat_natCast, add_add]; exact g5⟩, ⟨l + 1, _, s', q', rfl, hT', hP', by omega, rfl, ?_⟩, by simp only [List.getD_cons_zero, toInt_int]; omega⟩
      rw [hnx2]
      congr 1
      omega

/-- A symbol, by the machine. -/
theorem k_msymbol {bt : Nat} {TT PP : List (Nat × Nat)} {a2 : Option Addr} {c2 : Nat} {cs : List (Nat × Nat)} (hi : Eng.Inv S h0) (G : Errs h0) (hx : HInts h0 .u8 a bs) (L : bs.length ≤ 1048576) (p : Nat) (hp : p ≤ 8 * bs.length) (M : MAt h0 h bm a c bs p m T)
    (TV : TabV h0 h bt TT PP a2 c2 (Em cs cs.length) (Ym cs cs.length)) (hTl : TT.length ≤ 20000) (hM : ∀ c ∈ cs, c.1 ≤ 15) (hbt : bt ≠ bm) (hbl : blkOf (.slice a2 TT.length c2) ≠ some bm) (hsl : Ym cs cs.length 0 0 = 0) (hcl : cs.length ≤ 1000) :
    CallsH Tryd.prog S F_impl_machine__symbol #[.pointer (some ⟨bm, 0, none⟩), .pointer (some ⟨bt, 0, none⟩)] h (fun v h' => v = .tuple #[.int .i64 (sy bs cs ⟨p, 0⟩).2, errI (sy bs cs ⟨p, 0⟩).1.k] ∧ ∃ p' : Nat, p' ≤ 8 * bs.length ∧ h' = upd h bm (machO a c bs p' m T) ∧ ((sy bs cs ⟨p, 0⟩).1.k = 0 → (p' : Int) = (sy bs cs ⟨p, 0⟩).1.i)) := by
  refine run_impl_machine__symbol (vs := [.pointer (some ⟨bm, 0, none⟩), .pointer (some ⟨bt, 0, none⟩)]) ⟨rfl, rfl, trivial⟩ (hi.sub M.sb) ?_
  simp only [t_impl_machine__symbol, Tr.wp, mksW, callW, Ex.ev, coerce, toInt_int, toBool_bool, slL_sl, slC_sl, slA_sl, toAddr_ptr, ptrOf_ptr, isNil_sl, isNil_ptr, it_and, it_or, it_int, optN_int, optN_nl, cmpI, arith, Cst.val, SV.den, resShs, resV, resSV, resVals, newVars, runCells, exSh, allSh, cellsAre, storeW, List.flatMap_cons, List.flatMap_nil, List.replicate_one, List.getD_cons_zero, List.getD_cons_succ, List.getElem?_cons_zero, List.getElem?_cons_succ, decide_eq_true_eq, decide_eq_false_iff_not, List.map_cons, List.map_nil, List.cons_append, List.nil_append, List.append_nil, List.length_cons, List.length_nil, Nat.zero_add, Nat.add_zero, and_true, true_and, if_true, if_false, Bool.false_eq_true]
  refine (k_mnext hi hx L p hp M TV hTl hM hbt hbl hsl hcl).mono ?_
  rintro _ h1 ⟨rfl, p', hp', rfl, hpe⟩
  have hf := nxB_facts (bs := bs) (cs := cs) (i := p)
  have M' := M.keep (q := (p' : Int)) rfl
  have es : sy bs cs ⟨(p : Int), 0⟩ = (⟨(p : Int) + (nxB bs cs p).2.2, if (nxB bs cs p).1 = 2 then 2 else if (nxB bs cs p).1 = 0 then 3 else 0⟩, (nxB bs cs p).2.1) := by unfold sy; rw [if_pos rfl]; rfl
  rw [es]
  obtain ⟨⟨x1, x2, x3⟩, hxx⟩ : ∃ x, nxB bs cs p = x := ⟨_, rfl⟩
  rw [hxx] at hf hpe ⊢
  simp only at hf hpe ⊢
  have ge := G.sub M'.sb
  refine ⟨_, _, _, rfl, fun h1 => ?_, fun h1 => ⟨fun h2 => ?_, fun h2 => ?_⟩⟩
  · obtain rfl : x1 = 0 := beq_iff_eq.1 h1
    obtain ⟨rfl, rfl⟩ : x2 = 0 ∧ x3 = 0 := by rcases hf with hf | hf <;> omega
    exact ⟨3, ge.e3, rfl, p', hp', rfl, fun h => by cases h⟩
  · obtain rfl : x1 = 2 := beq_iff_eq.1 h2
    obtain ⟨rfl, rfl⟩ : x2 = 0 ∧ x3 = 0 := by rcases hf with hf | hf <;> omega
    exact ⟨2, ge.e2, rfl, p', hp', rfl, fun h => by cases h⟩
  · have n0 : x1 ≠ 0 := by simpa using h1
    have n2 : x1 ≠ 2 := by simpa using h2
    obtain rfl : x1 = 1 := by rcases hf with hf | hf <;> omega
    exact ⟨rfl, p', hp', rfl, fun _ => hpe rfl⟩
end
end

section
variable {S : Shared} {h h0 : Eng.Heap}

/-- A block of one cell. -/
def cel (v : Value) (T : TypeId) : Obj := .cells #[v] T
theorem cel_ld {b : Nat} {v : Value} {T : TypeId} (hb : h b = some (cel v T)) : hcell h ⟨b, 0, none⟩ = some v := by simp [hcell, hb, cel]
theorem cel_ok {b : Nat} {v : Value} {T : TypeId} (hb : h b = some (cel v T)) (hs : ¬ S b) : okCell S h ⟨b, 0, none⟩ := ⟨⟨_, cel_ld hb⟩, by simp [hfrozen, hb, cel], hs⟩
theorem cel_set {b : Nat} {v w : Value} {T : TypeId} (hb : h b = some (cel v T)) : hset h ⟨b, 0, none⟩ w = upd h b (cel w T) := by
  rw [hset_cells' hb]; rfl

/-- While lengths are read: the machine, its place kept in block b1, the error in block b2. -/
structure LS (h0 h : Eng.Heap) (b1 b2 bm : Nat) (a : Option Addr) (c : Nat) (bs : List Int) (m : MC) (T T1 T2 : TypeId) (r : Rd) : Prop where
  c1 : h b1 = some (cel (.pointer (some ⟨bm, 0, none⟩)) T1)
  c2 : h b2 = some (cel (errI r.k) T2)
  mt : ∃ p' : Nat, p' ≤ 8 * bs.length ∧ h bm = some (machO a c bs p' m T) ∧ (r.k = 0 → r.i = p')
  n1 : h0 b1 = none
  n2 : h0 b2 = none
  nm : h0 bm = none
  d12 : b1 ≠ b2
  d1m : b1 ≠ bm
  d2m : b2 ≠ bm
  sb : Eng.Sub h0 h

section
variable {b1 b2 bm : Nat} {a : Option Addr} {c : Nat} {bs : List Int} {m : MC} {T T1 T2 : TypeId} {r : Rd}

theorem LS.sub {h' : Eng.Heap} (H : LS h0 h b1 b2 bm a c bs m T T1 T2 r) (s : Eng.Sub h h') : LS h0 h' b1 b2 bm a c bs m T T1 T2 r := by
  obtain ⟨p', h1, h2, h3⟩ := H.mt
  exact ⟨s _ _ H.c1, s _ _ H.c2, ⟨p', h1, s _ _ h2, h3⟩, H.n1, H.n2, H.nm, H.d12, H.d1m, H.d2m, H.sb.trans s⟩
theorem LS.err (H : LS h0 h b1 b2 bm a c bs m T T1 T2 r) {r' : Rd} (hr : r'.k = 0 → r.k = 0 ∧ r'.i = r.i) : LS h0 (upd h b2 (cel (errI r'.k) T2)) b1 b2 bm a c bs m T T1 T2 r' := by
  obtain ⟨p', h1, h2, h3⟩ := H.mt
  exact ⟨(upd_ne H.d12).trans H.c1, upd_same, ⟨p', h1, (upd_ne (Ne.symm H.d2m)).trans h2, fun h => (hr h).2.trans (h3 (hr h).1)⟩, H.n1, H.n2, H.nm, H.d12, H.d1m, H.d2m, fun y o hy => by rw [upd_ne (fun e => by rw [e, H.n2] at hy; cases hy)]; exact H.sb y o hy⟩
/-- Other blocks. -/
def Oth (b2 bm : Nat) (h h' : Eng.Heap) : Prop := ∀ b, b ≠ bm → b ≠ b2 → h' b = h b
theorem Oth.upd2 {v : Obj} : Oth b2 bm h (upd h b2 v) := fun b _ h2 => upd_ne h2
theorem Oth.updm {v : Obj} : Oth b2 bm h (upd h bm v) := fun b h1 _ => upd_ne h1
theorem Oth.trans {h1 h2 : Eng.Heap} (H : Oth b2 bm h h1) (G : Oth b2 bm h1 h2) : Oth b2 bm h h2 := fun b x y => (G b x y).trans (H b x y)

set_option maxHeartbeats 1000000 in
theorem k_get (hi : Eng.Inv S h0) (G : Errs h0) (hx : HInts h0 .u8 a bs) (L : bs.length ≤ 1048576) (ok : okR bs r) (H : LS h0 h b1 b2 bm a c bs m T T1 T2 r) (n : Nat) (hn : n ≤ 32) :
    CallsH Tryd.prog S F_impl_machine__lens_1 #[.int .i64 n, .pointer (some ⟨b2, 0, none⟩), .pointer (some ⟨b1, 0, none⟩)] h (fun v h' => v = .int .i64 (tk bs n r).2 ∧ LS h0 h' b1 b2 bm a c bs m T T1 T2 (tk bs n r).1 ∧ Oth b2 bm h h') := by
  refine run_impl_machine__lens_1 (vs := [.int .i64 n, .pointer (some ⟨b2, 0, none⟩), .pointer (some ⟨b1, 0, none⟩)]) ⟨rfl, rfl, rfl, trivial⟩ (hi.sub H.sb) ?_
  simp only [t_impl_machine__lens_1, Tr.wp, mksW, callW, Ex.ev, coerce, toInt_int, toBool_bool, slL_sl, slC_sl, slA_sl, toAddr_ptr, ptrOf_ptr, isNil_sl, isNil_ptr, it_and, it_or, it_int, optN_int, optN_nl, cmpI, arith, Cst.val, SV.den, resShs, resV, resSV, resVals, newVars, runCells, exSh, allSh, cellsAre, storeW, List.flatMap_cons, List.flatMap_nil, List.replicate_one, List.getD_cons_zero, List.getD_cons_succ, List.getElem?_cons_zero, List.getElem?_cons_succ, decide_eq_true_eq, decide_eq_false_iff_not, List.map_cons, List.map_nil, List.cons_append, List.nil_append, List.append_nil, List.length_cons, List.length_nil, Nat.zero_add, Nat.add_zero, and_true, true_and, if_true, if_false, Bool.false_eq_true, addr_add]
  refine ⟨errI r.k, errI_if, cel_ld H.c2, fun hz => ?_, fun hz _ => ?_⟩
  · rw [errI_if, errI_nil] at hz
    have hk : r.k = 0 := of_decide_eq_true hz
    obtain ⟨p', hp, hm, he⟩ := H.mt
    obtain ⟨i, k⟩ := r
    obtain rfl : k = 0 := hk
    obtain rfl : i = (p' : Int) := he rfl
    have hp2 : ∃ p2 : Nat, p2 ≤ 8 * bs.length ∧ (tk bs n ⟨(p' : Int), 0⟩).1.i = p2 := by
      unfold tk
      rw [if_pos rfl]
      split
      · exact ⟨p', hp, rfl⟩
      · rename_i h; simp only at h; exact ⟨p' + n, by omega, by simp only; omega⟩
    obtain ⟨p2, hp2, e2⟩ := hp2
    refine ⟨_, cel_ld H.c1, (k_number hi G hx L p' hp n hn ⟨hm, H.nm, H.sb⟩).mono ?_⟩
    rintro _ h1 ⟨rfl, rfl⟩
    have hc2 := (upd_ne (o := machO a c bs (tk bs n ⟨(p' : Int), 0⟩).1.i m T) H.d2m).trans H.c2
    refine ⟨_, errI _, errI_if, by rw [errI_if], cel_ok hc2 (fun hs => hi b2 hs H.n2), fun _ => ⟨rfl, ?_, ?_⟩⟩
    · rw [errI_if, cel_set hc2]
      refine ⟨(upd_ne H.d12).trans ((upd_ne H.d1m).trans H.c1), upd_same, ⟨p2, hp2, by rw [← e2]; exact (upd_ne (Ne.symm H.d2m)).trans upd_same, fun _ => e2⟩, H.n1, H.n2, H.nm, H.d12, H.d1m, H.d2m, fun y o hy => ?_⟩
      rw [upd_ne (fun e => by rw [e, H.n2] at hy; cases hy), upd_ne (fun e => by rw [e, H.nm] at hy; cases hy)]; exact H.sb y o hy
    · rw [errI_if, cel_set hc2]
      exact Oth.trans Oth.updm Oth.upd2
  · rw [errI_if, errI_nil] at hz
    have hk : r.k ≠ 0 := of_decide_eq_false hz
    have e : tk bs n r = (r, 0) := by unfold tk; rw [if_neg hk]
    rw [e]
    exact ⟨rfl, H, fun _ _ _ => rfl⟩

/-- The heap of before, with some blocks taken: what is new to it lies apart from them. -/
def mkL (h0 : Eng.Heap) (l : List Nat) : Eng.Heap := fun z => if z ∈ l then some (cel .nilIface 0) else h0 z
theorem mkL_none {l : List Nat} {z : Nat} : mkL h0 l z = none ↔ z ∉ l ∧ h0 z = none := by
  unfold mkL
  by_cases h : z ∈ l
  · rw [if_pos h]; simp [h]
  · rw [if_neg h]; simp [h]
abbrev mk2 (h0 : Eng.Heap) (b1 b2 bm : Nat) : Eng.Heap := mkL h0 [b1, b2, bm]
theorem mk2_none {z : Nat} (H : mk2 h0 b1 b2 bm z = none) : z ≠ bm ∧ z ≠ b2 ∧ z ≠ b1 ∧ h0 z = none := by
  obtain ⟨h1, h2⟩ := mkL_none.1 H
  simp only [List.mem_cons, List.not_mem_nil, or_false, not_or] at h1
  exact ⟨h1.2.2, h1.2.1, h1.1, h2⟩
theorem mk2_mk {z : Nat} (h1 : z ≠ bm) (h2 : z ≠ b2) (h3 : z ≠ b1) (H : h0 z = none) : mk2 h0 b1 b2 bm z = none := mkL_none.2 ⟨by simp [h1, h2, h3], H⟩
theorem NM.base {v : Value} (N : Eng.New (mk2 h0 b1 b2 bm) v) : Eng.New h0 v := fun z hz => (mk2_none (N z hz)).2.2.2
theorem LS.free (H : LS h0 h b1 b2 bm a c bs m T T1 T2 r) {z : Nat} (hz : h z = none) : mk2 h0 b1 b2 bm z = none := by
  obtain ⟨p', _, h2, _⟩ := H.mt
  exact mk2_mk (fun e => by rw [e, h2] at hz; cases hz) (fun e => by rw [e, H.c2] at hz; cases hz) (fun e => by rw [e, H.c1] at hz; cases hz) (sub_none H.sb hz)
theorem LS.new (H : LS h0 h b1 b2 bm a c bs m T T1 T2 r) {z l k : Nat} (hz : h z = none) : Eng.New (mk2 h0 b1 b2 bm) (.slice (some ⟨z, 0, none⟩) l k) := New.of (H.free hz)
theorem LS.app (H : LS h0 h b1 b2 bm a c bs m T T1 T2 r) {v v' : Value} (N : Eng.New (mk2 h0 b1 b2 bm) v) (hr : blkOf v' = blkOf v ∨ Eng.New h v') : Eng.New (mk2 h0 b1 b2 bm) v' := fun z hz => by
  rcases hr with hr | hr
  · exact N z (hr ▸ hz)
  · exact H.free (hr z hz)
theorem LS.kept (H : LS h0 h b1 b2 bm a c bs m T T1 T2 r) {h' : Eng.Heap} {v : Value} (N : Eng.New (mk2 h0 b1 b2 bm) v) (hk : ∀ b, h b ≠ none → blkOf v ≠ some b → h' b = h b) (s : Eng.Sub h0 h') : LS h0 h' b1 b2 bm a c bs m T T1 T2 r := by
  obtain ⟨p', h1, h2, h3⟩ := H.mt
  have e1 := hk b1 (by rw [H.c1]; simp) fun e => (mk2_none (N b1 e)).2.2.1 rfl
  have e2 := hk b2 (by rw [H.c2]; simp) fun e => (mk2_none (N b2 e)).2.1 rfl
  have e3 := hk bm (by rw [h2]; simp) fun e => (mk2_none (N bm e)).1 rfl
  exact ⟨e1.trans H.c1, e2.trans H.c2, ⟨p', h1, e3.trans h2, h3⟩, H.n1, H.n2, H.nm, H.d12, H.d1m, H.d2m, s⟩
theorem NM.keep {h' : Eng.Heap} {k : IntKind} {v : Value} {xs : List Int} (N : Eng.New (mk2 h0 b1 b2 bm) v) (P : Part k h v xs) (O : Oth b2 bm h h') : Part k h' v xs := P.keep fun z hz => O z (mk2_none (N z hz)).1 (mk2_none (N z hz)).2.1

/-- What the machine hands back. -/
def PostM (h0 : Eng.Heap) (bm : Nat) (a : Option Addr) (c : Nat) (bs : List Int) (m : MC) (T : TypeId) (F : Rd × List Int × List Int) (v : Value) (h' : Eng.Heap) : Prop :=
  ∃ u w, v = .tuple #[u, w, errI F.1.k] ∧ (∃ p' : Nat, p' ≤ 8 * bs.length ∧ MAt h0 h' bm a c bs p' m T ∧ (F.1.k = 0 → F.1.i = p')) ∧ (F.1.k = 0 → Part .i64 h' u F.2.1 ∧ Part .i64 h' w F.2.2 ∧ Eng.New h0 u ∧ Eng.New h0 w) ∧ (∃ a1 l1 c1 a2 l2 c2, u = .slice a1 l1 c1 ∧ w = .slice a2 l2 c2)

/-- An end with an error. -/
theorem LS.bad (H : LS h0 h b1 b2 bm a c bs m T T1 T2 r) {F : Rd × List Int × List Int} (hF : F.1.k ≠ 0) {e : Value} (he : e = errI F.1.k) : PostM h0 bm a c bs m T F (.tuple #[.slice none 0 0, .slice none 0 0, e]) h := by
  subst he
  obtain ⟨p', h1, h2, h3⟩ := H.mt
  exact ⟨_, _, rfl, ⟨p', h1, ⟨h2, H.nm, H.sb⟩, fun h => absurd h hF⟩, fun h => absurd h hF, ⟨_, _, _, _, _, _, rfl, rfl⟩⟩

/-- An error of the program's own is put, and handed back. -/
theorem LS.fail (hi : Eng.Inv S h0) (G : Errs h0) (H : LS h0 h b1 b2 bm a c bs m T T1 T2 r) {F : Rd × List Int × List Int} (hF : F.1.k = 3) :
    ∃ x, hcell h ⟨0, 0, none⟩ = some (Value.int .i64 x) ∧ okCell S h ⟨b2, 0, none⟩ ∧ ∃ v, ifOf v = v ∧ hcell (hset h ⟨b2, 0, none⟩ (.iface tCl (.agg (tupOf (.tuple (#[.int .i64 x] ++ tupOf (.tuple #[]))))))) ⟨b2, 0, none⟩ = some v ∧
      PostM h0 bm a c bs m T F (.tuple #[.slice none 0 0, .slice none 0 0, ifOf v]) (hset h ⟨b2, 0, none⟩ (.iface tCl (.agg (tupOf (.tuple (#[.int .i64 x] ++ tupOf (.tuple #[]))))))) := by
  have e3 : (.iface tCl (.agg (tupOf (.tuple (#[.int .i64 3] ++ tupOf (.tuple #[]))))) : Value) = errI (3 : Int) := rfl
  have H' := H.err (r' := ⟨0, 3⟩) (fun h => by cases h)
  refine ⟨3, (G.sub H.sb).e3, cel_ok H.c2 (fun hs => hi b2 hs H.n2), errI 3, errI_if, ?_, ?_⟩
  · rw [e3, cel_set H.c2]; exact cel_ld upd_same
  · rw [e3, cel_set H.c2, errI_if]
    exact H'.bad (by omega) (by rw [hF])

set_option maxRecDepth 100000 in
set_option maxHeartbeats 4000000 in
theorem k_mlE (hi : Eng.Inv S h0) (G : Errs h0) (H : LS h0 h b1 b2 bm a c bs m T T1 T2 r) (hk : r.k = 0) {all : List Int} {aa : Option Addr} {ca : Nat} (P : Part .i64 h (.slice aa all.length ca) all) (N : Eng.New (mk2 h0 b1 b2 bm) (.slice aa all.length ca)) {x3 : Int} (hx3 : 0 ≤ x3 ∧ x3 < 32)
    (hlen : (x3 + 257).toNat + 1 ≤ all.length ∧ all.length ≤ 1000) (K0 K1 K2 K3 K4 K5 : Kt) (e0 e1 e4 e5 e6 e7 e8 e9 e10 e11 e12 e13 e14 : Value) :
    mlE.wp Tryd.prog S noLeaf (PostM h0 bm a c bs m T (endL (x3 + 257).toNat r all)) [e0, e1, .pointer (some ⟨b2, 0, none⟩), .int .i64 x3, e4, e5, e6, e7, e8, e9, e10, e11, e12, e13, e14, .slice aa all.length ca] h [K0, K1, K2, K3, K4, K5] := by
  obtain ⟨n6, rfl⟩ := Int.eq_ofNat_of_zero_le hx3.1
  have w6 : IntKind.i64.wrap ((n6 : Int) + 257) = ((n6 + 257 : Nat) : Int) := by rw [i64_in _ (by omega)]; omega
  have e6 : ((n6 : Int) + 257).toNat = n6 + 257 := by omega
  rw [e6] at hlen ⊢
  simp only [mlE, Tr.wp, mksW, callW, Ex.ev, coerce, toInt_int, toBool_bool, slL_sl, slC_sl, slA_sl, toAddr_ptr, ptrOf_ptr, isNil_sl, isNil_ptr, it_and, it_or, it_int, optN_int, optN_nl, cmpI, arith, Cst.val, SV.den, resShs, resV, resSV, resVals, newVars, runCells, exSh, allSh, cellsAre, storeW, List.flatMap_cons, List.flatMap_nil, List.replicate_one, List.getD_cons_zero, List.getD_cons_succ, List.getElem?_cons_zero, List.getElem?_cons_succ, decide_eq_true_eq, decide_eq_false_iff_not, List.map_cons, List.map_nil, List.cons_append, List.nil_append, List.append_nil, List.length_cons, List.length_nil, Nat.zero_add, Nat.add_zero, and_true, true_and, if_true, if_false, Bool.false_eq_true, addr_add, w6]
  obtain ⟨l1, l2⟩ := hlen
  have e : endL (n6 + 257) r all = (bd (badL (all.take (n6 + 257)) (all.drop (n6 + 257))) r, all.take (n6 + 257), all.drop (n6 + 257)) := if_pos hk
  rw [e]
  obtain ⟨_, _, ei, hca, gi⟩ := P.ints
  cases ei
  obtain ⟨aL, cL, eL, PL, NL, nL⟩ := P.upTo N (n := n6 + 257) (m := n6 + 257) (by omega) (by omega) (by omega)
  obtain ⟨aR, cR, eR, PR, NR⟩ := P.from N (n := n6 + 257) (by omega) hca
  rw [Int.toNat_natCast, eL, eR]
  have lL : (all.take (n6 + 257)).length = n6 + 257 := by rw [List.length_take]; omega
  obtain ⟨_, _, ei, _, gL⟩ := PL.ints
  cases ei
  obtain ⟨_, _, ei, _, gR⟩ := PR.ints
  cases ei
  refine ⟨by omega, by omega, by omega, by omega, by omega, by omega, ?_⟩
  refine (k_impl_HuffKind (hi.sub H.sb) aL cL _ gL).mono ?_
  rintro _ hq ⟨rfl, rfl⟩
  refine ⟨_, rfl, ?_⟩
  refine (k_impl_HuffKind (hi.sub H.sb) aR cR _ gR).mono ?_
  rintro _ hq ⟨rfl, rfl⟩
  refine ⟨_, rfl, ?_⟩
  have g256 : (all.take (n6 + 257))[256]? = some ((all.take (n6 + 257)).getD 256 0) := by simp [List.getD, List.getElem?_take, show 256 < all.length by omega]
  obtain ⟨g1, g2⟩ := gL.cell g256
  have hbad : badL (all.take (n6 + 257)) (all.drop (n6 + 257)) = ((all.take (n6 + 257)).getD 256 0 == 0 || (!(hkind (all.take (n6 + 257)) == 1 || hkind (all.take (n6 + 257)) == 4)) || !(hkind (all.drop (n6 + 257)) == 1 || hkind (all.drop (n6 + 257)) == 4 || hkind (all.drop (n6 + 257)) == 5)) := rfl
  generalize badL (all.take (n6 + 257)) (all.drop (n6 + 257)) = B at hbad ⊢
  generalize (all.take (n6 + 257)).getD 256 0 = y at g1 hbad
  refine ⟨by rw [isNil_sl, nL (by omega)]; rfl, by simp, by simp only [slL_sl, lL]; omega, y, by simp only [slA_sl, add_add]; exact g1, ?_⟩
  clear gi g1 g256
  refine ⟨fun hb => ?_, fun hb => ?_⟩
  · have hB : B = true := by
      rw [hbad]
      simp only [bne, decide_eq_true_eq, Bool.decide_eq_true] at hb
      revert hb
      cases (y == 0) <;> cases (hkind (all.take (n6 + 257)) == 1) <;> cases (hkind (all.take (n6 + 257)) == 4) <;> cases (hkind (all.drop (n6 + 257)) == 1) <;> cases (hkind (all.drop (n6 + 257)) == 4) <;> cases (hkind (all.drop (n6 + 257)) == 5) <;> simp
    subst hB
    exact H.fail hi G (by simp [bd, hk])
  · have hB : B = false := by
      rw [hbad]
      simp only [bne, decide_eq_true_eq, Bool.decide_eq_true] at hb
      revert hb
      cases (y == 0) <;> cases (hkind (all.take (n6 + 257)) == 1) <;> cases (hkind (all.take (n6 + 257)) == 4) <;> cases (hkind (all.drop (n6 + 257)) == 1) <;> cases (hkind (all.drop (n6 + 257)) == 4) <;> cases (hkind (all.drop (n6 + 257)) == 5) <;> simp
    subst hB
    have H' := H.err (r' := r) (fun h => ⟨hk, rfl⟩)
    rw [hk, errI_zero] at H'
    refine ⟨cel_ok H.c2 (fun hs => hi b2 hs H.n2), .nilIface, rfl, ?_, ?_⟩
    · rw [cel_set H.c2]; exact cel_ld upd_same
    · rw [cel_set H.c2]
      obtain ⟨p', q1, q2, q3⟩ := H'.mt
      have eb : bd false r = r := by unfold bd; rw [if_neg (by simp)]
      rw [eb]
      refine ⟨_, _, by rw [hk]; rfl, ⟨p', q1, ⟨q2, H.nm, H'.sb⟩, q3⟩, fun _ => ⟨NM.keep NL PL Oth.upd2, NM.keep NR PR Oth.upd2, NM.base NL, NM.base NR⟩, ⟨_, _, _, _, _, _, rfl, rfl⟩⟩
end
end

section
variable {S : Shared} {h h0 : Eng.Heap}

section
variable {b1 b2 bm bt : Nat} {a : Option Addr} {c : Nat} {bs : List Int} {m : MC} {T T1 T2 : TypeId} {r : Rd} {TT PP : List (Nat × Nat)} {a2 : Option Addr} {c2 : Nat} {cs : List (Nat × Nat)}

/-- The table of the code of lengths, apart from the machine's blocks. -/
structure Tb (h0 h : Eng.Heap) (b1 b2 bm bt : Nat) (TT PP : List (Nat × Nat)) (a2 : Option Addr) (c2 : Nat) (cs : List (Nat × Nat)) : Prop where
  tv : TabV h0 h bt TT PP a2 c2 (Em cs cs.length) (Ym cs cs.length)
  dt : bt ≠ b1 ∧ bt ≠ b2 ∧ bt ≠ bm
  ds : ∀ z, blkOf (.slice a2 TT.length c2) = some z → z ≠ b1 ∧ z ≠ b2 ∧ z ≠ bm

abbrev mkT (h0 : Eng.Heap) (b1 b2 bm bt : Nat) (a2 : Option Addr) (n c2 : Nat) : Eng.Heap := mkL h0 ([b1, b2, bm, bt] ++ (blkOf (.slice a2 n c2)).toList)
theorem mkT_none {z n : Nat} : mkT h0 b1 b2 bm bt a2 n c2 z = none ↔ z ≠ b1 ∧ z ≠ b2 ∧ z ≠ bm ∧ z ≠ bt ∧ blkOf (.slice a2 n c2) ≠ some z ∧ h0 z = none := by
  rw [mkL_none]
  cases blkOf (.slice a2 n c2) with
  | none => simp [and_assoc]
  | some y => simp [and_assoc, eq_comm]
theorem mkT_base {v : Value} {n : Nat} (N : Eng.New (mkT h0 b1 b2 bm bt a2 n c2) v) : Eng.New h0 v := fun z hz => (mkT_none.1 (N z hz)).2.2.2.2.2
theorem mkT_two {v : Value} {n : Nat} (N : Eng.New (mkT h0 b1 b2 bm bt a2 n c2) v) : Eng.New (mk2 h0 b1 b2 bm) v := fun z hz => by
  have := mkT_none.1 (N z hz)
  exact mk2_mk this.2.2.1 this.2.1 this.1 this.2.2.2.2.2
theorem Tb.free (B : Tb h0 h b1 b2 bm bt TT PP a2 c2 cs) (H : LS h0 h b1 b2 bm a c bs m T T1 T2 r) {z : Nat} (hz : h z = none) : mkT h0 b1 b2 bm bt a2 TT.length c2 z = none := by
  obtain ⟨h1, h2, h3, h4⟩ := mk2_none (H.free hz)
  refine mkT_none.2 ⟨h3, h2, h1, fun e => ?_, fun e => B.tv.ow.held z e hz, h4⟩
  obtain ⟨TY, hb⟩ := B.tv.hb
  rw [e, hb] at hz; cases hz
theorem Tb.new (B : Tb h0 h b1 b2 bm bt TT PP a2 c2 cs) (H : LS h0 h b1 b2 bm a c bs m T T1 T2 r) {z l k : Nat} (hz : h z = none) : Eng.New (mkT h0 b1 b2 bm bt a2 TT.length c2) (.slice (some ⟨z, 0, none⟩) l k) := New.of (B.free H hz)
theorem Tb.app (B : Tb h0 h b1 b2 bm bt TT PP a2 c2 cs) (H : LS h0 h b1 b2 bm a c bs m T T1 T2 r) {v v' : Value} (N : Eng.New (mkT h0 b1 b2 bm bt a2 TT.length c2) v) (hr : blkOf v' = blkOf v ∨ Eng.New h v') : Eng.New (mkT h0 b1 b2 bm bt a2 TT.length c2) v' := fun z hz => by
  rcases hr with hr | hr
  · exact N z (hr ▸ hz)
  · exact B.free H (hr z hz)
theorem Tb.same (B : Tb h0 h b1 b2 bm bt TT PP a2 c2 cs) {h' : Eng.Heap} (h1 : h' bt = h bt) (h2 : ∀ z, blkOf (.slice a2 TT.length c2) = some z → h' z = h z) (s : Eng.Sub h0 h') : Tb h0 h' b1 b2 bm bt TT PP a2 c2 cs :=
  ⟨⟨by obtain ⟨TY, hb⟩ := B.tv.hb; exact ⟨TY, h1.trans hb⟩, B.tv.ow.keep h2, B.tv.nw, B.tv.nb, B.tv.ne, B.tv.ti, s⟩, B.dt, B.ds⟩
theorem Tb.sub (B : Tb h0 h b1 b2 bm bt TT PP a2 c2 cs) {h' : Eng.Heap} (s : Eng.Sub h h') : Tb h0 h' b1 b2 bm bt TT PP a2 c2 cs := by
  refine B.same ?_ (fun z hz => ?_) (B.tv.sb.trans s)
  · obtain ⟨TY, hb⟩ := B.tv.hb
    rw [hb]; exact s _ _ hb
  · have := B.tv.ow.held z hz
    cases e : h z with
    | none => exact absurd e this
    | some o => exact s _ _ e
theorem Tb.oth (B : Tb h0 h b1 b2 bm bt TT PP a2 c2 cs) {h' : Eng.Heap} (O : Oth b2 bm h h') (s : Eng.Sub h0 h') : Tb h0 h' b1 b2 bm bt TT PP a2 c2 cs :=
  B.same (O bt B.dt.2.2 B.dt.2.1) (fun z hz => O z (B.ds z hz).2.2 (B.ds z hz).2.1) s
theorem Tb.kept (B : Tb h0 h b1 b2 bm bt TT PP a2 c2 cs) {h' : Eng.Heap} {v : Value} (N : Eng.New (mkT h0 b1 b2 bm bt a2 TT.length c2) v) (hk : ∀ b, h b ≠ none → blkOf v ≠ some b → h' b = h b) (s : Eng.Sub h0 h') : Tb h0 h' b1 b2 bm bt TT PP a2 c2 cs := by
  refine B.same (hk bt ?_ fun e => (mkT_none.1 (N bt e)).2.2.2.1 rfl) (fun z hz => hk z (B.tv.ow.held z hz) fun e => (mkT_none.1 (N z e)).2.2.2.2.1 hz) s
  obtain ⟨TY, hb⟩ := B.tv.hb
  rw [hb]; simp

set_option maxRecDepth 100000 in
set_option maxHeartbeats 4000000 in
theorem k_mlR (hi : Eng.Inv S h0) (G : Errs h0) (H : LS h0 h b1 b2 bm a c bs m T T1 T2 r) (B : Tb h0 h b1 b2 bm bt TT PP a2 c2 cs) {all : List Int} {aa : Option Addr} {ca : Nat} (P : Part .i64 h (.slice aa all.length ca) all) (N : Eng.New (mkT h0 b1 b2 bm bt a2 TT.length c2) (.slice aa all.length ca)) (hl : all.length ≤ 1000) {n3 n5 : Nat} (h3 : n3 < 32) (h5 : n5 < 32) (t : Nat) (ht : t ≤ 1000) (w : Int) {F : Rd × List Int × List Int}
    (hF : r.k ≠ 0 → F.1.k = r.k) (hover : r.k = 0 → n3 + 257 + (n5 + 1) < all.length + t → F.1.k = 3) (K0 K1 K2 K3 K4 K5 K6 : Kt)
    (hgo : r.k = 0 → all.length + t ≤ n3 + 257 + (n5 + 1) → ∀ a' c' h', LS h0 h' b1 b2 bm a c bs m T T1 T2 r → Tb h0 h' b1 b2 bm bt TT PP a2 c2 cs → Part .i64 h' (.slice a' (all ++ List.replicate t w).length c') (all ++ List.replicate t w) → Eng.New (mkT h0 b1 b2 bm bt a2 TT.length c2) (.slice a' (all ++ List.replicate t w).length c') → K4 [.slice a' (all ++ List.replicate t w).length c'] h')
    (e0 e1 e4 e6 e7 e8 e9 e10 e11 e12 e13 e14 e16 e17 e18 : Value) :
    mlR.wp Tryd.prog S noLeaf (PostM h0 bm a c bs m T F) [e0, e1, .pointer (some ⟨b2, 0, none⟩), .int .i64 n3, e4, .int .i64 n5, e6, e7, e8, e9, e10, e11, e12, e13, e14, .slice aa all.length ca, e16, e17, e18, .int .i64 w, .int .i64 t] h [K0, K1, K2, K3, K4, K5, K6] := by
  have w3 : IntKind.i64.wrap ((n3 : Int) + 257) = ((n3 + 257 : Nat) : Int) := by rw [i64_in _ (by omega)]; omega
  have w5 : IntKind.i64.wrap ((n5 : Int) + 1) = ((n5 + 1 : Nat) : Int) := by rw [i64_in _ (by omega)]; omega
  have wt : IntKind.i64.wrap (((n3 + 257 : Nat) : Int) + ((n5 + 1 : Nat) : Int)) = ((n3 + 257 + (n5 + 1) : Nat) : Int) := by rw [i64_in _ (by omega)]; omega
  have ws : IntKind.i64.wrap (((n3 + 257 + (n5 + 1) : Nat) : Int) - (all.length : Int)) = ((n3 + 257 + (n5 + 1) : Nat) : Int) - (all.length : Int) := i64_in _ (by omega)
  simp only [mlR, Tr.wp, mksW, callW, Ex.ev, coerce, toInt_int, toBool_bool, slL_sl, slC_sl, slA_sl, toAddr_ptr, ptrOf_ptr, isNil_sl, isNil_ptr, it_and, it_or, it_int, optN_int, optN_nl, cmpI, arith, Cst.val, SV.den, resShs, resV, resSV, resVals, newVars, runCells, exSh, allSh, cellsAre, storeW, List.flatMap_cons, List.flatMap_nil, List.replicate_one, List.getD_cons_zero, List.getD_cons_succ, List.getElem?_cons_zero, List.getElem?_cons_succ, decide_eq_true_eq, decide_eq_false_iff_not, List.map_cons, List.map_nil, List.cons_append, List.nil_append, List.append_nil, List.length_cons, List.length_nil, Nat.zero_add, Nat.add_zero, and_true, true_and, if_true, if_false, Bool.false_eq_true, addr_add, w3, w5, wt, ws]
  refine ⟨errI r.k, errI_if, cel_ld H.c2, fun hz => ?_, fun hz => ⟨fun hgt => ?_, fun hle => ?_⟩⟩
  · rw [errI_if, errI_nil] at hz
    have hk : r.k ≠ 0 := by simpa using hz
    refine ⟨errI r.k, errI_if, cel_ld H.c2, cel_ok H.c2 (fun hs => hi b2 hs H.n2), errI r.k, errI_if, ?_, ?_⟩
    · rw [errI_if, cel_set H.c2]; exact cel_ld upd_same
    · rw [errI_if, cel_set H.c2]
      have H' := H.err (r' := r) (fun h => ⟨h, rfl⟩)
      exact H'.bad (by rw [hF hk]; exact hk) (by rw [hF hk])
  · rw [errI_if, errI_nil] at hz
    have hk : r.k = 0 := by simpa using hz
    exact H.fail hi G (hover hk (by omega))
  · rw [errI_if, errI_nil] at hz
    have hk : r.k = 0 := by simpa using hz
    have hle2 : all.length + t ≤ n3 + 257 + (n5 + 1) := by omega
    refine ⟨fun us h' => ∃ (i : Nat) (a' : Option Addr) (c' : Nat), us = [.slice a' (all ++ List.replicate i w).length c', .int .i64 i] ∧ i ≤ t ∧ Part .i64 h' (.slice a' (all ++ List.replicate i w).length c') (all ++ List.replicate i w) ∧ Eng.New (mkT h0 b1 b2 bm bt a2 TT.length c2) (.slice a' (all ++ List.replicate i w).length c') ∧ LS h0 h' b1 b2 bm a c bs m T T1 T2 r ∧ Tb h0 h' b1 b2 bm bt TT PP a2 c2 cs,
      fun us _ => t - (toInt (us.getD 1 undef)).toNat, ⟨0, aa, ca, by simp, by omega, by simpa using P, by simpa using N, H, B⟩, ?_⟩
    rintro a1 l1 c1 y h' ⟨i, a2', c2', hx1, hi2, P2, N2, H2, B2⟩
    simp only [List.cons.injEq, Value.int.injEq, Value.slice.injEq, true_and, and_true] at hx1
    obtain ⟨⟨rfl, rfl, rfl⟩, rfl⟩ := hx1
    refine ⟨fun hlt b hnb => ?_, fun hge => ?_⟩
    · have w2 : IntKind.i64.wrap ((i : Int) + 1) = ((i + 1 : Nat) : Int) := by rw [i64_in _ (by omega)]; omega
      have sb : Eng.Sub h' (upd h' b (.cells (ints .i64 [w]) 2)) := Sub.of_upd hnb
      have H3 := H2.sub sb
      have B3 := B2.sub sb
      have hlen : (all ++ List.replicate i w).length = all.length + i := by simp
      refine appW_part (xs := all ++ List.replicate i w) (a := some ⟨b, 0, none⟩) (c := 1) hi H3.sb (P2.sub sb) (mkT_base N2) (ys := [w]) HInts.new (by rw [hlen]; simp only [List.length_singleton]; omega) fun v' h3 o n3 s4 hk4 hr4 => ?_
      have el : (all ++ List.replicate i w) ++ [w] = all ++ List.replicate (i + 1) w := by rw [List.append_assoc, List.replicate_succ']
      rw [el] at o
      have N4 := B3.app H3 N2 hr4
      have H4 := H3.kept (mkT_two N2) hk4 s4
      have B4 := B3.kept N2 hk4 s4
      obtain ⟨a4, c4, rfl, _, _⟩ := o.ints
      simp only [slA_sl, slL_sl, slC_sl, w2]
      exact ⟨⟨i + 1, a4, c4, rfl, by omega, o, N4, H4, B4⟩, by simp only [List.getD_cons_succ, List.getD_cons_zero, toInt_int, Int.toNat_natCast]; omega⟩
    · obtain rfl : i = t := by omega
      exact hgo hk hle2 _ _ _ H2 B2 P2 N2

set_option maxRecDepth 100000 in
set_option maxHeartbeats 4000000 in
theorem k_mlB (hi : Eng.Inv S h0) (G : Errs h0) (hx : HInts h0 .u8 a bs) (L : bs.length ≤ 1048576) (H : LS h0 h b1 b2 bm a c bs m T T1 T2 r) (hk : r.k = 0) (B : Tb h0 h b1 b2 bm bt TT PP a2 c2 cs) (hM : ∀ c ∈ cs, c.1 ≤ 15) (hTl : TT.length ≤ 20000) (hcl : cs.length ≤ 1000)
    {all : List Int} {aa : Option Addr} {ca : Nat} (P : Part .i64 h (.slice aa all.length ca) all) (N : Eng.New (mkT h0 b1 b2 bm bt a2 TT.length c2) (.slice aa all.length ca)) {n3 n5 : Nat} (h3 : n3 < 32) (h5 : n5 < 32) (hl : all.length < n3 + 257 + (n5 + 1)) {F : Rd × List Int × List Int}
    (hF : (lg1 bs cs (n3 + 257 + (n5 + 1)) r all).1.k ≠ 0 → F.1.k = (lg1 bs cs (n3 + 257 + (n5 + 1)) r all).1.k) (K0 K1 K2 K3 K4 K5 : Kt)
    (hgo : (lg1 bs cs (n3 + 257 + (n5 + 1)) r all).1.k = 0 → ∀ a' c' h', LS h0 h' b1 b2 bm a c bs m T T1 T2 (lg1 bs cs (n3 + 257 + (n5 + 1)) r all).1 → Tb h0 h' b1 b2 bm bt TT PP a2 c2 cs → Part .i64 h' (.slice a' (lg1 bs cs (n3 + 257 + (n5 + 1)) r all).2.length c') (lg1 bs cs (n3 + 257 + (n5 + 1)) r all).2 → Eng.New (mkT h0 b1 b2 bm bt a2 TT.length c2) (.slice a' (lg1 bs cs (n3 + 257 + (n5 + 1)) r all).2.length c') → K4 [.slice a' (lg1 bs cs (n3 + 257 + (n5 + 1)) r all).2.length c'] h')
    (e0 e4 e6 e7 e8 e9 e10 e11 e12 e14 : Value) :
    mlB.wp Tryd.prog S noLeaf (PostM h0 bm a c bs m T F) [e0, .pointer (some ⟨b1, 0, none⟩), .pointer (some ⟨b2, 0, none⟩), .int .i64 n3, e4, .int .i64 n5, e6, e7, e8, e9, e10, e11, e12, .pointer (some ⟨bt, 0, none⟩), e14, .slice aa all.length ca] h [K0, K1, K2, K3, K4, K5] := by
  simp only [mlB, Tr.wp, mksW, callW, Ex.ev, coerce, toInt_int, toBool_bool, slL_sl, slC_sl, slA_sl, toAddr_ptr, ptrOf_ptr, isNil_sl, isNil_ptr, it_and, it_or, it_int, optN_int, optN_nl, cmpI, arith, Cst.val, SV.den, resShs, resV, resSV, resVals, newVars, runCells, exSh, allSh, cellsAre, storeW, List.flatMap_cons, List.flatMap_nil, List.replicate_one, List.getD_cons_zero, List.getD_cons_succ, List.getElem?_cons_zero, List.getElem?_cons_succ, decide_eq_true_eq, decide_eq_false_iff_not, List.map_cons, List.map_nil, List.cons_append, List.nil_append, List.append_nil, List.length_cons, List.length_nil, Nat.zero_add, Nat.add_zero, and_true, true_and, if_true, if_false, Bool.false_eq_true, addr_add]
  obtain ⟨p', hp, hm, he⟩ := H.mt
  obtain ⟨i, k⟩ := r
  obtain rfl : k = 0 := hk
  obtain rfl : i = (p' : Int) := he rfl
  refine ⟨_, cel_ld H.c1, ?_⟩
  refine (k_msymbol hi G hx L p' hp ⟨hm, H.nm, H.sb⟩ B.tv hTl hM B.dt.2.2 (fun e => (B.ds bm e).2.2 rfl) (ymRoot _) hcl).mono ?_
  rintro _ h1 ⟨rfl, p2, hp2, rfl, hpe⟩
  have H1 : ∀ r' : Rd, r'.k = 0 → r'.i = (p2 : Int) → LS h0 (upd h bm (machO a c bs p2 m T)) b1 b2 bm a c bs m T T1 T2 r' := fun r' q1 q2 =>
    ⟨(upd_ne H.d1m).trans H.c1, by rw [q1]; exact (upd_ne H.d2m).trans H.c2, ⟨p2, hp2, upd_same, fun _ => q2⟩, H.n1, H.n2, H.nm, H.d12, H.d1m, H.d2m, fun y o hy => by rw [upd_ne (fun e => by rw [e, H.nm] at hy; cases hy)]; exact H.sb y o hy⟩
  have B1 : Tb h0 (upd h bm (machO a c bs p2 m T)) b1 b2 bm bt TT PP a2 c2 cs := B.oth Oth.updm (H1 ⟨p2, 0⟩ rfl rfl).sb
  have P1 : Part .i64 (upd h bm (machO a c bs p2 m T)) (.slice aa all.length ca) all := NM.keep (mkT_two N) P Oth.updm
  generalize upd h bm (machO a c bs p2 m T) = h1 at H1 B1 P1 ⊢
  obtain ⟨tot, htot⟩ : ∃ tot, tot = n3 + 257 + (n5 + 1) := ⟨_, rfl⟩
  rw [← htot] at hF hgo hl
  have elg : lg1 bs cs tot ⟨(p' : Int), 0⟩ all = if (sy bs cs ⟨(p' : Int), 0⟩).1.k = 0 then (bd (decide (tot < (rp bs (sy bs cs ⟨(p' : Int), 0⟩).1 all (sy bs cs ⟨(p' : Int), 0⟩).2).2.length)) (rp bs (sy bs cs ⟨(p' : Int), 0⟩).1 all (sy bs cs ⟨(p' : Int), 0⟩).2).1, (rp bs (sy bs cs ⟨(p' : Int), 0⟩).1 all (sy bs cs ⟨(p' : Int), 0⟩).2).2) else ((sy bs cs ⟨(p' : Int), 0⟩).1, all) := rfl
  obtain ⟨⟨r1, x⟩, hs⟩ : ∃ q, sy bs cs ⟨(p' : Int), 0⟩ = q := ⟨_, rfl⟩
  rw [hs] at elg hpe ⊢
  simp only at elg hpe ⊢
  refine ⟨x, errI r1.k, errI_if, by rw [errI_if], fun hz => ?_, fun hz => ?_⟩
  · rw [errI_if, errI_nil] at hz
    have hk1 : r1.k ≠ 0 := by simpa using hz
    rw [if_neg hk1] at elg
    rw [elg] at hF
    have H2 := H1 ⟨p2, 0⟩ rfl rfl
    refine ⟨cel_ok H2.c2 (fun hs => hi b2 hs H.n2), errI r1.k, errI_if, ?_, ?_⟩
    · rw [errI_if, cel_set H2.c2]; exact cel_ld upd_same
    · rw [errI_if, cel_set H2.c2]
      have H' := H2.err (r' := r1) (fun h => absurd h hk1)
      exact H'.bad (by rw [hF hk1]; exact hk1) (by rw [hF hk1])
  · rw [errI_if, errI_nil] at hz
    have hk1 : r1.k = 0 := by simpa using hz
    rw [if_pos hk1] at elg
    have H2 := H1 r1 hk1 (hpe hk1).symm
    have ok1 : okR bs r1 := fun _ => by rw [← hpe hk1]; omega
    -- the rest of the round
    have fin : ∀ (r2 : Rd) (t : Nat) (w : Int) (h' : Eng.Heap), rp bs r1 all x = (r2, if r2.k = 0 then all ++ List.replicate t w else all) → t ≤ 1000 → LS h0 h' b1 b2 bm a c bs m T T1 T2 r2 → Tb h0 h' b1 b2 bm bt TT PP a2 c2 cs → Part .i64 h' (.slice aa all.length ca) all → ∀ e16 e17 e18,
        mlR.wp Tryd.prog S noLeaf (PostM h0 bm a c bs m T F) [e0, .pointer (some ⟨b1, 0, none⟩), .pointer (some ⟨b2, 0, none⟩), .int .i64 n3, e4, .int .i64 n5, e6, e7, e8, e9, e10, e11, e12, .pointer (some ⟨bt, 0, none⟩), e14, .slice aa all.length ca, e16, e17, e18, .int .i64 w, .int .i64 t] h' [K0, K1, K2, K3, K4, K5, fun _ _ => False] := by
      intro r2 t w h' erp ht H3 B3 P3 e16 e17 e18
      rw [erp] at elg
      simp only at elg
      refine k_mlR hi G H3 B3 P3 N (by omega) h3 h5 t ht w (fun hk2 => ?_) (fun hk2 hov => ?_) K0 K1 K2 K3 K4 K5 _ (fun hk2 hle a' c' h'' H4 B4 P4 N4 => ?_) _ _ _ _ _ _ _ _ _ _ _ _ _ _ _
      · have e : bd (decide (tot < (if r2.k = 0 then all ++ List.replicate t w else all).length)) r2 = r2 := by unfold bd; rw [if_neg (fun h => hk2 h.1)]
        rw [e] at elg
        rw [elg] at hF
        exact hF hk2
      · have e : (bd (decide (tot < (if r2.k = 0 then all ++ List.replicate t w else all).length)) r2).k = 3 := by
          rw [if_pos hk2, decide_eq_true (by rw [List.length_append, List.length_replicate]; omega)]; unfold bd; rw [if_pos ⟨hk2, rfl⟩]
        rw [elg] at hF
        rw [hF (by rw [e]; decide), e]
      · have e : lg1 bs cs tot ⟨(p' : Int), 0⟩ all = (r2, all ++ List.replicate t w) := by
          rw [elg, if_pos hk2, decide_eq_false (by rw [List.length_append, List.length_replicate]; omega)]; unfold bd; rw [if_neg (fun h => by cases h.2)]
        rw [e] at hgo
        exact hgo hk2 a' c' h'' H4 B4 P4 N4
    have n2 := tk_num (bs := bs) (n := 2) (r := r1)
    have nn3 := tk_num (bs := bs) (n := 3) (r := r1)
    have n7 := tk_num (bs := bs) (n := 7) (r := r1)
    have q2 : (2 : Int) ^ 2 = 4 := by decide
    have q3 : (2 : Int) ^ 3 = 8 := by decide
    have q7 : (2 : Int) ^ 7 = 128 := by decide
    refine ⟨fun h16 => ⟨fun h0 => ?_, fun h0 => ?_⟩, fun h16 => ⟨fun h17 => ?_, fun h17 => ⟨fun h18 => ?_, fun h18 _ _ _ => ?_⟩⟩⟩
    · obtain rfl : x = 16 := beq_iff_eq.1 h16
      have hall : all.length = 0 := by have : (all.length : Int) = 0 := beq_iff_eq.1 h0; omega
      refine H2.fail hi G ?_
      have e1 : (rp bs r1 all 16).1.k = 3 := by
        unfold rp
        rw [if_pos rfl]
        have eb : bd (all.length == 0) r1 = ⟨r1.i, 3⟩ := by unfold bd; rw [if_pos ⟨hk1, by rw [hall]; rfl⟩]
        rw [eb]; unfold tk; rw [if_neg (by simp)]
      have e2 : (lg1 bs cs tot ⟨(p' : Int), 0⟩ all).1.k = 3 := by
        rw [elg]; simp only; unfold bd; rw [if_neg (fun h => by rw [e1] at h; cases h.1)]; exact e1
      rw [hF (by rw [e2]; decide), e2]
    · obtain rfl : x = 16 := beq_iff_eq.1 h16
      have hall : all.length ≠ 0 := fun e => by rw [e] at h0; cases h0
      have wl : IntKind.i64.wrap ((all.length : Int) - 1) = ((all.length - 1 : Nat) : Int) := by rw [i64_in _ (by omega)]; omega
      have wt : IntKind.i64.wrap ((tk bs 2 r1).2 + 3) = (((tk bs 2 r1).2 + 3).toNat : Int) := by rw [i64_in _ (by omega)]; omega
      obtain ⟨_, _, ei, _, gi⟩ := P1.ints
      cases ei
      have g? : all[all.length - 1]? = some (all.getD (all.length - 1) 0) := by simp [List.getD, List.getElem?_eq_getElem (show all.length - 1 < all.length by omega)]
      obtain ⟨g1, g2⟩ := gi.cell g?
      have eb : bd (all.length == 0) r1 = r1 := by unfold bd; rw [if_neg (fun h => hall (by simpa using h.2))]
      rw [wl]
      refine ⟨by simpa using g2, by omega, by omega, _, by simp only [Int.toNat_natCast, Nat.mul_one, add_add, Nat.add_zero]; exact g1, ?_⟩
      refine (k_get hi G hx L ok1 H2 2 (by omega)).mono ?_
      rintro _ h2 ⟨rfl, H3, O3⟩
      have P3 := NM.keep (mkT_two N) P1 O3
      have B3 := B1.oth O3 H3.sb
      refine ⟨_, rfl, fun p hp => ?_, fun _ => ?_⟩
      · obtain rfl := List.mem_singleton.1 hp
        obtain ⟨_, _, ei, _, gi3⟩ := P3.ints
        cases ei
        obtain ⟨g3, _⟩ := gi3.cell g?
        simp only [Tr.wp, mksW, callW, Ex.ev, coerce, toInt_int, toBool_bool, slL_sl, slC_sl, slA_sl, toAddr_ptr, ptrOf_ptr, isNil_sl, isNil_ptr, it_and, it_or, it_int, optN_int, optN_nl, cmpI, arith, Cst.val, SV.den, resShs, resV, resSV, resVals, newVars, runCells, exSh, allSh, cellsAre, storeW, List.flatMap_cons, List.flatMap_nil, List.replicate_one, List.getD_cons_zero, List.getD_cons_succ, List.getElem?_cons_zero, List.getElem?_cons_succ, decide_eq_true_eq, decide_eq_false_iff_not, List.map_cons, List.map_nil, List.cons_append, List.nil_append, List.append_nil, List.length_cons, List.length_nil, Nat.zero_add, Nat.add_zero, and_true, true_and, if_true, if_false, Bool.false_eq_true, wl, Int.toNat_natCast, Nat.mul_one, add_add]
        exact g3
      · rw [wt]
        refine fin (tk bs 2 r1).1 _ _ h2 ?_ (by omega) H3 B3 P3 _ _ _
        unfold rp
        rw [if_pos rfl, eb]
    · obtain rfl : x = 17 := beq_iff_eq.1 h17
      have wt : IntKind.i64.wrap ((tk bs 3 r1).2 + 3) = (((tk bs 3 r1).2 + 3).toNat : Int) := by rw [i64_in _ (by omega)]; omega
      refine (k_get hi G hx L ok1 H2 3 (by omega)).mono ?_
      rintro _ h2 ⟨rfl, H3, O3⟩
      refine ⟨_, rfl, fun _ _ => ?_⟩
      rw [wt]
      refine fin (tk bs 3 r1).1 _ _ h2 ?_ (by omega) H3 (B1.oth O3 H3.sb) (NM.keep (mkT_two N) P1 O3) _ _ _
      unfold rp
      rw [if_neg (by decide), if_pos rfl]
    · obtain rfl : x = 18 := beq_iff_eq.1 h18
      have wt : IntKind.i64.wrap ((tk bs 7 r1).2 + 11) = (((tk bs 7 r1).2 + 11).toNat : Int) := by rw [i64_in _ (by omega)]; omega
      refine (k_get hi G hx L ok1 H2 7 (by omega)).mono ?_
      rintro _ h2 ⟨rfl, H3, O3⟩
      refine ⟨_, rfl, fun _ _ _ => ?_⟩
      rw [wt]
      refine fin (tk bs 7 r1).1 _ _ h2 ?_ (by omega) H3 (B1.oth O3 H3.sb) (NM.keep (mkT_two N) P1 O3) _ _ _
      unfold rp
      rw [if_neg (by decide), if_neg (by decide), if_pos rfl]
    · refine fin r1 1 x h1 ?_ (by omega) H2 B1 P1 _ _ _
      unfold rp
      rw [if_neg (by simpa using h16), if_neg (by simpa using h17), if_neg (by simpa using h18)]
      rfl
end
end

section
variable {S : Shared} {h h0 : Eng.Heap}

section
variable {b1 b2 bm : Nat} {a : Option Addr} {c : Nat} {bs : List Int} {m : MC} {T T1 T2 : TypeId} {r : Rd}

theorem codesN_15 {xs : List Int} (hok : hok xs) : ∀ c ∈ codesN xs, c.1 ≤ 15 := fun c hc => by
  obtain ⟨j, hj⟩ := List.getElem?_of_mem hc
  have hj2 : j < (codesOf xs).length := by rw [codesOf_len, ← codesN_len]; exact (List.getElem?_eq_some_iff.1 hj).1
  obtain ⟨l, b, _, h2, h3, _⟩ := codesOf_cast hok (List.getElem?_eq_getElem hj2)
  rw [hj] at h2
  have := Option.some.inj h2
  rw [this]; exact h3

set_option maxRecDepth 100000 in
set_option maxHeartbeats 4000000 in
theorem k_mlC (hi : Eng.Inv S h0) (G : Errs h0) (hx : HInts h0 .u8 a bs) (L : bs.length ≤ 1048576) (H : LS h0 h b1 b2 bm a c bs m T T1 T2 r) {xs : List Int} {bc : Nat} {Tc : TypeId} (hbc : h bc = some (.cells (ints .i64 xs) Tc)) (hxl : xs.length = 19) {n3 n5 : Nat} (h3 : n3 < 32) (h5 : n5 < 32)
    (K0 K1 : Kt) (e0 e4 e6 e7 e8 e10 : Value) :
    mlC.wp Tryd.prog S noLeaf (PostM h0 bm a c bs m T (endL (n3 + 257) (lg bs (codesN xs) (n3 + 257 + (n5 + 1)) (bd (hkind xs != 1) r) []).1 (lg bs (codesN xs) (n3 + 257 + (n5 + 1)) (bd (hkind xs != 1) r) []).2)) [e0, .pointer (some ⟨b1, 0, none⟩), .pointer (some ⟨b2, 0, none⟩), .int .i64 n3, e4, .int .i64 n5, e6, e7, e8, .slice (some ⟨bc, 0, none⟩) 19 19, e10] h [K0, K1] := by
  have w3 : IntKind.i64.wrap ((n3 : Int) + 257) = ((n3 + 257 : Nat) : Int) := by rw [i64_in _ (by omega)]; omega
  have w5 : IntKind.i64.wrap ((n5 : Int) + 1) = ((n5 + 1 : Nat) : Int) := by rw [i64_in _ (by omega)]; omega
  have wt : IntKind.i64.wrap (((n3 + 257 : Nat) : Int) + ((n5 + 1 : Nat) : Int)) = ((n3 + 257 + (n5 + 1) : Nat) : Int) := by rw [i64_in _ (by omega)]; omega
  simp only [mlC, Tr.wp, mksW, callW, Ex.ev, coerce, toInt_int, toBool_bool, slL_sl, slC_sl, slA_sl, toAddr_ptr, ptrOf_ptr, isNil_sl, isNil_ptr, it_and, it_or, it_int, optN_int, optN_nl, cmpI, arith, Cst.val, SV.den, resShs, resV, resSV, resVals, newVars, runCells, exSh, allSh, cellsAre, storeW, List.flatMap_cons, List.flatMap_nil, List.replicate_one, List.getD_cons_zero, List.getD_cons_succ, List.getElem?_cons_zero, List.getElem?_cons_succ, decide_eq_true_eq, decide_eq_false_iff_not, List.map_cons, List.map_nil, List.cons_append, List.nil_append, List.append_nil, List.length_cons, List.length_nil, Nat.zero_add, Nat.add_zero, and_true, true_and, if_true, if_false, Bool.false_eq_true, addr_add, w3, w5, wt]
  obtain ⟨tot, htot⟩ : ∃ tot, tot = n3 + 257 + (n5 + 1) := ⟨_, rfl⟩
  rw [← htot]
  have gi : HInts h .i64 (some ⟨bc, 0, none⟩) xs := cells_ints hbc
  refine ⟨errI r.k, errI_if, cel_ld H.c2, fun hz => ?_, fun hz => ?_⟩
  · rw [errI_if, errI_nil] at hz
    have hk : r.k ≠ 0 := by simpa using hz
    have e1 : bd (hkind xs != 1) r = r := by unfold bd; rw [if_neg (fun h => hk h.1)]
    have e2 : endL (n3 + 257) (lg bs (codesN xs) tot (bd (hkind xs != 1) r) []).1 (lg bs (codesN xs) tot (bd (hkind xs != 1) r) []).2 = (r, [], []) := by
      rw [e1, lg_end (fun h => hk h.1)]; exact if_neg hk
    rw [e2]
    refine ⟨errI r.k, errI_if, cel_ld H.c2, cel_ok H.c2 (fun hs => hi b2 hs H.n2), errI r.k, errI_if, ?_, ?_⟩
    · rw [errI_if, cel_set H.c2]; exact cel_ld upd_same
    · rw [errI_if, cel_set H.c2]
      have H' := H.err (r' := r) (fun h => ⟨h, rfl⟩)
      exact H'.bad hk rfl
  · rw [errI_if, errI_nil] at hz
    have hk : r.k = 0 := by simpa using hz
    have kh := k_impl_HuffKind (S := S) (hi.sub H.sb) (some ⟨bc, 0, none⟩) 19 xs gi
    rw [hxl] at kh
    refine kh.mono ?_
    rintro _ hq ⟨rfl, rfl⟩
    refine ⟨_, rfl, fun hne => ?_, fun heq => ?_⟩
    · have hne : (hkind xs != 1) = true := hne
      have e1 : bd (hkind xs != 1) r = ⟨r.i, 3⟩ := by unfold bd; rw [if_pos ⟨hk, hne⟩]
      have e2 : endL (n3 + 257) (lg bs (codesN xs) tot (bd (hkind xs != 1) r) []).1 (lg bs (codesN xs) tot (bd (hkind xs != 1) r) []).2 = (⟨r.i, 3⟩, [], []) := by
        rw [e1, lg_end (fun h => by cases h.1)]; exact if_neg (by simp)
      rw [e2]
      exact H.fail hi G rfl
    · have hk1 : hkind xs = 1 := by simpa using heq
      have e1 : bd (hkind xs != 1) r = r := by unfold bd; rw [if_neg (fun h => by rw [hk1] at h; cases h.2)]
      rw [e1]
      obtain ⟨_, hok⟩ := hkind_ok (xs := xs) (by rw [hk1]; decide)
      have O : tI.O hq (.slice (some ⟨bc, 0, none⟩) 19 19) xs := cells_part hbc hxl
      have kt := k_tableOf (S := S) (hi.sub H.sb) (some ⟨bc, 0, none⟩) 19 xs (by rw [hxl]; exact O) (by show List.length _ ≤ _; omega) (by rw [hk1]; decide)
      rw [hxl] at kt
      refine kt.mono ?_
      rintro _ h6 ⟨bt, TT, PP, a2, c2, rfl, TV, hTl⟩
      have hcl : (codesN xs).length = 19 := by rw [codesN_len, hxl]
      rw [← hcl] at TV
      have H6 := H.sub TV.sb
      obtain ⟨p', hp, hm, _⟩ := H.mt
      have B6 : Tb h0 h6 b1 b2 bm bt TT PP a2 c2 (codesN xs) := ⟨⟨TV.hb, TV.ow, fun y hy => sub_none H.sb (TV.nw y hy), sub_none H.sb TV.nb, TV.ne, TV.ti, H.sb.trans TV.sb⟩,
        ⟨fun e => (by have := TV.nb; rw [e, H.c1] at this; cases this), fun e => (by have := TV.nb; rw [e, H.c2] at this; cases this), fun e => (by have := TV.nb; rw [e, hm] at this; cases this)⟩,
        fun z hz => ⟨fun e => (by have := TV.nw z hz; rw [e, H.c1] at this; cases this), fun e => (by have := TV.nw z hz; rw [e, H.c2] at this; cases this), fun e => (by have := TV.nw z hz; rw [e, hm] at this; cases this)⟩⟩
      refine ⟨_, rfl, ?_⟩
      intro b hb
      have sb : Eng.Sub h6 (upd h6 b (.cells (ints .i64 []) 2)) := Sub.of_upd hb
      refine ⟨fun us h' => ∃ (r' : Rd) (all' : List Int) (a' : Option Addr) (c' : Nat), us = [.slice a' all'.length c'] ∧ r'.k = 0 ∧ LS h0 h' b1 b2 bm a c bs m T T1 T2 r' ∧ Tb h0 h' b1 b2 bm bt TT PP a2 c2 (codesN xs) ∧ Part .i64 h' (.slice a' all'.length c') all' ∧ Eng.New (mkT h0 b1 b2 bm bt a2 TT.length c2) (.slice a' all'.length c') ∧ all'.length ≤ tot ∧ lg bs (codesN xs) tot r [] = lg bs (codesN xs) tot r' all',
        fun us _ => tot - slL (us.getD 0 undef), ⟨r, [], _, _, rfl, hk, H6.sub sb, B6.sub sb, (Own.made (k := .i64) (h := h6) (b := b) (T := 2) []).part, B6.new H6 hb, by simp, rfl⟩, ?_⟩
      rintro a1 l1 c1 h' ⟨r', all', a', c', hx1, hk', H', B', P', N', hl', hlg⟩
      simp only [List.cons.injEq, Value.slice.injEq, and_true] at hx1
      obtain ⟨rfl, rfl, rfl⟩ := hx1
      rw [hlg]
      refine ⟨fun hlt => ?_, fun hge => ?_⟩
      · have hlt : all'.length < n3 + 257 + (n5 + 1) := by omega
        have len := lg1_len (bs := bs) (cs := codesN xs) (tot := tot) (r := r') (all := all')
        have st := lg_step (bs := bs) (cs := codesN xs) (tot := tot) (r := r') (all := all') ⟨hk', by omega⟩
        rw [st]
        refine k_mlB hi G hx L H' hk' B' (codesN_15 hok) hTl (by omega) P' N' h3 h5 hlt (fun hk2 => ?_) K0 K1 _ _ _ _ (fun hk2 a' c' h'' H2 B2 P2 N2 => ?_) _ _ _ _ _ _ _ _ _ _
        · rw [← htot] at hk2 ⊢
          rw [lg_end (fun h => hk2 h.1)]
          have e3 : endL (n3 + 257) (lg1 bs (codesN xs) tot r' all').1 (lg1 bs (codesN xs) tot r' all').2 = ((lg1 bs (codesN xs) tot r' all').1, [], []) := if_neg hk2
          rw [e3]
        · rw [← htot] at hk2 H2 P2 N2 ⊢
          exact ⟨⟨_, _, a', c', rfl, hk2, H2, B2, P2, N2, (len.2.2 hk2).2, rfl⟩, by simp only [List.getD_cons_zero, slL_sl]; have := len.2.2 hk2; omega⟩
      · have hnl : ¬ (r'.k = 0 ∧ all'.length < tot) := fun h => hge (by omega)
        rw [lg_end hnl]
        have e6 : ((n3 : Int) + 257).toNat = n3 + 257 := by omega
        have K := k_mlE hi G H' hk' P' (mkT_two N') (x3 := (n3 : Int)) ⟨by omega, by omega⟩ (by omega) K0 K1
        rw [e6] at K
        exact K _ _ _ _ _ _ _ _ _ _ _ _ _ _ _ _ _

theorem lens_F {r0 : Rd} {n3 n5 : Nat} (e3 : (tk bs 5 r0).2 = (n3 : Int)) (e5 : (tk bs 5 (lens0 bs r0)).2 = (n5 : Int)) :
    endL (n3 + 257) (lg bs (codesN (lens2 bs r0).2) (n3 + 257 + (n5 + 1)) (bd (hkind (lens2 bs r0).2 != 1) (lens2 bs r0).1) []).1 (lg bs (codesN (lens2 bs r0).2) (n3 + 257 + (n5 + 1)) (bd (hkind (lens2 bs r0).2 != 1) (lens2 bs r0).1) []).2 = lensF bs r0 := by
  have h1 : nLit bs r0 = n3 + 257 := by unfold nLit; rw [e3]; omega
  have h2 : nDist bs r0 = n5 + 1 := by unfold nDist; rw [e5]; omega
  have : lensF bs r0 = endL (nLit bs r0) (lens4 bs r0).1 (lens4 bs r0).2 := rfl
  rw [this]; unfold lens4 lens3; rw [h1, h2]

set_option maxRecDepth 100000 in
set_option maxHeartbeats 4000000 in
/-- From the third number on. -/
theorem k_ml3 (hi : Eng.Inv S h0) (G : Errs h0) (hx : HInts h0 .u8 a bs) (L : bs.length ≤ 1048576) {r0 : Rd} (ok : okR bs r0) (H : LS h0 h b1 b2 bm a c bs m T T1 T2 (lens1 bs r0)) {n3 n5 : Nat} (e3 : (tk bs 5 r0).2 = (n3 : Int)) (e5 : (tk bs 5 (lens0 bs r0)).2 = (n5 : Int))
    (e0 e4 e6 : Value) :
    ml3.wp Tryd.prog S noLeaf (PostM h0 bm a c bs m T (lensF bs r0)) [e0, .pointer (some ⟨b1, 0, none⟩), .pointer (some ⟨b2, 0, none⟩), .int .i64 n3, e4, .int .i64 n5, e6] h [] := by
  obtain ⟨ok0, ok1, ok2, ok3, ok4⟩ := lens_ok ok
  have n1 := tk_num (bs := bs) (n := 5) (r := r0)
  have n2 := tk_num (bs := bs) (n := 5) (r := lens0 bs r0)
  have nn := tk_num (bs := bs) (n := 4) (r := lens1 bs r0)
  have q5 : (2 : Int) ^ 5 = 32 := by decide
  have q4 : (2 : Int) ^ 4 = 16 := by decide
  have w3 : IntKind.i64.wrap ((tk bs 4 (lens1 bs r0)).2 + 4) = (((tk bs 4 (lens1 bs r0)).2.toNat + 4 : Nat) : Int) := by rw [i64_in _ (by omega)]; omega
  simp only [ml3, Tr.wp, mksW, callW, Ex.ev, coerce, toInt_int, toBool_bool, slL_sl, slC_sl, slA_sl, toAddr_ptr, ptrOf_ptr, isNil_sl, isNil_ptr, it_and, it_or, it_int, optN_int, optN_nl, cmpI, arith, Cst.val, SV.den, resShs, resV, resSV, resVals, newVars, runCells, exSh, allSh, cellsAre, List.flatMap_cons, List.flatMap_nil, List.replicate_one, List.getD_cons_zero, List.getD_cons_succ, List.getElem?_cons_zero, List.getElem?_cons_succ, decide_eq_true_eq, decide_eq_false_iff_not, List.map_cons, List.map_nil, List.cons_append, List.nil_append, List.append_nil, List.length_cons, List.length_nil, Nat.zero_add, Nat.add_zero, and_true, true_and, if_true, if_false, Bool.false_eq_true, addr_add]
  refine (k_get hi G hx L ok1 H 4 (by omega)).mono ?_
  rintro _ h1 ⟨rfl, H1, O1⟩
  refine ⟨_, rfl, ?_⟩
  rw [w3]
  intro b8 hb8
  have w19 : IntKind.i64.wrap 19 = 19 := i64_in _ (by omega)
  have t19 : (19 : Int).toNat = 19 := rfl
  have hs8 : ¬ S b8 := fun hs => hi b8 hs (sub_none H1.sb hb8)
  refine storeW_vals hs8 _ 0 _ _ upd_same (by simp) ?_
  rw [upd_upd, w19, t19]
  obtain ⟨T8, hT8⟩ : ∃ T8 : TypeId, T8 = 108 := ⟨_, rfl⟩
  obtain ⟨h2, hh2⟩ : ∃ h2, h2 = upd h1 b8 (.cells (ints .i64 (ord.map Int.ofNat)) 108) := ⟨_, rfl⟩
  have eo : upd h1 b8 (.cells (spliceV (List.replicate 19 (Value.int .i64 0)) (0 + 0) [Value.int .i64 16, Value.int .i64 17, Value.int .i64 18, Value.int .i64 0, Value.int .i64 8, Value.int .i64 7, Value.int .i64 9, Value.int .i64 6, Value.int .i64 10, Value.int .i64 5, Value.int .i64 11, Value.int .i64 4, Value.int .i64 12, Value.int .i64 3, Value.int .i64 13, Value.int .i64 2, Value.int .i64 14, Value.int .i64 1, Value.int .i64 15]).toArray 108) = h2 := by rw [hh2]; rfl
  rw [eo]
  have s2 : Eng.Sub h1 h2 := by rw [hh2]; exact Sub.of_upd hb8
  have h28 : h2 b8 = some (.cells (ints .i64 (ord.map Int.ofNat)) 108) := by rw [hh2, upd_same]
  have H2 := H1.sub s2
  clear eo hh2 hT8
  refine ⟨by omega, by omega, by decide, fun b hb => ?_⟩
  rw [Nat.mul_one, mkCells_ints]
  have sb : Eng.Sub h2 (upd h2 b (.cells (ints .i64 (List.replicate 19 0)) 2)) := Sub.of_upd hb
  have hne8 : b8 ≠ b := fun e => by rw [← e, h28] at hb; cases hb
  have N : Eng.New (mk2 h0 b1 b2 bm) (.slice (some ⟨b, 0, none⟩) 19 19) := H2.new hb
  obtain ⟨nb1, nb2, nb3, nb4⟩ := mk2_none (N b rfl)
  have N8 := H1.free hb8
  obtain ⟨n81, n82, n83, _⟩ := mk2_none N8
  have hsb : ¬ S b := fun hs => hi b hs nb4
  generalize hr2 : (tk bs 4 (lens1 bs r0)).1 = r2 at H1 H2
  generalize hn : (tk bs 4 (lens1 bs r0)).2.toNat + 4 = n
  have hn19 : n ≤ 19 := by omega
  have okr2 : okR bs r2 := hr2 ▸ tk_ok ok1
  refine ⟨fun us h' => ∃ (j : Nat), us = [.int .i64 j] ∧ j ≤ n ∧ h' b = some (.cells (ints .i64 (sm bs r2 j).2) 2) ∧ h' b8 = some (.cells (ints .i64 (ord.map Int.ofNat)) 108) ∧ LS h0 h' b1 b2 bm a c bs m T T1 T2 (sm bs r2 j).1, fun us _ => n - (toInt (us.getD 0 undef)).toNat, ⟨0, rfl, by omega, upd_same, (upd_ne hne8).trans h28, H2.sub sb⟩, ?_⟩
  rintro y h' ⟨j, hx1, hj, hbj, h8j, HJ⟩
  simp only [List.cons.injEq, Value.int.injEq, true_and, and_true] at hx1
  subst hx1
  have okj : okR bs (sm bs r2 j).1 := sm_ok okr2
  refine ⟨fun hlt => ?_, fun hge => ?_⟩
  · have hjn : j < n := by omega
    have hol := ord_lt j (by omega)
    have hc8 : ∀ {g : Eng.Heap}, g b8 = some (.cells (ints .i64 (ord.map Int.ofNat)) 108) → Eng.hcell g ⟨b8, (j : Int).toNat * 1, none⟩ = some (.int .i64 ((ord.getD j 0 : Nat) : Int)) := fun hg => by
      simp only [Eng.hcell, hg, Int.toNat_natCast, Nat.mul_one]
      simp [Eng.ints, -List.map_map, ord_get (show j < 19 by omega)]
    refine ⟨by omega, by omega, _, hc8 h8j, ?_⟩
    refine (k_get hi G hx L okj HJ 3 (by omega)).mono ?_
    rintro _ h3 ⟨rfl, H3, O3⟩
    have h83 := (O3 b8 n81 n82).trans h8j
    have hb3 := (O3 b nb1 nb2).trans hbj
    refine ⟨_, rfl, fun p hp => ?_, rfl, by omega, by omega, ?_⟩
    · obtain rfl := List.mem_singleton.1 hp
      simp only [Tr.wp, mksW, callW, Ex.ev, coerce, toInt_int, toBool_bool, slL_sl, slC_sl, slA_sl, toAddr_ptr, ptrOf_ptr, isNil_sl, isNil_ptr, it_and, it_or, it_int, optN_int, optN_nl, cmpI, arith, Cst.val, SV.den, resShs, resV, resSV, resVals, newVars, runCells, exSh, allSh, cellsAre, storeW, List.flatMap_cons, List.flatMap_nil, List.replicate_one, List.getD_cons_zero, List.getD_cons_succ, List.getElem?_cons_zero, List.getElem?_cons_succ, decide_eq_true_eq, decide_eq_false_iff_not, List.map_cons, List.map_nil, List.cons_append, List.nil_append, List.append_nil, List.length_cons, List.length_nil, Nat.zero_add, Nat.add_zero, and_true, true_and, if_true, if_false, Bool.false_eq_true, addr0_add]
      exact hc8 h83
    · rw [Int.toNat_natCast]
      refine store_at (i := ord.getD j 0) hb3 hsb (by rw [sm_len]; exact hol) ?_
      rw [show IntKind.i64.wrap ((j : Int) + 1) = ((j + 1 : Nat) : Int) by rw [i64_in _ (by omega)]; omega]
      refine ⟨⟨j + 1, rfl, by omega, upd_same, (upd_ne hne8).trans h83, ?_⟩, by simp only [List.getD_cons_zero, toInt_int, Int.toNat_natCast]; omega⟩
      refine H3.kept N (fun y hy hn => upd_ne fun e => hn (by rw [e]; rfl)) fun y o hy => ?_
      rw [upd_ne (fun e => by rw [e, nb4] at hy; cases hy)]
      exact H3.sb y o hy
  · obtain rfl : j = n := by omega
    have e2 : sm bs r2 j = lens2 bs r0 := by unfold lens2; rw [hr2, hn]
    rw [e2] at hbj HJ
    have hsl : (lens2 bs r0).2.length = 19 := by unfold lens2; exact sm_len
    rw [← lens_F e3 e5]
    exact k_mlC hi G hx L HJ hbj hsl (by omega) (by omega) _ _ _ _ _ _ _ _

theorem bd_err {r' : Rd} {w : Bool} : (bd w r').k = 0 → r'.k = 0 ∧ (bd w r').i = r'.i := fun h => by
  obtain ⟨h1, h2⟩ := bd_k.1 h
  exact ⟨h1, by unfold bd; rw [if_neg (fun e => by rw [h2] at e; cases e.2)]⟩

/-- A number too great: an error is put, or not. -/
theorem LS.put3 (hi : Eng.Inv S h0) (G : Errs h0) (H : LS h0 h b1 b2 bm a c bs m T T1 T2 r) {w : Bool} {K : Eng.Heap → Prop}
    (hK : ∀ h', LS h0 h' b1 b2 bm a c bs m T T1 T2 (bd w r) → K h') :
    ((isNilV (ifOf (errI r.k)) && w) = true → ∃ x, hcell h ⟨0, 0, none⟩ = some (Value.int .i64 x) ∧ okCell S h ⟨b2, 0, none⟩ ∧ K (hset h ⟨b2, 0, none⟩ (.iface tCl (.agg (tupOf (.tuple (#[.int .i64 x] ++ tupOf (.tuple #[])))))))) ∧
    ((isNilV (ifOf (errI r.k)) && w) = false → K h) := by
  rw [errI_if, errI_nil]
  refine ⟨fun hy => ?_, fun hn => ?_⟩
  · simp only [Bool.and_eq_true, decide_eq_true_eq] at hy
    have e : bd w r = ⟨r.i, 3⟩ := by unfold bd; rw [if_pos hy]
    have e3 : (.iface tCl (.agg (tupOf (.tuple (#[.int .i64 3] ++ tupOf (.tuple #[]))))) : Value) = errI (3 : Int) := rfl
    refine ⟨3, (G.sub H.sb).e3, cel_ok H.c2 (fun hs => hi b2 hs H.n2), ?_⟩
    rw [e3, cel_set H.c2]
    rw [e] at hK
    exact hK _ (H.err (r' := ⟨r.i, 3⟩) (fun h => by cases h))
  · have e : bd w r = r := by
      unfold bd; rw [if_neg (fun h => by rw [decide_eq_true h.1, h.2] at hn; cases hn)]
    rw [e] at hK
    exact hK _ H

set_option maxRecDepth 100000 in
set_option maxHeartbeats 4000000 in
theorem k_ml2 (hi : Eng.Inv S h0) (G : Errs h0) (hx : HInts h0 .u8 a bs) (L : bs.length ≤ 1048576) {r0 : Rd} (ok : okR bs r0) (H : LS h0 h b1 b2 bm a c bs m T T1 T2 (tk bs 5 (lens0 bs r0)).1) {n3 n5 : Nat} (e3 : (tk bs 5 r0).2 = (n3 : Int)) (e5 : (tk bs 5 (lens0 bs r0)).2 = (n5 : Int))
    (e0 e4 : Value) :
    ml2.wp Tryd.prog S noLeaf (PostM h0 bm a c bs m T (lensF bs r0)) [e0, .pointer (some ⟨b1, 0, none⟩), .pointer (some ⟨b2, 0, none⟩), .int .i64 n3, e4, .int .i64 n5, errI (tk bs 5 (lens0 bs r0)).1.k] h [] := by
  have n2 := tk_num (bs := bs) (n := 5) (r := lens0 bs r0)
  have q5 : (2 : Int) ^ 5 = 32 := by decide
  have w5 : IntKind.i64.wrap ((n5 : Int) + 1) = (n5 : Int) + 1 := i64_in _ (by omega)
  simp only [ml2, Tr.wp, mksW, callW, Ex.ev, coerce, toInt_int, toBool_bool, slL_sl, slC_sl, slA_sl, toAddr_ptr, ptrOf_ptr, isNil_sl, isNil_ptr, it_and, it_or, it_int, optN_int, optN_nl, cmpI, arith, Cst.val, SV.den, resShs, resV, resSV, resVals, newVars, runCells, exSh, allSh, cellsAre, storeW, List.flatMap_cons, List.flatMap_nil, List.replicate_one, List.getD_cons_zero, List.getD_cons_succ, List.getElem?_cons_zero, List.getElem?_cons_succ, decide_eq_true_eq, decide_eq_false_iff_not, List.map_cons, List.map_nil, List.cons_append, List.nil_append, List.append_nil, List.length_cons, List.length_nil, Nat.zero_add, Nat.add_zero, and_true, true_and, if_true, if_false, Bool.false_eq_true, addr_add, w5]
  have := LS.put3 hi G H (w := decide ((n5 : Int) + 1 > 30)) (K := fun h' => ml3.wp Tryd.prog S noLeaf (PostM h0 bm a c bs m T (lensF bs r0)) [e0, .pointer (some ⟨b1, 0, none⟩), .pointer (some ⟨b2, 0, none⟩), .int .i64 n3, e4, .int .i64 n5, errI (tk bs 5 (lens0 bs r0)).1.k] h' [])
    (fun h' H' => by
      rw [← e5] at H'
      exact k_ml3 hi G hx L ok H' e3 e5 _ _ _)
  rw [Bool.decide_eq_true]
  refine ⟨fun hy => ?_, fun hn _ => this.2 hn⟩
  obtain ⟨x, q1, q2, q3⟩ := this.1 hy
  exact ⟨x, q1, q2, fun _ => q3⟩

set_option maxRecDepth 100000 in
set_option maxHeartbeats 4000000 in
theorem k_ml1 (hi : Eng.Inv S h0) (G : Errs h0) (hx : HInts h0 .u8 a bs) (L : bs.length ≤ 1048576) {r0 : Rd} (ok : okR bs r0) (H : LS h0 h b1 b2 bm a c bs m T T1 T2 (tk bs 5 r0).1) {n3 : Nat} (e3 : (tk bs 5 r0).2 = (n3 : Int)) (e0 : Value) :
    ml1.wp Tryd.prog S noLeaf (PostM h0 bm a c bs m T (lensF bs r0)) [e0, .pointer (some ⟨b1, 0, none⟩), .pointer (some ⟨b2, 0, none⟩), .int .i64 n3, errI (tk bs 5 r0).1.k] h [] := by
  obtain ⟨ok0, ok1, ok2, ok3, ok4⟩ := lens_ok ok
  have n1 := tk_num (bs := bs) (n := 5) (r := r0)
  have n2 := tk_num (bs := bs) (n := 5) (r := lens0 bs r0)
  have q5 : (2 : Int) ^ 5 = 32 := by decide
  have w3 : IntKind.i64.wrap ((n3 : Int) + 257) = (n3 : Int) + 257 := i64_in _ (by omega)
  obtain ⟨n5, e5⟩ := Int.eq_ofNat_of_zero_le n2.1
  simp only [ml1, Tr.wp, mksW, callW, Ex.ev, coerce, toInt_int, toBool_bool, slL_sl, slC_sl, slA_sl, toAddr_ptr, ptrOf_ptr, isNil_sl, isNil_ptr, it_and, it_or, it_int, optN_int, optN_nl, cmpI, arith, Cst.val, SV.den, resShs, resV, resSV, resVals, newVars, runCells, exSh, allSh, cellsAre, storeW, List.flatMap_cons, List.flatMap_nil, List.replicate_one, List.getD_cons_zero, List.getD_cons_succ, List.getElem?_cons_zero, List.getElem?_cons_succ, decide_eq_true_eq, decide_eq_false_iff_not, List.map_cons, List.map_nil, List.cons_append, List.nil_append, List.append_nil, List.length_cons, List.length_nil, Nat.zero_add, Nat.add_zero, and_true, true_and, if_true, if_false, Bool.false_eq_true, addr_add, w3]
  obtain ⟨t1, t2⟩ := LS.put3 hi G H (w := decide ((n3 : Int) + 257 > 286)) (K := fun h' => LS h0 h' b1 b2 bm a c bs m T T1 T2 (bd (decide ((n3 : Int) + 257 > 286)) (tk bs 5 r0).1)) (fun _ h => h)
  have el : bd (decide ((n3 : Int) + 257 > 286)) (tk bs 5 r0).1 = lens0 bs r0 := by rw [← e3]; rfl
  rw [el] at t1 t2
  rw [Bool.decide_eq_true]
  refine ⟨fun hy => ?_, fun hn _ => ?_⟩
  · obtain ⟨x, q1, q2, q3⟩ := t1 hy
    refine ⟨x, q1, q2, fun _ => ?_⟩
    refine (k_get hi G hx L ok0 q3 5 (by omega)).mono ?_
    rintro _ h1 ⟨rfl, H1, O1⟩
    refine ⟨_, rfl, errI _, errI_if, cel_ld H1.c2, ?_⟩
    rw [e5]
    exact k_ml2 hi G hx L ok H1 e3 e5 _ _
  · have q3 := t2 hn
    refine (k_get hi G hx L ok0 q3 5 (by omega)).mono ?_
    rintro _ h1 ⟨rfl, H1, O1⟩
    refine ⟨_, rfl, errI _, errI_if, cel_ld H1.c2, ?_⟩
    rw [e5]
    exact k_ml2 hi G hx L ok H1 e3 e5 _ _

/-- The machine's lengths. -/
theorem k_mlens (hi : Eng.Inv S h0) (G : Errs h0) (hx : HInts h0 .u8 a bs) (L : bs.length ≤ 1048576) (p : Nat) (hp : p ≤ 8 * bs.length) (M : MAt h0 h bm a c bs p m T) :
    CallsH Tryd.prog S F_impl_machine__lens #[.pointer (some ⟨bm, 0, none⟩)] h (PostM h0 bm a c bs m T (lensF bs ⟨p, 0⟩)) := by
  refine run_impl_machine__lens (vs := [.pointer (some ⟨bm, 0, none⟩)]) ⟨rfl, trivial⟩ (hi.sub M.sb) ?_
  simp only [impl_machine__lens_cut, Tr.wp, mksW, callW, Ex.ev, coerce, toInt_int, toBool_bool, slL_sl, slC_sl, slA_sl, toAddr_ptr, ptrOf_ptr, isNil_sl, isNil_ptr, it_and, it_or, it_int, optN_int, optN_nl, cmpI, arith, Cst.val, SV.den, resShs, resV, resSV, resVals, newVars, runCells, exSh, allSh, cellsAre, storeW, List.flatMap_cons, List.flatMap_nil, List.replicate_one, List.getD_cons_zero, List.getD_cons_succ, List.getElem?_cons_zero, List.getElem?_cons_succ, decide_eq_true_eq, decide_eq_false_iff_not, List.map_cons, List.map_nil, List.cons_append, List.nil_append, List.append_nil, List.length_cons, List.length_nil, Nat.zero_add, Nat.add_zero, and_true, true_and, if_true, if_false, Bool.false_eq_true, addr_add]
  intro b1 hb1 b2 hb2
  have ok : okR bs ⟨(p : Int), 0⟩ := fun _ => ⟨by simp only; omega, by simp only; omega⟩
  have d12 : b1 ≠ b2 := fun e => by rw [← e, upd_same] at hb2; cases hb2
  have d1m : b1 ≠ bm := fun e => by rw [e, M.hb] at hb1; cases hb1
  have hb2' : h b2 = none := by rw [upd_ne (Ne.symm d12)] at hb2; exact hb2
  have d2m : b2 ≠ bm := fun e => by rw [e, M.hb] at hb2'; cases hb2'
  have H : LS h0 (upd (upd h b1 (.cells #[.pointer (some ⟨bm, 0, none⟩)] 44)) b2 (.cells #[.nilIface] 51)) b1 b2 bm a c bs m T 44 51 ⟨(p : Int), 0⟩ :=
    ⟨(upd_ne d12).trans upd_same, upd_same, ⟨p, hp, (upd_ne (Ne.symm d2m)).trans ((upd_ne (Ne.symm d1m)).trans M.hb), fun _ => rfl⟩, sub_none M.sb hb1, sub_none M.sb hb2', M.nb, d12, d1m, d2m, M.sb.trans ((Sub.of_upd hb1).trans (Sub.of_upd hb2))⟩
  have n1 := tk_num (bs := bs) (n := 5) (r := ⟨(p : Int), 0⟩)
  obtain ⟨n3, e3⟩ := Int.eq_ofNat_of_zero_le n1.1
  refine (k_get hi G hx L ok H 5 (by omega)).mono ?_
  rintro _ h1 ⟨rfl, H1, O1⟩
  refine ⟨_, rfl, errI _, errI_if, cel_ld H1.c2, ?_⟩
  rw [e3]
  exact k_ml1 hi G hx L ok H1 e3 _
end
end
end Go.Proofs.YteaonnfokkfnlaaDoor
