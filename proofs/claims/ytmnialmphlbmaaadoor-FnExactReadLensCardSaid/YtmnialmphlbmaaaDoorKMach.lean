import Derived.Test.YtmnialmphlbmaaaDoorKRdL
import Derived.Test.YtmnialmphlbmaaaDoorKAs2
import Derived.Test.YtmnialmphlbmaaaDoorTrMa
import Derived.Test.YtmnialmphlbmaaaDoorKTable
set_option linter.unusedVariables false
set_option linter.unusedSimpArgs false
namespace Go.Proofs.YtmnialmphlbmaaaDoor
open Go Go.Eng Go.IntWalk
variable {S : Shared} {h h0 : Eng.Heap}

/-! ### The program's machine -/
/-- The machine's fields behind its place. -/
structure MC where
  w : Value
  out : Value
  rm : Int
  last : Bool
  l : Value
  d : Value
def machO (a : Option Addr) (c : Nat) (bs : List Int) (p : Int) (m : MC) (T : TypeId) : Obj :=
  .cells #[.slice a bs.length c, .int .i64 p, m.w, m.out, .int .i64 m.rm, .bool m.last, m.l, m.d] T

/-- The machine stands in block bm, made behind h0. -/
structure MAt (h0 h : Eng.Heap) (bm : Nat) (a : Option Addr) (c : Nat) (bs : List Int) (p : Int) (m : MC) (T : TypeId) : Prop where
  hb : h bm = some (machO a c bs p m T)
  nb : h0 bm = none
  sb : Eng.Sub h0 h

/-- The program's errors, as they are laid. -/
structure Errs (h : Eng.Heap) : Prop where
  e2 : hcell h ⟨1, 0, none⟩ = some (.int .i64 2)
  e3 : hcell h ⟨0, 0, none⟩ = some (.int .i64 3)
theorem Errs.sub {h' : Eng.Heap} (H : Errs h) (s : Eng.Sub h h') : Errs h' := ⟨hcell_sub s H.e2, hcell_sub s H.e3⟩

/-- An error of class k (0: none). -/
def errI (k : Int) : Value := if k = 0 then .nilIface else .iface tCl (.agg #[.int .i64 k])
theorem errI_nil {k : Int} : isNilV (errI k) = decide (k = 0) := by
  unfold errI; split
  · rename_i h; simp [isNilV, h]
  · rename_i h; simp [isNilV, h]
theorem errI_if {k : Int} : ifOf (errI k) = errI k := by unfold errI; split <;> rfl
theorem errI_zero : errI 0 = .nilIface := rfl
theorem errI_ne {k : Int} (h : k ≠ 0) : errI k = .iface tCl (.agg #[.int .i64 k]) := if_neg h

theorem MAt.keep {h' : Eng.Heap} {bm : Nat} {a : Option Addr} {c : Nat} {bs : List Int} {p q : Int} {m : MC} {T : TypeId} (H : MAt h0 h bm a c bs p m T) (e : h' = upd h bm (machO a c bs q m T)) : MAt h0 h' bm a c bs q m T := by
  subst e
  exact ⟨upd_same, H.nb, fun y o hy => by rw [upd_ne (fun e => by rw [e, H.nb] at hy; cases hy)]; exact H.sb y o hy⟩

section
variable {bm : Nat} {a : Option Addr} {c : Nat} {bs : List Int} {m : MC} {T : TypeId}

theorem mach_ld {h : Eng.Heap} {p : Int} (hb : h bm = some (machO a c bs p m T)) : hcell h ⟨bm, 0, none⟩ = some (.slice a bs.length c) ∧ hcell h ⟨bm, 1, none⟩ = some (.int .i64 p) ∧ hcell h ⟨bm, 2, none⟩ = some m.w ∧ hcell h ⟨bm, 3, none⟩ = some m.out ∧ hcell h ⟨bm, 4, none⟩ = some (.int .i64 m.rm) ∧ hcell h ⟨bm, 5, none⟩ = some (.bool m.last) ∧ hcell h ⟨bm, 6, none⟩ = some m.l ∧ hcell h ⟨bm, 7, none⟩ = some m.d := by
  simp [hcell, hb, machO]
theorem mach_set1 {h : Eng.Heap} {p q : Int} (hb : h bm = some (machO a c bs p m T)) : hset h ⟨bm, 1, none⟩ (.int .i64 q) = upd h bm (machO a c bs q m T) := by
  rw [hset_cells' hb]; rfl
theorem mach_ok {h : Eng.Heap} {p : Int} (hb : h bm = some (machO a c bs p m T)) (hs : ¬ S bm) {i : Nat} {v : Value} (hc : hcell h ⟨bm, i, none⟩ = some v) : okCell S h ⟨bm, i, none⟩ := ⟨⟨_, hc⟩, by simp [hfrozen, hb, machO], hs⟩

theorem bit_and {x : Int} {k : Nat} (hx : 0 ≤ x ∧ x < 256) (hk : k < 8) : IntKind.i64.wrap (Go.bits .and .u8 (Int.fdiv x (2 ^ min k IntKind.u8.bits)) 1) = x.fdiv (2 ^ k) % 2 := by
  have e : min k IntKind.u8.bits = k := by
    have : IntKind.u8.bits = 8 := rfl
    rw [this]; omega
  rw [e, and1_u8, i64_in _ (by omega)]

theorem k_mbit (hi : Eng.Inv S h0) (hx : HInts h0 .u8 a bs) (L : bs.length ≤ 1048576) (p : Nat) (hp : p ≤ 8 * bs.length) (M : MAt h0 h bm a c bs p m T) :
    CallsH Tryd.prog S F_impl_machine__bit #[.pointer (some ⟨bm, 0, none⟩)] h (fun v h' => (p = 8 * bs.length ∧ v = .int .i64 (-1) ∧ h' = h) ∨ (p < 8 * bs.length ∧ v = .int .i64 (bitAt bs p) ∧ h' = upd h bm (machO a c bs ((p + 1 : Nat) : Int) m T))) := by
  have hsb : ¬ S bm := fun hs => hi bm hs M.nb
  refine run_impl_machine__bit (vs := [.pointer (some ⟨bm, 0, none⟩)]) ⟨rfl, trivial⟩ (hi.sub M.sb) ?_
  simp only [t_impl_machine__bit, Tr.wp, mksW, callW, Ex.ev, coerce, toInt_int, toBool_bool, slL_sl, slC_sl, slA_sl, toAddr_ptr, ptrOf_ptr, isNil_sl, isNil_ptr, it_and, it_or, it_int, optN_int, optN_nl, cmpI, arith, Cst.val, SV.den, resShs, resV, resSV, resVals, newVars, runCells, exSh, allSh, cellsAre, storeW, List.flatMap_cons, List.flatMap_nil, List.replicate_one, List.getD_cons_zero, List.getD_cons_succ, List.getElem?_cons_zero, List.getElem?_cons_succ, decide_eq_true_eq, decide_eq_false_iff_not, List.map_cons, List.map_nil, List.cons_append, List.nil_append, List.append_nil, List.length_cons, List.length_nil, Nat.zero_add, Nat.add_zero, and_true, true_and, if_true, if_false, Bool.false_eq_true, addr_add]
  obtain ⟨g0, g1, _⟩ := mach_ld M.hb
  have w8 : IntKind.i64.wrap (8 * (bs.length : Int)) = 8 * (bs.length : Int) := i64_in _ (by omega)
  have w1 : IntKind.i64.wrap ((p : Int) + 1) = ((p + 1 : Nat) : Int) := by rw [i64_in _ (by omega)]; omega
  have wd : IntKind.i64.wrap ((p : Int).tdiv 8) = ((p / 8 : Nat) : Int) := by rw [Int.tdiv_eq_ediv_of_nonneg (by omega)]; exact i64_in _ (by omega)
  have wm : (p : Int).tmod 8 = ((p % 8 : Nat) : Int) := by rw [Int.tmod_eq_emod_of_nonneg (by omega)]; omega
  refine ⟨by simp, p, g1, by simp, _, _, _, g0, fun hge => ?_, fun hlt => ?_⟩
  · rw [w8] at hge
    exact .inl (by omega)
  · rw [w8] at hlt
    have hlt : p < 8 * bs.length := by omega
    have hpl : p / 8 < bs.length := by omega
    refine ⟨by simp, p, g1, by simp, p, g1, by simp, mach_ok M.hb hsb g1, ?_⟩
    rw [w1, mach_set1 M.hb]
    have M' := M.keep (q := ((p + 1 : Nat) : Int)) rfl
    obtain ⟨k0, _⟩ := mach_ld M'.hb
    obtain ⟨x1, x2⟩ := (hx.sub M'.sb).cell (List.getElem?_eq_getElem hpl)
    rw [wd, wm]
    refine ⟨by simp, _, _, _, k0, by simpa using x2, by omega, by omega, bs[p / 8], by simp only [Int.toNat_natCast, Nat.mul_one, add_add, Nat.add_zero]; exact x1, by omega, .inr ⟨hlt, ?_, rfl⟩⟩
    rw [Int.toNat_natCast]
    have e : bs.getD (p / 8) 0 = bs[p / 8] := by simp [List.getD, List.getElem?_eq_getElem hpl]
    have e2 : min (p % 8) IntKind.u8.bits = p % 8 := by
      have : IntKind.u8.bits = 8 := rfl
      rw [this]; omega
    rw [e2, and1_u8, i64_in _ (by omega), bitAt, e]

theorem or_i64 {v : Int} {i : Nat} (b : Int) (h0 : 0 ≤ v) (h1 : v < 2 ^ i) (hb : 0 ≤ b ∧ b ≤ 1) (hi : i < 62) : Go.bits .or .i64 v (IntKind.i64.wrap (b * 2 ^ i)) = v + b * 2 ^ i := by
  have hp : (2 : Int) ^ i ≤ 2 ^ 61 := by
    rw [pow_cast, pow_cast]
    exact_mod_cast Nat.pow_le_pow_right (by decide) (show i ≤ 61 by omega)
  have hp0 : (0 : Int) < 2 ^ i := Int.pow_pos (by decide)
  have hb1 : 0 ≤ b * 2 ^ i ∧ b * 2 ^ i ≤ 2 ^ 61 := by
    obtain rfl | rfl : b = 0 ∨ b = 1 := by omega
    · rw [Int.zero_mul]; omega
    · rw [Int.one_mul]; omega
  have hw : IntKind.i64.wrap (b * 2 ^ i) = b * 2 ^ i := i64_in _ (by omega)
  have h := or_u64 b h0 h1 hb (show i < 64 by omega)
  have hX : IntKind.u64.wrap ((BitVec.ofInt 64 v ||| BitVec.ofInt 64 (b * 2 ^ i)).toNat : Int) = v + b * 2 ^ i := h
  rw [hw]
  show IntKind.i64.wrap ((BitVec.ofInt 64 v ||| BitVec.ofInt 64 (b * 2 ^ i)).toNat : Int) = _
  have hl := (BitVec.ofInt 64 v ||| BitVec.ofInt 64 (b * 2 ^ i)).isLt
  generalize (BitVec.ofInt 64 v ||| BitVec.ofInt 64 (b * 2 ^ i)).toNat = X at hX hl ⊢
  rw [u64_in _ (by omega)] at hX
  rw [hX]; exact i64_in _ (by omega)

set_option maxHeartbeats 1000000 in
theorem k_number (hi : Eng.Inv S h0) (G : Errs h0) (hx : HInts h0 .u8 a bs) (L : bs.length ≤ 1048576) (p : Nat) (hp : p ≤ 8 * bs.length) (n : Nat) (hn : n ≤ 32) (M : MAt h0 h bm a c bs p m T) :
    CallsH Tryd.prog S F_impl_machine__number #[.pointer (some ⟨bm, 0, none⟩), .int .i64 n] h (fun v h' => v = .tuple #[.int .i64 (tk bs n ⟨p, 0⟩).2, errI (tk bs n ⟨p, 0⟩).1.k] ∧ h' = upd h bm (machO a c bs (tk bs n ⟨p, 0⟩).1.i m T)) := by
  refine run_impl_machine__number (vs := [.pointer (some ⟨bm, 0, none⟩), .int .i64 n]) ⟨rfl, rfl, trivial⟩ (hi.sub M.sb) ?_
  simp only [t_impl_machine__number, Tr.wp, mksW, callW, Ex.ev, coerce, toInt_int, toBool_bool, slL_sl, slC_sl, slA_sl, toAddr_ptr, ptrOf_ptr, isNil_sl, isNil_ptr, it_and, it_or, it_int, optN_int, optN_nl, cmpI, arith, Cst.val, SV.den, resShs, resV, resSV, resVals, newVars, runCells, exSh, allSh, cellsAre, storeW, List.flatMap_cons, List.flatMap_nil, List.replicate_one, List.getD_cons_zero, List.getD_cons_succ, List.getElem?_cons_zero, List.getElem?_cons_succ, decide_eq_true_eq, decide_eq_false_iff_not, List.map_cons, List.map_nil, List.cons_append, List.nil_append, List.append_nil, List.length_cons, List.length_nil, Nat.zero_add, Nat.add_zero, and_true, true_and, if_true, if_false, Bool.false_eq_true, addr_add]
  obtain ⟨g0, g1, _⟩ := mach_ld M.hb
  have w8 : IntKind.i64.wrap (8 * (bs.length : Int)) = 8 * (bs.length : Int) := i64_in _ (by omega)
  have ws : IntKind.i64.wrap (8 * (bs.length : Int) - (p : Int)) = 8 * (bs.length : Int) - (p : Int) := i64_in _ (by omega)
  refine ⟨by simp, _, _, _, g0, by simp, p, g1, fun hgt => ?_, fun hle => ?_⟩
  · rw [w8, ws] at hgt
    have e : tk bs n ⟨(p : Int), 0⟩ = (⟨(p : Int), 2⟩, 0) := by unfold tk; rw [if_pos rfl, if_pos (by simp only; omega)]
    rw [e]
    exact ⟨2, (G.sub M.sb).e2, rfl, (upd_self M.hb).symm⟩
  · rw [w8, ws] at hle
    have e : tk bs n ⟨(p : Int), 0⟩ = (⟨(p : Int) + n, 0⟩, numAt bs p n) := by unfold tk; rw [if_pos rfl, if_neg (by simp only; omega)]; rfl
    rw [e]
    refine ⟨fun us h' => ∃ j : Nat, us = [.int .i64 (numAt bs p j), .int .i64 j] ∧ j ≤ n ∧ h' = upd h bm (machO a c bs ((p + j : Nat) : Int) m T), fun us _ => n - (toInt (us.getD 1 undef)).toNat, ⟨0, rfl, by omega, (upd_self M.hb).symm⟩, ?_⟩
    rintro x y h' ⟨j, hx1, hj, rfl⟩
    obtain ⟨rfl, rfl⟩ : x = numAt bs p j ∧ y = j := by simpa using hx1
    refine ⟨fun hlt => ?_, fun hge => ?_⟩
    · have hjn : j < n := by omega
      refine (k_mbit hi hx L (p + j) (by omega) (M.keep rfl)).mono ?_
      rintro _ h2 (⟨e1, _, _⟩ | ⟨_, rfl, rfl⟩)
      · omega
      · rw [upd_upd]
        have lt := numAt_lt (xs := bs) (a := p) (n := j)
        have m64 : min (j : Int).toNat IntKind.i64.bits = j := by
          have : IntKind.i64.bits = 64 := rfl
          rw [this]; omega
        have w2 : IntKind.i64.wrap ((j : Int) + 1) = ((j + 1 : Nat) : Int) := by rw [i64_in _ (by omega)]; omega
        refine ⟨_, rfl, by omega, ?_⟩
        rw [m64, or_i64 _ lt.1 lt.2 bitAt_le (by omega), w2]
        exact ⟨⟨j + 1, rfl, by omega, rfl⟩, by simp only [List.getD_cons_succ, List.getD_cons_zero, toInt_int, Int.toNat_natCast]; omega⟩
    · obtain rfl : j = n := by omega
      refine ⟨rfl, ?_⟩
      rw [show ((p + j : Nat) : Int) = (p : Int) + (j : Int) by omega]
end
end Go.Proofs.YtmnialmphlbmaaaDoor
