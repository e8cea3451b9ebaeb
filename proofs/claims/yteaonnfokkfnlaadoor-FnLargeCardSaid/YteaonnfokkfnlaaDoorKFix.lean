import Derived.Test.YteaonnfokkfnlaaDoorKCodes3
import Derived.Test.YteaonnfokkfnlaaDoorKTrie
import Derived.Test.YteaonnfokkfnlaaDoorTyB
import Derived.Test.YteaonnfokkfnlaaDoorEng3
import Derived.Test.YteaonnfokkfnlaaDoorTrEF
set_option linter.unusedVariables false
set_option linter.unusedSimpArgs false
namespace Go.Proofs.YteaonnfokkfnlaaDoor
open Go Go.Eng Go.IntWalk
variable {S : Shared} {h h0 : Eng.Heap}

/-! ### The plain side -/

/-- The n lowest bits, the lowest first. -/
def bitsOf (x : Int) (n : Nat) : List Int := (List.range n).map fun i => x / 2 ^ i % 2
theorem bitsOf_len {x : Int} {n : Nat} : (bitsOf x n).length = n := by simp [bitsOf]
theorem bitsOf_succ {x : Int} {n : Nat} : bitsOf x (n + 1) = bitsOf x n ++ [x / 2 ^ n % 2] := by simp [bitsOf, List.range_succ]
theorem bitsOf_01 {x : Int} {n : Nat} : ∀ b ∈ bitsOf x n, 0 ≤ b ∧ b ≤ 1 := fun b hb => by
  simp only [bitsOf, List.mem_map] at hb
  obtain ⟨i, _, rfl⟩ := hb
  omega

/-- One bit more: a new byte where the last is full. -/
def pstep (out : List Int) (n : Nat) (b : Int) : List Int :=
  (if n % 8 = 0 then out ++ [0] else out).set (n / 8) ((if n % 8 = 0 then out ++ [0] else out).getD (n / 8) 0 + b * 2 ^ (n % 8))
/-- The first k bits in bytes. -/
def pk (bs : List Int) : Nat → List Int
  | 0 => []
  | k + 1 => pstep (pk bs k) k (bs.getD k 0)

theorem pstep_len {out : List Int} {n : Nat} {b : Int} (h : out.length = (n + 7) / 8) : (pstep out n b).length = (n + 1 + 7) / 8 := by
  unfold pstep
  rw [List.length_set]
  split
  · rw [List.length_append, h, List.length_singleton]; omega
  · omega
theorem pk_len {bs : List Int} : ∀ {k : Nat}, (pk bs k).length = (k + 7) / 8
  | 0 => rfl
  | k + 1 => pstep_len pk_len

theorem pk_ext {bs cs : List Int} : ∀ {k : Nat}, k ≤ bs.length → pk (bs ++ cs) k = pk bs k
  | 0, _ => rfl
  | k + 1, h => by
    rw [pk, pk, pk_ext (by omega)]
    congr 1
    rw [List.getD_eq_getElem?_getD, List.getD_eq_getElem?_getD, List.getElem?_append_left (by omega)]

/-- What stands in the byte that the next bit goes to. -/
def pbase (out : List Int) (n : Nat) : Int := (if n % 8 = 0 then out ++ [0] else out).getD (n / 8) 0

theorem pbase_new {out : List Int} {n : Nat} (h : out.length = (n + 7) / 8) (h0 : n % 8 = 0) : pbase out n = 0 := by
  unfold pbase
  rw [if_pos h0, List.getD_eq_getElem?_getD, List.getElem?_append_right (by omega), show n / 8 - out.length = 0 by omega]
  rfl

theorem pbase_lt {bs : List Int} (hb : ∀ b ∈ bs, 0 ≤ b ∧ b ≤ 1) : ∀ {k : Nat}, 0 ≤ pbase (pk bs k) k ∧ pbase (pk bs k) k < 2 ^ (k % 8)
  | 0 => by simp [pbase, pk]
  | k + 1 => by
    by_cases h0 : (k + 1) % 8 = 0
    · rw [pbase_new pk_len h0, h0]; decide
    · have ih := pbase_lt hb (k := k)
      have e8 : (k + 1) / 8 = k / 8 := by omega
      have em : (k + 1) % 8 = k % 8 + 1 := by omega
      have hbit : 0 ≤ bs.getD k 0 ∧ bs.getD k 0 ≤ 1 := by
        rw [List.getD_eq_getElem?_getD]
        cases hg : bs[k]? with
        | none => simp
        | some x => exact hb x (List.mem_of_getElem? hg)
      have hlen : k / 8 < (if k % 8 = 0 then pk bs k ++ [0] else pk bs k).length := by
        have := pk_len (bs := bs) (k := k)
        split
        · rw [List.length_append, this, List.length_singleton]; omega
        · omega
      have hp : pbase (pk bs (k + 1)) (k + 1) = pbase (pk bs k) k + bs.getD k 0 * 2 ^ (k % 8) := by
        unfold pbase
        rw [if_neg h0, e8, pk]
        unfold pstep
        rw [List.getD_eq_getElem?_getD, List.getElem?_set_self hlen]
        rfl
      rw [hp, em, show (2 : Int) ^ (k % 8 + 1) = 2 * 2 ^ (k % 8) by rw [Int.pow_succ]; omega]
      have hpp : (0 : Int) < 2 ^ (k % 8) := Int.pow_pos (by decide)
      rcases (show bs.getD k 0 = 0 ∨ bs.getD k 0 = 1 by omega) with h | h <;> rw [h] <;> omega

theorem pow7 {n : Nat} : (2 : Int) ^ (n % 8) ≤ 128 := by
  have : n % 8 ≤ 7 := by omega
  have h := pow2_le this
  have e : (2 : Int) ^ 7 = 128 := by decide
  omega

theorem or_u8 {v : Int} {i : Nat} (b : Int) (h0 : 0 ≤ v) (h1 : v < 2 ^ i) (hb : 0 ≤ b ∧ b ≤ 1) (hi : i < 8) : Go.bits .or .u8 v (b * 2 ^ i) = v + b * 2 ^ i := by
  obtain ⟨n, rfl⟩ := Int.eq_ofNat_of_zero_le h0
  obtain ⟨m, rfl⟩ := Int.eq_ofNat_of_zero_le hb.1
  rw [pow_cast] at h1 ⊢
  have hn : n < 2 ^ i := by exact_mod_cast h1
  have hm : m ≤ 1 := by omega
  have hp : 2 ^ i ≤ 2 ^ 7 := Nat.pow_le_pow_right (by decide) (by omega)
  have e7 : 2 ^ 7 = 128 := by decide
  have hle : m * 2 ^ i ≤ 2 ^ i := by have := Nat.mul_le_mul_right (2 ^ i) hm; omega
  have e : ((m : Int) * ((2 ^ i : Nat) : Int)) = ((m * 2 ^ i : Nat) : Int) := by push_cast; rfl
  have h1' : (BitVec.ofInt 8 (n : Int)).toNat = n := by rw [BitVec.ofInt_natCast, BitVec.toNat_ofNat]; exact Nat.mod_eq_of_lt (by omega)
  have h2' : (BitVec.ofInt 8 ((m * 2 ^ i : Nat) : Int)).toNat = m * 2 ^ i := by rw [BitVec.ofInt_natCast, BitVec.toNat_ofNat]; exact Nat.mod_eq_of_lt (by omega)
  have e2 := Nat.two_pow_add_eq_or_of_lt hn m
  rw [e]
  show IntKind.u8.wrap ((BitVec.ofInt 8 (n : Int) ||| BitVec.ofInt 8 ((m * 2 ^ i : Nat) : Int)).toNat : Int) = _
  rw [BitVec.toNat_or, h1', h2', Nat.or_comm, Nat.mul_comm m, ← e2, u8_in _ (by rw [Nat.mul_comm]; omega)]
  push_cast
  omega

/-- The fixed lengths. -/
def fixL : List Int := (List.range 288).map fun s => if s < 144 then 8 else if s < 256 then 9 else if s < 280 then 7 else 8
theorem fixL_len : fixL.length = 288 := by simp [fixL]
theorem fixL_get {s : Nat} (h : s < 288) : fixL[s]? = some (if s < 144 then 8 else if s < 256 then 9 else if s < 280 then 7 else 8) := by simp [fixL, h]
set_option maxRecDepth 100000 in
theorem fixL_kind : hkind fixL = 1 := by decide +kernel
theorem fixL_good : ¬ (hkind fixL = 0 ∨ hkind fixL = 2) := by rw [fixL_kind]; decide
theorem fixL_codes : ans_HuffCodes fixL = codesOf fixL := by unfold ans_HuffCodes; rw [if_neg fixL_good]
theorem fixL_lim : limI fixL := by show fixL.length ≤ 1048576; rw [fixL_len]; omega

def cbits (c : Nat) : List Int := bitsOf ((codesOf fixL).getD c (0, 0)).2 ((codesOf fixL).getD c (0, 0)).1.toNat
def strm (xs : List Int) : List Int := ([1, 1, 0] ++ xs.flatMap fun c => cbits c.toNat) ++ cbits 256
def ans_EncodeFixed (xs : List Int) : List Int := if xs.length > 100000 then [] else pk (strm xs) (strm xs).length

theorem code_facts {c : Nat} (h : c < 288) : ∃ l b : Nat, (codesOf fixL)[c]? = some ((l : Int), (b : Int)) ∧ l ≤ 15 ∧ b < 2 ^ l ∧ cbits c = bitsOf b l := by
  have hok := (hkind_ok fixL_good).2
  have hg := codesOf_get (xs := fixL) (j := c) (by rw [fixL_len]; exact h)
  obtain ⟨l, b, e, _, h1, h2⟩ := codesOf_cast hok hg
  rw [e] at hg
  refine ⟨l, b, hg, h1, h2, ?_⟩
  unfold cbits
  have e2 : (codesOf fixL).getD c (0, 0) = ((l : Int), (b : Int)) := by rw [List.getD_eq_getElem?_getD, hg]; rfl
  rw [e2, Int.toNat_natCast]

theorem cbits_01 {c : Nat} : ∀ b ∈ cbits c, 0 ≤ b ∧ b ≤ 1 := bitsOf_01
theorem cbits_len {c : Nat} (h : c < 288) : (cbits c).length ≤ 15 := by
  obtain ⟨l, b, _, h1, _, e⟩ := code_facts h
  rw [e, bitsOf_len]; exact h1

theorem flat_len {xs : List Int} (hw : ∀ x ∈ xs, 0 ≤ x ∧ x ≤ 255) : (xs.flatMap fun c => cbits c.toNat).length ≤ 15 * xs.length := by
  induction xs with
  | nil => simp
  | cons x r ih =>
    have h1 := hw x (List.mem_cons_self ..)
    have h2 := cbits_len (c := x.toNat) (by omega)
    have h3 := ih fun y hy => hw y (List.mem_cons_of_mem _ hy)
    rw [List.flatMap_cons, List.length_append, List.length_cons]; omega

theorem strm_01 {xs : List Int} : ∀ b ∈ strm xs, 0 ≤ b ∧ b ≤ 1 := fun b hb => by
  unfold strm at hb
  rcases List.mem_append.1 hb with h | h
  · rcases List.mem_append.1 h with h | h
    · simp at h; omega
    · obtain ⟨c, _, hc⟩ := List.mem_flatMap.1 h
      exact cbits_01 b hc
  · exact cbits_01 b h

/-! ### The reference -/

theorem part_set {k : IntKind} {a : Option Addr} {l c : Nat} {xs : List Int} (H : Part k h (.slice a l c) xs) (hs : ∀ b, blkOf (.slice a l c) = some b → ¬ S b) {i : Nat} (hi : i < xs.length) (x : Int) :
    okCell S h (((a.getD default).add (i * 1)).add 0) ∧ Part k (hset h (((a.getD default).add (i * 1)).add 0) (.int k x)) (.slice a l c) (xs.set i x) ∧ ∀ w, blkOf (.slice a l c) ≠ some w → hset h (((a.getD default).add (i * 1)).add 0) (.int k x) w = h w := by
  rcases H with ⟨_, rfl⟩ | ⟨b, pr, sp, re, T, e, hb⟩
  · simp at hi
  · cases e
    have hsb := hs b rfl
    have e1 : (((some (⟨b, pr.length, none⟩ : Addr)).getD default).add (i * 1)).add 0 = (⟨b, pr.length + i, none⟩ : Addr) := by
      rw [add_add, Option.getD_some, addr_add]; simp
    have hsz : pr.length + i < (ints k (pr ++ xs ++ sp ++ re)).size := by rw [ints_size]; simp; omega
    rw [e1, hset_cells hb, ints_set]
    have e2 : (pr ++ xs ++ sp ++ re).set (pr.length + i) x = pr ++ xs.set i x ++ sp ++ re := by
      rw [List.append_assoc, List.append_assoc, List.set_append_right _ _ (by omega), Nat.add_sub_cancel_left, List.set_append_left _ _ hi]
      simp [List.append_assoc]
    rw [e2]
    exact ⟨⟨⟨(ints k (pr ++ xs ++ sp ++ re))[pr.length + i], by simp [hcell, hb, hsz]⟩, by simp [hfrozen, hb], hsb⟩, .inr ⟨b, pr, sp, re, T, by simp, upd_same⟩, fun w hw => upd_ne fun e => hw (by rw [e]; rfl)⟩

/-- The write of one bit. -/
theorem bit_step (hi : Eng.Inv S h0) {h2 : Eng.Heap} {a : Option Addr} {c n : Nat} {out o2 : List Int} (ho2 : o2 = (if n % 8 = 0 then out ++ [0] else out)) (hlen : n / 8 < o2.length) (P : Part .u8 h2 (.slice a o2.length c) o2) (N : Eng.New h0 (.slice a o2.length c)) (s : Eng.Sub h0 h2) (b : Int) :
    okCell S h2 (((a.getD default).add (n / 8 * 1)).add 0) ∧ Part .u8 (hset h2 (((a.getD default).add (n / 8 * 1)).add 0) (.int .u8 (pbase out n + b * 2 ^ (n % 8)))) (.slice a o2.length c) (pstep out n b) ∧ Eng.Sub h0 (hset h2 (((a.getD default).add (n / 8 * 1)).add 0) (.int .u8 (pbase out n + b * 2 ^ (n % 8)))) ∧
      ∀ w, blkOf (.slice a o2.length c) ≠ some w → hset h2 (((a.getD default).add (n / 8 * 1)).add 0) (.int .u8 (pbase out n + b * 2 ^ (n % 8))) w = h2 w := by
  obtain ⟨g1, g2, g3⟩ := part_set P (fun b hb hs => hi b hs (N b hb)) hlen (pbase out n + b * 2 ^ (n % 8))
  refine ⟨g1, ?_, fun w o hw => ?_, g3⟩
  · have e : pstep out n b = o2.set (n / 8) (pbase out n + b * 2 ^ (n % 8)) := by unfold pstep pbase; rw [← ho2]
    rw [e]; exact g2
  · by_cases hb : blkOf (.slice a o2.length c) = some w
    · rw [N w hb] at hw; cases hw
    · rw [g3 w hb]; exact s w o hw

theorem fixL_take {i : Nat} (h : i < 288) : fixL.take (i + 1) = fixL.take i ++ [if i < 144 then 8 else if i < 256 then 9 else if i < 280 then 7 else 8] := by
  rw [List.take_add_one, fixL_get h]; rfl
theorem fixL_tlen {i : Nat} (h : i ≤ 288) : (fixL.take i).length = i := by rw [List.length_take, fixL_len]; omega
theorem fixL_all : fixL.take 288 = fixL := by rw [List.take_of_length_le (by rw [fixL_len]; omega)]

/-- So far: the first i set. -/
def hub (i : Nat) : List Int := fixL.take i ++ List.replicate (288 - i) 0
theorem hub_len {i : Nat} (h : i ≤ 288) : (hub i).length = 288 := by unfold hub; rw [List.length_append, fixL_tlen h, List.length_replicate]; omega
theorem hub_set {i : Nat} (h : i < 288) : (hub i).set i (if i < 144 then 8 else if i < 256 then 9 else if i < 280 then 7 else 8) = hub (i + 1) := by
  unfold hub
  rw [List.set_append_right _ _ (by rw [fixL_tlen (by omega)]; omega), fixL_tlen (by omega), Nat.sub_self, show 288 - i = (288 - (i + 1)) + 1 by omega, List.replicate_succ, List.set_cons_zero, fixL_take h, List.append_assoc]
  rfl
theorem hub_all : hub 288 = fixL := by unfold hub; rw [fixL_all]; simp
theorem hub_zero : hub 0 = List.replicate 288 0 := by unfold hub; rw [List.take_zero, List.nil_append]


def fixT : Tr := match t_impl_fixedLens with | .join _ _ t => t | t => t
theorem fixT_eq : t_impl_fixedLens = .join [.slice, .slice, .slice, .slice]
 (.both
  (.mks 2 1 8 [(.int .i64 0)] (.cst (.int .i64 288)) (.cst (.int .i64 288))
  (.mks 2 1 8 [(.int .i64 0)] (.cst (.int .i64 32)) (.cst (.int .i64 32))
  (.cont 0 [(.var (.slice) 0), (.var (.slice) 1), (.var (.slice) 0), (.var (.slice) 1)])))
  (.mks 2 1 8 [(.int .i64 0)] (.cst (.int .i64 32)) (.cst (.int .i64 32))
  (.mks 2 1 8 [(.int .i64 0)] (.cst (.int .i64 288)) (.cst (.int .i64 288))
  (.cont 0 [(.var (.slice) 1), (.var (.slice) 0), (.var (.slice) 1), (.var (.slice) 0)])))) fixT := rfl

theorem part_upd {h2 : Eng.Heap} {a2 : Option Addr} {c2 : Nat} {xs : List Int} {k : IntKind} {ad : Addr} {x : Value} {a1 : Option Addr} {c1 : Nat} (P : Part k h2 (.slice a2 xs.length c2) xs) (hn : ∀ z, blkOf (.slice a2 xs.length c2) = some z → blkOf (.slice a1 288 c1) ≠ some z) (hk : ∀ w, blkOf (.slice a1 288 c1) ≠ some w → hset h2 ad x w = h2 w) :
    Part k (hset h2 ad x) (.slice a2 xs.length c2) xs := P.keep fun z hz => hk z (hn z hz)

set_option maxHeartbeats 1000000 in
theorem k_fixT (hi : Eng.Inv S h) {a1 a2 : Option Addr} {c1 c2 : Nat} {h1 : Eng.Heap} (P1 : Part .i64 h1 (.slice a1 288 c1) (List.replicate 288 0)) (P2 : Part .i64 h1 (.slice a2 32 c2) (List.replicate 32 0)) (N1 : Eng.New h (.slice a1 288 c1)) (N2 : Eng.New h (.slice a2 32 c2)) (hn : ∀ z, blkOf (.slice a2 32 c2) = some z → blkOf (.slice a1 288 c1) ≠ some z) (s : Eng.Sub h h1) :
    fixT.wp Tryd.prog S noLeaf (fun v h' => ∃ a1 c1 a2 c2, v = .tuple #[.slice a1 288 c1, .slice a2 32 c2] ∧ Part .i64 h' (.slice a1 288 c1) fixL ∧ Part .i64 h' (.slice a2 32 c2) (List.replicate 32 5) ∧ Eng.New h (.slice a1 288 c1) ∧ Eng.New h (.slice a2 32 c2) ∧ Eng.Sub h h') [.slice a1 288 c1, .slice a2 32 c2, .slice a1 288 c1, .slice a2 32 c2] h1 [] := by
  simp only [fixT, t_impl_fixedLens, Tr.wp, mksW, callW, Ex.ev, coerce, toInt_int, toBool_bool, slL_sl, slC_sl, slA_sl, toAddr_ptr, ptrOf_ptr, isNil_sl, isNil_ptr, it_and, it_or, it_int, optN_int, optN_nl, cmpI, arith, Cst.val, SV.den, resShs, resV, resSV, resVals, newVars, runCells, exSh, allSh, cellsAre, storeW, List.flatMap_cons, List.flatMap_nil, List.replicate_one, List.getD_cons_zero, List.getD_cons_succ, List.getElem?_cons_zero, List.getElem?_cons_succ, decide_eq_true_eq, decide_eq_false_iff_not, List.map_cons, List.map_nil, List.cons_append, List.nil_append, List.append_nil, List.length_cons, List.length_nil, Nat.zero_add, Nat.add_zero, and_true, true_and, if_true, if_false, Bool.false_eq_true]
  have ns1 : ∀ b, blkOf (.slice a1 288 c1) = some b → ¬ S b := fun z hz hs => hi z hs (N1 z hz)
  have ns2 : ∀ b, blkOf (.slice a2 32 c2) = some b → ¬ S b := fun z hz hs => hi z hs (N2 z hz)
  refine ⟨fun us h' => ∃ i : Nat, us = [.int .i64 i] ∧ i ≤ 288 ∧ Part .i64 h' (.slice a1 288 c1) (hub i) ∧ Part .i64 h' (.slice a2 32 c2) (List.replicate 32 0) ∧ Eng.Sub h h', fun us _ => 288 - (toInt (us.getD 0 undef)).toNat, ⟨0, rfl, by omega, by rw [hub_zero]; exact P1, P2, s⟩, ?_⟩
  rintro x h' ⟨i, hx, hi2, P1, P2, s⟩
  obtain rfl : x = i := by simpa using hx
  refine ⟨fun hlt => ?_, fun hge => ?_⟩
  · have hi3 : i < 288 := by omega
    have w4 : IntKind.i64.wrap ((i : Int) + 1) = ((i + 1 : Nat) : Int) := by rw [i64_in _ (by omega)]; omega
    have hl := hub_len hi2
    have step : ∀ v : Int, v = (if i < 144 then 8 else if i < 256 then 9 else if i < 280 then 7 else 8) →
        ((!a1.isNone) = true ∧ 0 ≤ (i : Int) ∧ (i : Int) < ((288 : Nat) : Int) ∧ okCell S h' (((a1.getD default).add ((i : Int).toNat * 1)).add 0)) ∧
        ∃ i2 : Nat, [Value.int .i64 ((i + 1 : Nat) : Int)] = [.int .i64 i2] ∧ i2 ≤ 288 ∧ Part .i64 (hset h' (((a1.getD default).add ((i : Int).toNat * 1)).add 0) (.int .i64 v)) (.slice a1 288 c1) (hub i2) ∧ Part .i64 (hset h' (((a1.getD default).add ((i : Int).toNat * 1)).add 0) (.int .i64 v)) (.slice a2 32 c2) (List.replicate 32 0) ∧ Eng.Sub h (hset h' (((a1.getD default).add ((i : Int).toNat * 1)).add 0) (.int .i64 v)) := by
      intro v hv
      obtain ⟨g1, g2, g3⟩ := part_set P1 ns1 (i := i) (by omega) v
      rw [hv, hub_set hi3, ← hv] at g2
      obtain ⟨a', c', e, _, hxx⟩ := P1.ints
      simp only [Value.slice.injEq] at e
      obtain ⟨rfl, _, rfl⟩ := e
      have ha := (hxx.cell (List.getElem?_eq_getElem (show i < (hub i).length by omega))).2
      refine ⟨⟨by simpa using ha, by omega, by omega, g1⟩, i + 1, rfl, by omega, g2, ?_, fun y o hy => ?_⟩
      · exact P2.keep fun z hz => g3 z (hn z hz)
      · by_cases hb : blkOf (.slice a1 288 c1) = some y
        · rw [N1 y hb] at hy; cases hy
        · exact (g3 y hb).trans (s y o hy)
    have meas : (fun us (_ : Eng.Heap) => 288 - (toInt (us.getD 0 undef)).toNat) [Value.int .i64 ((i + 1 : Nat) : Int)] h' < (fun us (_ : Eng.Heap) => 288 - (toInt (us.getD 0 undef)).toNat) [Value.int .i64 (i : Int)] h' := by
      show 288 - (toInt (Value.int .i64 ((i + 1 : Nat) : Int))).toNat < 288 - (toInt (Value.int .i64 (i : Int))).toNat
      rw [toInt_int, toInt_int]; omega
    rw [w4]
    refine ⟨fun hc => ?_, fun hc => ⟨fun hc2 => ?_, fun hc2 => ?_⟩⟩
    · have hc : (i : Int) < 144 ∨ (i : Int) ≥ 280 := by simpa using hc
      obtain ⟨⟨q1, q2, q3, q4⟩, q5⟩ := step 8 (by repeat' split <;> omega)
      exact ⟨q1, q2, q3, q4, fun _ => ⟨q5, meas⟩⟩
    · have hc : ¬ ((i : Int) < 144 ∨ (i : Int) ≥ 280) := by simpa using hc
      obtain ⟨⟨q1, q2, q3, q4⟩, q5⟩ := step 9 (by repeat' split <;> omega)
      exact ⟨q1, q2, q3, q4, fun _ _ => ⟨q5, meas⟩⟩
    · have hc : ¬ ((i : Int) < 144 ∨ (i : Int) ≥ 280) := by simpa using hc
      obtain ⟨⟨q1, q2, q3, q4⟩, q5⟩ := step 7 (by repeat' split <;> omega)
      exact ⟨q1, q2, q3, q4, fun _ _ => ⟨q5, meas⟩⟩
  · obtain rfl : i = 288 := by omega
    rw [hub_all] at P1
    refine ⟨fun us h' => ∃ i : Nat, us = [.int .i64 i] ∧ i ≤ 32 ∧ Part .i64 h' (.slice a1 288 c1) fixL ∧ Part .i64 h' (.slice a2 32 c2) (List.replicate i 5 ++ List.replicate (32 - i) 0) ∧ Eng.Sub h h', fun us _ => 32 - (toInt (us.getD 0 undef)).toNat, ⟨0, rfl, by omega, P1, P2, s⟩, ?_⟩
    rintro x h' ⟨i, hx, hi2, P1, P2, s⟩
    obtain rfl : x = i := by simpa using hx
    have hl : (List.replicate i (5 : Int) ++ List.replicate (32 - i) 0).length = 32 := by rw [List.length_append, List.length_replicate, List.length_replicate]; omega
    refine ⟨fun hlt => ?_, fun hge => ?_⟩
    · have hi3 : i < 32 := by omega
      have w4 : IntKind.i64.wrap ((i : Int) + 1) = ((i + 1 : Nat) : Int) := by rw [i64_in _ (by omega)]; omega
      rw [w4]
      obtain ⟨g1, g2, g3⟩ := part_set P2 ns2 (i := i) (by rw [hl]; omega) 5
      have es : (List.replicate i (5 : Int) ++ List.replicate (32 - i) 0).set i 5 = List.replicate (i + 1) 5 ++ List.replicate (32 - (i + 1)) 0 := by
        rw [List.set_append_right _ _ (by rw [List.length_replicate]; omega), List.length_replicate, Nat.sub_self, show 32 - i = (32 - (i + 1)) + 1 by omega, List.replicate_succ, List.set_cons_zero, List.replicate_succ', List.append_assoc]
        rfl
      rw [es] at g2
      obtain ⟨a', c', e, _, hxx⟩ := P2.ints
      simp only [Value.slice.injEq] at e
      obtain ⟨rfl, _, rfl⟩ := e
      have ha := (hxx.cell (List.getElem?_eq_getElem (show i < (List.replicate i (5 : Int) ++ List.replicate (32 - i) 0).length by omega))).2
      refine ⟨by simpa using ha, by omega, by omega, g1, ⟨i + 1, rfl, by omega, ?_, g2, fun y o hy => ?_⟩, ?_⟩
      · exact P1.keep fun z hz => g3 z fun e => hn z e hz
      · by_cases hb : blkOf (.slice a2 32 c2) = some y
        · rw [N2 y hb] at hy; cases hy
        · exact (g3 y hb).trans (s y o hy)
      · show 32 - (toInt (Value.int .i64 ((i + 1 : Nat) : Int))).toNat < 32 - (toInt (Value.int .i64 (i : Int))).toNat
        rw [toInt_int, toInt_int]; omega
    · obtain rfl : i = 32 := by omega
      exact ⟨_, _, _, _, rfl, P1, by simpa using P2, N1, N2, s⟩

theorem made_rep {b : Nat} {T : TypeId} (n : Nat) : Own .i64 (upd h b (.cells (ints .i64 (List.replicate n 0)) T)) (.slice (some ⟨b, 0, none⟩) n n) (List.replicate n 0) := by
  have := Own.made (k := .i64) (h := h) (b := b) (T := T) (List.replicate n 0)
  rwa [List.length_replicate] at this

set_option maxHeartbeats 1000000 in
theorem k_fixedLens (hi : Eng.Inv S h) :
    CallsH Tryd.prog S F_impl_fixedLens #[] h (fun v h' => ∃ a1 c1 a2 c2, v = .tuple #[.slice a1 288 c1, .slice a2 32 c2] ∧ Part .i64 h' (.slice a1 288 c1) fixL ∧ Part .i64 h' (.slice a2 32 c2) (List.replicate 32 5) ∧ Eng.New h (.slice a1 288 c1) ∧ Eng.New h (.slice a2 32 c2) ∧ Eng.Sub h h') := by
  refine run_impl_fixedLens (vs := []) trivial hi ?_
  rw [fixT_eq]
  have e1 : IntKind.i64.wrap 288 = 288 := by decide
  have e2 : IntKind.i64.wrap 32 = 32 := by decide
  have m1 : mkCells ((288 : Int).toNat * 1) #[Value.int .i64 0] = ints .i64 (List.replicate 288 0) := mkCells_ints (k := .i64) 288
  have m2 : mkCells ((32 : Int).toNat * 1) #[Value.int .i64 0] = ints .i64 (List.replicate 32 0) := mkCells_ints (k := .i64) 32
  simp only [Tr.wp, mksW, callW, Ex.ev, coerce, toInt_int, toBool_bool, slL_sl, slC_sl, slA_sl, toAddr_ptr, ptrOf_ptr, isNil_sl, isNil_ptr, it_and, it_or, it_int, optN_int, optN_nl, cmpI, arith, Cst.val, SV.den, resShs, resV, resSV, resVals, newVars, runCells, exSh, allSh, cellsAre, storeW, List.flatMap_cons, List.flatMap_nil, List.replicate_one, List.getD_cons_zero, List.getD_cons_succ, List.getElem?_cons_zero, List.getElem?_cons_succ, decide_eq_true_eq, decide_eq_false_iff_not, List.map_cons, List.map_nil, List.cons_append, List.nil_append, List.append_nil, List.length_cons, List.length_nil, Nat.zero_add, Nat.add_zero, and_true, true_and, if_true, if_false, Bool.false_eq_true, e1, e2, m1, m2]
  have ne : ∀ {b b' : Nat} {o : Obj}, upd h b o b' = none → b ≠ b' ∧ h b' = none := fun {b b' o} hb => by
    have n : b ≠ b' := fun e => by rw [e, upd_same] at hb; cases hb
    exact ⟨n, by rw [← upd_ne (h := h) (o := o) (Ne.symm n)]; exact hb⟩
  refine ⟨⟨by omega, by omega, by decide, fun b hb => ⟨by omega, by omega, by decide, fun b' hb' _ => ?_⟩⟩, by omega, by omega, by decide, fun b hb => ⟨by omega, by omega, by decide, fun b' hb' _ => ?_⟩⟩
  · obtain ⟨n, hb2⟩ := ne hb'
    refine k_fixT hi ((made_rep (h := h) (T := 2) 288).keep fun z hz => ?_).part (made_rep 32).part (New.of hb) (New.of hb2) (fun z hz e => ?_) ((Sub.of_upd hb).trans (Sub.of_upd hb'))
    · cases hz; exact upd_ne n
    · cases hz; cases e; exact n rfl
  · obtain ⟨n, hb2⟩ := ne hb'
    refine k_fixT hi (made_rep 288).part ((made_rep (h := h) (T := 2) 32).keep fun z hz => ?_).part (New.of hb2) (New.of hb) (fun z hz e => ?_) ((Sub.of_upd hb).trans (Sub.of_upd hb'))
    · cases hz; exact upd_ne n
    · cases hz; cases e; exact n rfl

/-! ### The reference's answer -/

theorem flat_take {xs : List Int} {i : Nat} (h : i < xs.length) : (xs.take (i + 1)).flatMap (fun c => cbits c.toNat) = (xs.take i).flatMap (fun c => cbits c.toNat) ++ cbits xs[i].toNat := by
  rw [List.take_add_one, List.getElem?_eq_getElem h, List.flatMap_append]
  simp

theorem none_sub {h h' : Eng.Heap} (s : Eng.Sub h h') {z : Nat} (hz : h' z = none) : h z = none := by
  cases hh : h z with
  | none => rfl
  | some o => exact (by rw [s _ _ hh] at hz; cases hz)

/-- The bits up to the i-th byte. -/
def pre (xs : List Int) (i : Nat) : List Int := [1, 1, 0] ++ (xs.take i).flatMap fun c => cbits c.toNat
theorem pre_succ {xs : List Int} {i : Nat} (h : i < xs.length) : pre xs (i + 1) = pre xs i ++ cbits xs[i].toNat := by
  unfold pre; rw [flat_take h, List.append_assoc]
theorem pre_all {xs : List Int} : pre xs xs.length ++ cbits 256 = strm xs := by unfold pre strm; rw [List.take_length]
theorem pre_len {xs : List Int} (hw : ∀ x ∈ xs, 0 ≤ x ∧ x ≤ 255) {i : Nat} (hi : i ≤ xs.length) : (pre xs i).length ≤ 3 + 15 * i := by
  have := flat_len (xs := xs.take i) fun x hx => hw x (List.mem_of_mem_take hx)
  have hl : (xs.take i).length ≤ i := by rw [List.length_take]; omega
  unfold pre
  rw [List.length_append]
  simp only [List.length_cons, List.length_nil]
  omega

/-! ### The program's answer -/

theorem pk_snoc {bs : List Int} {b : Int} : pk (bs ++ [b]) (bs ++ [b]).length = pstep (pk bs bs.length) bs.length b := by
  rw [List.length_append, List.length_singleton, pk, pk_ext (Nat.le_refl _)]
  congr 1
  rw [List.getD_eq_getElem?_getD, List.getElem?_append_right (Nat.le_refl _), Nat.sub_self]
  rfl

/-- The closure's two variables hold the bits so far. -/
def EncSt (h0 h : Eng.Heap) (bN bO : Nat) (bs : List Int) : Prop :=
  ∃ a c, h bN = some (.cells #[.int .i64 bs.length] 3) ∧ h bO = some (.cells #[.slice a (pk bs bs.length).length c] 22) ∧ Part .u8 h (.slice a (pk bs bs.length).length c) (pk bs bs.length) ∧ Eng.New h0 (.slice a (pk bs bs.length).length c) ∧ blkOf (.slice a (pk bs bs.length).length c) ≠ some bN ∧ blkOf (.slice a (pk bs bs.length).length c) ≠ some bO ∧ Eng.Sub h0 h

set_option maxHeartbeats 1000000 in
theorem k_fixput (hi : Eng.Inv S h0) {bN bO : Nat} (hne : bN ≠ bO) (hN : h0 bN = none) (hO : h0 bO = none) {bs : List Int} (h01 : ∀ b ∈ bs, 0 ≤ b ∧ b ≤ 1) (E : EncSt h0 h bN bO bs) (x n : Nat) (hx : x ≤ 32768) (hn : n ≤ 15) (hl : bs.length ≤ 3000000) :
    CallsH Tryd.prog S F_impl_EncodeFixed_1 #[.int .u64 x, .int .i64 n, .pointer (some ⟨bN, 0, none⟩), .pointer (some ⟨bO, 0, none⟩)] h (fun v h' => v = .tuple #[] ∧ EncSt h0 h' bN bO (bs ++ bitsOf x n)) := by
  refine run_impl_EncodeFixed_1 (vs := [.int .u64 x, .int .i64 n, .pointer (some ⟨bN, 0, none⟩), .pointer (some ⟨bO, 0, none⟩)]) ⟨rfl, rfl, rfl, rfl, trivial⟩ (hi.sub E.choose_spec.choose_spec.2.2.2.2.2.2) ?_
  simp only [t_impl_EncodeFixed_1, Tr.wp, mksW, callW, Ex.ev, coerce, toInt_int, toBool_bool, slL_sl, slC_sl, slA_sl, toAddr_ptr, ptrOf_ptr, isNil_sl, isNil_ptr, it_and, it_or, it_int, optN_int, optN_nl, cmpI, arith, Cst.val, SV.den, resShs, resV, resSV, resVals, newVars, runCells, exSh, allSh, cellsAre, storeW, List.flatMap_cons, List.flatMap_nil, List.replicate_one, List.getD_cons_zero, List.getD_cons_succ, List.getElem?_cons_zero, List.getElem?_cons_succ, decide_eq_true_eq, decide_eq_false_iff_not, List.map_cons, List.map_nil, List.cons_append, List.nil_append, List.append_nil, List.length_cons, List.length_nil, Nat.zero_add, Nat.add_zero, and_true, true_and, if_true, if_false, Bool.false_eq_true]
  have nsN : ¬ S bN := fun hs => hi _ hs hN
  have nsO : ¬ S bO := fun hs => hi _ hs hO
  refine ⟨fun us h' => ∃ i : Nat, us = [.int .i64 i] ∧ i ≤ n ∧ EncSt h0 h' bN bO (bs ++ bitsOf x i), fun us _ => n - (toInt (us.getD 0 undef)).toNat, ⟨0, rfl, by omega, by simpa [bitsOf] using E⟩, ?_⟩
  rintro z h' ⟨i, hx1, hi2, E⟩
  obtain rfl : z = i := by simpa using hx1
  refine ⟨fun hlt => ?_, fun hge => ?_⟩
  · have hi3 : i < n := by omega
    have hlen : (bs ++ bitsOf x i).length = bs.length + i := by rw [List.length_append, bitsOf_len]
    have h01' : ∀ b ∈ bs ++ bitsOf x i, 0 ≤ b ∧ b ≤ 1 := fun b hb => by
      rcases List.mem_append.1 hb with hb | hb
      · exact h01 b hb
      · exact bitsOf_01 b hb
    have hsucc : bs ++ bitsOf x (i + 1) = (bs ++ bitsOf x i) ++ [(x : Int) / 2 ^ i % 2] := by rw [bitsOf_succ, List.append_assoc]
    obtain ⟨a, c, e1, e2, P, N, n1, n2, s⟩ := E
    generalize bs ++ bitsOf x i = cs at *
    have hl2 : cs.length ≤ 3000015 := by omega
    have w4 : IntKind.i64.wrap ((i : Int) + 1) = ((i + 1 : Nat) : Int) := by rw [i64_in _ (by omega)]; omega
    have ad0 : ∀ b : Nat, (⟨b, 0, none⟩ : Addr).add 0 = ⟨b, 0, none⟩ := fun b => by rw [addr0_add]
    have wm : ((cs.length : Nat) : Int).tmod 8 = ((cs.length % 8 : Nat) : Int) := by rw [Int.tmod_eq_emod_of_nonneg (by omega)]; omega
    have wq : IntKind.i64.wrap (((cs.length : Nat) : Int).tdiv 8) = ((cs.length / 8 : Nat) : Int) := by rw [Int.tdiv_eq_ediv_of_nonneg (by omega)]; exact i64_in _ (by omega)
    have w5 : IntKind.i64.wrap (((cs.length : Nat) : Int) + 1) = (((cs ++ [(x : Int) / 2 ^ i % 2]).length : Nat) : Int) := by rw [i64_in _ (by omega), List.length_append, List.length_singleton]; omega
    have hb := pbase_lt h01' (k := cs.length)
    have hp7 := pow7 (n := cs.length)
    have hpp : (0 : Int) < 2 ^ (cs.length % 8) := Int.pow_pos (by decide)
    have hmul : 0 ≤ (x : Int) / 2 ^ i % 2 * 2 ^ (cs.length % 8) ∧ (x : Int) / 2 ^ i % 2 * 2 ^ (cs.length % 8) ≤ 2 ^ (cs.length % 8) := by
      rcases (show (x : Int) / 2 ^ i % 2 = 0 ∨ (x : Int) / 2 ^ i % 2 = 1 by omega) with h | h <;> rw [h] <;> omega
    have wr : Go.bits .or .u8 (pbase (pk cs cs.length) cs.length) (IntKind.u8.wrap (IntKind.u8.wrap (Go.bits .and .u64 ((x : Int).fdiv (2 ^ min (i : Int).toNat IntKind.u64.bits)) 1) * 2 ^ min ((cs.length % 8 : Nat) : Int).toNat IntKind.u8.bits)) = pbase (pk cs cs.length) cs.length + (x : Int) / 2 ^ i % 2 * 2 ^ (cs.length % 8) := by
      have b1 : IntKind.u64.bits = 64 := rfl
      have b2 : IntKind.u8.bits = 8 := rfl
      have hp : (0 : Int) ≤ 2 ^ i := Int.le_of_lt (Int.pow_pos (by decide))
      rw [b1, b2, Int.toNat_natCast, Int.toNat_natCast, show min i 64 = i by omega, show min (cs.length % 8) 8 = cs.length % 8 by omega, and1_u64, Int.fdiv_eq_ediv_of_nonneg _ hp, u8_in ((x : Int) / 2 ^ i % 2) (by omega), u8_in ((x : Int) / 2 ^ i % 2 * 2 ^ (cs.length % 8)) (by omega)]
      exact or_u8 _ hb.1 hb.2 (by omega) (by omega)
    have cellAt : ∀ {h2 : Eng.Heap} {b : Nat} {v : Value} {T : TypeId}, h2 b = some (.cells #[v] T) → hcell h2 ⟨b, 0, none⟩ = some v := fun e => by simp [hcell, e]
    have okAt : ∀ {h2 : Eng.Heap} {b : Nat} {v : Value} {T : TypeId}, h2 b = some (.cells #[v] T) → ¬ S b → okCell S h2 ⟨b, 0, none⟩ := fun e hs => ⟨⟨_, cellAt e⟩, by simp [hfrozen, e], hs⟩
    have setAt : ∀ {h2 : Eng.Heap} {b : Nat} {v w : Value} {T : TypeId}, h2 b = some (.cells #[v] T) → hset h2 ⟨b, 0, none⟩ w = upd h2 b (.cells #[w] T) := fun e => by rw [hset_cells e]; rfl
    have hl1 : ∀ o2 : List Int, o2 = (if cs.length % 8 = 0 then pk cs cs.length ++ [0] else pk cs cs.length) → (pstep (pk cs cs.length) cs.length ((x : Int) / 2 ^ i % 2)).length = o2.length := fun o2 e => by
      rw [pstep, List.length_set, ← e]
    have fin : ∀ {h2 : Eng.Heap} {a : Option Addr} {c : Nat} {o2 : List Int}, o2 = (if cs.length % 8 = 0 then pk cs cs.length ++ [0] else pk cs cs.length) → Part .u8 h2 (.slice a o2.length c) o2 → Eng.New h0 (.slice a o2.length c) → Eng.Sub h0 h2 →
        ((!a.isNone) = true ∧ 0 ≤ ((cs.length / 8 : Nat) : Int) ∧ ((cs.length / 8 : Nat) : Int) < (o2.length : Int) ∧ ∃ x, hcell h2 (((a.getD default).add (((cs.length / 8 : Nat) : Int).toNat * 1)).add 0) = some (.int .u8 x) ∧ x = pbase (pk cs cs.length) cs.length) ∧ cs.length / 8 < o2.length := by
      intro h2 a c o2 ho2 P N s
      have hlen : cs.length / 8 < o2.length := by
        have := pk_len (bs := cs) (k := cs.length)
        rw [ho2]; split
        · rw [List.length_append, this, List.length_singleton]; omega
        · omega
      obtain ⟨a', c', e, _, hxx⟩ := P.ints
      simp only [Value.slice.injEq] at e
      obtain ⟨rfl, _, rfl⟩ := e
      obtain ⟨g1, g2⟩ := hxx.cell (List.getElem?_eq_getElem hlen)
      refine ⟨⟨by simpa using g2, by omega, by omega, o2[cs.length / 8], by simp only [Int.toNat_natCast, Nat.mul_one, add_add, Nat.add_zero]; exact g1, ?_⟩, hlen⟩
      unfold pbase
      rw [← ho2, List.getD_eq_getElem?_getD, List.getElem?_eq_getElem hlen]; rfl
    have done : ∀ {h2 : Eng.Heap} {a : Option Addr} {c : Nat} (o2 : List Int), o2 = (if cs.length % 8 = 0 then pk cs cs.length ++ [0] else pk cs cs.length) → Eng.New h0 (.slice a o2.length c) →
        blkOf (.slice a o2.length c) ≠ some bN → blkOf (.slice a o2.length c) ≠ some bO → Part .u8 h2 (.slice a o2.length c) (pstep (pk cs cs.length) cs.length ((x : Int) / 2 ^ i % 2)) → Eng.Sub h0 h2 → h2 bO = some (.cells #[.slice a o2.length c] 22) →
        EncSt h0 (upd h2 bN (.cells #[.int .i64 (((cs ++ [(x : Int) / 2 ^ i % 2]).length : Nat) : Int)] 3)) bN bO (cs ++ [(x : Int) / 2 ^ i % 2]) := by
      intro h2 a c o2 ho2 N m1 m2 g2 g3 f2
      have e := hl1 o2 ho2
      refine ⟨a, c, upd_same, ?_, ?_, ?_, ?_, ?_, fun y o hy => ?_⟩
      · rw [pk_snoc, e, upd_ne (Ne.symm hne)]; exact f2
      · rw [pk_snoc, e]; exact g2.keep fun z hz => upd_ne fun e => m1 (by rw [← e]; exact hz)
      · rw [pk_snoc, e]; exact N
      · rw [pk_snoc, e]; exact m1
      · rw [pk_snoc, e]; exact m2
      · rw [upd_ne (fun e => by rw [e, hN] at hy; cases hy)]; exact g3 y o hy
    simp only [ad0]
    refine ⟨_, cellAt e1, ?_⟩
    simp only [w4, wq]
    refine ⟨fun h0' => ?_, fun h0' => ?_⟩
    · have h0' : cs.length % 8 = 0 := by rw [wm] at h0'; simp at h0'; omega
      refine ⟨_, _, _, cellAt e2, fun b2 hb2 => ?_⟩
      have s3 : Eng.Sub h' (upd h' b2 (.cells (ints .u8 [0]) 5)) := Sub.of_upd hb2
      have hpl := pk_len (bs := cs) (k := cs.length)
      refine appW_part hi (s.trans s3) (P.sub s3) N (ys := [0]) HInts.new (by rw [hpl]; simp only [List.length_singleton]; omega) fun v' h3 P3 N3 s4 k3 b3 => ?_
      obtain ⟨a4, c4, rfl, _, _⟩ := P3.ints
      have other : ∀ (y : Nat) (o : Obj), h' y = some o → blkOf (.slice a (pk cs cs.length).length c) ≠ some y → h3 y = some o ∧ blkOf (.slice a4 (pk cs cs.length ++ [0]).length c4) ≠ some y := by
        intro y o hy hny
        have e5 := s3 y o hy
        have hnn : upd h' b2 (.cells (ints .u8 [0]) 5) y ≠ none := fun e => by
          have e6 : some o = none := e5.symm.trans e
          cases e6
        refine ⟨(k3 y hnn hny).trans e5, fun e => ?_⟩
        rcases b3 with b3 | b3
        · rw [b3] at e; exact hny e
        · exact hnn (b3 y e)
      obtain ⟨d1, m1⟩ := other bN _ e1 n1
      obtain ⟨d2', m2⟩ := other bO _ e2 n2
      simp only [slA_sl, slL_sl, slC_sl]
      refine ⟨okAt d2' nsO, fun _ => ?_⟩
      rw [setAt d2']
      have d2 : upd h3 bO (.cells #[.slice a4 (pk cs cs.length ++ [0]).length c4] 22) bO = some (.cells #[.slice a4 (pk cs cs.length ++ [0]).length c4] 22) := upd_same
      have d1 : upd h3 bO (.cells #[.slice a4 (pk cs cs.length ++ [0]).length c4] 22) bN = some (.cells #[.int .i64 ((cs.length : Nat) : Int)] 3) := (upd_ne hne).trans d1
      have P5 : Part .u8 (upd h3 bO (.cells #[.slice a4 (pk cs cs.length ++ [0]).length c4] 22)) (.slice a4 (pk cs cs.length ++ [0]).length c4) (pk cs cs.length ++ [0]) := P3.keep fun z hz => upd_ne fun e => m2 (by rw [← e]; exact hz)
      have s5 : Eng.Sub h0 (upd h3 bO (.cells #[.slice a4 (pk cs cs.length ++ [0]).length c4] 22)) := fun y o hy => (upd_ne fun e => by rw [e, hO] at hy; cases hy).trans (s4 y o hy)
      generalize upd h3 bO (.cells #[.slice a4 (pk cs cs.length ++ [0]).length c4] 22) = h5 at *
      obtain ⟨⟨q1, q2, q3, b0, q4, rfl⟩, q5⟩ := fin (o2 := (pk cs cs.length ++ [0])) (by rw [if_pos h0']) P5 N3 s5
      obtain ⟨g1, g2, g3, g4⟩ := bit_step hi (out := pk cs cs.length) (by rw [if_pos h0']) q5 P5 N3 s5 ((x : Int) / 2 ^ i % 2)
      have f1 := (g4 bN m1).trans d1
      have f2 := (g4 bO m2).trans d2
      refine ⟨_, _, _, cellAt d2, _, cellAt d1, ?_⟩
      simp only [wq]
      refine ⟨q1, q2, q3, _, q4, by omega, _, cellAt d1, ?_, q1, q2, q3, g1, ?_⟩
      · rw [wm]; omega
      rw [wm, wr]
      refine ⟨_, cellAt f1, okAt f1 nsN, ⟨i + 1, rfl, by omega, ?_⟩, ?_⟩
      · rw [Int.toNat_natCast, setAt f1, w5, hsucc]
        exact done (pk cs cs.length ++ [0]) (by rw [if_pos h0']) N3 m1 m2 g2 g3 f2
      · show n - (toInt (Value.int .i64 ((i + 1 : Nat) : Int))).toNat < n - (toInt (Value.int .i64 (i : Int))).toNat
        rw [toInt_int, toInt_int]; omega
    · have h0' : ¬ cs.length % 8 = 0 := by rw [wm] at h0'; simp at h0'; omega
      intro _
      have d1 := e1
      have d2 := e2
      have m1 := n1
      have m2 := n2
      obtain ⟨⟨q1, q2, q3, b0, q4, rfl⟩, q5⟩ := fin (o2 := (pk cs cs.length)) (by rw [if_neg h0']) P N s
      obtain ⟨g1, g2, g3, g4⟩ := bit_step hi (out := pk cs cs.length) (by rw [if_neg h0']) q5 P N s ((x : Int) / 2 ^ i % 2)
      have f1 := (g4 bN m1).trans d1
      have f2 := (g4 bO m2).trans d2
      refine ⟨_, _, _, cellAt d2, _, cellAt d1, ?_⟩
      simp only [wq]
      refine ⟨q1, q2, q3, _, q4, by omega, _, cellAt d1, ?_, q1, q2, q3, g1, ?_⟩
      · rw [wm]; omega
      rw [wm, wr]
      refine ⟨_, cellAt f1, okAt f1 nsN, ⟨i + 1, rfl, by omega, ?_⟩, ?_⟩
      · rw [Int.toNat_natCast, setAt f1, w5, hsucc]
        exact done (pk cs cs.length) (by rw [if_neg h0']) N m1 m2 g2 g3 f2
      · show n - (toInt (Value.int .i64 ((i + 1 : Nat) : Int))).toNat < n - (toInt (Value.int .i64 (i : Int))).toNat
        rw [toInt_int, toInt_int]; omega
  · obtain rfl : i = n := by omega
    exact E

theorem store1 {b : Nat} {v w : Value} {T : TypeId} {K : Eng.Heap → Prop} (e : h b = some (.cells #[v] T)) (hs : ¬ S b) (hK : K (upd h b (.cells #[w] T))) : storeW S ⟨b, 0, none⟩ 0 [w] h K := by
  have ad0 : (⟨b, 0, none⟩ : Addr).add 0 = ⟨b, 0, none⟩ := by rw [addr0_add]
  refine ⟨by rw [ad0]; exact ⟨⟨v, by simp [hcell, e]⟩, by simp [hfrozen, e], hs⟩, ?_⟩
  rw [ad0, hset_cells e]
  exact hK

theorem pre_01 {xs : List Int} {i : Nat} : ∀ b ∈ pre xs i, 0 ≤ b ∧ b ≤ 1 := fun b hb => by
  unfold pre at hb
  rcases List.mem_append.1 hb with h | h
  · simp at h; omega
  · obtain ⟨c, _, hc⟩ := List.mem_flatMap.1 h
    exact cbits_01 b hc

set_option maxHeartbeats 1000000 in
theorem g_impl_EncodeFixed (hi : Eng.Inv S h) {v : Value} {xs : List Int} (O : tB.O h v xs) (hw : ∀ x ∈ xs, 0 ≤ x ∧ x ≤ 255) (L : limB xs) :
    CallsH Tryd.prog S F_impl_EncodeFixed #[v] h (fun v h' => tB.O h' v (ans_EncodeFixed xs) ∧ tB.New h v ∧ Eng.Sub h h') := by
  obtain ⟨a, c, rfl, hc, hx⟩ := Part.ints O
  refine run_impl_EncodeFixed (vs := [.slice a xs.length c]) ⟨rfl, trivial⟩ hi ?_
  simp only [t_impl_EncodeFixed, Tr.wp, mksW, callW, Ex.ev, coerce, toInt_int, toBool_bool, slL_sl, slC_sl, slA_sl, toAddr_ptr, ptrOf_ptr, isNil_sl, isNil_ptr, it_and, it_or, it_int, optN_int, optN_nl, cmpI, arith, Cst.val, SV.den, resShs, resV, resSV, resVals, newVars, runCells, exSh, allSh, cellsAre, List.flatMap_cons, List.flatMap_nil, List.replicate_one, List.getD_cons_zero, List.getD_cons_succ, List.getElem?_cons_zero, List.getElem?_cons_succ, decide_eq_true_eq, decide_eq_false_iff_not, List.map_cons, List.map_nil, List.cons_append, List.nil_append, List.append_nil, List.length_cons, List.length_nil, Nat.zero_add, Nat.add_zero, and_true, true_and, if_true, if_false, Bool.false_eq_true]
  refine ⟨fun hgt b hb => ?_, fun hle => ?_⟩
  · have e : ans_EncodeFixed xs = [] := if_pos (by omega)
    rw [e]
    exact ⟨(Own.made (k := .u8) (h := h) (b := b) (T := 5) []).part, New.of hb, Sub.of_upd hb⟩
  have hle : xs.length ≤ 100000 := by omega
  have e : ans_EncodeFixed xs = pk (strm xs) (strm xs).length := if_neg (by omega)
  rw [e]
  refine (k_fixedLens hi).mono ?_
  rintro _ h1 ⟨a1, c1, a2, c2, rfl, P1, P2, N1, N2, s1⟩
  refine ⟨_, _, _, _, _, _, rfl, (g_impl_HuffCodes (hi.sub s1) (xs := fixL) P1 fixL_lim).mono ?_⟩
  rintro w h2 ⟨O3, N3, s2⟩
  obtain ⟨a3, c3, rfl, _, hx3⟩ := OwnP.pairs O3
  rw [fixL_codes] at hx3
  refine ⟨_, _, _, rfl, ?_⟩
  have hcl : (ans_HuffCodes fixL).length = 288 := by rw [fixL_codes, codesOf_len, fixL_len]
  rw [hcl]
  have hi2 := hi.sub (s1.trans s2)
  have s12 := s1.trans s2
  intro b4 hb4 bO hbO
  have ne : ∀ {g : Eng.Heap} {b b' : Nat} {o : Obj}, upd g b o b' = none → b ≠ b' ∧ g b' = none := fun {g b b' o} hb => by
    have n : b ≠ b' := fun e => by rw [e, upd_same] at hb; cases hb
    exact ⟨n, by rw [← upd_ne (h := g) (o := o) (Ne.symm n)]; exact hb⟩
  obtain ⟨n4O, hO⟩ := ne hbO
  have nsO : ¬ S bO := fun hs => hi2 _ hs hO
  refine store1 (v := .slice none 0 0) upd_same nsO fun bN hbN => ?_
  rw [upd_upd] at hbN ⊢
  obtain ⟨nON, hN'⟩ := ne hbN
  obtain ⟨n4N, hN⟩ := ne hN'
  have nsN : ¬ S bN := fun hs => hi2 _ hs hN
  refine store1 (v := .int .i64 0) upd_same nsN ?_
  rw [upd_upd]
  have E0 : EncSt h2 (upd (upd (upd h2 b4 (.cells #[] 5)) bO (.cells #[.slice (some ⟨b4, 0, none⟩) 0 0] 22)) bN (.cells #[.int .i64 0] 3)) bN bO [] := by
    refine ⟨some ⟨b4, 0, none⟩, 0, upd_same, ?_, ?_, New.of hb4, fun e => by cases e; exact n4N rfl, fun e => by cases e; exact n4O rfl, ?_⟩
    · rw [upd_ne nON]; exact upd_same
    · exact ((Own.made (k := .u8) (h := h2) (b := b4) (T := 5) []).part).keep fun z hz => by cases hz; exact (upd_ne n4N).trans (upd_ne n4O)
    · exact ((Sub.of_upd hb4).trans (Sub.of_upd hbO)).trans (Sub.of_upd hbN)
  have hne : bN ≠ bO := Ne.symm nON
  refine (k_fixput hi2 hne hN hO (bs := []) (fun b hb => by cases hb) E0 1 1 (by omega) (by omega) (by simp)).mono ?_
  rintro _ h3 ⟨rfl, E1⟩
  refine ⟨rfl, (k_fixput hi2 hne hN hO (bs := [] ++ bitsOf (1 : Nat) 1) (fun b hb => bitsOf_01 b hb) E1 1 2 (by omega) (by omega) (by simp [bitsOf])).mono ?_⟩
  rintro _ h4 ⟨rfl, E2⟩
  refine ⟨rfl, ?_⟩
  have ep : [] ++ bitsOf (1 : Nat) 1 ++ bitsOf (1 : Nat) 2 = pre xs 0 := by unfold pre; rw [List.take_zero]; decide
  rw [ep] at E2
  refine ⟨fun us h' => ∃ i : Nat, us = [.int .i64 i] ∧ i ≤ xs.length ∧ EncSt h2 h' bN bO (pre xs i), fun us _ => xs.length - (toInt (us.getD 0 undef)).toNat, ⟨0, rfl, by omega, E2⟩, ?_⟩
  rintro z h' ⟨i, hx1, hi3, E⟩
  obtain rfl : z = i := by simpa using hx1
  have hpl := pre_len hw hi3
  have s : Eng.Sub h2 h' := E.choose_spec.choose_spec.2.2.2.2.2.2
  refine ⟨fun hlt => ?_, fun hge => ?_⟩
  · have hi4 : i < xs.length := by omega
    have hwi := hw _ (List.getElem_mem hi4)
    obtain ⟨x1, x2⟩ := (hx.sub (s12.trans s)).cell (List.getElem?_eq_getElem hi4)
    obtain ⟨l, b, hg, hl, hb, hcb⟩ := code_facts (c := xs[i].toNat) (by omega)
    obtain ⟨y1, y2, y3⟩ := (hx3.sub s).cell hg
    have hp : 2 ^ l ≤ 2 ^ 15 := Nat.pow_le_pow_right (by decide) hl
    have e15 : 2 ^ 15 = 32768 := by decide
    have w4 : IntKind.i64.wrap ((i : Int) + 1) = ((i + 1 : Nat) : Int) := by rw [i64_in _ (by omega)]; omega
    refine ⟨by simpa using x2, by omega, hlt, xs[i], by simpa [add_add] using x1, by simpa using y3, by omega, by omega, _, by simpa [add_add] using y2, by simpa using y3, by omega, by omega, _, by simpa [add_add] using y1, ?_⟩
    refine (k_fixput hi2 hne hN hO pre_01 E b l (by omega) (by omega) (by omega)).mono ?_
    rintro _ h5 ⟨rfl, E5⟩
    have ep : pre xs i ++ bitsOf (b : Int) l = pre xs (i + 1) := by rw [pre_succ hi4, hcb]
    rw [ep] at E5
    rw [w4]
    refine ⟨rfl, ⟨i + 1, rfl, by omega, E5⟩, ?_⟩
    show xs.length - (toInt (Value.int .i64 ((i + 1 : Nat) : Int))).toNat < xs.length - (toInt (Value.int .i64 (i : Int))).toNat
    rw [toInt_int, toInt_int]; omega
  · obtain rfl : i = xs.length := by omega
    obtain ⟨l, b, hg, hl, hb, hcb⟩ := code_facts (c := 256) (by omega)
    obtain ⟨y1, y2, y3⟩ := (hx3.sub s).cell hg
    have hp : 2 ^ l ≤ 2 ^ 15 := Nat.pow_le_pow_right (by decide) hl
    have e15 : 2 ^ 15 = 32768 := by decide
    refine ⟨by simpa using y3, by simp, by omega, _, by simpa [add_add] using y2, by simpa using y3, by simp, by omega, _, by simpa [add_add] using y1, ?_⟩
    refine (k_fixput hi2 hne hN hO pre_01 E b l (by omega) (by omega) (by omega)).mono ?_
    rintro _ h5 ⟨rfl, E5⟩
    have ep : pre xs xs.length ++ bitsOf (b : Int) l = strm xs := by rw [← pre_all, hcb]
    rw [ep] at E5
    obtain ⟨a6, c6, e1, e2, P6, N6, m1, m2, s6⟩ := E5
    exact ⟨rfl, _, _, _, by rw [addr0_add]; simp [hcell, e2], P6, fun z hz => none_sub s12 (N6 z hz), s12.trans s6⟩

theorem sm_EncodeFixed {xs : List Int} (hw : ∀ x ∈ xs, 0 ≤ x ∧ x ≤ 255) : smB (ans_EncodeFixed xs) := by
  unfold smB ans_EncodeFixed
  split
  · simp
  · have h1 := flat_len hw
    have h2 := cbits_len (c := 256) (by omega)
    have : (strm xs).length ≤ 2000000 := by
      unfold strm
      rw [List.length_append, List.length_append]
      simp only [List.length_cons, List.length_nil]
      omega
    rw [pk_len]; omega
end Go.Proofs.YteaonnfokkfnlaaDoor
