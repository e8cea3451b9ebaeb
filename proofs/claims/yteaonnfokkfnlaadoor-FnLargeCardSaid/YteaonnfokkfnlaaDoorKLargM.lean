import Derived.Test.YteaonnfokkfnlaaDoorKEncM
import Derived.Test.YteaonnfokkfnlaaDoorTrFL
set_option linter.unusedVariables false
set_option linter.unusedSimpArgs false
namespace Go.Proofs.YteaonnfokkfnlaaDoor
open Go Go.Eng Go.IntWalk
section

/-! ### A literal and copies of it, plainly -/
def unitB : List Int := cbits 285 ++ [0, 0, 0, 0, 0]
def lgH (i : Nat) : List Int := [1, 1, 0] ++ cbits 7 ++ (List.replicate i unitB).flatten
def lgT (n : Nat) : List Int := lgH n ++ cbits 256
theorem lgH_succ {i : Nat} : lgH (i + 1) = lgH i ++ unitB := by
  unfold lgH; rw [List.replicate_succ', List.flatten_append, List.append_assoc]; simp
theorem cb_len7 : (cbits 7).length = 8 := by
  obtain ⟨l, b, _, _, _, _, h5, h6⟩ := cb_code (c := 7) (by omega)
  rw [h5, bitsOf_len]; simp at h6; omega
theorem cb_len285 : (cbits 285).length = 8 := by
  obtain ⟨l, b, _, _, _, _, h5, h6⟩ := cb_code (c := 285) (by omega)
  rw [h5, bitsOf_len]; simp at h6; omega
theorem cb_len256 : (cbits 256).length = 7 := by
  obtain ⟨l, b, _, _, _, _, h5, h6⟩ := cb_code (c := 256) (by omega)
  rw [h5, bitsOf_len]; simp at h6; omega
theorem unit_len : unitB.length = 13 := by unfold unitB; rw [List.length_append, cb_len285]; rfl
theorem lgH_len {i : Nat} : (lgH i).length = 11 + 13 * i := by
  induction i with
  | zero => unfold lgH; simp only [List.replicate_zero, List.flatten_nil, List.append_nil, List.length_append, cb_len7]; rfl
  | succ i ih => rw [lgH_succ, List.length_append, ih, unit_len]; omega
theorem lgT_len {n : Nat} : (lgT n).length = 18 + 13 * n := by unfold lgT; rw [List.length_append, lgH_len, cb_len256]; omega
theorem unit_01 : ∀ b ∈ unitB, 0 ≤ b ∧ b ≤ 1 := fun b hb => by
  unfold unitB at hb
  rcases List.mem_append.1 hb with h | h
  · exact cbits_01 b h
  · simp at h; omega
theorem lgH_01 {i : Nat} : ∀ b ∈ lgH i, 0 ≤ b ∧ b ≤ 1 := by
  induction i with
  | zero =>
    intro b hb
    unfold lgH at hb
    simp only [List.replicate_zero, List.flatten_nil, List.append_nil] at hb
    rcases List.mem_append.1 hb with h | h
    · simp at h; omega
    · exact cbits_01 b h
  | succ i ih =>
    intro b hb
    rw [lgH_succ] at hb
    rcases List.mem_append.1 hb with h | h
    · exact ih b h
    · exact unit_01 b h
theorem lgT_01 {n : Nat} : ∀ b ∈ lgT n, 0 ≤ b ∧ b ≤ 1 := fun b hb => by
  unfold lgT at hb
  rcases List.mem_append.1 hb with h | h
  · exact lgH_01 b h
  · exact cbits_01 b h
theorem lgT_eq {n : Nat} : lgT n = bitsOf 1 1 ++ (bitsOf 1 2 ++ (cbits 7 ++ ((List.replicate n unitB).flatten ++ cbits 256))) := by
  have e1 : bitsOf 1 1 = [1] := by decide
  have e2 : bitsOf 1 2 = [1, 0] := by decide
  rw [e1, e2]; unfold lgT lgH; simp only [List.append_assoc]; rfl

theorem fixD_code : (codesN fixD)[0]? = some (5, 0) := by decide +kernel
theorem fixD_good : ¬ (hkind fixD = 0 ∨ hkind fixD = 2) := by rw [fixD_kind]; decide
theorem zeros5 : ([0, 0, 0, 0, 0] : List Int) = bitsOf ((0 : Nat) : Int) 5 := by decide

section
variable {B : List Int}
theorem cpD_rep {m n : Nat} (hm : 1 ≤ m) : cpD (List.replicate m 7) 1 n = List.replicate n 7 := by
  unfold cpD
  apply List.ext_getElem
  · simp
  · intro k h1 h2
    simp only [List.length_map, List.length_range] at h1
    have hk : k % 1 = 0 := Nat.mod_one k
    simp only [List.getElem_map, List.getElem_range, List.length_replicate, List.getElem_replicate, hk, Nat.add_zero]
    rw [List.getD_eq_getElem?_getD, List.getElem?_replicate, if_pos (by omega)]; rfl

theorem tk_none {p : Nat} (h : p ≤ 8 * B.length) : tk B 0 ⟨(p : Int), 0⟩ = (⟨(p : Int), 0⟩, 0) := tk_num_at (n := 0) (by omega)
theorem cp_one {p m : Nat} (hm : 1 ≤ m) (H : AtB B p (bitsOf ((0 : Nat) : Int) 5)) :
    cpF B (codesN fixD) 0 100000 1 ⟨(p : Int), 0⟩ (List.replicate m 7) 285 = tell 0 100000 ⟨((p + 5 : Nat) : Int), 0⟩ (List.replicate m 7) (List.replicate 258 7) := by
  have hB := H.1
  rw [bitsOf_len] at hB
  have eL : lenB 285 = (258, 0) := rfl
  have eD : disB 0 = (1, 0) := rfl
  have e1 : cp1 B ⟨(p : Int), 0⟩ 285 = (⟨(p : Int), 0⟩, 0) := by unfold cp1; rw [eL]; exact tk_none (by omega)
  have e2 : cp2 B (codesN fixD) ⟨(p : Int), 0⟩ 285 = (⟨((p + 5 : Nat) : Int), 0⟩, ((0 : Nat) : Int)) := by
    unfold cp2; rw [e1]; exact H.sy fixD_good fixD_code (by omega)
  have e3 : cp3 B (codesN fixD) ⟨(p : Int), 0⟩ 285 = ⟨((p + 5 : Nat) : Int), 0⟩ := by
    unfold cp3; rw [e2]; unfold bd; rw [if_neg (by simp)]
  have e4 : cp4 B (codesN fixD) ⟨(p : Int), 0⟩ 285 = (⟨((p + 5 : Nat) : Int), 0⟩, 0) := by
    unfold cp4; rw [e3, e2, show (((0 : Nat) : Int)).toNat = 0 from rfl, eD]; exact tk_none (by omega)
  have eDi : cpDist B (codesN fixD) ⟨(p : Int), 0⟩ 285 = 1 := by
    unfold cpDist; rw [e2, e4, show (((0 : Nat) : Int)).toNat = 0 from rfl, eD]; rfl
  have eLe : cpLen B ⟨(p : Int), 0⟩ 285 = 258 := by unfold cpLen; rw [e1, eL]; rfl
  have e5 : cp5 B (codesN fixD) 1 ⟨(p : Int), 0⟩ (List.replicate m 7) 285 = ⟨((p + 5 : Nat) : Int), 0⟩ := by
    unfold cp5; rw [eDi, e4]; unfold bd; rw [if_neg (by simp; omega)]
  unfold cpF
  rw [e3, if_neg (by simp), e5, if_neg (by simp), eDi, eLe, cpD_rep hm]

set_option maxRecDepth 100000 in
theorem syF_copies : ∀ (j f p k : Nat), 1 + 258 * k ≤ 100000 → j + 1 ≤ f → AtB B p ((List.replicate j unitB).flatten ++ cbits 256) →
    (1 + 258 * (k + j) ≤ 100000 → syF B (codesN fixL) (codesN fixD) 0 100000 1 f ⟨(p : Int), 0⟩ (List.replicate (1 + 258 * k) 7) = (⟨((p + 13 * j + 7 : Nat) : Int), 0⟩, List.replicate (1 + 258 * (k + j)) 7)) ∧
    (100000 < 1 + 258 * (k + j) → (syF B (codesN fixL) (codesN fixD) 0 100000 1 f ⟨(p : Int), 0⟩ (List.replicate (1 + 258 * k) 7)).1.k = 6 ∧ (syF B (codesN fixL) (codesN fixD) 0 100000 1 f ⟨(p : Int), 0⟩ (List.replicate (1 + 258 * k) 7)).2.length = 99847) := by
  intro j
  induction j with
  | zero =>
    intro f p k hk hf H
    obtain ⟨f, rfl⟩ : ∃ f', f = f' + 1 := ⟨f - 1, by omega⟩
    rw [List.replicate_zero, List.flatten_nil, List.nil_append] at H
    refine ⟨fun _ => ?_, fun h => by omega⟩
    have e := cb_sy (c := 256) (by omega) H
    rw [syF, if_pos rfl, e, if_pos (.inr rfl), cb_len256]; rfl
  | succ j ih =>
    intro f p k hk hf H
    obtain ⟨f, rfl⟩ : ∃ f', f = f' + 1 := ⟨f - 1, by omega⟩
    rw [List.replicate_succ, List.flatten_cons, List.append_assoc] at H
    have H1 := H.left
    have H2 := H.right
    rw [unit_len] at H2
    unfold unitB at H1
    have e := cb_sy (c := 285) (by omega) H1.left
    have H3 := H1.right
    rw [cb_len285] at e H3
    rw [zeros5] at H3
    have es : syF B (codesN fixL) (codesN fixD) 0 100000 1 (f + 1) ⟨(p : Int), 0⟩ (List.replicate (1 + 258 * k) 7) =
        syF B (codesN fixL) (codesN fixD) 0 100000 1 f (tell 0 100000 ⟨((p + 8 + 5 : Nat) : Int), 0⟩ (List.replicate (1 + 258 * k) 7) (List.replicate 258 7)).1 (tell 0 100000 ⟨((p + 8 + 5 : Nat) : Int), 0⟩ (List.replicate (1 + 258 * k) 7) (List.replicate 258 7)).2 := by
      have e1 : sy1 B (codesN fixD) 0 100000 1 ⟨((p + 8 : Nat) : Int), 0⟩ (List.replicate (1 + 258 * k) 7) ((285 : Nat) : Int) = tell 0 100000 ⟨((p + 8 + 5 : Nat) : Int), 0⟩ (List.replicate (1 + 258 * k) 7) (List.replicate 258 7) := by
        unfold sy1; rw [if_neg (by omega), if_neg (by omega), Int.toNat_natCast, cp_one (by omega) H3]
      rw [syF, if_pos rfl, e, if_neg (by simp)]
      simp only [e1]
    rw [es]
    by_cases hfit : 1 + 258 * k + 258 ≤ 100000
    · have et : tell 0 100000 ⟨((p + 8 + 5 : Nat) : Int), 0⟩ (List.replicate (1 + 258 * k) 7) (List.replicate 258 7) = (⟨((p + 13 : Nat) : Int), 0⟩, List.replicate (1 + 258 * (k + 1)) (7 : Int)) := by
        rw [tell_fits rfl (by simp only [List.length_replicate]; omega), List.replicate_append_replicate, show 1 + 258 * k + 258 = 1 + 258 * (k + 1) by omega]
      rw [et]
      have := ih f (p + 13) (k + 1) (by omega) (by omega) H2
      rw [show k + 1 + j = k + (j + 1) by omega, show p + 13 + 13 * j + 7 = p + 13 * (j + 1) + 7 by omega] at this
      exact this
    · have et : tell 0 100000 ⟨((p + 8 + 5 : Nat) : Int), 0⟩ (List.replicate (1 + 258 * k) 7) (List.replicate 258 (7 : Int)) = (⟨((p + 8 + 5 : Nat) : Int), 6⟩, List.replicate (1 + 258 * k) 7) := by
        unfold tell; rw [if_pos rfl, if_pos (by simp only [List.length_replicate]; omega)]
      rw [et, syF_end (show (6 : Int) ≠ 0 by decide)]
      refine ⟨fun h => by omega, fun _ => ⟨rfl, ?_⟩⟩
      simp only [List.length_replicate]; omega
end

set_option maxRecDepth 100000 in
theorem inf_large {n : Nat} (hn : n ≤ 399) :
    let B := pk (lgT n) (lgT n).length
    B.length ≤ 1000 ∧ (1 + 258 * n ≤ 100000 → ans_Inflate B 1 [] = (1, List.replicate (1 + 258 * n) 7, ((lgT n).length : Int), ())) ∧ (100000 < 1 + 258 * n → (ans_Inflate B 1 []).1 = 6 ∧ (ans_Inflate B 1 []).2.1.length = 99847) := by
  intro B
  have hpl : B.length = ((lgT n).length + 7) / 8 := pk_len
  have hT := lgT_len (n := n)
  have eL : lastN 1 ([] : List Int) = [] := rfl
  have H : AtB B 0 (lgT n) := by
    have := pk_at (s := lgT n) lgT_01 [] []
    rwa [List.nil_append, List.append_nil] at this
  rw [lgT_eq] at H
  have H3 := H.right.right
  simp only [bitsOf_len] at H3
  have e7 := cb_sy (c := 7) (by omega) H3.left
  have H4 := H3.right
  rw [cb_len7] at e7 H4
  have K := syF_copies (B := B) n (8 * B.length) (0 + 1 + 2 + 8) 0 (by omega) (by omega) H4
  have et : tell 0 100000 ⟨((0 + 1 + 2 + 8 : Nat) : Int), 0⟩ [] [((7 : Nat) : Int)] = (⟨((0 + 1 + 2 + 8 : Nat) : Int), 0⟩, List.replicate (1 + 258 * 0) 7) := tell_fits rfl (by simp)
  have es : syF B (codesN fixL) (codesN fixD) 0 100000 1 (8 * B.length + 1) ⟨((0 + 3 : Nat) : Int), 0⟩ [] = syF B (codesN fixL) (codesN fixD) 0 100000 1 (8 * B.length) ⟨((0 + 1 + 2 + 8 : Nat) : Int), 0⟩ (List.replicate (1 + 258 * 0) 7) := by
    have e1 : sy1 B (codesN fixD) 0 100000 1 ⟨((0 + 1 + 2 + 8 : Nat) : Int), 0⟩ [] ((7 : Nat) : Int) = (⟨((0 + 1 + 2 + 8 : Nat) : Int), 0⟩, List.replicate (1 + 258 * 0) 7) := by
      unfold sy1; rw [if_pos (by omega)]; exact et
    rw [syF, if_pos rfl, show (0 + 3 : Nat) = 0 + 1 + 2 from rfl, e7, if_neg (by simp)]
    simp only [e1]
  have hI : infF B 1 [] = syF B (codesN fixL) (codesN fixD) 0 100000 1 (8 * B.length) ⟨((0 + 1 + 2 + 8 : Nat) : Int), 0⟩ (List.replicate (1 + 258 * 0) 7) := by
    unfold infF
    rw [eL]
    exact blk_fixed (p := 0) (F := 8 * B.length + 1) (f := 8 * B.length) H es
  refine ⟨by omega, fun h => ?_, fun h => ?_⟩
  · have K1 := K.1 (by omega)
    rw [← hI] at K1
    unfold ans_Inflate
    rw [if_neg (by omega), if_neg (by omega), show (1 : Int).toNat = 1 from rfl, K1, if_neg (by simp), eL]
    simp only [List.length_nil, List.drop_zero, Nat.zero_add]
    rw [hT]
    congr 4
    push_cast; omega
  · have K1 := K.2 (by omega)
    rw [← hI] at K1
    unfold ans_Inflate
    rw [if_neg (by omega), if_neg (by omega), show (1 : Int).toNat = 1 from rfl, if_pos (by rw [K1.1]; decide), eL]
    exact ⟨K1.1, by simpa using K1.2⟩
end

section
variable {S : Shared} {h h0 : Eng.Heap}

theorem k_lwAt (hi : Eng.Inv S h) {a : Option Addr} {c : Nat} {more : List Int} (hx : HInts h .u8 a more) (hl : more.length ≤ 1048576) (hw : ∀ x ∈ more, 0 ≤ x ∧ x ≤ 255) (i : Nat) (h1 : i ≤ 100000) :
    CallsH Tryd.prog S F_laws_lwAt #[.slice a more.length c, .int .i64 i] h (fun v h' => (∃ x, v = .int .i64 x ∧ 0 ≤ x ∧ x ≤ 255) ∧ h' = h) := by
  refine run_laws_lwAt (vs := [.slice a more.length c, .int .i64 i]) ⟨rfl, rfl, trivial⟩ hi ?_
  simp only [t_laws_lwAt, Tr.wp, mksW, callW, Ex.ev, coerce, toInt_int, toBool_bool, slL_sl, slC_sl, slA_sl, toAddr_ptr, ptrOf_ptr, isNil_sl, isNil_ptr, it_and, it_or, it_int, optN_int, optN_nl, cmpI, arith, Cst.val, SV.den, resShs, resV, resSV, resVals, newVars, runCells, exSh, allSh, cellsAre, storeW, List.flatMap_cons, List.flatMap_nil, List.replicate_one, List.getD_cons_zero, List.getD_cons_succ, List.getElem?_cons_zero, List.getElem?_cons_succ, decide_eq_true_eq, decide_eq_false_iff_not, List.map_cons, List.map_nil, List.cons_append, List.nil_append, List.append_nil, List.length_cons, List.length_nil, Nat.zero_add, Nat.add_zero, and_true, true_and, if_true, if_false, Bool.false_eq_true]
  refine ⟨fun hlt => ?_, fun hge => ?_⟩
  · have hi3 : i < more.length := by omega
    obtain ⟨g1, g2⟩ := hx.cell (List.getElem?_eq_getElem hi3)
    have hb := hw _ (List.getElem_mem hi3)
    refine ⟨by simpa using g2, by omega, hlt, more[i], by simpa [add_add] using g1, ?_⟩
    rw [i64_in _ (by omega)]
    exact ⟨_, rfl, hb.1, hb.2⟩
  · rw [i64_in ((i : Int) * 47) (by omega), i64_in _ (by omega), Int.tmod_eq_emod_of_nonneg (by omega)]
    exact ⟨_, rfl, by omega, by omega⟩

theorem k_lwFixed (hi : Eng.Inv S h) :
    CallsH Tryd.prog S F_laws_lwFixed #[] h (fun v h' => tI.O h' v fixL ∧ tI.New h v ∧ Eng.Sub h h') := by
  refine run_laws_lwFixed (vs := []) trivial hi ?_
  simp only [t_laws_lwFixed, Tr.wp, mksW, callW, Ex.ev, coerce, toInt_int, toBool_bool, slL_sl, slC_sl, slA_sl, toAddr_ptr, ptrOf_ptr, isNil_sl, isNil_ptr, it_and, it_or, it_int, optN_int, optN_nl, cmpI, arith, Cst.val, SV.den, resShs, resV, resSV, resVals, newVars, runCells, exSh, allSh, cellsAre, storeW, List.flatMap_cons, List.flatMap_nil, List.replicate_one, List.getD_cons_zero, List.getD_cons_succ, List.getElem?_cons_zero, List.getElem?_cons_succ, decide_eq_true_eq, decide_eq_false_iff_not, List.map_cons, List.map_nil, List.cons_append, List.nil_append, List.append_nil, List.length_cons, List.length_nil, Nat.zero_add, Nat.add_zero, and_true, true_and, if_true, if_false, Bool.false_eq_true]
  intro b1 hb1
  refine ⟨fun us h' => ∃ (i : Nat) (a : Option Addr) (c : Nat), us = [.slice a i c, .int .i64 i] ∧ i ≤ 288 ∧ Part .i64 h' (.slice a i c) (fixL.take i) ∧ Eng.New h (.slice a i c) ∧ Eng.Sub h h', fun us _ => 288 - (toInt (us.getD 1 undef)).toNat, ⟨0, _, _, rfl, by omega, (Own.made (k := .i64) (T := 2) []).part, New.of hb1, Sub.of_upd hb1⟩, ?_⟩
  rintro a1 l1 c1 z h' ⟨i, a1', c1', hx1, hi2, P, N, s⟩
  obtain ⟨⟨rfl, rfl, rfl⟩, rfl⟩ : (a1 = a1' ∧ l1 = i ∧ c1 = c1') ∧ z = i := by simpa using hx1
  refine ⟨fun hlt => ?_, fun hge => ?_⟩
  · intro b hb
    have hi3 : l1 < 288 := by omega
    have hv : (if (decide ((l1 : Int) ≥ 256) && decide ((l1 : Int) < 280)) = true then (7 : Int) else if (decide ((l1 : Int) ≥ 144) && decide ((l1 : Int) < 256)) = true then 9 else 8) = (if l1 < 144 then 8 else if l1 < 256 then 9 else if l1 < 280 then 7 else 8) := by
      simp only [Bool.and_eq_true, decide_eq_true_eq]
      repeat' split
      all_goals omega
    rw [hv]
    have w4 : IntKind.i64.wrap ((l1 : Int) + 1) = ((l1 + 1 : Nat) : Int) := by rw [i64_in _ (by omega)]; omega
    have s3 : Eng.Sub h' (upd h' b (.cells (ints .i64 [if l1 < 144 then 8 else if l1 < 256 then 9 else if l1 < 280 then 7 else 8]) 2)) := Sub.of_upd hb
    have hlen := fixL_tlen hi2
    refine appW_part hi (s.trans s3) (P.sub s3) N (ys := [if l1 < 144 then 8 else if l1 < 256 then 9 else if l1 < 280 then 7 else 8]) HInts.new (by rw [hlen]; simp only [List.length_singleton]; omega) fun v' h3 P3 N3 s4 k3 b3 => ?_
    rw [← fixL_take hi3] at P3
    obtain ⟨a4, c4, rfl, _, _⟩ := P3.ints
    rw [fixL_tlen (by omega)] at P3 N3 b3 ⊢
    simp only [slA_sl, slL_sl, slC_sl, w4]
    refine ⟨⟨l1 + 1, _, _, rfl, by omega, P3, N3, s4⟩, ?_⟩
    show 288 - (toInt (Value.int .i64 ((l1 + 1 : Nat) : Int))).toNat < 288 - (toInt (Value.int .i64 (l1 : Int))).toNat
    rw [toInt_int, toInt_int]; omega
  · obtain rfl : l1 = 288 := by omega
    rw [fixL_all] at P
    exact ⟨P, N, s⟩

theorem k_lwPut (hi : Eng.Inv S h0) (hs : Eng.Sub h0 h) {a : Option Addr} {c : Nat} {bs : List Int} (P : Part .u8 h (.slice a bs.length c) bs) (N : Eng.New h0 (.slice a bs.length c)) (x n : Nat) (hx : x ≤ 32768) (hn : n ≤ 15) (hl : bs.length ≤ 3000000) :
    CallsH Tryd.prog S F_laws_lwPut #[.slice a bs.length c, .agg #[.int .i64 n, .int .u64 x]] h (fun v h' => Part .u8 h' v (bs ++ bitsOf x n) ∧ Eng.New h0 v ∧ Eng.Sub h0 h') := by
  refine run_laws_lwPut (vs := [.slice a bs.length c, .int .i64 n, .int .u64 x]) ⟨rfl, rfl, rfl, trivial⟩ (hi.sub hs) ?_
  simp only [t_laws_lwPut, Tr.wp, mksW, callW, Ex.ev, coerce, toInt_int, toBool_bool, slL_sl, slC_sl, slA_sl, toAddr_ptr, ptrOf_ptr, isNil_sl, isNil_ptr, it_and, it_or, it_int, optN_int, optN_nl, cmpI, arith, Cst.val, SV.den, resShs, resV, resSV, resVals, newVars, runCells, exSh, allSh, cellsAre, storeW, List.flatMap_cons, List.flatMap_nil, List.replicate_one, List.getD_cons_zero, List.getD_cons_succ, List.getElem?_cons_zero, List.getElem?_cons_succ, decide_eq_true_eq, decide_eq_false_iff_not, List.map_cons, List.map_nil, List.cons_append, List.nil_append, List.append_nil, List.length_cons, List.length_nil, Nat.zero_add, Nat.add_zero, and_true, true_and, if_true, if_false, Bool.false_eq_true]
  refine ⟨fun us h' => ∃ (i : Nat) (a : Option Addr) (c : Nat), us = [.slice a (bs.length + i) c, .int .i64 i] ∧ i ≤ n ∧ Part .u8 h' (.slice a (bs.length + i) c) (bs ++ bitsOf x i) ∧ Eng.New h0 (.slice a (bs.length + i) c) ∧ Eng.Sub h0 h', fun us _ => n - (toInt (us.getD 1 undef)).toNat, ⟨0, a, c, by simp, by omega, by simpa [bitsOf] using P, by simpa using N, hs⟩, ?_⟩
  rintro a1 l1 c1 z h' ⟨i, a2, c2, hx1, hi2, P2, N2, s2⟩
  simp only [List.cons.injEq, Value.int.injEq, Value.slice.injEq, true_and, and_true] at hx1
  obtain ⟨⟨rfl, rfl, rfl⟩, rfl⟩ := hx1
  refine ⟨fun hlt => ?_, fun hge => ?_⟩
  · have hp : (0 : Int) < 2 ^ i := Int.pow_pos (by decide)
    have hx0 : 0 ≤ (x : Int) / 2 ^ i := Int.ediv_nonneg (by omega) (Int.le_of_lt hp)
    have hxl : (x : Int) / 2 ^ i ≤ x := Int.ediv_le_self _ (by omega)
    have mi : min (i : Int).toNat IntKind.u64.bits = i := by
      have : IntKind.u64.bits = 64 := rfl
      rw [this]; omega
    have wb : (IntKind.u8.wrap (Int.fdiv (x : Int) (2 ^ min (i : Int).toNat IntKind.u64.bits))).tmod 2 = (x : Int) / 2 ^ i % 2 := by
      rw [mi, Int.fdiv_eq_ediv_of_nonneg _ (Int.le_of_lt hp), IntKind.wrap_u8, Int.tmod_eq_emod_of_nonneg (by omega)]; omega
    have w2 : IntKind.i64.wrap ((i : Int) + 1) = ((i + 1 : Nat) : Int) := by rw [i64_in _ (by omega)]; omega
    have wi : IntKind.u64.wrap (i : Int) = (i : Int) := u64_in _ (by omega)
    refine ⟨by first | omega | (rw [wi]; omega), fun b hb => ?_⟩
    first | rw [wi] | skip
    rw [wb, w2]
    have s3 : Eng.Sub h' (upd h' b (.cells (ints .u8 [(x : Int) / 2 ^ i % 2]) 5)) := Sub.of_upd hb
    have hlen : (bs ++ bitsOf x i).length = bs.length + i := by rw [List.length_append, bitsOf_len]
    refine appW_part hi (s2.trans s3) (P2.sub s3) N2 (ys := [(x : Int) / 2 ^ i % 2]) HInts.new (by rw [hlen]; simp only [List.length_singleton]; omega) fun v' h3 o n3 s4 _ _ => ?_
    obtain ⟨a4, c4, rfl, _, _⟩ := o.ints
    have e : bs ++ bitsOf x i ++ [(x : Int) / 2 ^ i % 2] = bs ++ bitsOf x (i + 1) := by rw [bitsOf_succ, List.append_assoc]
    have hlen2 : (bs ++ bitsOf x (i + 1)).length = bs.length + (i + 1) := by rw [List.length_append, bitsOf_len]
    rw [e, hlen2] at o n3
    simp only [slA_sl, slL_sl, slC_sl, e, hlen2]
    refine ⟨⟨i + 1, a4, c4, rfl, by omega, o, n3, s4⟩, ?_⟩
    show n - (toInt (Value.int .i64 ((i + 1 : Nat) : Int))).toNat < n - (toInt (Value.int .i64 (i : Int))).toNat
    rw [toInt_int, toInt_int]; omega
  · obtain rfl : i = n := by omega
    exact ⟨P2, N2, s2⟩

/-- Bytes with the first i bits packed, the rest 0. -/
def pkz (bs : List Int) (nb i : Nat) : List Int := pk bs i ++ List.replicate (nb - (pk bs i).length) 0
theorem pkz_len {bs : List Int} {nb i : Nat} (h : (i + 7) / 8 ≤ nb) : (pkz bs nb i).length = nb := by
  unfold pkz; rw [List.length_append, List.length_replicate, pk_len]; omega
theorem pkz_zero {bs : List Int} {nb : Nat} : pkz bs nb 0 = List.replicate nb 0 := by unfold pkz pk; simp
theorem pkz_all {bs : List Int} {nb i : Nat} (h : nb = (i + 7) / 8) : pkz bs nb i = pk bs i := by
  unfold pkz; rw [pk_len, h, Nat.sub_self]; simp
theorem pkz_step {bs : List Int} {nb i : Nat} (h : (i + 8) / 8 ≤ nb) : (pkz bs nb i)[i / 8]? = some (pbase (pk bs i) i) ∧ (pkz bs nb i).set (i / 8) (pbase (pk bs i) i + bs.getD i 0 * 2 ^ (i % 8)) = pkz bs nb (i + 1) := by
  have hl := pk_len (bs := bs) (k := i)
  have e : pkz bs nb i = (if i % 8 = 0 then pk bs i ++ [0] else pk bs i) ++ List.replicate (nb - (pk bs (i + 1)).length) 0 := by
    unfold pkz
    rw [pk_len (k := i + 1), hl]
    split
    · obtain ⟨m, hm⟩ : ∃ m, nb - (i + 7) / 8 = m + 1 := ⟨nb - (i + 7) / 8 - 1, by omega⟩
      rw [hm, show nb - (i + 1 + 7) / 8 = m by omega, List.replicate_succ, List.append_assoc]; rfl
    · rw [show (i + 1 + 7) / 8 = (i + 7) / 8 by omega]
  have hlen : i / 8 < (if i % 8 = 0 then pk bs i ++ [0] else pk bs i).length := by
    split
    · rw [List.length_append, hl, List.length_singleton]; omega
    · omega
  constructor
  · rw [e, List.getElem?_append_left hlen]
    unfold pbase
    rw [List.getD_eq_getElem?_getD, List.getElem?_eq_getElem hlen]; rfl
  · rw [e, List.set_append_left _ _ hlen]
    unfold pkz
    rw [pk]; rfl

/-- A code of the fixed lengths is put. -/
theorem put_code (hi : Eng.Inv S h) {h1 : Eng.Heap} (s1 : Eng.Sub h h1) {a : Option Addr} {l c : Nat} {bs : List Int} (el : l = bs.length) (P : Part .u8 h1 (.slice a l c) bs) (N : Eng.New h (.slice a l c)) (hl : bs.length ≤ 20000) (cc : Nat) (hcc : cc < 288) (cI : Int) (ecI : cI = (cc : Int)) :
    CallsH Tryd.prog S F_laws_lwFixed #[] h1 (fun v h2 => ∃ a1 l1 c1, v = .slice a1 l1 c1 ∧ CallsH Tryd.prog S F_spec_HuffCodes #[.slice a1 l1 c1] h2 (fun v h3 => ∃ a3 l3 c3, v = .slice a3 l3 c3 ∧ (!a3.isNone) = true ∧ decide ((0 : Int) ≤ cI) = true ∧ cI < (l3 : Int) ∧ ∃ x y, (hcell h3 (((a3.getD default).add (cI.toNat * 2)).add 0) = some (.int .i64 x) ∧ hcell h3 (((a3.getD default).add (cI.toNat * 2)).add 1) = some (.int .u64 y)) ∧
      CallsH Tryd.prog S F_laws_lwPut #[.slice a l c, .agg #[.int .i64 x, .int .u64 y]] h3 (fun v h4 => ∃ a4 l4 c4, v = .slice a4 l4 c4 ∧ l4 = (bs ++ cbits cc).length ∧ Part .u8 h4 (.slice a4 l4 c4) (bs ++ cbits cc) ∧ Eng.New h (.slice a4 l4 c4) ∧ Eng.Sub h h4))) := by
  subst el
  subst ecI
  refine (k_lwFixed (hi.sub s1)).mono ?_
  rintro _ h2 ⟨O2, N2, s2⟩
  obtain ⟨a2, c2, rfl, _, _⟩ := Part.ints O2
  refine ⟨_, _, _, rfl, (g_spec_HuffCodes (hi.sub (s1.trans s2)) (xs := fixL) O2 fixL_lim).mono ?_⟩
  rintro w h3 ⟨O3, N3, s3⟩
  obtain ⟨a3, c3, rfl, _, hx3⟩ := OwnP.pairs O3
  rw [fixL_codes] at hx3
  have hcl : (ans_HuffCodes fixL).length = 288 := by rw [fixL_codes, codesOf_len, fixL_len]
  rw [hcl]
  obtain ⟨l, b, hg, hl15, hb, hcb⟩ := code_facts hcc
  obtain ⟨y1, y2, y3⟩ := hx3.cell hg
  have hp : 2 ^ l ≤ 2 ^ 15 := Nat.pow_le_pow_right (by decide) hl15
  have e15 : 2 ^ 15 = 32768 := by decide
  have s23 := s2.trans s3
  refine ⟨_, _, _, rfl, by simpa using y3, by simp, by omega, _, _, ⟨by simpa [add_add] using y1, by simpa [add_add] using y2⟩, (k_lwPut hi (s1.trans s23) (P.sub s23) N b l (by omega) hl15 (by omega)).mono ?_⟩
  rintro _ h4 ⟨P4, N4, s4⟩
  rw [← hcb] at P4
  obtain ⟨a4, c4, rfl, _, _⟩ := P4.ints
  exact ⟨_, _, _, rfl, rfl, P4, N4, s4⟩
theorem u8_wfL {n : Int} (H : (Lit.int .u8 n).wf = true) : 0 ≤ n ∧ n ≤ 255 := by
  have e1 : IntKind.u8.min = 0 := by rfl
  have e2 : IntKind.u8.max = 255 := by rfl
  simp [Lit.wf, e1, e2] at H; exact H
end

section
variable {S : Shared} {h h0 : Eng.Heap}
set_option maxRecDepth 100000 in
theorem k_FnLarge (hi : Eng.Inv S h) (G : ErrL h) (E : ErrT h) (a : Option Addr) (c : Nat) (code : List Int) (hx : HInts h .u8 a code) (hl : code.length ≤ maxLen) (hw : ∀ x ∈ code, (Lit.int .u8 x).wf = true) :
    CallsH Tryd.prog S F_laws_FnLarge #[.slice a code.length c] h (fun v h' => v = .bool true) := by
  refine run_laws_FnLarge (vs := [.slice a code.length c]) ⟨rfl, trivial⟩ hi ?_
  simp only [t_laws_FnLarge, Tr.wp, mksW, callW, Ex.ev, coerce, toInt_int, toBool_bool, slL_sl, slC_sl, slA_sl, toAddr_ptr, ptrOf_ptr, isNil_sl, isNil_ptr, it_and, it_or, it_int, optN_int, optN_nl, cmpI, arith, Cst.val, SV.den, resShs, resV, resSV, resVals, newVars, runCells, exSh, allSh, cellsAre, storeW, List.flatMap_cons, List.flatMap_nil, List.replicate_one, List.getD_cons_zero, List.getD_cons_succ, List.getElem?_cons_zero, List.getElem?_cons_succ, decide_eq_true_eq, decide_eq_false_iff_not, List.map_cons, List.map_nil, List.cons_append, List.nil_append, List.append_nil, List.length_cons, List.length_nil, Nat.zero_add, Nat.add_zero, and_true, true_and, if_true, if_false, Bool.false_eq_true]
  refine ⟨fun _ => trivial, fun hsm => ?_⟩
  have hsm2 : code.length ≤ 1048576 := by omega
  have hb8 : ∀ x ∈ code, 0 ≤ x ∧ x ≤ 255 := fun x hx => u8_wfL (hw x hx)
  refine (k_lwAt hi hx hsm2 hb8 0 (by omega)).mono ?_
  rintro _ hq ⟨⟨x0, rfl, l0, u0⟩, eq⟩
  subst eq
  refine ⟨_, rfl, ?_⟩
  refine (k_lwAt hi hx hsm2 hb8 1 (by omega)).mono ?_
  rintro _ hq2 ⟨⟨x1, rfl, l1, u1⟩, eq⟩
  subst eq
  refine ⟨_, rfl, ?_⟩
  obtain ⟨n, en, hn⟩ : ∃ n : Nat, (IntKind.i64.wrap (IntKind.i64.wrap (256 * x0) + x1)).tmod 400 = (n : Int) ∧ n ≤ 399 := by
    rw [i64_in (256 * x0) (by omega), i64_in _ (by omega), Int.tmod_eq_emod_of_nonneg (by omega)]
    exact ⟨((256 * x0 + x1) % 400).toNat, by omega, by omega⟩
  rw [en]
  intro b1 hb1
  have s1 : Eng.Sub hq2 (upd hq2 b1 (.cells (ints .u8 [1, 1, 0]) 5)) := Sub.of_upd hb1
  have hc3 : (#[Value.int .u8 1, Value.int .u8 1, Value.int .u8 0] : Array Value) = ints .u8 [1, 1, 0] := rfl
  rw [hc3]
  refine CallsH.mono (put_code hi s1 (bs := [1, 1, 0]) (l := 3) (c := 3) rfl (Own.made (k := .u8) (h := hq2) (b := b1) (T := 5) [1, 1, 0]).part (New.of hb1) (by simp) 7 (by omega) 7 rfl) ?_
  rintro _ g1 ⟨u1, m1, d1, rfl, Hg⟩
  refine ⟨_, _, _, rfl, Hg.mono ?_⟩
  rintro _ g2 ⟨u2, m2, d2, rfl, q1, q2, q3, y1, y2, q4, Hg⟩
  refine ⟨_, _, _, rfl, q1, by simp, q3, y1, y2, q4, Hg.mono ?_⟩
  rintro _ h2 ⟨a2, ml, c2, rfl, rfl, P2, N2, s2⟩
  refine ⟨_, _, _, rfl, ?_⟩
  have eH : [1, 1, 0] ++ cbits 7 = lgH 0 := by unfold lgH; simp
  rw [eH] at P2 N2 ⊢
  refine ⟨fun us h' => ∃ (i : Nat) (a : Option Addr) (c : Nat), us = [.slice a (lgH i).length c, .int .i64 i] ∧ i ≤ n ∧ Part .u8 h' (.slice a (lgH i).length c) (lgH i) ∧ Eng.New hq2 (.slice a (lgH i).length c) ∧ Eng.Sub hq2 h', fun us _ => n - (toInt (us.getD 1 undef)).toNat, ⟨0, a2, c2, rfl, by omega, P2, N2, s2⟩, ?_⟩
  rintro a3 l3 c3 z h3 ⟨i, a3', c3', hx1, hi2, P3, N3, s3⟩
  obtain ⟨⟨rfl, rfl, rfl⟩, rfl⟩ : (a3 = a3' ∧ l3 = (lgH i).length ∧ c3 = c3') ∧ z = i := by simpa using hx1
  have hlen := lgH_len (i := i)
  refine ⟨fun hlt => ?_, fun hge => ?_⟩
  · refine CallsH.mono (put_code hi s3 rfl P3 N3 (by omega) 285 (by omega) 285 rfl) ?_
    rintro _ g1 ⟨u1, m1, d1, rfl, Hg⟩
    refine ⟨_, _, _, rfl, Hg.mono ?_⟩
    rintro _ g2 ⟨u2, m2, d2, rfl, q1, q2, q3, y1, y2, q4, Hg⟩
    refine ⟨_, _, _, rfl, q1, by simp, q3, y1, y2, q4, Hg.mono ?_⟩
    rintro _ h4 ⟨a4, ml, c4, rfl, rfl, P4, N4, s4⟩
    refine ⟨_, _, _, rfl, ?_⟩
    intro b5 hb5
    have hc5 : (#[Value.int .u8 0, Value.int .u8 0, Value.int .u8 0, Value.int .u8 0, Value.int .u8 0] : Array Value) = ints .u8 [0, 0, 0, 0, 0] := rfl
    rw [hc5]
    have s5 : Eng.Sub h4 (upd h4 b5 (.cells (ints .u8 [0, 0, 0, 0, 0]) 5)) := Sub.of_upd hb5
    refine appW_part hi (s4.trans s5) (P4.sub s5) N4 (ys := [0, 0, 0, 0, 0]) HInts.new (by rw [List.length_append, hlen, cb_len285]; simp only [List.length_cons, List.length_nil]; omega) fun v' h6 o n6 s6 _ _ => ?_
    obtain ⟨a6, c6, rfl, _, _⟩ := o.ints
    have e : lgH i ++ cbits 285 ++ [0, 0, 0, 0, 0] = lgH (i + 1) := by rw [lgH_succ, List.append_assoc]; rfl
    rw [e] at o n6 ⊢
    have w2 : IntKind.i64.wrap ((i : Int) + 1) = ((i + 1 : Nat) : Int) := by rw [i64_in _ (by omega)]; omega
    simp only [slA_sl, slL_sl, slC_sl, w2]
    refine ⟨⟨i + 1, a6, c6, rfl, by omega, o, n6, s6⟩, ?_⟩
    show n - (toInt (Value.int .i64 ((i + 1 : Nat) : Int))).toNat < n - (toInt (Value.int .i64 (i : Int))).toNat
    rw [toInt_int, toInt_int]; omega
  · obtain rfl : i = n := by omega
    refine CallsH.mono (put_code hi s3 rfl P3 N3 (by omega) 256 (by omega) 256 rfl) ?_
    rintro _ g1 ⟨u1, m1, d1, rfl, Hg⟩
    refine ⟨_, _, _, rfl, Hg.mono ?_⟩
    rintro _ g2 ⟨u2, m2, d2, rfl, q1, q2, q3, y1, y2, q4, Hg⟩
    refine ⟨_, _, _, rfl, q1, by simp, q3, y1, y2, q4, Hg.mono ?_⟩
    rintro _ h4 ⟨a4, ml, c4, rfl, rfl, P4, N4, s4⟩
    refine ⟨_, _, _, rfl, ?_⟩
    have eT : lgH i ++ cbits 256 = lgT i := rfl
    rw [eT] at P4 N4 ⊢
    have hT := lgT_len (n := i)
    obtain ⟨nb, hnb⟩ : ∃ nb, nb = ((lgT i).length + 7) / 8 := ⟨_, rfl⟩
    have wnb : IntKind.i64.wrap ((IntKind.i64.wrap (((lgT i).length : Int) + 7)).tdiv 8) = (nb : Int) := by
      rw [i64_in (((lgT i).length : Int) + 7) (by omega), Int.tdiv_eq_ediv_of_nonneg (by omega), i64_in _ (by omega)]; omega
    rw [wnb]
    obtain ⟨r1, r2, r3⟩ := inf_large (n := i) hn
    have wn2 : IntKind.i64.wrap (nb : Int) = (nb : Int) := i64_in _ (by omega)
    rw [wn2]
    refine ⟨by omega, by omega, by omega, fun b5 hb5 => ?_⟩
    have s5 : Eng.Sub h4 (upd h4 b5 (.cells (ints .u8 (List.replicate nb 0)) 5)) := Sub.of_upd hb5
    have eM : (mkCells ((nb : Int).toNat * 1) #[Value.int .u8 0] : Array Value) = ints .u8 (List.replicate nb 0) := by
      rw [Int.toNat_natCast, Nat.mul_one]; exact mkCells_ints (k := .u8) nb
    rw [eM, Int.toNat_natCast]
    obtain ⟨_, _, e4, hc4, g4⟩ := P4.ints
    cases e4
    have Pz : Part .u8 (upd h4 b5 (.cells (ints .u8 (List.replicate nb 0)) 5)) (.slice (some ⟨b5, 0, none⟩) nb nb) (pkz (lgT i) nb 0) := by
      rw [pkz_zero]
      have := (Own.made (k := .u8) (h := h4) (b := b5) (T := 5) (List.replicate nb 0)).part
      rwa [List.length_replicate] at this
    refine ⟨fun us h' => ∃ j : Nat, us = [.int .i64 j] ∧ j ≤ (lgT i).length ∧ Part .u8 h' (.slice (some ⟨b5, 0, none⟩) nb nb) (pkz (lgT i) nb j) ∧ Eng.Sub h4 h', fun us _ => (lgT i).length - (toInt (us.getD 0 undef)).toNat, ⟨0, rfl, by omega, Pz, s5⟩, ?_⟩
    rintro x h' ⟨j, hxj, hj, PP, sj⟩
    obtain rfl : x = (j : Int) := by simpa using hxj
    have wd : IntKind.i64.wrap ((j : Int).tdiv 8) = ((j / 8 : Nat) : Int) := by rw [Int.tdiv_eq_ediv_of_nonneg (by omega)]; exact i64_in _ (by omega)
    have wm : (j : Int).tmod 8 = ((j % 8 : Nat) : Int) := by rw [Int.tmod_eq_emod_of_nonneg (by omega)]; omega
    have wu : IntKind.u64.wrap ((j % 8 : Nat) : Int) = ((j % 8 : Nat) : Int) := u64_in _ (by omega)
    have tj : ((j / 8 : Nat) : Int).toNat = j / 8 := Int.toNat_natCast _
    rw [wd, wm, wu, tj]
    refine ⟨fun hlt => ?_, fun hge => ?_⟩
    · have hjl : j < (lgT i).length := by omega
      have hjn : j / 8 < nb := by omega
      obtain ⟨k1, k2⟩ := pkz_step (bs := lgT i) (nb := nb) (i := j) (by omega)
      obtain ⟨aP, cP, eP, _, gP⟩ := PP.ints
      have eP2 : (some ⟨b5, 0, none⟩ : Option Addr) = aP := by injection eP
      rw [← eP2] at gP
      obtain ⟨c1, c2⟩ := gP.cell k1
      obtain ⟨d1, d2⟩ := (g4.sub sj).cell (List.getElem?_eq_getElem hjl)
      have hbj := lgT_01 _ (List.getElem_mem hjl)
      have egd : (lgT i).getD j 0 = (lgT i)[j] := by rw [List.getD_eq_getElem?_getD, List.getElem?_eq_getElem hjl]; rfl
      have pb := pbase_lt (lgT_01 (n := i)) (k := j)
      have w2 : IntKind.i64.wrap ((j : Int) + 1) = ((j + 1 : Nat) : Int) := by rw [i64_in _ (by omega)]; omega
      have m8 : min ((j % 8 : Nat) : Int).toNat IntKind.u8.bits = j % 8 := by
        have : IntKind.u8.bits = 8 := rfl
        rw [this]; omega
      have p7 := pow7 (n := j)
      have hp0 : (0 : Int) < 2 ^ (j % 8) := Int.pow_pos (by decide)
      have wb : IntKind.u8.wrap ((lgT i)[j] * 2 ^ (j % 8)) = (lgT i)[j] * 2 ^ (j % 8) := u8_in _ (by
        rcases (show (lgT i)[j] = 0 ∨ (lgT i)[j] = 1 by omega) with h | h <;> rw [h] <;> omega)
      have hor := or_u8 (lgT i)[j] pb.1 pb.2 hbj (show j % 8 < 8 by omega)
      have hns : ∀ z, blkOf (.slice (some ⟨b5, 0, none⟩) nb nb) = some z → ¬ S z := fun z hz hs => by
        cases hz
        exact hi _ hs (sub_none s4 hb5)
      have hlz : (pkz (lgT i) nb j).length = nb := pkz_len (by omega)
      obtain ⟨o1, o2, o3⟩ := part_set PP hns (i := j / 8) (by omega) (pbase (pk (lgT i) j) j + (lgT i).getD j 0 * 2 ^ (j % 8))
      rw [k2] at o2
      rw [egd] at o2 o3
      refine ⟨by simp, by omega, by omega, _, by simpa [add_add] using c1, by simpa using d2, by omega, hlt, _, by simpa [add_add] using d1, by omega, by simp, by omega, by omega, ?_, ?_⟩
      · simpa using o1
      · rw [m8, wb, hor, w2]
        refine ⟨⟨j + 1, rfl, by omega, by simpa using o2, fun y o hy => ?_⟩, ?_⟩
        · have := o3 y (fun e => by cases e; rw [hb5] at hy; cases hy)
          rw [Nat.mul_one] at this ⊢
          rw [this]; exact sj y o hy
        · show (lgT i).length - (toInt (Value.int .i64 ((j + 1 : Nat) : Int))).toNat < (lgT i).length - (toInt (Value.int .i64 (j : Int))).toNat
          rw [toInt_int, toInt_int]; omega
    · obtain rfl : j = (lgT i).length := by omega
      rw [pkz_all hnb] at PP
      intro b6 hb6
      have s6 : Eng.Sub h' (upd h' b6 (.cells (ints .u8 []) 5)) := Sub.of_upd hb6
      have e0 : (#[] : Array Value) = ints .u8 [] := rfl
      rw [e0]
      have s46 := s4.trans (sj.trans s6)
      refine CallsH.mono (g_impl_Inflate (hi.sub s46) (G.sub s46) (E.sub s46) (PP.sub s6) (show (pk (lgT i) (lgT i).length).length ≤ 1048576 by omega) 1 rfl (ds := []) (Own.made []).part (by show ([] : List Int).length ≤ 1048576; simp)) ?_
      rintro _ h7 ⟨O7, n7, s7⟩
      have w1 : IntKind.i64.wrap (1 + IntKind.i64.wrap (258 * (i : Int))) = ((1 + 258 * i : Nat) : Int) := by rw [i64_in (258 * (i : Int)) (by omega), i64_in _ (by omega)]; omega
      rw [w1]
      by_cases hbig : 100000 < 1 + 258 * i
      · obtain ⟨q1, q2⟩ := r3 hbig
        obtain ⟨u7, rfl, Q7⟩ := tInfRes_O O7
        obtain ⟨a7, c7, rfl, hc7, g7⟩ := Part.ints (show Part .u8 h7 u7 _ from Q7)
        refine ⟨_, _, _, _, _, rfl, fun _ => ?_, fun h => by omega⟩
        rw [q1, q2]; rfl
      · rw [r2 (by omega)] at O7
        obtain ⟨u7, rfl, Q7⟩ := tInfRes_O O7
        obtain ⟨a7, c7, rfl, hc7, g7⟩ := Part.ints (show Part .u8 h7 u7 (List.replicate (1 + 258 * i) 7) from Q7)
        have lr : (List.replicate (1 + 258 * i) (7 : Int)).length = 1 + 258 * i := List.length_replicate
        refine ⟨_, _, _, _, _, rfl, fun h => by omega, fun _ => ?_⟩
        rw [lr]
        have wl : IntKind.i64.wrap (((1 + 258 * i : Nat) : Int) - 1) = ((258 * i : Nat) : Int) := by rw [i64_in _ (by omega)]; omega
        obtain ⟨c1, c2⟩ := g7.cell (show (List.replicate (1 + 258 * i) (7 : Int))[258 * i]? = some 7 by rw [List.getElem?_replicate, if_pos (by omega)])
        rw [wl]
        have tl0 : ((258 * i : Nat) : Int).toNat = 258 * i := Int.toNat_natCast _
        rw [tl0]
        refine ⟨fun _ => ⟨by simpa using c2, by omega, by omega, 7, by simpa [add_add] using c1, by simp [shOk]⟩, fun hne => by simp at hne⟩
end
end Go.Proofs.YteaonnfokkfnlaaDoor
