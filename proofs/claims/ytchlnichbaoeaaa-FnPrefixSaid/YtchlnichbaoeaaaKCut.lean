import Derived.Test.YtchlnichbaoeaaaKDraw
set_option linter.unusedVariables false
set_option linter.unusedSimpArgs false
namespace Go.Proofs.Ytchlnichbaoeaaa
open Go Go.Eng Go.IntWalk
variable {S : Nat → Prop} {h h0 : Eng.Heap}

theorem k_lwAt (hi : Eng.Inv S h) {a : Option Addr} {c : Nat} {more : List Int} (hx : HInts h .u8 a more) (hl : more.length ≤ 1048576) (hw : ∀ x ∈ more, 0 ≤ x ∧ x ≤ 255) (i : Nat) (h1 : i ≤ 100000) :
    CallsH Try.prog S F_laws_lwAt #[.slice a more.length c, .int .i64 i] h (fun v h' => (∃ x, v = .int .i64 x ∧ 0 ≤ x ∧ x ≤ 255) ∧ h' = h) := by
  refine run_laws_lwAt (vs := [.slice a more.length c, .int .i64 i]) ⟨rfl, rfl, trivial⟩ hi ?_
  simp only [t_laws_lwAt, Tr.wp, mksW, callW, Ex.ev, coerce, toInt_int, toBool_bool, slL_sl, slC_sl, slA_sl, toAddr_ptr, ptrOf_ptr, isNil_sl, isNil_ptr, it_and, it_or, it_int, optN_int, optN_nl, cmpI, arith, Cst.val, SV.den, resShs, resV, resSV, resVals, newVars, runCells, exSh, allSh, cellsAre, storeW, List.flatMap_cons, List.flatMap_nil, List.replicate_one, List.getD_cons_zero, List.getD_cons_succ, List.getElem?_cons_zero, List.getElem?_cons_succ, decide_eq_true_eq, decide_eq_false_iff_not, List.map_cons, List.map_nil, List.cons_append, List.nil_append, List.append_nil, List.length_cons, List.length_nil, Nat.zero_add, Nat.add_zero, and_true, true_and, if_true, if_false, Bool.false_eq_true]
  refine ⟨fun hlt => ?_, fun hge => ?_⟩
  · have hi3 : i < more.length := by omega
    obtain ⟨g1, g2⟩ := hx.cell (List.getElem?_eq_getElem hi3)
    have hb := hw _ (List.getElem_mem hi3)
    refine ⟨by simpa using g2, by omega, hlt, more[i], by simpa [add_add] using g1, ?_⟩
    rw [i64_in _ (by omega)]
    exact ⟨_, rfl, hb.1, hb.2⟩
  · rw [i64_in ((i : Int) * 47) (by omega), i64_in _ (by omega), Int.tmod_eq_emod_of_nonneg (by omega)]
    exact ⟨_, rfl, by omega, by omega⟩

theorem k_lwOne (hi : Eng.Inv S h) (x : Bool) : CallsH Try.prog S F_laws_lwOne #[.bool x] h (fun v h' => v = .int .i64 (if x then 1 else 0) ∧ h' = h) := by
  refine run_laws_lwOne (vs := [.bool x]) ⟨rfl, trivial⟩ hi ?_
  simp only [t_laws_lwOne, Tr.wp, mksW, callW, Ex.ev, coerce, toInt_int, toBool_bool, slL_sl, slC_sl, slA_sl, toAddr_ptr, ptrOf_ptr, isNil_sl, isNil_ptr, it_and, it_or, it_int, optN_int, optN_nl, cmpI, arith, Cst.val, SV.den, resShs, resV, resSV, resVals, newVars, runCells, exSh, allSh, cellsAre, storeW, List.flatMap_cons, List.flatMap_nil, List.replicate_one, List.getD_cons_zero, List.getD_cons_succ, List.getElem?_cons_zero, List.getElem?_cons_succ, decide_eq_true_eq, decide_eq_false_iff_not, List.map_cons, List.map_nil, List.cons_append, List.nil_append, List.append_nil, List.length_cons, List.length_nil, Nat.zero_add, Nat.add_zero, and_true, true_and, if_true, if_false, Bool.false_eq_true]
  exact ⟨fun hx => by rw [if_pos hx], fun hx => by rw [hx]; rfl⟩

/-- The values vs are slices that hold ds, each in a block of its own, none in block of u. -/
def Chunks (h : Eng.Heap) (u : Value) (vs : List Value) (ds : List (List Int)) : Prop :=
  vs.length = ds.length ∧ ∀ (i : Nat) d, ds[i]? = some d → ∃ a c, vs[i]? = some (.slice a d.length c) ∧ Part .u8 h (.slice a d.length c) d ∧ ∀ y, blkOf (.slice a d.length c) = some y → blkOf u ≠ some y

theorem Chunks.get {u : Value} {vs : List Value} {ds : List (List Int)} (H : Chunks h u vs ds) {i : Nat} {d : List Int} (hd : ds[i]? = some d) : ∃ a c, vs[i]? = some (.slice a d.length c) ∧ Part .u8 h (.slice a d.length c) d := by
  obtain ⟨a, c, h1, h2, _⟩ := H.2 i d hd
  exact ⟨a, c, h1, h2⟩

set_option maxHeartbeats 4000000 in
theorem k_lwCut (hi : Eng.Inv S h) {a0 a2 : Option Addr} {c0 c2 : Nat} {ys more : List Int} (hx : HInts h .u8 a0 ys) (hc0 : ys.length ≤ c0) (hl : ys.length ≤ 1000) (hm : HInts h .u8 a2 more) (hml : more.length ≤ 1048576) (hw : ∀ x ∈ more, 0 ≤ x ∧ x ≤ 255) (from_ : Nat) (hfr : from_ ≤ 1000) :
    CallsH Try.prog S F_laws_lwCut #[.slice a0 ys.length c0, .slice a2 more.length c2, .int .i64 from_] h (fun v h' => ∃ vs ds, OwnL h' v vs ∧ Chunks h' v vs ds ∧ ds.flatten = ys ∧ ds.length ≤ 255 ∧ Eng.Sub h h') := by
  refine run_laws_lwCut (vs := [.slice a0 ys.length c0, .slice a2 more.length c2, .int .i64 from_]) ⟨rfl, rfl, rfl, trivial⟩ hi ?_
  simp only [t_laws_lwCut, Tr.wp, mksW, callW, Ex.ev, coerce, toInt_int, toBool_bool, slL_sl, slC_sl, slA_sl, toAddr_ptr, ptrOf_ptr, isNil_sl, isNil_ptr, it_and, it_or, it_int, optN_int, optN_nl, cmpI, arith, Cst.val, SV.den, resShs, resV, resSV, resVals, newVars, runCells, exSh, allSh, cellsAre, storeW, List.flatMap_cons, List.flatMap_nil, List.replicate_one, List.getD_cons_zero, List.getD_cons_succ, List.getElem?_cons_zero, List.getElem?_cons_succ, decide_eq_true_eq, decide_eq_false_iff_not, List.map_cons, List.map_nil, List.cons_append, List.nil_append, List.append_nil, List.length_cons, List.length_nil, Nat.zero_add, Nat.add_zero, and_true, true_and, if_true, if_false, Bool.false_eq_true]
  intro b0 hb0
  have s0 : Eng.Sub h (upd h b0 (.cells ([] : List Value).toArray 98)) := Sub.of_upd hb0
  refine ⟨fun us h' => ∃ (ab ao : Option Addr) (cb co k : Nat) (rest : List Int) (vs : List Value) (ds : List (List Int)), us = [.slice ab rest.length cb, .slice ao k co, .int .i64 k] ∧ rest.length ≤ cb ∧ ds.flatten ++ rest = ys ∧ HInts h .u8 ab rest ∧ vs.length = k ∧ OwnL h' (.slice ao k co) vs ∧ Eng.New h (.slice ao k co) ∧ Chunks h' (.slice ao k co) vs ds ∧ (rest ≠ [] → k ≤ 254) ∧ k ≤ 255 ∧ Eng.Sub h h',
    fun us _ => 255 - (toInt (us.getD 2 undef)).toNat, ⟨a0, _, c0, _, 0, ys, [], [], rfl, hc0, rfl, hx, rfl, OwnL.made [], New.of hb0, ⟨rfl, fun i d hd => by simp at hd⟩, fun _ => by omega, by omega, s0⟩, ?_⟩
  rintro ab lb cb ao lo co x h' ⟨ab', ao', cb', co', k, rest, vs, ds, hx1, hcb, hfl, hr, hvl, OW, N, CH, hk1, hk2, sb⟩
  obtain ⟨⟨rfl, rfl, rfl⟩, ⟨rfl, rfl, rfl⟩, rfl⟩ : (ab = ab' ∧ lb = rest.length ∧ cb = cb') ∧ (ao = ao' ∧ lo = k ∧ co = co') ∧ x = k := by simpa using hx1
  have hrl : rest.length ≤ 1000 := by have := congrArg List.length hfl; rw [List.length_append] at this; omega
  refine ⟨fun hgt => ?_, fun hle => ?_⟩
  · have hrne : rest ≠ [] := fun e => by subst e; simp at hgt
    have hk3 := hk1 hrne
    have w1 : IntKind.i64.wrap ((from_ : Int) + (lo : Int)) = ((from_ + lo : Nat) : Int) := by rw [i64_in _ (by omega)]; omega
    rw [w1]
    refine (k_lwAt (hi.sub sb) (hm.sub sb) hml hw (from_ + lo) (by omega)).mono ?_
    rintro _ hq ⟨⟨x, rfl, x0, x1⟩, eq⟩
    rw [eq]
    refine ⟨_, rfl, fun b1 hb1 => ?_⟩
    obtain ⟨n, hn, hnl, hn4⟩ : ∃ n : Nat, (if (decide (x.tmod 9 > (rest.length : Int)) || (lo : Int) == 254) = true then (rest.length : Int) else x.tmod 9) = n ∧ n ≤ rest.length ∧ (lo = 254 → n = rest.length) := by
      rw [Int.tmod_eq_emod_of_nonneg x0]
      by_cases hc : (decide (x % 9 > (rest.length : Int)) || (lo : Int) == 254) = true
      · exact ⟨rest.length, by rw [if_pos hc], Nat.le_refl _, fun _ => rfl⟩
      · have hc2 : ¬ (x % 9 > (rest.length : Int)) ∧ ¬ lo = 254 := by simp at hc; omega
        refine ⟨(x % 9).toNat, ?_, by omega, fun h => absurd h hc2.2⟩
        rw [if_neg hc]; omega
    simp only [hn]
    rw [Int.toNat_natCast]
    have s1 : Eng.Sub h' (upd h' b1 (.cells (ints .u8 []) 5)) := Sub.of_upd hb1
    obtain ⟨a3, e3, H3⟩ := slSub_ints (hr.sub sb) (lo := 0) (hi := n) (m := cb) (by omega) hnl (by omega)
    have hd3 : (rest.drop 0).take (n - 0) = rest.take n := by simp
    rw [hd3] at e3 H3
    have htl : (rest.take n).length = n := by rw [List.length_take]; omega
    obtain ⟨a4, e4, H4⟩ := slSub_ints hr (lo := n) (hi := rest.length) (m := cb) hnl (Nat.le_refl _) hcb
    have hd4 : (rest.drop n).take (rest.length - n) = rest.drop n := List.take_of_length_le (by rw [List.length_drop]; omega)
    rw [hd4] at e4 H4
    rw [e3, e4]
    refine ⟨by omega, by omega, ?_⟩
    refine appW_part (hi.sub sb) s1 (Own.made []).part (New.of hb1) (H3.sub s1) (by simp only [List.length_nil, htl]; omega) fun v1 h1 o1 n1 s2 _ _ => ?_
    obtain ⟨a5, c5, rfl, _, _⟩ := o1.ints
    rw [List.nil_append] at o1 n1 ⊢
    intro b2 hb2
    simp only [slA_sl, slL_sl, slC_sl]
    have s3 : Eng.Sub h1 (upd h1 b2 (.cells ([Value.slice a5 (rest.take n).length c5] : List Value).toArray 98)) := Sub.of_upd hb2
    have OW3 : OwnL (upd h1 b2 (.cells ([Value.slice a5 (rest.take n).length c5] : List Value).toArray 98)) (.slice ao lo co) vs := OW.keep fun z hz => by
      have h5 := OW.held z hz
      cases hh : h' z with
      | none => exact absurd hh h5
      | some o => rw [upd_ne (fun e => by rw [e] at hh; have := s2 _ _ hh; rw [hb2] at this; cases this)]; exact s2 _ _ hh
    refine appW_ownL hi (sb.trans (s2.trans s3)) OW3 N (HVals.of (sp := []) upd_same) oneCell_sl (by omega) fun v2 h3 o3 n3 s4 keep hblk => ?_
    obtain ⟨a6, c6, rfl, _, _⟩ := o3.vals
    have hvl2 : (vs ++ [Value.slice a5 (rest.take n).length c5]).length = lo + 1 := by simp [hvl]
    rw [hvl2] at o3 n3 hblk
    have w2 : IntKind.i64.wrap ((lo : Int) + 1) = ((lo + 1 : Nat) : Int) := by rw [i64_in _ (by omega)]; omega
    simp only [slA_sl, slL_sl, slC_sl, hvl2, w2]
    have keep' : ∀ y, h1 y ≠ none → blkOf (.slice ao lo co) ≠ some y → h3 y = h1 y := fun y hy hne => by
      have e : (upd h1 b2 (.cells ([Value.slice a5 (rest.take n).length c5] : List Value).toArray 98)) y = h1 y := upd_ne fun e => hy (e ▸ hb2)
      have := keep y (by show (upd h1 b2 (.cells ([Value.slice a5 (rest.take n).length c5] : List Value).toArray 98)) y ≠ none; rw [e]; exact hy) hne
      exact this.trans e
    have out_ne : ∀ y, h1 y ≠ none → blkOf (.slice ao lo co) ≠ some y → blkOf (.slice a6 (lo + 1) c6) ≠ some y := fun y hy hne => by
      rcases hblk with e | e
      · rw [e]; exact hne
      · intro e2
        have h7 := e y e2
        exact hy (sub_none s3 h7)
    refine ⟨by omega, by omega, ⟨a4, a6, _, c6, lo + 1, rest.drop n, _, ds ++ [rest.take n], rfl, by rw [List.length_drop]; omega, ?_, H4, hvl2, o3, n3, ⟨by simp [CH.1], fun i d hd => ?_⟩, fun hne => ?_, by omega, s4⟩, ?_⟩
    · rw [List.flatten_append, List.flatten_singleton, List.append_assoc, List.take_append_drop, hfl]
    · by_cases hi2 : i < ds.length
      · rw [List.getElem?_append_left hi2] at hd
        obtain ⟨a7, c7, g1, g2, g3⟩ := CH.2 i d hd
        refine ⟨a7, c7, by rw [List.getElem?_append_left (by rw [CH.1]; exact hi2)]; exact g1, g2.keep fun y hy => ?_, fun y hy => ?_⟩
        · have h5 := g2.held y hy
          have h6 : h1 y = h' y := by
            cases hh : h' y with
            | none => exact absurd hh h5
            | some o => exact s2 _ _ hh
          rw [keep' y (by rw [h6]; exact h5) (g3 y hy), h6]
        · have h5 := g2.held y hy
          have h6 : h1 y ≠ none := by
            cases hh : h' y with
            | none => exact absurd hh h5
            | some o => rw [s2 _ _ hh]; simp
          exact out_ne y h6 (g3 y hy)
      · have hlen : i = ds.length := by
          have := (List.getElem?_eq_some_iff.1 hd).1
          simp at this; omega
        subst hlen
        rw [List.getElem?_append_right (Nat.le_refl _), Nat.sub_self] at hd
        have hd : rest.take n = d := by simpa using hd
        subst hd
        have hne5 : ∀ y, blkOf (.slice a5 (rest.take n).length c5) = some y → blkOf (.slice ao lo co) ≠ some y := fun y hy e => by
          have h5 := n1 y hy
          exact OW.held y e h5
        refine ⟨a5, c5, by rw [List.getElem?_append_right (by rw [CH.1]; exact Nat.le_refl _), CH.1, Nat.sub_self]; rfl, o1.keep fun y hy => keep' y (o1.held y hy) (hne5 y hy), fun y hy => out_ne y (o1.held y hy) (hne5 y hy)⟩
    · rcases Nat.lt_or_ge lo 254 with h | h
      · omega
      · have hn5 := hn4 (by omega)
        exfalso
        apply hne
        rw [hn5, List.drop_length]
    · simp only [List.getD_cons_succ, List.getD_cons_zero, toInt_int]; omega
  · have hr0 : rest = [] := List.length_eq_zero_iff.1 (by omega)
    subst hr0
    rw [List.append_nil] at hfl
    exact ⟨vs, ds, OW, CH, hfl, by have := CH.1; omega, sb⟩
end Go.Proofs.Ytchlnichbaoeaaa
