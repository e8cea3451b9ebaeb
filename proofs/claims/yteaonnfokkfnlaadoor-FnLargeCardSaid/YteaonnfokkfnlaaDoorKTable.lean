import Derived.Test.YteaonnfokkfnlaaDoorKNext
set_option linter.unusedVariables false
set_option linter.unusedSimpArgs false
namespace Go.Proofs.YteaonnfokkfnlaaDoor
open Go Go.Eng Go.IntWalk
variable {S : Shared} {h : Eng.Heap}

def castT (T : List (Nat × Nat)) : List (Int × Int) := T.map fun e => ((e.1 : Int), (e.2 : Int))
theorem castT_len {T : List (Nat × Nat)} : (castT T).length = T.length := by simp [castT]
theorem castT_get {T : List (Nat × Nat)} {k s q : Nat} (h : T[k]? = some (s, q)) : (castT T)[k]? = some ((s : Int), (q : Int)) := by simp [castT, h]
theorem castT_set {T : List (Nat × Nat)} {k s q : Nat} : (castT T).set k ((s : Int), (q : Int)) = castT (T.set k (s, q)) := by simp [castT, List.map_set]
theorem castT_two {T : List (Nat × Nat)} : castT T ++ [(0, 0), (0, 0)] = castT (T ++ [(0, 0), (0, 0)]) := by simp [castT]

/-- A code table in block bt: entries T at the paths P. -/
structure TabV (h0 h : Eng.Heap) (bt : Nat) (T P : List (Nat × Nat)) (a : Option Addr) (c : Nat) (E : Nat → Nat → Prop) (Y : Nat → Nat → Nat) : Prop where
  hb : ∃ TT, h bt = some (.cells #[.slice a T.length c] TT)
  ow : OwnW h (.slice a T.length c) (castT T)
  nw : Eng.New h0 (.slice a T.length c)
  nb : h0 bt = none
  ne : blkOf (.slice a T.length c) ≠ some bt
  ti : TI E Y T P
  sb : Eng.Sub h0 h

variable {h0 : Eng.Heap} {bt : Nat} {T P : List (Nat × Nat)} {a : Option Addr} {c : Nat} {E : Nat → Nat → Prop} {Y : Nat → Nat → Nat}

theorem TabV.ld (H : TabV h0 h bt T P a c E Y) : hcell h ⟨bt, 0, none⟩ = some (.slice a T.length c) := by
  obtain ⟨TT, hb⟩ := H.hb
  simp [hcell, hb]

theorem TabV.cell (H : TabV h0 h bt T P a c E Y) {k s q : Nat} (hk : T[k]? = some (s, q)) : hcell h ((a.getD default).add (k * 2)) = some (.int .i64 s) ∧ hcell h ((a.getD default).add (k * 2 + 1)) = some (.int .i64 q) ∧ a.isSome = true := by
  obtain ⟨a', c', e, _, hx⟩ := H.ow.pairs
  simp only [Value.slice.injEq] at e
  rw [e.1]
  exact hx.cell (castT_get hk)

def bitsE (cs : List (Nat × Nat)) (m B i : Nat) : Nat → Nat → Prop := fun l v => Em cs m l v ∨ (l < i ∧ v = B % 2 ^ l)

theorem bitsE_up {cs : List (Nat × Nat)} {m B i : Nat} : ∀ l v, v < 2 ^ (l + 1) → bitsE cs m B i (l + 1) v → bitsE cs m B i l (v % 2 ^ l) := by
  rintro l v _ (h | ⟨h1, rfl⟩)
  · exact .inl (Em_up h)
  · exact .inr ⟨by omega, mod_pow (by omega)⟩

theorem bitsY_up {cs : List (Nat × Nat)} {m B i : Nat} : ∀ l v, v < 2 ^ (l + 1) → Ym cs m (l + 1) v ≠ 0 → bitsE cs m B i l (v % 2 ^ l) := fun l v _ h => .inl (Ym_up h)

theorem next_bit {B i : Nat} : B % 2 ^ (i + 1) = B % 2 ^ i + 2 ^ i * (B / 2 ^ i % 2) := by rw [Nat.pow_succ, Nat.mod_mul]

set_option maxHeartbeats 8000000 in
theorem k_tableOf (hi : Eng.Inv S h) (a0 : Option Addr) (c0 : Nat) (xs : List Int) (O : tI.O h (.slice a0 xs.length c0) xs) (L : limI xs) (hg : ¬ (hkind xs = 0 ∨ hkind xs = 2)) :
    CallsH Tryd.prog S F_impl_tableOf #[.slice a0 xs.length c0] h (fun v h' => ∃ bt T P a c, v = .pointer (some ⟨bt, 0, none⟩) ∧ TabV h h' bt T P a c (Em (codesN xs) xs.length) (Ym (codesN xs) xs.length) ∧ T.length ≤ 20000) := by
  obtain ⟨hlen, hok⟩ := hkind_ok hg
  refine run_impl_tableOf (vs := [.slice a0 xs.length c0]) ⟨rfl, trivial⟩ hi ?_
  simp only [t_impl_tableOf, Tr.wp, mksW, callW, Ex.ev, coerce, toInt_int, toBool_bool, slL_sl, slC_sl, slA_sl, toAddr_ptr, ptrOf_ptr, isNil_sl, isNil_ptr, it_and, it_or, it_int, optN_int, optN_nl, cmpI, arith, Cst.val, SV.den, resShs, resV, resSV, resVals, newVars, runCells, exSh, allSh, cellsAre, List.flatMap_cons, List.flatMap_nil, List.replicate_one, List.getD_cons_zero, List.getD_cons_succ, List.getElem?_cons_zero, List.getElem?_cons_succ, decide_eq_true_eq, decide_eq_false_iff_not, List.map_cons, List.map_nil, List.cons_append, List.nil_append, List.append_nil, List.length_cons, List.length_nil, Nat.zero_add, Nat.add_zero, and_true, true_and, if_true, if_false, Bool.false_eq_true]
  have w1 : IntKind.i64.wrap 1 = 1 := i64_in _ (by omega)
  have e0 : mkCells ((1 : Int).toNat * 2) #[Value.int IntKind.i64 0, Value.int IntKind.i64 0] = cellw [(0, 0)] := mkCells_w 1
  have e1 : (1 : Int).toNat = 1 := rfl
  rw [w1, e0, e1]
  refine ⟨by omega, by omega, by omega, fun b0 hb0 bt hbt => ?_⟩
  obtain ⟨h1, hh1⟩ : ∃ h1, h1 = upd h b0 (.cells (cellw [(0, 0)]) 103) := ⟨_, rfl⟩
  rw [← hh1] at hbt ⊢
  have s1 : Eng.Sub h h1 := by rw [hh1]; exact Sub.of_upd hb0
  have hbt0 := sub_none s1 hbt
  have hne0 : b0 ≠ bt := fun e => by rw [hh1, ← e, upd_same] at hbt; cases hbt
  obtain ⟨h2, hh2⟩ : ∃ h2, h2 = upd h1 bt (.cells #[.slice (some ⟨b0, 0, none⟩) 1 1] 101) := ⟨_, rfl⟩
  rw [← hh2]
  have s2 : Eng.Sub h h2 := by rw [hh2]; exact s1.trans (Sub.of_upd hbt)
  have hb2t : h2 bt = some (.cells #[.slice (some ⟨b0, 0, none⟩) 1 1] 101) := by rw [hh2, upd_same]
  have hb20 : h2 b0 = some (.cells (cellw [(0, 0)]) 103) := by rw [hh2, upd_ne hne0, hh1, upd_same]
  obtain ⟨cs, hcs⟩ : ∃ cs, cs = codesN xs := ⟨_, rfl⟩
  have hcl : cs.length = xs.length := by rw [hcs, codesN_len]
  rw [← hcs]
  refine (g_impl_HuffCodes (hi.sub s2) (Ty.Osub O s2) L).mono ?_
  rintro cv h3 ⟨OC, NC, s3⟩
  simp only [ans_HuffCodes, if_neg hg] at OC
  obtain ⟨ac, cc, rfl⟩ := tCodes_F (tCodes.OR OC)
  rw [codesOf_len] at OC NC ⊢
  have OC : OwnP h3 (.slice ac xs.length cc) (codesOf xs) := OC
  have NC : ∀ y, blkOf (.slice ac xs.length cc) = some y → h2 y = none := NC
  have hcbt : blkOf (.slice ac xs.length cc) ≠ some bt := fun e => by have := NC bt e; rw [hb2t] at this; cases this
  refine ⟨_, _, _, rfl, ?_⟩
  refine ⟨fun us h' => ∃ (m : Nat) (T P : List (Nat × Nat)) (a : Option Addr) (c : Nat), us = [.int .i64 m] ∧ m ≤ xs.length ∧ TabV h h' bt T P a c (Em cs m) (Ym cs m) ∧ T.length ≤ 1 + 30 * m ∧ OwnP h' (.slice ac xs.length cc) (codesOf xs) ∧ (∀ y, blkOf (.slice ac xs.length cc) = some y → blkOf (.slice a T.length c) ≠ some y),
    fun us _ => xs.length - (toInt (us.getD 0 undef)).toNat, ⟨0, [(0, 0)], [(0, 0)], some ⟨b0, 0, none⟩, 1, rfl, by omega, ?_, by simp, OC, ?_⟩, ?_⟩
  · refine ⟨⟨_, s3 bt _ hb2t⟩, ⟨b0, [], _, rfl, s3 b0 _ hb20⟩, New.of hb0, hbt0, fun e => hne0 (by cases e; rfl), ?_, s2.trans s3⟩
    exact TI.start.congr (fun l v _ => ⟨fun h => h.elim, fun ⟨s, _, h, _⟩ => by omega⟩) (fun _ _ _ => rfl)
  · intro y hy e
    cases e
    have := NC b0 hy
    rw [hb20] at this; cases this
  rintro x h' ⟨m, T, P, a, c, hx1, hm, TV, hTl, OC1, dis⟩
  obtain rfl : x = m := by simpa using hx1
  refine ⟨fun hlt => ?_, fun hge => ?_⟩
  · have hm3 : m < xs.length := by omega
    have hp := codesOf_get (xs := xs) hm3
    obtain ⟨Lm, B, hpe, hcm, hL15, hBl⟩ := codesOf_cast hok hp
    rw [← hcs] at hcm
    rw [hpe] at hp
    obtain ⟨a9, c9, e9, _, hx9⟩ := OC1.pairs
    simp only [Value.slice.injEq] at e9
    obtain ⟨rfl, _, rfl⟩ := e9
    obtain ⟨g1, g2, g3⟩ := hx9.cell hp
    have w2 : IntKind.i64.wrap ((m : Int) + 1) = ((m + 1 : Nat) : Int) := by rw [i64_in _ (by omega)]; omega
    refine ⟨by simpa using g3, by omega, hlt, (Lm : Int), (B : Int), ⟨by simpa [add_add] using g1, by simpa [add_add] using g2⟩, fun hz => ?_, fun hnz => ?_⟩
    · have hz : Lm = 0 := by have : (Lm : Int) = 0 := beq_iff_eq.1 hz; omega
      subst hz
      rw [w2]
      refine ⟨⟨m + 1, T, P, a, c, rfl, by omega, ⟨TV.hb, TV.ow, TV.nw, TV.nb, TV.ne, ?_, TV.sb⟩, by omega, OC1, dis⟩, by simp only [List.getD_cons_zero, toInt_int]; omega⟩
      refine TV.ti.congr (fun l v _ => ?_) (fun l v _ => ?_)
      · rw [Em_succ hcm]; exact ⟨.inl, fun h => h.elim id fun h => by omega⟩
      · rw [Ym, if_neg (fun h => ?_)]
        rw [hcm] at h
        simp only [Option.some.injEq, Prod.mk.injEq] at h
        omega
    have hLm : 0 < Lm := by
      rcases Nat.eq_zero_or_pos Lm with h | h
      · subst h; simp at hnz
      · exact h
    -- the path of the code is walked
    refine ⟨fun us h' => ∃ (at_ i : Nat) (T P : List (Nat × Nat)) (a : Option Addr) (c : Nat), us = [.int .i64 at_, .int .i64 i] ∧ i ≤ Lm ∧ P[at_]? = some (i, B % 2 ^ i) ∧ TabV h h' bt T P a c (bitsE cs m B i) (Ym cs m) ∧ T.length ≤ 1 + 30 * m + 2 * i ∧ OwnP h' (.slice ac xs.length cc) (codesOf xs) ∧ (∀ y, blkOf (.slice ac xs.length cc) = some y → blkOf (.slice a T.length c) ≠ some y),
      fun us _ => Lm - (toInt (us.getD 1 undef)).toNat, ⟨0, 0, T, P, a, c, rfl, by omega, by rw [TV.ti.root]; simp [Nat.mod_one], ⟨TV.hb, TV.ow, TV.nw, TV.nb, TV.ne, TV.ti.congr (fun l v _ => ⟨.inl, fun h => h.elim id fun h => by omega⟩) (fun _ _ _ => rfl), TV.sb⟩, by omega, OC1, dis⟩, ?_⟩
    clear TV hTl OC1 dis hx9 g1 g2 g3
    rintro x y h' ⟨at_, i, T, P, a, c, hx2, hi2, hP, TV, hTl, OC1, dis⟩
    obtain ⟨rfl, rfl⟩ : x = at_ ∧ y = i := by simpa using hx2
    obtain ⟨s, q, hT⟩ := TV.ti.get hP
    have hkT := (List.getElem?_eq_some_iff.1 hT).1
    obtain ⟨g1, g2, g3⟩ := TV.cell hT
    refine ⟨fun hlt => ?_, fun hge => ?_⟩
    · refine ⟨_, _, _, by simpa [addr_add] using TV.ld, by simpa using g3, by omega, by omega, (q : Int), by simpa [add_add] using g2, ?_⟩
      have wi : IntKind.i64.wrap ((i : Int) + 1) = ((i + 1 : Nat) : Int) := by rw [i64_in _ (by omega)]; omega
      have hbit : IntKind.i64.wrap (Go.bits .and .u64 ((B : Int).fdiv (2 ^ min (i : Int).toNat IntKind.u64.bits)) 1) = ((B / 2 ^ i % 2 : Nat) : Int) := by
        have m1 : min (i : Int).toNat IntKind.u64.bits = i := by
          have : IntKind.u64.bits = 64 := rfl
          rw [this]; omega
        have hp : (0 : Int) < 2 ^ i := Int.pow_pos (by decide)
        have e : (B : Int).fdiv (2 ^ i) % 2 = ((B / 2 ^ i % 2 : Nat) : Int) := by
          rw [Int.fdiv_eq_ediv_of_nonneg _ (Int.le_of_lt hp)]; push_cast; rfl
        rw [m1, and1_u64, e]; exact i64_in _ (by omega)
      rw [wi, hbit]
      -- on to the next entry
      have adv : ∀ {h' : Eng.Heap} {T P : List (Nat × Nat)} {a : Option Addr} {c s q : Nat}, T[at_]? = some (s, q) → P[at_]? = some (i, B % 2 ^ i) → TabV h h' bt T P a c (bitsE cs m B (i + 1)) (Ym cs m) → T.length ≤ 1 + 30 * m + 2 * (i + 1) → OwnP h' (.slice ac xs.length cc) (codesOf xs) → (∀ y, blkOf (.slice ac xs.length cc) = some y → blkOf (.slice a T.length c) ≠ some y) →
          ∃ (at' i' : Nat) (T P : List (Nat × Nat)) (a : Option Addr) (c : Nat), ([Value.int .i64 (IntKind.i64.wrap ((q : Int) + ((B / 2 ^ i % 2 : Nat) : Int))), Value.int .i64 ((i + 1 : Nat) : Int)] : List Value) = [.int .i64 at', .int .i64 i'] ∧ i' ≤ Lm ∧ P[at']? = some (i', B % 2 ^ i') ∧ TabV h h' bt T P a c (bitsE cs m B i') (Ym cs m) ∧ T.length ≤ 1 + 30 * m + 2 * i' ∧ OwnP h' (.slice ac xs.length cc) (codesOf xs) ∧ (∀ y, blkOf (.slice ac xs.length cc) = some y → blkOf (.slice a T.length c) ≠ some y) := by
        intro h' T P a c s q hT hP TV hl OC dis
        have hq : q ≠ 0 := (TV.ti.ext hT hP).2 (.inr ⟨by omega, rfl⟩)
        obtain ⟨k0, k1⟩ := TV.ti.kid hT hP hq
        have hk0 := (List.getElem?_eq_some_iff.1 k0).1
        rw [TV.ti.len] at hk0
        have hbb : B / 2 ^ i % 2 = 0 ∨ B / 2 ^ i % 2 = 1 := by omega
        refine ⟨q + B / 2 ^ i % 2, i + 1, T, P, a, c, by rw [i64_in _ (by omega)]; rfl, by omega, ?_, TV, hl, OC, dis⟩
        rw [next_bit]
        rcases hbb with h | h <;> rw [h]
        · simpa using k0
        · simpa using k1
      have hnb : ∀ b, blkOf (.slice a T.length c) = some b → ¬ S b := fun b hb hs => hi b hs (TV.nw b hb)
      refine ⟨fun hq0 => ?_, fun hqn _ => ?_⟩
      · have hq0 : q = 0 := by have : (q : Int) = 0 := beq_iff_eq.1 hq0; omega
        subst hq0
        have hT' : (castT T)[at_]? = some ((s : Int), (((0 : Nat) : Int))) := castT_get hT
        obtain ⟨ok4, ow4, fr4⟩ := TV.ow.set2 hnb hT' (T.length : Int)
        rw [castT_set] at ow4
        refine ⟨_, _, _, by simpa [addr_add] using TV.ld, _, _, _, by simpa [addr_add] using TV.ld, by simpa using g3, by omega, by omega, ?_⟩
        simp only [storeW, Int.toNat_natCast]
        refine ⟨ok4, ?_⟩
        obtain ⟨h4, hh4⟩ : ∃ h4, h4 = hset h' ((((a.getD default).add (at_ * 2)).add 1).add 0) (.int .i64 T.length) := ⟨_, rfl⟩
        obtain ⟨TT, hbt'⟩ := TV.hb
        have f4 : ∀ w, blkOf (.slice a T.length c) ≠ some w → h4 w = h' w := fun w hw => by rw [hh4]; exact fr4 w hw
        rw [← hh4] at ow4 ⊢
        have hb4 : h4 bt = some (.cells #[.slice a T.length c] TT) := by rw [f4 bt TV.ne]; exact hbt'
        have sb4 : Eng.Sub h h4 := fun y o hy => by rw [f4 y (fun e => by rw [TV.nw y e] at hy; cases hy)]; exact TV.sb y o hy
        have OC4 : OwnP h4 (.slice ac xs.length cc) (codesOf xs) := OC1.keep fun y hy => f4 y (dis y hy)
        refine ⟨a, T.length, c, by simp [addr_add, hcell, hb4], fun b hb => ?_⟩
        have eb : (Obj.cells #[Value.int IntKind.i64 0, Value.int IntKind.i64 0, Value.int IntKind.i64 0, Value.int IntKind.i64 0] 103) = .cells (cellw [(0, 0), (0, 0)]) 103 := rfl
        rw [eb]
        have s5 : Eng.Sub h4 (upd h4 b (.cells (cellw [(0, 0), (0, 0)]) 103)) := Sub.of_upd hb
        have hnT : (castT (T.set at_ (s, T.length))).length = T.length := by rw [castT_len, List.length_set]
        have ow5 : OwnW (upd h4 b (.cells (cellw [(0, 0), (0, 0)]) 103)) (.slice a T.length c) (castT (T.set at_ (s, T.length))) := ow4.keep fun z hz => upd_ne fun e => ow4.held z hz (e ▸ hb)
        refine appW_ownW hi (sb4.trans s5) ow5 TV.nw (qs := [(0, 0), (0, 0)]) (HPairw.of (sp := []) upd_same) (by rw [hnT]; simp only [List.length_cons, List.length_nil]; omega) fun v' h6 o6 n6 s6 keep hblk => ?_
        rw [castT_two] at o6
        obtain ⟨a6, c6, rfl, _, _⟩ := o6.pairs
        rw [castT_len] at o6 n6 hblk ⊢
        have hb5 : (upd h4 b (.cells (cellw [(0, 0), (0, 0)]) 103)) bt = some (.cells #[.slice a T.length c] TT) := s5 bt _ hb4
        have hb6 : h6 bt = some (.cells #[.slice a T.length c] TT) := by rw [keep bt (by rw [hb5]; simp) TV.ne]; exact hb5
        have hsbt : ¬ S bt := fun hs => hi bt hs TV.nb
        have ezz : ((⟨bt, 0, none⟩ : Addr).add 0).add 0 = ⟨bt, 0, none⟩ := by rw [addr_add, addr_add]
        have ne6 : blkOf (.slice a6 (T.set at_ (s, T.length) ++ [(0, 0), (0, 0)]).length c6) ≠ some bt := by
          rcases hblk with e | e
          · rw [e]; exact TV.ne
          · intro e2
            have := e bt e2
            rw [hb5] at this; cases this
        have dis6 : ∀ y, blkOf (.slice ac xs.length cc) = some y → blkOf (.slice a6 (T.set at_ (s, T.length) ++ [(0, 0), (0, 0)]).length c6) ≠ some y := fun y hy => by
          rcases hblk with e | e
          · rw [e]; exact dis y hy
          · intro e2
            have h7 := e y e2
            exact OC4.held y hy (sub_none s5 h7)
        have OC6 : OwnP h6 (.slice ac xs.length cc) (codesOf xs) := OC4.keep fun y hy => by
          have hh := OC4.held y hy
          have e5 : (upd h4 b (.cells (cellw [(0, 0), (0, 0)]) 103)) y = h4 y := upd_ne fun e => hh (e ▸ hb)
          rw [keep y (by rw [e5]; exact hh) (dis y hy), e5]
        have eset : hset h6 (((⟨bt, 0, none⟩ : Addr).add 0).add 0) (.slice a6 (T.set at_ (s, T.length) ++ [(0, 0), (0, 0)]).length c6) = upd h6 bt (.cells #[.slice a6 (T.set at_ (s, T.length) ++ [(0, 0), (0, 0)]).length c6] TT) := by
          rw [ezz, hset_cells' hb6]; rfl
        refine ⟨by rw [ezz]; exact ⟨⟨.slice a T.length c, by simp [hcell, hb6]⟩, by simp [hfrozen, hb6], hsbt⟩, ?_⟩
        simp only [slA_sl, slL_sl, slC_sl]
        rw [eset]
        intro _
        have TV6 : TabV h (upd h6 bt (.cells #[.slice a6 (T.set at_ (s, T.length) ++ [(0, 0), (0, 0)]).length c6] TT)) bt (T.set at_ (s, T.length) ++ [(0, 0), (0, 0)]) (P ++ [(i + 1, B % 2 ^ i), (i + 1, B % 2 ^ i + 2 ^ i)]) a6 c6 (bitsE cs m B (i + 1)) (Ym cs m) := by
          refine ⟨⟨TT, upd_same⟩, o6.keep fun z hz => upd_ne fun e => ne6 (e ▸ hz), n6, TV.nb, ne6, ?_, fun y o hy => ?_⟩
          · refine (TV.ti.grow hT hP bitsE_up bitsY_up).congr (fun l v _ => ?_) (fun _ _ _ => rfl)
            unfold bitsE
            constructor
            · rintro ((h | h) | ⟨rfl, rfl⟩)
              · exact .inl h
              · exact .inr ⟨by omega, h.2⟩
              · exact .inr ⟨by omega, rfl⟩
            · rintro (h | ⟨h1, h2⟩)
              · exact .inl (.inl h)
              · rcases (show l < i ∨ l = i by omega) with h | h
                · exact .inl (.inr ⟨h, h2⟩)
                · subst h; exact .inr ⟨rfl, h2⟩
          · rw [upd_ne (fun e => by rw [e, TV.nb] at hy; cases hy)]; exact s6 y o hy
        have hT6 : (T.set at_ (s, T.length) ++ [(0, 0), (0, 0)])[at_]? = some (s, T.length) := by
          rw [List.getElem?_append_left (by rw [List.length_set]; exact hkT), List.getElem?_set_self hkT]
        have hP6 : (P ++ [(i + 1, B % 2 ^ i), (i + 1, B % 2 ^ i + 2 ^ i)])[at_]? = some (i, B % 2 ^ i) := by
          rw [List.getElem?_append_left (List.getElem?_eq_some_iff.1 hP).1]; exact hP
        obtain ⟨_, g5, g6⟩ := TV6.cell hT6
        refine ⟨_, _, _, by simpa [addr_add] using TV6.ld, by simpa using g6, by omega, by simp; omega, (T.length : Int), by simpa [add_add] using g5, by omega, ?_, by simp only [List.getD_cons_succ, List.getD_cons_zero, toInt_int]; omega⟩
        exact adv hT6 hP6 TV6 (by simp; omega) (OC6.keep fun z hz => upd_ne fun e => hcbt (e ▸ hz)) dis6
      · have hqn : q ≠ 0 := fun e => by subst e; simp at hqn
        have TV6 : TabV h h' bt T P a c (bitsE cs m B (i + 1)) (Ym cs m) := ⟨TV.hb, TV.ow, TV.nw, TV.nb, TV.ne, TV.ti.congr (fun l v hv => by
          have hE := (TV.ti.ext hT hP).1 hqn
          unfold bitsE at hE ⊢
          constructor
          · rintro (h | ⟨h1, h2⟩)
            · exact .inl h
            · exact .inr ⟨by omega, h2⟩
          · rintro (h | ⟨h1, h2⟩)
            · exact .inl h
            · rcases (show l < i ∨ l = i by omega) with h | h
              · exact .inr ⟨h, h2⟩
              · subst h; subst h2; exact hE) (fun _ _ _ => rfl), TV.sb⟩
        refine ⟨_, _, _, by simpa [addr_add] using TV.ld, by simpa using g3, by omega, by omega, (q : Int), by simpa [add_add] using g2, by omega, ?_, by simp only [List.getD_cons_succ, List.getD_cons_zero, toInt_int]; omega⟩
        exact adv hT hP TV6 (by omega) OC1 dis
    · refine ⟨_, _, _, by simpa [addr_add] using TV.ld, by simpa using g3, by omega, by omega, ?_⟩
      obtain rfl : i = Lm := by omega
      have hnb : ∀ b, blkOf (.slice a T.length c) = some b → ¬ S b := fun b hb hs => hi b hs (TV.nw b hb)
      have hT' : (castT T)[at_]? = some ((s : Int), ((q : Int))) := castT_get hT
      obtain ⟨ok4, ow4, fr4⟩ := TV.ow.set1 hnb hT' ((m + 1 : Nat) : Int)
      rw [castT_set] at ow4
      simp only [storeW, Int.toNat_natCast, w2]
      refine ⟨ok4, ?_⟩
      obtain ⟨h4, hh4⟩ : ∃ h4, h4 = hset h' ((((a.getD default).add (at_ * 2)).add 0).add 0) (.int .i64 ((m + 1 : Nat) : Int)) := ⟨_, rfl⟩
      obtain ⟨TT, hbt'⟩ := TV.hb
      have f4 : ∀ w, blkOf (.slice a T.length c) ≠ some w → h4 w = h' w := fun w hw => by rw [hh4]; exact fr4 w hw
      rw [← hh4] at ow4 ⊢
      rw [low_lt hBl] at hP
      have hlT : (T.set at_ (m + 1, q)).length = T.length := List.length_set ..
      have TV4 : TabV h h4 bt (T.set at_ (m + 1, q)) P a c (Em cs (m + 1)) (Ym cs (m + 1)) := by
        refine ⟨⟨TT, by rw [f4 bt TV.ne, hlT]; exact hbt'⟩, by rw [hlT]; exact ow4, by rw [hlT]; exact TV.nw, TV.nb, by rw [hlT]; exact TV.ne, ?_, fun y o hy => by rw [f4 y (fun e => by rw [TV.nw y e] at hy; cases hy)]; exact TV.sb y o hy⟩
        refine (TV.ti.put hT hP (m + 1)).congr (fun l v _ => ?_) (fun l v _ => ?_)
        · rw [Em_succ hcm]; unfold bitsE
          constructor
          · rintro (h | ⟨h1, h2⟩)
            · exact .inl h
            · exact .inr ⟨h1, h2.symm⟩
          · rintro (h | ⟨h1, h2⟩)
            · exact .inl h
            · exact .inr ⟨h1, h2.symm⟩
        · rw [Ym, hcm]
          by_cases h : l = i ∧ v = B
          · obtain ⟨rfl, rfl⟩ := h
            rw [if_pos ⟨rfl, rfl⟩, if_pos ⟨rfl, hLm⟩]
          · rw [if_neg h, if_neg]
            intro h2
            simp only [Option.some.injEq, Prod.mk.injEq] at h2
            exact h ⟨h2.1.1.symm, h2.1.2.symm⟩
      exact ⟨⟨m + 1, _, P, a, c, rfl, by omega, TV4, by rw [hlT]; omega, OC1.keep fun y hy => f4 y (dis y hy), by rw [hlT]; exact dis⟩, by simp only [List.getD_cons_zero, toInt_int]; omega⟩
  · obtain rfl : m = xs.length := by omega
    exact ⟨bt, T, P, a, c, rfl, TV, by omega⟩
end Go.Proofs.YteaonnfokkfnlaaDoor
