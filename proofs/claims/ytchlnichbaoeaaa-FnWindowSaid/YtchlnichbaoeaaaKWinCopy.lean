import Derived.Test.YtchlnichbaoeaaaKWinPut
import Derived.Test.YtchlnichbaoeaaaTyCopyRes
set_option linter.unusedVariables false
set_option linter.unusedSimpArgs false
namespace Go.Proofs.Ytchlnichbaoeaaa
open Go Go.Eng Go.IntWalk
variable {S : Nat → Prop} {h : Eng.Heap}

/-- n bytes more, each the one d before the end. -/
def repX (d : Nat) (L : List Int) : Nat → List Int
  | 0 => L
  | n + 1 => repX d L n ++ [(repX d L n).getD ((repX d L n).length - d) 0]

theorem repX_len {d : Nat} {L : List Int} {n : Nat} : (repX d L n).length = L.length + n := by
  induction n with
  | zero => rfl
  | succ n ih => simp only [repX, List.length_append, ih, List.length_singleton]; omega

theorem repX_pre {d : Nat} {L : List Int} {n : Nat} : ∃ t, repX d L n = L ++ t := by
  induction n with
  | zero => exact ⟨[], by simp [repX]⟩
  | succ n ih => obtain ⟨t, e⟩ := ih; exact ⟨t ++ [(repX d L n).getD ((repX d L n).length - d) 0], by rw [repX, e, List.append_assoc]⟩

def nilCopy : XCopyRes := (false, [], nilWindow)
def ans_WindowCopy (x : XWindow) (d n : Int) : XCopyRes :=
  if vwin x ∧ 1 ≤ n ∧ n ≤ 258 ∧ 1 ≤ d ∧ d ≤ (x.2.1.length : Int) then
    (true, (repX d.toNat x.2.1 n.toNat).drop x.2.1.length, x.1, lastN x.1.toNat (repX d.toNat x.2.1 n.toNat), ())
  else nilCopy

theorem tCopy_nil : tCopyRes.O h (.agg #[.bool false, .slice none 0 0, .int .i64 0, .slice none 0 0]) nilCopy := tCopyRes_mkO (x := nilCopy) Part.nil Part.nil (fun b h => by cases h)
theorem tCopy_nilNew : tCopyRes.New h (.agg #[.bool false, .slice none 0 0, .int .i64 0, .slice none 0 0]) := fun b hb => by
  rcases (tCopyRes_B (x := nilCopy)).1 hb with h | h <;> cases h

theorem tCopy_of {v u : Value} {m : Int} {ys zs : List Int} (D : tB.O h v ys) (H : tB.O h u zs) (d : ∀ b, tB.B v b → ¬ tB.B u b) : tCopyRes.O h (.agg #[.bool true, v, .int .i64 m, u]) (true, ys, m, zs, ()) :=
  tCopyRes_mkO (x := (true, ys, m, zs, ())) D H d
theorem tCopy_new {v u : Value} {m : Int} (D : tB.New h v) (H : tB.New h u) : tCopyRes.New h (.agg #[.bool true, v, .int .i64 m, u]) :=
  fun c hc => ((tCopyRes_B (x := (true, [], m, [], ()))).1 hc).elim (D c) (H c)

theorem k_back {h0 : Eng.Heap} {b : Nat} {T : TypeId} {sz : Nat} {K : List Int} (hi : Eng.Inv S h0) (H : RingAt h0 h b T sz K) (d : Int) (h1 : 1 ≤ d) (h2 : d ≤ (K.length : Int)) :
    CallsH Try.prog S F_impl_ring__back #[.pointer (some ⟨b, 0, none⟩), .int .i64 d] h (fun v h' => v = .int .u8 (K.getD (K.length - d.toNat) 0) ∧ h' = h) := by
  obtain ⟨ds, at_, n, hb, R, s, hbn⟩ := id H
  refine run_impl_ring__back (vs := [.pointer (some ⟨b, 0, none⟩), .int .i64 d]) ⟨rfl, rfl, trivial⟩ (hi.sub s) ?_
  simp only [t_impl_ring__back, Tr.wp, mksW, callW, Ex.ev, coerce, toInt_int, toBool_bool, slL_sl, slC_sl, slA_sl, toAddr_ptr, ptrOf_ptr, isNil_sl, isNil_ptr, it_and, it_or, it_int, optN_int, optN_nl, cmpI, arith, Cst.val, SV.den, resShs, resV, resSV, resVals, newVars, runCells, exSh, allSh, cellsAre, storeW, List.flatMap_cons, List.flatMap_nil, List.replicate_one, List.getD_cons_zero, List.getD_cons_succ, List.getElem?_cons_zero, List.getElem?_cons_succ, decide_eq_true_eq, decide_eq_false_iff_not, List.map_cons, List.map_nil, List.cons_append, List.nil_append, List.append_nil, List.length_cons, List.length_nil, Nat.zero_add, Nat.add_zero, and_true, true_and, if_true, if_false, Bool.false_eq_true]
  have hs1 := R.s1
  have hs2 := R.s2
  have ha1 := R.a1
  have hdl := R.dl
  have hn1 := R.n1
  have hkn := R.kn
  have w1 : IntKind.i64.wrap (IntKind.i64.wrap ((at_ : Int) - d) + (sz : Int)) = ((at_ + sz - n + (n - d.toNat) : Nat) : Int) := by
    rw [i64_in ((at_ : Int) - d) (by omega), i64_in _ (by omega)]; omega
  have w2 : ((at_ + sz - n + (n - d.toNat) : Nat) : Int).tmod (sz : Int) = (((at_ + sz - n + (n - d.toNat)) % sz : Nat) : Int) := by
    rw [Int.tmod_eq_emod_of_nonneg (by omega)]; push_cast; rfl
  have hlt : (at_ + sz - n + (n - d.toNat)) % sz < sz := Nat.mod_lt _ (by omega)
  have hrd := R.rd (n - d.toNat) (by omega)
  simp only [addr_add, Nat.add_zero, Nat.zero_add]
  refine ⟨by simp, at_, ring_at hb hdl, by simp, sz, ring_sz hb, by simp, sz, ring_sz hb, by simp; omega, by simp, ?_⟩
  rw [w1, w2]
  have hk : K[n - d.toNat]? = some K[n - d.toNat] := List.getElem?_eq_getElem (by omega)
  rw [hk] at hrd
  rw [Int.toNat_natCast, Nat.mul_one]
  refine ⟨by omega, by omega, _, ring_d hb hrd, ?_⟩
  have e : K.getD (K.length - d.toNat) 0 = K[n - d.toNat] := by
    have e1 : K.length - d.toNat = n - d.toNat := by omega
    rw [List.getD_eq_getElem?_getD, e1, hk]; rfl
  rw [e]

theorem lastN_back {sz d : Nat} {L : List Int} (h1 : 1 ≤ d) (h2 : d ≤ sz) (h3 : d ≤ L.length) : (lastN sz L).getD ((lastN sz L).length - d) 0 = L.getD (L.length - d) 0 := by
  rw [lastN_len, List.getD_eq_getElem?_getD, List.getD_eq_getElem?_getD]
  unfold lastN
  rw [List.getElem?_drop]
  congr 2
  omega

theorem k_repeat {h0 : Eng.Heap} {b : Nat} {T : TypeId} {sz : Nat} {L : List Int} (hi : Eng.Inv S h0) (H : RingAt h0 h b T sz (lastN sz L)) (d n : Int) (d1 : 1 ≤ d) (d2 : d ≤ (L.length : Int)) (d3 : d ≤ (sz : Int)) (hn : 0 ≤ n ∧ n ≤ 258) (hl : L.length ≤ 32768) :
    CallsH Try.prog S F_impl_ring__repeat #[.pointer (some ⟨b, 0, none⟩), .int .i64 d, .int .i64 n] h (fun v h' => tB.O h' v ((repX d.toNat L n.toNat).drop L.length) ∧ tB.New h0 v ∧ RingAt h0 h' b T sz (lastN sz (repX d.toNat L n.toNat))) := by
  refine run_impl_ring__repeat (vs := [.pointer (some ⟨b, 0, none⟩), .int .i64 d, .int .i64 n]) ⟨rfl, rfl, rfl, trivial⟩ (hi.sub H.sub) ?_
  simp only [t_impl_ring__repeat, Tr.wp, mksW, callW, Ex.ev, coerce, toInt_int, toBool_bool, slL_sl, slC_sl, slA_sl, toAddr_ptr, ptrOf_ptr, isNil_sl, isNil_ptr, it_and, it_or, it_int, optN_int, optN_nl, cmpI, arith, Cst.val, SV.den, resShs, resV, resSV, resVals, newVars, runCells, exSh, allSh, cellsAre, storeW, List.flatMap_cons, List.flatMap_nil, List.replicate_one, List.getD_cons_zero, List.getD_cons_succ, List.getElem?_cons_zero, List.getElem?_cons_succ, decide_eq_true_eq, decide_eq_false_iff_not, List.map_cons, List.map_nil, List.cons_append, List.nil_append, List.append_nil, List.length_cons, List.length_nil, Nat.zero_add, Nat.add_zero, and_true, true_and, if_true, if_false, Bool.false_eq_true]
  intro b0 hb0
  have hrb : h b ≠ none := by obtain ⟨_, _, _, hb, _⟩ := H; rw [hb]; simp
  have hne0 : b0 ≠ b := fun e => hrb (e ▸ hb0)
  have s0 : Eng.Sub h (upd h b0 (.cells (ints .u8 []) 5)) := Sub.of_upd hb0
  obtain ⟨D, hD⟩ : ∃ D, D = d.toNat := ⟨_, rfl⟩
  rw [← hD]
  refine ⟨fun us h' => ∃ (a : Option Addr) (c i : Nat), us = [.slice a i c, .int .i64 i] ∧ i ≤ n.toNat ∧ Part .u8 h' (.slice a i c) ((repX D L i).drop L.length) ∧ Eng.New h0 (.slice a i c) ∧ blkOf (.slice a i c) ≠ some b ∧ RingAt h0 h' b T sz (lastN sz (repX D L i)), fun us _ => n.toNat - (toInt (us.getD 1 undef)).toNat, ⟨_, _, 0, rfl, by omega, ?_, New.of (sub_none H.sub hb0), fun e => hne0 (by cases e; rfl), H.mono s0⟩, ?_⟩
  · have e : (repX D L 0).drop L.length = [] := by simp [repX]
    rw [e]
    exact (Own.made (k := .u8) (b := b0) (T := 5) (h := h) []).part
  rintro a l c x h' ⟨a', c', i, hx1, hi2, P, N, hne, R⟩
  obtain ⟨⟨rfl, rfl, rfl⟩, rfl⟩ : (a = a' ∧ l = i ∧ c = c') ∧ x = i := by simpa using hx1
  have hll : ((repX D L l).drop L.length).length = l := by rw [List.length_drop, repX_len]; omega
  refine ⟨fun hlt => ?_, fun hge => ?_⟩
  · have hK : d ≤ ((lastN sz (repX D L l)).length : Int) := by rw [lastN_len, repX_len]; omega
    refine (k_back hi R d d1 hK).mono ?_
    rintro _ hq ⟨rfl, eq⟩
    rw [eq, ← hD, lastN_back (by omega) (by omega) (by rw [repX_len]; omega)]
    obtain ⟨y, hy⟩ : ∃ y, y = (repX D L l).getD ((repX D L l).length - D) 0 := ⟨_, rfl⟩
    rw [← hy]
    have hrep : repX D L (l + 1) = repX D L l ++ [y] := by rw [repX, ← hy]
    refine ⟨_, rfl, fun b1 hb1 => ?_⟩
    have hrb' : h' b ≠ none := by obtain ⟨_, _, _, hb, _⟩ := R; rw [hb]; simp
    have s1 : Eng.Sub h' (upd h' b1 (.cells (ints .u8 [y]) 5)) := Sub.of_upd hb1
    have P1 := P.sub s1
    have P2 : Part .u8 (upd h' b1 (.cells (ints .u8 [y]) 5)) (.slice a l c) ((repX D L l).drop L.length) := P1
    refine appW_part hi (R.sub.trans s1) P2 N (ys := [y]) HInts.new (by rw [hll]; simp only [List.length_singleton]; omega) fun v1 h1 o1 n1 s2 keep hblk => ?_
    obtain ⟨a3, c3, rfl, _, _⟩ := o1.ints
    have keep' : ∀ x, upd h' b1 (.cells (ints .u8 [y]) 5) x ≠ none → blkOf (.slice a l c) ≠ some x → h1 x = upd h' b1 (.cells (ints .u8 [y]) 5) x := keep
    have R1 : RingAt h0 h1 b T sz (lastN sz (repX D L l)) := by
      obtain ⟨ds, at_, m, hb, RS, _, hn⟩ := R.mono s1
      refine ⟨ds, at_, m, ?_, RS, s2, hn⟩
      rw [keep' b (by rw [hb]; simp) hne]; exact hb
    have hne1 : blkOf (.slice a3 ((repX D L l).drop L.length ++ [y]).length c3) ≠ some b := by
      rcases hblk with e | e
      · rw [e]; exact hne
      · intro e2
        have h3 : upd h' b1 (.cells (ints .u8 [y]) 5) b = none := e b e2
        obtain ⟨_, _, _, hb, _⟩ := R.mono s1
        rw [hb] at h3; cases h3
    intro b2 hb2
    have hne2 : b2 ≠ b := fun e => by
      obtain ⟨_, _, _, hb, _⟩ := R1
      rw [e, hb] at hb2; cases hb2
    have s3 : Eng.Sub h1 (upd h1 b2 (.cells (ints .u8 [y]) 5)) := Sub.of_upd hb2
    refine (k_put hi (R1.mono s3) (some ⟨b2, 0, none⟩) 1 [y] (Nat.le_refl _) (by simp) (fun h'' hh => ?_)).mono ?_
    · have hk : h'' b2 = (upd h1 b2 (.cells (ints .u8 [y]) 5)) b2 := hh b2 hne2
      rw [upd_same] at hk
      intro i x hxi
      refine ⟨_, rfl, ?_⟩
      rw [addr0_add]
      simp only [hcell, hk]
      exact ints_get (sp := []) (xs := [y]) hxi
    · rintro _ h3 ⟨rfl, R3, f3⟩
      rw [lastN_app, ← hrep] at R3
      have w4 : IntKind.i64.wrap ((l : Int) + 1) = ((l + 1 : Nat) : Int) := by rw [i64_in _ (by omega)]; omega
      have e1 : (repX D L l).drop L.length ++ [y] = (repX D L (l + 1)).drop L.length := by
        rw [hrep, List.drop_append_of_le_length (by rw [repX_len]; omega)]
      have e2 : ((repX D L (l + 1)).drop L.length).length = l + 1 := by rw [List.length_drop, repX_len]; omega
      rw [e1] at o1 n1 hne1 ⊢
      rw [w4, slA_sl, slL_sl, slC_sl, e2]
      rw [e2] at o1 n1 hne1
      exact ⟨rfl, ⟨a3, c3, l + 1, rfl, by omega, Part.keep (o1.sub s3) (fun z hz => f3 z (fun e => hne1 (e ▸ hz))), n1, hne1, R3⟩, by simp only [List.getD_cons_succ, List.getD_cons_zero, toInt_int]; omega⟩
  · obtain rfl : l = n.toNat := by omega
    exact ⟨P, N, R⟩

theorem g_impl_WindowCopy (hi : Eng.Inv S h) {v : Value} {x : XWindow} (O : tWindow.O h v x) (L : limWindow x) (d : Int) (wd : (Lit.int .i64 d).wf = true) (n : Int) (wn : (Lit.int .i64 n).wf = true) :
    CallsH Try.prog S F_impl_WindowCopy #[v, .int .i64 d, .int .i64 n] h (fun v h' => tCopyRes.O h' v (ans_WindowCopy x d n) ∧ tCopyRes.New h v ∧ Eng.Sub h h') := by
  obtain ⟨u, rfl, P⟩ := tWindow_O O
  obtain ⟨a, c, rfl, hc, hx⟩ := Part.ints P
  obtain ⟨m, xs, ⟨⟩⟩ := x
  have L : xs.length ≤ 1048576 := L
  refine run_impl_WindowCopy (vs := [.int .i64 m, .slice a xs.length c, .int .i64 d, .int .i64 n]) ⟨rfl, rfl, rfl, rfl, trivial⟩ hi ?_
  simp only [t_impl_WindowCopy, Tr.wp, mksW, callW, Ex.ev, coerce, toInt_int, toBool_bool, slL_sl, slC_sl, slA_sl, toAddr_ptr, ptrOf_ptr, isNil_sl, isNil_ptr, it_and, it_or, it_int, optN_int, optN_nl, cmpI, arith, Cst.val, SV.den, resShs, resV, resSV, resVals, newVars, runCells, exSh, allSh, cellsAre, storeW, List.flatMap_cons, List.flatMap_nil, List.replicate_one, List.getD_cons_zero, List.getD_cons_succ, List.getElem?_cons_zero, List.getElem?_cons_succ, decide_eq_true_eq, decide_eq_false_iff_not, List.map_cons, List.map_nil, List.cons_append, List.nil_append, List.append_nil, List.length_cons, List.length_nil, Nat.zero_add, Nat.add_zero, and_true, true_and, if_true, if_false, Bool.false_eq_true]
  refine (k_impl_ValidWindow hi m a _ c).mono ?_
  rintro _ hq ⟨rfl, eq⟩
  rw [eq]
  refine ⟨_, rfl, fun hbad => ?_, fun hok => ?_⟩
  · have : ¬ (vwin (m, xs, ()) ∧ 1 ≤ n ∧ n ≤ 258 ∧ 1 ≤ d ∧ d ≤ (xs.length : Int)) := by simp at hbad; simp only [vwin]; omega
    simp only [ans_WindowCopy, if_neg this]
    exact ⟨tCopy_nil, tCopy_nilNew, fun _ _ h => h⟩
  · have hv : vwin (m, xs, ()) ∧ 1 ≤ n ∧ n ≤ 258 ∧ 1 ≤ d ∧ d ≤ (xs.length : Int) := by simp at hok; simp only [vwin]; omega
    have hv' := hv
    obtain ⟨⟨v1, v2, v3⟩, v4, v5, v6, v7⟩ := hv'
    simp only at v1 v2 v3
    obtain ⟨k, rfl⟩ := Int.eq_ofNat_of_zero_le (show 0 ≤ m by omega)
    refine (k_ringOf hi a c xs hc (by omega) hx (by omega) (by omega)).mono ?_
    rintro _ h1 ⟨b, T, rfl, RA⟩
    refine ⟨_, rfl, ?_⟩
    refine (k_repeat hi RA d n v6 v7 (by omega) ⟨by omega, v5⟩ (by omega)).mono ?_
    rintro _ h2 ⟨O1, N1, RB⟩
    obtain ⟨a1, c1, rfl⟩ := tB_F (tB.OR O1)
    refine ⟨_, _, _, rfl, ?_⟩
    refine (k_window hi RB).mono ?_
    rintro _ h3 ⟨a2, c2, rfl, P2, N2, s2⟩
    refine ⟨_, _, _, _, rfl, ?_⟩
    simp only [ans_WindowCopy, if_pos hv]
    exact ⟨tCopy_of (O1.sub s2) P2 (fun b h1 h2 => tB.Oheld O1 h1 (N2 b h2)), tCopy_new N1 (fun b h => sub_none RB.sub (N2 b h)), RB.sub.trans s2⟩

theorem sm_WindowCopy {x : XWindow} {d n : Int} (L : limWindow x) : smCopyRes (ans_WindowCopy x d n) := by
  have L : x.2.1.length ≤ 1048576 := L
  unfold ans_WindowCopy smCopyRes smWindow smB
  split
  · simp only [lastN_len, List.length_drop, repX_len]; omega
  · simp [nilCopy, nilWindow]

theorem g_spec_WindowCopy (hi : Eng.Inv S h) {v : Value} {x : XWindow} (O : tWindow.O h v x) (L : limWindow x) (d : Int) (wd : (Lit.int .i64 d).wf = true) (n : Int) (wn : (Lit.int .i64 n).wf = true) :
    CallsH Try.prog S F_spec_WindowCopy #[v, .int .i64 d, .int .i64 n] h (fun v h' => tCopyRes.O h' v (ans_WindowCopy x d n) ∧ tCopyRes.New h v ∧ Eng.Sub h h') := by
  obtain ⟨u, rfl, P⟩ := tWindow_O O
  obtain ⟨a, c, rfl, hc, hx⟩ := Part.ints P
  obtain ⟨m, xs, ⟨⟩⟩ := x
  have L : xs.length ≤ 1048576 := L
  refine run_spec_WindowCopy (vs := [.int .i64 m, .slice a xs.length c, .int .i64 d, .int .i64 n]) ⟨rfl, rfl, rfl, rfl, trivial⟩ hi ?_
  simp only [t_spec_WindowCopy, Tr.wp, mksW, callW, Ex.ev, coerce, toInt_int, toBool_bool, slL_sl, slC_sl, slA_sl, toAddr_ptr, ptrOf_ptr, isNil_sl, isNil_ptr, it_and, it_or, it_int, optN_int, optN_nl, cmpI, arith, Cst.val, SV.den, resShs, resV, resSV, resVals, newVars, runCells, exSh, allSh, cellsAre, storeW, List.flatMap_cons, List.flatMap_nil, List.replicate_one, List.getD_cons_zero, List.getD_cons_succ, List.getElem?_cons_zero, List.getElem?_cons_succ, decide_eq_true_eq, decide_eq_false_iff_not, List.map_cons, List.map_nil, List.cons_append, List.nil_append, List.append_nil, List.length_cons, List.length_nil, Nat.zero_add, Nat.add_zero, and_true, true_and, if_true, if_false, Bool.false_eq_true]
  refine (k_spec_ValidWindow hi m a _ c).mono ?_
  rintro _ hq ⟨rfl, eq⟩
  rw [eq]
  refine ⟨_, rfl, fun hbad => ?_, fun hok => ?_⟩
  · have : ¬ (vwin (m, xs, ()) ∧ 1 ≤ n ∧ n ≤ 258 ∧ 1 ≤ d ∧ d ≤ (xs.length : Int)) := by simp at hbad; simp only [vwin]; omega
    simp only [ans_WindowCopy, if_neg this]
    exact ⟨tCopy_nil, tCopy_nilNew, fun _ _ h => h⟩
  · have hv : vwin (m, xs, ()) ∧ 1 ≤ n ∧ n ≤ 258 ∧ 1 ≤ d ∧ d ≤ (xs.length : Int) := by simp at hok; simp only [vwin]; omega
    have hv' := hv
    obtain ⟨⟨v1, v2, v3⟩, v4, v5, v6, v7⟩ := hv'
    simp only at v1 v2 v3
    obtain ⟨k, rfl⟩ := Int.eq_ofNat_of_zero_le (show 0 ≤ m by omega)
    simp only [ans_WindowCopy, if_pos hv]
    obtain ⟨D, hD⟩ : ∃ D, D = d.toNat := ⟨_, rfl⟩
    obtain ⟨M, hM⟩ : ∃ M, M = n.toNat := ⟨_, rfl⟩
    rw [← hD, ← hM]
    intro b0 hb0
    have s0 : Eng.Sub h (upd h b0 (.cells (ints .u8 []) 5)) := Sub.of_upd hb0
    refine appW_part hi s0 (Own.made []).part (New.of hb0) (hx.sub s0) (by simp only [List.length_nil]; omega) fun w1 h1 o1 n1 s1 _ _ => ?_
    obtain ⟨a1, c1, rfl, _, _⟩ := o1.ints
    rw [List.nil_append] at o1 n1 ⊢
    refine ⟨fun us h' => ∃ (a : Option Addr) (c i : Nat), us = [.slice a (xs.length + i) c, .int .i64 i] ∧ i ≤ M ∧ Part .u8 h' (.slice a (xs.length + i) c) (repX D xs i) ∧ Eng.New h (.slice a (xs.length + i) c) ∧ Eng.Sub h h', fun us _ => M - (toInt (us.getD 1 undef)).toNat, ⟨a1, c1, 0, rfl, by omega, o1, n1, s1⟩, ?_⟩
    rintro a2 l2 c2 i' h' ⟨a', c', i, hx1, hi2, P2, N2, s2⟩
    obtain ⟨⟨rfl, rfl, rfl⟩, rfl⟩ : (a2 = a' ∧ l2 = xs.length + i ∧ c2 = c') ∧ i' = i := by simpa using hx1
    have hll : (repX D xs i).length = xs.length + i := repX_len
    obtain ⟨a3, c3, e3, hc3, hx3⟩ := P2.ints
    simp only [Value.slice.injEq] at e3
    obtain ⟨rfl, _, rfl⟩ := e3
    refine ⟨fun hlt => ?_, fun hge => ?_⟩
    · have w1 : IntKind.i64.wrap (((xs.length + i : Nat) : Int) - d) = ((xs.length + i - D : Nat) : Int) := by rw [i64_in _ (by omega)]; omega
      rw [w1]
      have hg : (repX D xs i)[xs.length + i - D]? = some ((repX D xs i)[xs.length + i - D]'(by omega)) := List.getElem?_eq_getElem (by omega)
      obtain ⟨g1, g2⟩ := hx3.cell hg
      refine ⟨by simpa using g2, by omega, by omega, _, by simp only [Int.toNat_natCast, Nat.mul_one, add_add, Nat.add_zero]; exact g1, fun b1 hb1 => ?_⟩
      obtain ⟨y, hy⟩ : ∃ y, y = (repX D xs i)[xs.length + i - D]'(by omega) := ⟨_, rfl⟩
      rw [← hy]
      have hrep : repX D xs (i + 1) = repX D xs i ++ [y] := by
        have e1 : (repX D xs i).length - D = xs.length + i - D := by omega
        rw [repX, List.getD_eq_getElem?_getD, e1, hg, hy]; rfl
      have s3 : Eng.Sub h' (upd h' b1 (.cells (ints .u8 [y]) 5)) := Sub.of_upd hb1
      refine appW_part hi (s2.trans s3) (P2.sub s3) N2 (ys := [y]) HInts.new (by rw [hll]; simp only [List.length_singleton]; omega) fun w2 h2 o2 n2 s4 _ _ => ?_
      obtain ⟨a4, c4, rfl, _, _⟩ := o2.ints
      have w4 : IntKind.i64.wrap ((i : Int) + 1) = ((i + 1 : Nat) : Int) := by rw [i64_in _ (by omega)]; omega
      rw [← hrep] at o2 n2 ⊢
      have e2 : (repX D xs (i + 1)).length = xs.length + (i + 1) := repX_len
      rw [slA_sl, slL_sl, slC_sl, w4, e2]
      rw [e2] at o2 n2
      exact ⟨⟨a4, c4, i + 1, rfl, by omega, o2, n2, s4⟩, by simp only [List.getD_cons_succ, List.getD_cons_zero, toInt_int]; omega⟩
    · obtain rfl : i = M := by omega
      refine ⟨by omega, by omega, fun b1 hb1 => ?_⟩
      have s3 : Eng.Sub h' (upd h' b1 (.cells (ints .u8 []) 5)) := Sub.of_upd hb1
      obtain ⟨a5, e5, H5⟩ := slSub_ints hx3 (lo := xs.length) (hi := xs.length + i) (m := c2) (by omega) (by omega) (by omega)
      have hdr : ((repX D xs i).drop xs.length).take (xs.length + i - xs.length) = (repX D xs i).drop xs.length := List.take_of_length_le (by rw [List.length_drop]; omega)
      rw [hdr] at e5 H5
      rw [Int.toNat_natCast, e5]
      refine appW_part (hi.sub s2) s3 (Own.made []).part (New.of hb1) (H5.sub s3) (by simp only [List.length_nil, List.length_drop]; omega) fun w2 h2 o2 n2 s4 _ _ => ?_
      obtain ⟨a6, c6, rfl, _, _⟩ := o2.ints
      rw [List.nil_append] at o2 n2 ⊢
      have e7 : Value.slice a2 (xs.length + i) c2 = Value.slice a2 (repX D xs i).length c2 := by rw [hll]
      rw [e7]
      refine (k_l4Last (hi.sub (s2.trans s4)) a2 c2 _ k hc3 (by omega) (by omega) (hx3.sub s4)).mono ?_
      rintro _ h3 ⟨O3, N3, s5⟩
      obtain ⟨a8, c8, rfl⟩ := tB_F (tB.OR O3)
      refine ⟨_, _, _, rfl, ?_⟩
      exact ⟨tCopy_of (o2.sub s5) O3 (fun b h1 h2 => tB.Oheld o2 h1 (N3 b h2)), tCopy_new (fun b h => sub_none s2 (n2 b h)) (fun b h => sub_none (s2.trans s4) (N3 b h)), s2.trans (s4.trans s5)⟩
end Go.Proofs.Ytchlnichbaoeaaa
