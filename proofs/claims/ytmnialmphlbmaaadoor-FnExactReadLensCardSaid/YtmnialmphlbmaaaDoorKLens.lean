import Derived.Test.YtmnialmphlbmaaaDoorKMach2
import Derived.Test.YtmnialmphlbmaaaDoorKRdL2
import Derived.Test.YtmnialmphlbmaaaDoorCutimplmachinelens
set_option linter.unusedVariables false
set_option linter.unusedSimpArgs false
namespace Go.Proofs.YtmnialmphlbmaaaDoor
open Go Go.Eng Go.IntWalk
variable {S : Shared} {h h0 : Eng.Heap}

/-- A block of one cell. -/
def cel (v : Value) (T : TypeId) : Obj := .cells #[v] T
theorem cel_ld {b : Nat} {v : Value} {T : TypeId} (hb : h b = some (cel v T)) : hcell h ⟨b, 0, none⟩ = some v := by simp [hcell, hb, cel]
theorem cel_ok {b : Nat} {v : Value} {T : TypeId} (hb : h b = some (cel v T)) (hs : ¬ S b) : okCell S h ⟨b, 0, none⟩ := ⟨⟨_, cel_ld hb⟩, by simp [hfrozen, hb, cel], hs⟩
theorem cel_set {b : Nat} {v w : Value} {T : TypeId} (hb : h b = some (cel v T)) : hset h ⟨b, 0, none⟩ w = upd h b (cel w T) := by
  rw [hset_cells' hb]; rfl

/-- While lengths are read: the machine, its place kept in block b1, the error in block b2. -/
structure LS (h0 h : Eng.Heap) (b1 b2 bm : Nat) (a : Option Addr) (c : Nat) (bs : List Int) (m : MC) (T T1 T2 : TypeId) (r : Rd) : Prop where
  c1 : h b1 = some (cel (.pointer (some ⟨bm, 0, none⟩)) T1)
  c2 : h b2 = some (cel (errI r.k) T2)
  mt : ∃ p' : Nat, p' ≤ 8 * bs.length ∧ h bm = some (machO a c bs p' m T) ∧ (r.k = 0 → r.i = p')
  n1 : h0 b1 = none
  n2 : h0 b2 = none
  nm : h0 bm = none
  d12 : b1 ≠ b2
  d1m : b1 ≠ bm
  d2m : b2 ≠ bm
  sb : Eng.Sub h0 h

section
variable {b1 b2 bm : Nat} {a : Option Addr} {c : Nat} {bs : List Int} {m : MC} {T T1 T2 : TypeId} {r : Rd}

theorem LS.sub {h' : Eng.Heap} (H : LS h0 h b1 b2 bm a c bs m T T1 T2 r) (s : Eng.Sub h h') : LS h0 h' b1 b2 bm a c bs m T T1 T2 r := by
  obtain ⟨p', h1, h2, h3⟩ := H.mt
  exact ⟨s _ _ H.c1, s _ _ H.c2, ⟨p', h1, s _ _ h2, h3⟩, H.n1, H.n2, H.nm, H.d12, H.d1m, H.d2m, H.sb.trans s⟩
theorem LS.err (H : LS h0 h b1 b2 bm a c bs m T T1 T2 r) {r' : Rd} (hr : r'.k = 0 → r.k = 0 ∧ r'.i = r.i) : LS h0 (upd h b2 (cel (errI r'.k) T2)) b1 b2 bm a c bs m T T1 T2 r' := by
  obtain ⟨p', h1, h2, h3⟩ := H.mt
  exact ⟨(upd_ne H.d12).trans H.c1, upd_same, ⟨p', h1, (upd_ne (Ne.symm H.d2m)).trans h2, fun h => (hr h).2.trans (h3 (hr h).1)⟩, H.n1, H.n2, H.nm, H.d12, H.d1m, H.d2m, fun y o hy => by rw [upd_ne (fun e => by rw [e, H.n2] at hy; cases hy)]; exact H.sb y o hy⟩
/-- Other blocks. -/
def Oth (b2 bm : Nat) (h h' : Eng.Heap) : Prop := ∀ b, b ≠ bm → b ≠ b2 → h' b = h b
theorem Oth.upd2 {v : Obj} : Oth b2 bm h (upd h b2 v) := fun b _ h2 => upd_ne h2
theorem Oth.updm {v : Obj} : Oth b2 bm h (upd h bm v) := fun b h1 _ => upd_ne h1
theorem Oth.trans {h1 h2 : Eng.Heap} (H : Oth b2 bm h h1) (G : Oth b2 bm h1 h2) : Oth b2 bm h h2 := fun b x y => (G b x y).trans (H b x y)

set_option maxHeartbeats 1000000 in
theorem k_get (hi : Eng.Inv S h0) (G : Errs h0) (hx : HInts h0 .u8 a bs) (L : bs.length ≤ 1048576) (ok : okR bs r) (H : LS h0 h b1 b2 bm a c bs m T T1 T2 r) (n : Nat) (hn : n ≤ 32) :
    CallsH Tryd.prog S F_impl_machine__lens_1 #[.int .i64 n, .pointer (some ⟨b2, 0, none⟩), .pointer (some ⟨b1, 0, none⟩)] h (fun v h' => v = .int .i64 (tk bs n r).2 ∧ LS h0 h' b1 b2 bm a c bs m T T1 T2 (tk bs n r).1 ∧ Oth b2 bm h h') := by
  refine run_impl_machine__lens_1 (vs := [.int .i64 n, .pointer (some ⟨b2, 0, none⟩), .pointer (some ⟨b1, 0, none⟩)]) ⟨rfl, rfl, rfl, trivial⟩ (hi.sub H.sb) ?_
  simp only [t_impl_machine__lens_1, Tr.wp, mksW, callW, Ex.ev, coerce, toInt_int, toBool_bool, slL_sl, slC_sl, slA_sl, toAddr_ptr, ptrOf_ptr, isNil_sl, isNil_ptr, it_and, it_or, it_int, optN_int, optN_nl, cmpI, arith, Cst.val, SV.den, resShs, resV, resSV, resVals, newVars, runCells, exSh, allSh, cellsAre, storeW, List.flatMap_cons, List.flatMap_nil, List.replicate_one, List.getD_cons_zero, List.getD_cons_succ, List.getElem?_cons_zero, List.getElem?_cons_succ, decide_eq_true_eq, decide_eq_false_iff_not, List.map_cons, List.map_nil, List.cons_append, List.nil_append, List.append_nil, List.length_cons, List.length_nil, Nat.zero_add, Nat.add_zero, and_true, true_and, if_true, if_false, Bool.false_eq_true, addr_add]
  refine ⟨errI r.k, errI_if, cel_ld H.c2, fun hz => ?_, fun hz _ => ?_⟩
  · rw [errI_if, errI_nil] at hz
    have hk : r.k = 0 := of_decide_eq_true hz
    obtain ⟨p', hp, hm, he⟩ := H.mt
    obtain ⟨i, k⟩ := r
    obtain rfl : k = 0 := hk
    obtain rfl : i = (p' : Int) := he rfl
    have hp2 : ∃ p2 : Nat, p2 ≤ 8 * bs.length ∧ (tk bs n ⟨(p' : Int), 0⟩).1.i = p2 := by
      unfold tk
      rw [if_pos rfl]
      split
      · exact ⟨p', hp, rfl⟩
      · rename_i h; simp only at h; exact ⟨p' + n, by omega, by simp only; omega⟩
    obtain ⟨p2, hp2, e2⟩ := hp2
    refine ⟨_, cel_ld H.c1, (k_number hi G hx L p' hp n hn ⟨hm, H.nm, H.sb⟩).mono ?_⟩
    rintro _ h1 ⟨rfl, rfl⟩
    have hc2 := (upd_ne (o := machO a c bs (tk bs n ⟨(p' : Int), 0⟩).1.i m T) H.d2m).trans H.c2
    refine ⟨_, errI _, errI_if, by rw [errI_if], cel_ok hc2 (fun hs => hi b2 hs H.n2), fun _ => ⟨rfl, ?_, ?_⟩⟩
    · rw [errI_if, cel_set hc2]
      refine ⟨(upd_ne H.d12).trans ((upd_ne H.d1m).trans H.c1), upd_same, ⟨p2, hp2, by rw [← e2]; exact (upd_ne (Ne.symm H.d2m)).trans upd_same, fun _ => e2⟩, H.n1, H.n2, H.nm, H.d12, H.d1m, H.d2m, fun y o hy => ?_⟩
      rw [upd_ne (fun e => by rw [e, H.n2] at hy; cases hy), upd_ne (fun e => by rw [e, H.nm] at hy; cases hy)]; exact H.sb y o hy
    · rw [errI_if, cel_set hc2]
      exact Oth.trans Oth.updm Oth.upd2
  · rw [errI_if, errI_nil] at hz
    have hk : r.k ≠ 0 := of_decide_eq_false hz
    have e : tk bs n r = (r, 0) := by unfold tk; rw [if_neg hk]
    rw [e]
    exact ⟨rfl, H, fun _ _ _ => rfl⟩

/-- The heap of before, with some blocks taken: what is new to it lies apart from them. -/
def mkL (h0 : Eng.Heap) (l : List Nat) : Eng.Heap := fun z => if z ∈ l then some (cel .nilIface 0) else h0 z
theorem mkL_none {l : List Nat} {z : Nat} : mkL h0 l z = none ↔ z ∉ l ∧ h0 z = none := by
  unfold mkL
  by_cases h : z ∈ l
  · rw [if_pos h]; simp [h]
  · rw [if_neg h]; simp [h]
abbrev mk2 (h0 : Eng.Heap) (b1 b2 bm : Nat) : Eng.Heap := mkL h0 [b1, b2, bm]
theorem mk2_none {z : Nat} (H : mk2 h0 b1 b2 bm z = none) : z ≠ bm ∧ z ≠ b2 ∧ z ≠ b1 ∧ h0 z = none := by
  obtain ⟨h1, h2⟩ := mkL_none.1 H
  simp only [List.mem_cons, List.not_mem_nil, or_false, not_or] at h1
  exact ⟨h1.2.2, h1.2.1, h1.1, h2⟩
theorem mk2_mk {z : Nat} (h1 : z ≠ bm) (h2 : z ≠ b2) (h3 : z ≠ b1) (H : h0 z = none) : mk2 h0 b1 b2 bm z = none := mkL_none.2 ⟨by simp [h1, h2, h3], H⟩
theorem NM.base {v : Value} (N : Eng.New (mk2 h0 b1 b2 bm) v) : Eng.New h0 v := fun z hz => (mk2_none (N z hz)).2.2.2
theorem LS.free (H : LS h0 h b1 b2 bm a c bs m T T1 T2 r) {z : Nat} (hz : h z = none) : mk2 h0 b1 b2 bm z = none := by
  obtain ⟨p', _, h2, _⟩ := H.mt
  exact mk2_mk (fun e => by rw [e, h2] at hz; cases hz) (fun e => by rw [e, H.c2] at hz; cases hz) (fun e => by rw [e, H.c1] at hz; cases hz) (sub_none H.sb hz)
theorem LS.new (H : LS h0 h b1 b2 bm a c bs m T T1 T2 r) {z l k : Nat} (hz : h z = none) : Eng.New (mk2 h0 b1 b2 bm) (.slice (some ⟨z, 0, none⟩) l k) := New.of (H.free hz)
theorem LS.app (H : LS h0 h b1 b2 bm a c bs m T T1 T2 r) {v v' : Value} (N : Eng.New (mk2 h0 b1 b2 bm) v) (hr : blkOf v' = blkOf v ∨ Eng.New h v') : Eng.New (mk2 h0 b1 b2 bm) v' := fun z hz => by
  rcases hr with hr | hr
  · exact N z (hr ▸ hz)
  · exact H.free (hr z hz)
theorem LS.kept (H : LS h0 h b1 b2 bm a c bs m T T1 T2 r) {h' : Eng.Heap} {v : Value} (N : Eng.New (mk2 h0 b1 b2 bm) v) (hk : ∀ b, h b ≠ none → blkOf v ≠ some b → h' b = h b) (s : Eng.Sub h0 h') : LS h0 h' b1 b2 bm a c bs m T T1 T2 r := by
  obtain ⟨p', h1, h2, h3⟩ := H.mt
  have e1 := hk b1 (by rw [H.c1]; simp) fun e => (mk2_none (N b1 e)).2.2.1 rfl
  have e2 := hk b2 (by rw [H.c2]; simp) fun e => (mk2_none (N b2 e)).2.1 rfl
  have e3 := hk bm (by rw [h2]; simp) fun e => (mk2_none (N bm e)).1 rfl
  exact ⟨e1.trans H.c1, e2.trans H.c2, ⟨p', h1, e3.trans h2, h3⟩, H.n1, H.n2, H.nm, H.d12, H.d1m, H.d2m, s⟩
theorem NM.keep {h' : Eng.Heap} {k : IntKind} {v : Value} {xs : List Int} (N : Eng.New (mk2 h0 b1 b2 bm) v) (P : Part k h v xs) (O : Oth b2 bm h h') : Part k h' v xs := P.keep fun z hz => O z (mk2_none (N z hz)).1 (mk2_none (N z hz)).2.1

/-- What the machine hands back. -/
def PostM (h0 : Eng.Heap) (bm : Nat) (a : Option Addr) (c : Nat) (bs : List Int) (m : MC) (T : TypeId) (F : Rd × List Int × List Int) (v : Value) (h' : Eng.Heap) : Prop :=
  ∃ u w, v = .tuple #[u, w, errI F.1.k] ∧ (∃ p' : Nat, p' ≤ 8 * bs.length ∧ MAt h0 h' bm a c bs p' m T ∧ (F.1.k = 0 → F.1.i = p')) ∧ (F.1.k = 0 → Part .i64 h' u F.2.1 ∧ Part .i64 h' w F.2.2 ∧ Eng.New h0 u ∧ Eng.New h0 w) ∧ (∃ a1 l1 c1 a2 l2 c2, u = .slice a1 l1 c1 ∧ w = .slice a2 l2 c2)

/-- An end with an error. -/
theorem LS.bad (H : LS h0 h b1 b2 bm a c bs m T T1 T2 r) {F : Rd × List Int × List Int} (hF : F.1.k ≠ 0) {e : Value} (he : e = errI F.1.k) : PostM h0 bm a c bs m T F (.tuple #[.slice none 0 0, .slice none 0 0, e]) h := by
  subst he
  obtain ⟨p', h1, h2, h3⟩ := H.mt
  exact ⟨_, _, rfl, ⟨p', h1, ⟨h2, H.nm, H.sb⟩, fun h => absurd h hF⟩, fun h => absurd h hF, ⟨_, _, _, _, _, _, rfl, rfl⟩⟩

/-- An error of the program's own is put, and handed back. -/
theorem LS.fail (hi : Eng.Inv S h0) (G : Errs h0) (H : LS h0 h b1 b2 bm a c bs m T T1 T2 r) {F : Rd × List Int × List Int} (hF : F.1.k = 3) :
    ∃ x, hcell h ⟨0, 0, none⟩ = some (Value.int .i64 x) ∧ okCell S h ⟨b2, 0, none⟩ ∧ ∃ v, ifOf v = v ∧ hcell (hset h ⟨b2, 0, none⟩ (.iface tCl (.agg (tupOf (.tuple (#[.int .i64 x] ++ tupOf (.tuple #[]))))))) ⟨b2, 0, none⟩ = some v ∧
      PostM h0 bm a c bs m T F (.tuple #[.slice none 0 0, .slice none 0 0, ifOf v]) (hset h ⟨b2, 0, none⟩ (.iface tCl (.agg (tupOf (.tuple (#[.int .i64 x] ++ tupOf (.tuple #[]))))))) := by
  have e3 : (.iface tCl (.agg (tupOf (.tuple (#[.int .i64 3] ++ tupOf (.tuple #[]))))) : Value) = errI (3 : Int) := rfl
  have H' := H.err (r' := ⟨0, 3⟩) (fun h => by cases h)
  refine ⟨3, (G.sub H.sb).e3, cel_ok H.c2 (fun hs => hi b2 hs H.n2), errI 3, errI_if, ?_, ?_⟩
  · rw [e3, cel_set H.c2]; exact cel_ld upd_same
  · rw [e3, cel_set H.c2, errI_if]
    exact H'.bad (by omega) (by rw [hF])

set_option maxRecDepth 100000 in
set_option maxHeartbeats 4000000 in
theorem k_mlE (hi : Eng.Inv S h0) (G : Errs h0) (H : LS h0 h b1 b2 bm a c bs m T T1 T2 r) (hk : r.k = 0) {all : List Int} {aa : Option Addr} {ca : Nat} (P : Part .i64 h (.slice aa all.length ca) all) (N : Eng.New (mk2 h0 b1 b2 bm) (.slice aa all.length ca)) {x3 : Int} (hx3 : 0 ≤ x3 ∧ x3 < 32)
    (hlen : (x3 + 257).toNat + 1 ≤ all.length ∧ all.length ≤ 1000) (K0 K1 K2 K3 K4 K5 : Kt) (e0 e1 e4 e5 e6 e7 e8 e9 e10 e11 e12 e13 e14 : Value) :
    mlE.wp Tryd.prog S noLeaf (PostM h0 bm a c bs m T (endL (x3 + 257).toNat r all)) [e0, e1, .pointer (some ⟨b2, 0, none⟩), .int .i64 x3, e4, e5, e6, e7, e8, e9, e10, e11, e12, e13, e14, .slice aa all.length ca] h [K0, K1, K2, K3, K4, K5] := by
  obtain ⟨n6, rfl⟩ := Int.eq_ofNat_of_zero_le hx3.1
  have w6 : IntKind.i64.wrap ((n6 : Int) + 257) = ((n6 + 257 : Nat) : Int) := by rw [i64_in _ (by omega)]; omega
  have e6 : ((n6 : Int) + 257).toNat = n6 + 257 := by omega
  rw [e6] at hlen ⊢
  simp only [mlE, Tr.wp, mksW, callW, Ex.ev, coerce, toInt_int, toBool_bool, slL_sl, slC_sl, slA_sl, toAddr_ptr, ptrOf_ptr, isNil_sl, isNil_ptr, it_and, it_or, it_int, optN_int, optN_nl, cmpI, arith, Cst.val, SV.den, resShs, resV, resSV, resVals, newVars, runCells, exSh, allSh, cellsAre, storeW, List.flatMap_cons, List.flatMap_nil, List.replicate_one, List.getD_cons_zero, List.getD_cons_succ, List.getElem?_cons_zero, List.getElem?_cons_succ, decide_eq_true_eq, decide_eq_false_iff_not, List.map_cons, List.map_nil, List.cons_append, List.nil_append, List.append_nil, List.length_cons, List.length_nil, Nat.zero_add, Nat.add_zero, and_true, true_and, if_true, if_false, Bool.false_eq_true, addr_add, w6]
  obtain ⟨l1, l2⟩ := hlen
  have e : endL (n6 + 257) r all = (bd (badL (all.take (n6 + 257)) (all.drop (n6 + 257))) r, all.take (n6 + 257), all.drop (n6 + 257)) := if_pos hk
  rw [e]
  obtain ⟨_, _, ei, hca, gi⟩ := P.ints
  cases ei
  obtain ⟨aL, cL, eL, PL, NL, nL⟩ := P.upTo N (n := n6 + 257) (m := n6 + 257) (by omega) (by omega) (by omega)
  obtain ⟨aR, cR, eR, PR, NR⟩ := P.from N (n := n6 + 257) (by omega) hca
  rw [Int.toNat_natCast, eL, eR]
  have lL : (all.take (n6 + 257)).length = n6 + 257 := by rw [List.length_take]; omega
  obtain ⟨_, _, ei, _, gL⟩ := PL.ints
  cases ei
  obtain ⟨_, _, ei, _, gR⟩ := PR.ints
  cases ei
  refine ⟨by omega, by omega, by omega, by omega, by omega, by omega, ?_⟩
  refine (k_impl_HuffKind (hi.sub H.sb) aL cL _ gL).mono ?_
  rintro _ hq ⟨rfl, rfl⟩
  refine ⟨_, rfl, ?_⟩
  refine (k_impl_HuffKind (hi.sub H.sb) aR cR _ gR).mono ?_
  rintro _ hq ⟨rfl, rfl⟩
  refine ⟨_, rfl, ?_⟩
  have g256 : (all.take (n6 + 257))[256]? = some ((all.take (n6 + 257)).getD 256 0) := by simp [List.getD, List.getElem?_take, show 256 < all.length by omega]
  obtain ⟨g1, g2⟩ := gL.cell g256
  have hbad : badL (all.take (n6 + 257)) (all.drop (n6 + 257)) = ((all.take (n6 + 257)).getD 256 0 == 0 || (!(hkind (all.take (n6 + 257)) == 1 || hkind (all.take (n6 + 257)) == 4)) || !(hkind (all.drop (n6 + 257)) == 1 || hkind (all.drop (n6 + 257)) == 4 || hkind (all.drop (n6 + 257)) == 5)) := rfl
  generalize badL (all.take (n6 + 257)) (all.drop (n6 + 257)) = B at hbad ⊢
  generalize (all.take (n6 + 257)).getD 256 0 = y at g1 hbad
  refine ⟨by rw [isNil_sl, nL (by omega)]; rfl, by simp, by simp only [slL_sl, lL]; omega, y, by simp only [slA_sl, add_add]; exact g1, ?_⟩
  clear gi g1 g256
  refine ⟨fun hb => ?_, fun hb => ?_⟩
  · have hB : B = true := by
      rw [hbad]
      simp only [bne, decide_eq_true_eq, Bool.decide_eq_true] at hb
      revert hb
      cases (y == 0) <;> cases (hkind (all.take (n6 + 257)) == 1) <;> cases (hkind (all.take (n6 + 257)) == 4) <;> cases (hkind (all.drop (n6 + 257)) == 1) <;> cases (hkind (all.drop (n6 + 257)) == 4) <;> cases (hkind (all.drop (n6 + 257)) == 5) <;> simp
    subst hB
    exact H.fail hi G (by simp [bd, hk])
  · have hB : B = false := by
      rw [hbad]
      simp only [bne, decide_eq_true_eq, Bool.decide_eq_true] at hb
      revert hb
      cases (y == 0) <;> cases (hkind (all.take (n6 + 257)) == 1) <;> cases (hkind (all.take (n6 + 257)) == 4) <;> cases (hkind (all.drop (n6 + 257)) == 1) <;> cases (hkind (all.drop (n6 + 257)) == 4) <;> cases (hkind (all.drop (n6 + 257)) == 5) <;> simp
    subst hB
    have H' := H.err (r' := r) (fun h => ⟨hk, rfl⟩)
    rw [hk, errI_zero] at H'
    refine ⟨cel_ok H.c2 (fun hs => hi b2 hs H.n2), .nilIface, rfl, ?_, ?_⟩
    · rw [cel_set H.c2]; exact cel_ld upd_same
    · rw [cel_set H.c2]
      obtain ⟨p', q1, q2, q3⟩ := H'.mt
      have eb : bd false r = r := by unfold bd; rw [if_neg (by simp)]
      rw [eb]
      refine ⟨_, _, by rw [hk]; rfl, ⟨p', q1, ⟨q2, H.nm, H'.sb⟩, q3⟩, fun _ => ⟨NM.keep NL PL Oth.upd2, NM.keep NR PR Oth.upd2, NM.base NL, NM.base NR⟩, ⟨_, _, _, _, _, _, rfl, rfl⟩⟩
end
end Go.Proofs.YtmnialmphlbmaaaDoor
