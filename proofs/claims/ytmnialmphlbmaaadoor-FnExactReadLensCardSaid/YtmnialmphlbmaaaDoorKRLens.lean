import Derived.Test.YtmnialmphlbmaaaDoorKLens3
import Derived.Test.YtmnialmphlbmaaaDoorTyLensRes
set_option linter.unusedVariables false
set_option linter.unusedSimpArgs false
namespace Go.Proofs.YtmnialmphlbmaaaDoor
open Go Go.Eng Go.IntWalk
variable {S : Shared} {h h0 : Eng.Heap}

def ans_ReadLens (bs : List Int) (n : Int) : XLensRes :=
  if bs.length > 65536 then (7, [], [], 0, ())
  else if n < 0 ∨ n > 8 * (bs.length : Int) then (3, [], [], 0, ())
  else if (lensF bs ⟨n, 0⟩).1.k ≠ 0 then ((lensF bs ⟨n, 0⟩).1.k, [], [], 0, ())
  else (1, (lensF bs ⟨n, 0⟩).2.1, (lensF bs ⟨n, 0⟩).2.2, (lensF bs ⟨n, 0⟩).1.i - n, ())

def PR (h0 : Eng.Heap) (x : XLensRes) (v : Value) (h' : Eng.Heap) : Prop := tLensRes.O h' v x ∧ tLensRes.New h0 v ∧ Eng.Sub h0 h'
theorem PR.none {k : Int} {h' : Eng.Heap} (s : Eng.Sub h0 h') : PR h0 (k, [], [], 0, ()) (.agg #[.int .i64 k, .slice none 0 0, .slice none 0 0, .int .i64 0]) h' :=
  ⟨tLensRes_mkO (x := (k, [], [], 0, ())) Part.nil Part.nil (fun b hb => by cases hb), fun b hb => (by rcases (tLensRes_B (x := (k, [], [], 0, ()))).1 hb with h | h <;> cases h), s⟩
theorem PR.mk {k n : Int} {xs ys : List Int} {h' : Eng.Heap} {a1 a2 : Option Addr} {l1 c1 l2 c2 : Nat} (P1 : Part .i64 h' (.slice a1 l1 c1) xs) (P2 : Part .i64 h' (.slice a2 l2 c2) ys) (N1 : Eng.New h0 (.slice a1 l1 c1)) (N2 : Eng.New h0 (.slice a2 l2 c2)) (d : ∀ b, blkOf (.slice a1 l1 c1) = some b → blkOf (.slice a2 l2 c2) ≠ some b) (s : Eng.Sub h0 h') :
    PR h0 (k, xs, ys, n, ()) (.agg #[.int .i64 k, .slice a1 l1 c1, .slice a2 l2 c2, .int .i64 n]) h' :=
  ⟨tLensRes_mkO (x := (k, xs, ys, n, ())) P1 P2 d, fun b hb => ((tLensRes_B (x := (k, xs, ys, n, ()))).1 hb).elim (N1 b) (N2 b), s⟩

theorem lg_len {bs : List Int} {cs : List (Nat × Nat)} {tot : Nat} : ∀ {n : Nat} {r : Rd} {all : List Int}, tot - all.length ≤ n → all.length ≤ tot → (lg bs cs tot r all).1.k = 0 → (lg bs cs tot r all).2.length ≤ tot
  | 0, r, all, hn, hl, H => by rw [lg_end (fun e => by omega)]; exact hl
  | n + 1, r, all, hn, hl, H => by
    by_cases h : r.k = 0 ∧ all.length < tot
    · rw [lg_step h] at H ⊢
      by_cases hk : (lg1 bs cs tot r all).1.k = 0
      · have := (lg1_len (bs := bs) (cs := cs) (tot := tot) (r := r) (all := all)).2.2 hk
        exact lg_len (n := n) (by omega) this.2 H
      · rw [lg_end (fun e => hk e.1)] at H; exact absurd H hk
    · rw [lg_end h]; exact hl
theorem lensF_ok {bs : List Int} {r : Rd} (ok : okR bs r) : okR bs (lensF bs r).1 := by
  have := (lens_ok ok).2.2.2.2
  unfold lensF
  split
  · exact bd_ok this
  · exact this
theorem lensF_len {bs : List Int} {r : Rd} : (lensF bs r).2.1.length ≤ 1000 ∧ (lensF bs r).2.2.length ≤ 1000 := by
  unfold lensF
  split
  · rename_i hk
    have n1 := tk_num (bs := bs) (n := 5) (r := r)
    have n2 := tk_num (bs := bs) (n := 5) (r := lens0 bs r)
    have q5 : (2 : Int) ^ 5 = 32 := by decide
    have h1 : nLit bs r ≤ 288 := by unfold nLit; omega
    have h2 : nDist bs r ≤ 32 := by unfold nDist; omega
    have h3 : (lens4 bs r).2.length ≤ nLit bs r + nDist bs r := lg_len (Nat.le_refl _) (by simp) hk
    simp only [List.length_take, List.length_drop]
    omega
  · simp

/-- Numbers put behind nothing, in a block of their own. -/
theorem appE (hi : Eng.Inv S h0) {g : Eng.Heap} (s : Eng.Sub h0 g) {b : Nat} {T : TypeId} (hb : g b = some (.cells #[] T)) (nb : h0 b = none) {a : Option Addr} {c l : Nat} {ys : List Int} (P : Part .i64 g (.slice a l c) ys) (hl : ys.length ≤ 1000) {K : Value → Eng.Heap → Prop}
    (hK : ∀ a' l' c' g', Part .i64 g' (.slice a' l' c') ys → Eng.New h0 (.slice a' l' c') → Eng.Sub h0 g' → (∀ z, g z ≠ none → z ≠ b → g' z = g z) → (∀ z, blkOf (.slice a' l' c') = some z → z = b ∨ g z = none) → K (.slice a' l' c') g') :
    appW S 2 1 8 [.int .i64 0] (.slice (some ⟨b, 0, none⟩) 0 0) (.slice a l c) g K := by
  obtain ⟨a0, c0, e, _, hx⟩ := P.ints
  cases e
  have P0 : Part .i64 g (.slice (some ⟨b, 0, none⟩) 0 0) [] := .inr ⟨b, [], [], [], T, rfl, hb⟩
  refine appW_part (xs := []) hi s P0 (New.of nb) hx (by simp; omega) fun v' g' o n s' hk hr => ?_
  obtain ⟨a2, c2, rfl, _, _⟩ := o.ints
  rw [List.nil_append] at o n hr ⊢
  refine hK _ _ _ _ o n s' (fun z hz hne => hk z hz fun e => hne (by cases e; rfl)) fun z hz => ?_
  rcases hr with hr | hr
  · rw [hz] at hr; exact .inl (by cases hr; rfl)
  · exact .inr (hr z hz)

set_option maxRecDepth 100000 in
set_option maxHeartbeats 4000000 in
theorem g_spec_ReadLens (hi : Eng.Inv S h) {v : Value} {bs : List Int} (O : tB.O h v bs) (L : limB bs) (n : Int) (wn : (Lit.int .i64 n).wf = true) :
    CallsH Tryd.prog S F_spec_ReadLens #[v, .int .i64 n] h (fun v h' => tLensRes.O h' v (ans_ReadLens bs n) ∧ tLensRes.New h v ∧ Eng.Sub h h') := by
  obtain ⟨a, c, rfl, hc, hx⟩ := Part.ints O
  have hL : bs.length ≤ 1048576 := L
  refine run_spec_ReadLens (vs := [.slice a bs.length c, .int .i64 n]) ⟨rfl, rfl, trivial⟩ hi ?_
  simp only [t_spec_ReadLens, Tr.wp, mksW, callW, Ex.ev, coerce, toInt_int, toBool_bool, slL_sl, slC_sl, slA_sl, toAddr_ptr, ptrOf_ptr, isNil_sl, isNil_ptr, it_and, it_or, it_int, optN_int, optN_nl, cmpI, arith, Cst.val, SV.den, resShs, resV, resSV, resVals, newVars, runCells, exSh, allSh, cellsAre, List.flatMap_cons, List.flatMap_nil, List.replicate_one, List.getD_cons_zero, List.getD_cons_succ, List.getElem?_cons_zero, List.getElem?_cons_succ, decide_eq_true_eq, decide_eq_false_iff_not, List.map_cons, List.map_nil, List.cons_append, List.nil_append, List.append_nil, List.length_cons, List.length_nil, Nat.zero_add, Nat.add_zero, and_true, true_and, if_true, if_false, Bool.false_eq_true]
  have s0 : Eng.Sub h h := fun _ _ e => e
  have w8 : IntKind.i64.wrap (8 * (bs.length : Int)) = 8 * (bs.length : Int) := i64_in _ (by omega)
  rw [w8]
  refine ⟨fun hgt => ?_, fun hle => ⟨fun hbad => ?_, fun hok => ?_⟩⟩
  · have e : ans_ReadLens bs n = (7, [], [], 0, ()) := if_pos (by omega)
    rw [e]; exact PR.none s0
  · have e : ans_ReadLens bs n = (3, [], [], 0, ()) := by
      unfold ans_ReadLens; rw [if_neg (by omega), if_pos (by simp at hbad; omega)]
    rw [e]; exact PR.none s0
  have hok : 0 ≤ n ∧ n ≤ 8 * (bs.length : Int) := by simp at hok; omega
  have e : ans_ReadLens bs n = if (lensF bs ⟨n, 0⟩).1.k ≠ 0 then ((lensF bs ⟨n, 0⟩).1.k, [], [], 0, ()) else (1, (lensF bs ⟨n, 0⟩).2.1, (lensF bs ⟨n, 0⟩).2.2, (lensF bs ⟨n, 0⟩).1.i - n, ()) := by
    unfold ans_ReadLens; rw [if_neg (by omega), if_neg (by omega)]
  rw [e]
  have okr : okR bs ⟨n, 0⟩ := fun _ => hok
  refine (k_l5Lens hi hx hL ⟨n, 0⟩ okr).mono ?_
  obtain ⟨hF1, hF2⟩ := lensF_len (bs := bs) (r := ⟨n, 0⟩)
  have hFo := lensF_ok okr
  generalize lensF bs ⟨n, 0⟩ = F at hF1 hF2 hFo ⊢
  rintro _ h1 ⟨u, w, rfl, hP, ⟨a1, l1, c1, a2, l2, c2, rfl, rfl⟩, s1⟩
  refine ⟨_, _, _, _, _, _, _, _, _, _, _, rfl, fun hne => ?_, fun heq => ?_⟩
  · have hk : F.1.k ≠ 0 := by simpa using hne
    rw [if_pos hk]; exact PR.none s1
  · have hk : F.1.k = 0 := by simpa using heq
    rw [if_neg (by omega)]
    obtain ⟨P1, P2, N1, N2⟩ := hP hk
    have okF : okR bs F.1 := hFo
    have hi0 := okF hk
    have wi : IntKind.i64.wrap (F.1.i - n) = F.1.i - n := i64_in _ (by omega)
    rw [wi]
    have fin : ∀ a1 l1 c1 a2 l2 c2 g', Part .i64 g' (.slice a1 l1 c1) F.2.1 → Part .i64 g' (.slice a2 l2 c2) F.2.2 → Eng.New h (.slice a1 l1 c1) → Eng.New h (.slice a2 l2 c2) → (∀ b, blkOf (.slice a1 l1 c1) = some b → blkOf (.slice a2 l2 c2) ≠ some b) → Eng.Sub h g' →
        tLensRes.O g' (.agg #[.int .i64 1, .slice a1 l1 c1, .slice a2 l2 c2, .int .i64 (F.1.i - n)]) (1, F.2.1, F.2.2, F.1.i - n, ()) ∧ tLensRes.New h (.agg #[.int .i64 1, .slice a1 l1 c1, .slice a2 l2 c2, .int .i64 (F.1.i - n)]) ∧ Eng.Sub h g' := fun a1 l1 c1 a2 l2 c2 g' q1 q2 q3 q4 q5 q6 => PR.mk q1 q2 q3 q4 q5 q6
    refine ⟨fun b hb => ⟨?_, fun b' hb' => ?_⟩, fun b hb b' hb' => ?_⟩
    · have sb : Eng.Sub h1 (upd h1 b (.cells #[] 2)) := Sub.of_upd hb
      refine appE hi (s1.trans sb) upd_same (sub_none s1 hb) (P1.sub sb) hF1 fun a3 l3 c3 g3 Q3 N3 s3 k3 d3 => ?_
      intro b' hb'
      have sb' : Eng.Sub g3 (upd g3 b' (.cells #[] 2)) := Sub.of_upd hb'
      have P2' : Part .i64 g3 (.slice a2 l2 c2) F.2.2 := (P2.sub sb).keep fun z hz => k3 z (tI.Oheld (P2.sub sb) hz) fun e => by
        have := tI.Oheld P2 (show tI.B _ z from hz); rw [e] at this; exact this hb
      refine appE hi (s3.trans sb') upd_same (sub_none s3 hb') (P2'.sub sb') hF2 fun a4 l4 c4 g4 Q4 N4 s4 k4 d4 => fun _ => ?_
      have hne : ∀ z, blkOf (.slice a3 l3 c3) = some z → z ≠ b' := fun z hz e => by
        have := tI.Oheld Q3 (show tI.B _ z from hz); rw [e] at this; exact this hb'
      refine fin _ _ _ _ _ _ g4 ((Q3.sub sb').keep fun z hz => k4 z (tI.Oheld (Q3.sub sb') hz) (hne z hz)) Q4 N3 N4 (fun z hz hz4 => ?_) s4
      rcases d4 z hz4 with e | e
      · exact hne z hz e
      · exact tI.Oheld (Q3.sub sb') (show tI.B _ z from hz) e
    · have sb : Eng.Sub h1 (upd h1 b (.cells #[] 2)) := Sub.of_upd hb
      have sb' : Eng.Sub h1 (upd (upd h1 b (.cells #[] 2)) b' (.cells #[] 2)) := sb.trans (Sub.of_upd hb')
      have nbb : b ≠ b' := fun e => by rw [← e, upd_same] at hb'; cases hb'
      have hb1' : h1 b' = none := sub_none sb hb'
      have gb : upd (upd h1 b (.cells #[] 2)) b' (.cells #[] 2) b = some (.cells #[] 2) := (upd_ne nbb).trans upd_same
      have gb' : upd (upd h1 b (.cells #[] 2)) b' (.cells #[] 2) b' = some (.cells #[] 2) := upd_same
      generalize upd (upd h1 b (.cells #[] 2)) b' (.cells #[] 2) = g at sb' gb gb' ⊢
      refine appE hi (s1.trans sb') gb (sub_none s1 hb) (P1.sub sb') hF1 fun a3 l3 c3 g3 Q3 N3 s3 k3 d3 => ?_
      have P2' : Part .i64 g3 (.slice a2 l2 c2) F.2.2 := (P2.sub sb').keep fun z hz => k3 z (tI.Oheld (P2.sub sb') hz) fun e => by
        have := tI.Oheld P2 (show tI.B _ z from hz); rw [e] at this; exact this hb
      have hne : ∀ z, blkOf (.slice a3 l3 c3) = some z → z ≠ b' := fun z hz e => by
        rcases d3 z hz with h | h
        · exact absurd (h.symm.trans e) nbb
        · rw [e, gb'] at h; cases h
      have g3y : g3 b' = some (.cells #[] 2) := (k3 b' (by rw [gb']; simp) (Ne.symm nbb)).trans gb'
      refine appE hi s3 g3y (sub_none s1 hb1') P2' hF2 fun a4 l4 c4 g4 Q4 N4 s4 k4 d4 => fun _ => ?_
      refine fin _ _ _ _ _ _ g4 (Q3.keep fun z hz => k4 z (tI.Oheld Q3 hz) (hne z hz)) Q4 N3 N4 (fun z hz hz4 => ?_) s4
      rcases d4 z hz4 with e | e
      · exact hne z hz e
      · exact tI.Oheld Q3 (show tI.B _ z from hz) e
    · have sb : Eng.Sub h1 (upd h1 b (.cells #[] 2)) := Sub.of_upd hb
      have sb' : Eng.Sub h1 (upd (upd h1 b (.cells #[] 2)) b' (.cells #[] 2)) := sb.trans (Sub.of_upd hb')
      have nbb : b ≠ b' := fun e => by rw [← e, upd_same] at hb'; cases hb'
      have hb1' : h1 b' = none := sub_none sb hb'
      have gb : upd (upd h1 b (.cells #[] 2)) b' (.cells #[] 2) b = some (.cells #[] 2) := (upd_ne nbb).trans upd_same
      have gb' : upd (upd h1 b (.cells #[] 2)) b' (.cells #[] 2) b' = some (.cells #[] 2) := upd_same
      generalize upd (upd h1 b (.cells #[] 2)) b' (.cells #[] 2) = g at sb' gb gb' ⊢
      refine appE hi (s1.trans sb') gb' (sub_none s1 hb1') (P1.sub sb') hF1 fun a3 l3 c3 g3 Q3 N3 s3 k3 d3 => ?_
      have P2' : Part .i64 g3 (.slice a2 l2 c2) F.2.2 := (P2.sub sb').keep fun z hz => k3 z (tI.Oheld (P2.sub sb') hz) fun e => by
        have := tI.Oheld P2 (show tI.B _ z from hz); rw [e] at this; exact this hb1'
      have hne : ∀ z, blkOf (.slice a3 l3 c3) = some z → z ≠ b := fun z hz e => by
        rcases d3 z hz with h | h
        · exact absurd (h.symm.trans e) (Ne.symm nbb)
        · rw [e, gb] at h; cases h
      have g3y : g3 b = some (.cells #[] 2) := (k3 b (by rw [gb]; simp) nbb).trans gb
      refine appE hi s3 g3y (sub_none s1 hb) P2' hF2 fun a4 l4 c4 g4 Q4 N4 s4 k4 d4 => fun _ => ?_
      refine fin _ _ _ _ _ _ g4 (Q3.keep fun z hz => k4 z (tI.Oheld Q3 hz) (hne z hz)) Q4 N3 N4 (fun z hz hz4 => ?_) s4
      rcases d4 z hz4 with e | e
      · exact hne z hz e
      · exact tI.Oheld Q3 (show tI.B _ z from hz) e

theorem stl {g : Eng.Heap} {env : List Value} {bm : Nat} {x : Int} (e2 : env.getD 2 undef = .pointer (some ⟨bm, 0, none⟩)) (e6 : env.getD 6 undef = .int .i64 x) (hg : hcell g ⟨bm, 1, none⟩ = some (.int .i64 x)) :
    ∀ p ∈ [((Ex.var Sh.addr 2).fld 1, Ex.var (Sh.int .i64) 6)], hcell g (toAddr (Ex.ev env [] p.1)) = some (Ex.ev env [] p.2) := fun p hp => by
  obtain rfl := List.mem_singleton.1 hp
  simp only [Ex.ev, e2, e6, coerce, toInt_int, toAddr_ptr, ptrOf_ptr, addr_add, Nat.zero_add]
  exact hg

set_option maxRecDepth 100000 in
set_option maxHeartbeats 4000000 in
theorem g_impl_ReadLens (hi : Eng.Inv S h) (G : Errs h) (E : ErrT h) {v : Value} {bs : List Int} (O : tB.O h v bs) (L : limB bs) (n : Int) (wn : (Lit.int .i64 n).wf = true) :
    CallsH Tryd.prog S F_impl_ReadLens #[v, .int .i64 n] h (fun v h' => tLensRes.O h' v (ans_ReadLens bs n) ∧ tLensRes.New h v ∧ Eng.Sub h h') := by
  obtain ⟨a, c, rfl, hc, hx⟩ := Part.ints O
  have hL : bs.length ≤ 1048576 := L
  refine run_impl_ReadLens (vs := [.slice a bs.length c, .int .i64 n]) ⟨rfl, rfl, trivial⟩ hi ?_
  simp only [t_impl_ReadLens, Tr.wp, mksW, callW, Ex.ev, coerce, toInt_int, toBool_bool, slL_sl, slC_sl, slA_sl, toAddr_ptr, ptrOf_ptr, isNil_sl, isNil_ptr, it_and, it_or, it_int, optN_int, optN_nl, cmpI, arith, Cst.val, SV.den, resShs, resV, resSV, resVals, newVars, runCells, exSh, allSh, cellsAre, List.flatMap_cons, List.flatMap_nil, List.replicate_one, List.getD_cons_zero, List.getD_cons_succ, List.getElem?_cons_zero, List.getElem?_cons_succ, decide_eq_true_eq, decide_eq_false_iff_not, List.map_cons, List.map_nil, List.cons_append, List.nil_append, List.append_nil, List.length_cons, List.length_nil, Nat.zero_add, Nat.add_zero, and_true, true_and, if_true, if_false, Bool.false_eq_true, addr_add]
  have s0 : Eng.Sub h h := fun _ _ e => e
  have w8 : IntKind.i64.wrap (8 * (bs.length : Int)) = 8 * (bs.length : Int) := i64_in _ (by omega)
  rw [w8]
  refine ⟨fun hgt => ?_, fun hle => ⟨fun hbad => ?_, fun hok => ?_⟩⟩
  · have e : ans_ReadLens bs n = (7, [], [], 0, ()) := if_pos (by omega)
    rw [e]; exact PR.none s0
  · have e : ans_ReadLens bs n = (3, [], [], 0, ()) := by
      unfold ans_ReadLens; rw [if_neg (by omega), if_pos (by simp at hbad; omega)]
    rw [e]; exact PR.none s0
  have hok : 0 ≤ n ∧ n ≤ 8 * (bs.length : Int) := by simp at hok; omega
  have e : ans_ReadLens bs n = if (lensF bs ⟨n, 0⟩).1.k ≠ 0 then ((lensF bs ⟨n, 0⟩).1.k, [], [], 0, ()) else (1, (lensF bs ⟨n, 0⟩).2.1, (lensF bs ⟨n, 0⟩).2.2, (lensF bs ⟨n, 0⟩).1.i - n, ()) := by
    unfold ans_ReadLens; rw [if_neg (by omega), if_neg (by omega)]
  rw [e]
  obtain ⟨p, rfl⟩ := Int.eq_ofNat_of_zero_le hok.1
  have okr : okR bs ⟨(p : Int), 0⟩ := fun _ => hok
  obtain ⟨hF1, hF2⟩ := lensF_len (bs := bs) (r := ⟨(p : Int), 0⟩)
  have hFo := lensF_ok okr
  intro bm hbm
  have M : MAt h (upd h bm (machO a c bs p ⟨.pointer none, .slice none 0 0, 0, false, .pointer none, .pointer none⟩ 59)) bm a c bs p ⟨.pointer none, .slice none 0 0, 0, false, .pointer none, .pointer none⟩ 59 := ⟨upd_same, hbm, Sub.of_upd hbm⟩
  refine CallsH.mono (k_mlens hi G hx hL p (by omega) M) ?_
  generalize lensF bs ⟨(p : Int), 0⟩ = F at hF1 hF2 hFo ⊢
  rintro _ h1 ⟨u, w, rfl, ⟨p', hp', M1, hpi⟩, hP, ⟨a1, l1, c1, a2, l2, c2, rfl, rfl⟩⟩
  have s1 := M1.sb
  refine ⟨_, _, _, _, _, _, errI F.1.k, errI_if, by rw [errI_if], fun hz => ?_, fun hz => ?_⟩
  · rw [errI_if, errI_nil] at hz
    have hk : F.1.k ≠ 0 := by simpa using hz
    rw [if_pos hk, errI_if, errI_ne hk]
    refine (g_classOf (hi.sub s1) (E.sub s1)).mono ?_
    rintro _ h2 ⟨rfl, s2⟩
    exact ⟨_, rfl, PR.none (s1.trans s2)⟩
  · rw [errI_if, errI_nil] at hz
    have hk : F.1.k = 0 := by simpa using hz
    rw [if_neg (by omega)]
    obtain ⟨P1, P2, N1, N2⟩ := hP hk
    have okF : okR bs F.1 := hFo
    have hi0 := okF hk
    have ei := hpi hk
    have mh : ∀ g : Eng.Heap, g bm = h1 bm → hcell g ⟨bm, 1, none⟩ = some (.int .i64 p') := fun g e => (mach_ld (e.trans M1.hb)).2.1
    rw [ei]
    rw [ei] at hi0
    have wi : IntKind.i64.wrap ((p' : Int) - p) = (p' : Int) - p := i64_in _ (by omega)
    have fin : ∀ a1 l1 c1 a2 l2 c2 g', Part .i64 g' (.slice a1 l1 c1) F.2.1 → Part .i64 g' (.slice a2 l2 c2) F.2.2 → Eng.New h (.slice a1 l1 c1) → Eng.New h (.slice a2 l2 c2) → (∀ b, blkOf (.slice a1 l1 c1) = some b → blkOf (.slice a2 l2 c2) ≠ some b) → Eng.Sub h g' →
        tLensRes.O g' (.agg #[.int .i64 1, .slice a1 l1 c1, .slice a2 l2 c2, .int .i64 (IntKind.i64.wrap ((p' : Int) - p))]) (1, F.2.1, F.2.2, (p' : Int) - p, ()) ∧ tLensRes.New h (.agg #[.int .i64 1, .slice a1 l1 c1, .slice a2 l2 c2, .int .i64 (IntKind.i64.wrap ((p' : Int) - p))]) ∧ Eng.Sub h g' := fun a1 l1 c1 a2 l2 c2 g' q1 q2 q3 q4 q5 q6 => by
      rw [wi]; exact PR.mk q1 q2 q3 q4 q5 q6
    refine ⟨p', mh h1 rfl, fun b hb => ?_, fun b hb => ?_⟩
    · have nbm : bm ≠ b := fun e => by rw [← e, M1.hb] at hb; cases hb
      have sb : Eng.Sub h1 (upd h1 b (.cells #[] 2)) := Sub.of_upd hb
      refine ⟨stl rfl rfl (mh _ (upd_ne nbm)), ?_, ?_⟩
      · refine appE hi (s1.trans sb) upd_same (sub_none s1 hb) (P1.sub sb) hF1 fun a3 l3 c3 g3 Q3 N3 s3 k3 d3 => ?_
        have g3m : g3 bm = h1 bm := (k3 bm (by rw [upd_ne nbm, M1.hb]; simp) nbm).trans (upd_ne nbm)
        refine ⟨stl rfl rfl (mh _ g3m), ?_⟩
        intro b' hb'
        have nbm' : bm ≠ b' := fun e => by rw [← e, g3m, M1.hb] at hb'; cases hb'
        refine ⟨stl rfl rfl (mh _ ((upd_ne nbm').trans g3m)), ?_⟩
        have sb' : Eng.Sub g3 (upd g3 b' (.cells #[] 2)) := Sub.of_upd hb'
        have P2' : Part .i64 g3 (.slice a2 l2 c2) F.2.2 := (P2.sub sb).keep fun z hz => k3 z (tI.Oheld (P2.sub sb) hz) fun e => by
          have := tI.Oheld P2 (show tI.B _ z from hz); rw [e] at this; exact this hb
        refine appE hi (s3.trans sb') upd_same (sub_none s3 hb') (P2'.sub sb') hF2 fun a4 l4 c4 g4 Q4 N4 s4 k4 d4 => ?_
        have g4m : g4 bm = h1 bm := (k4 bm (by rw [upd_ne nbm', g3m, M1.hb]; simp) nbm').trans ((upd_ne nbm').trans g3m)
        refine ⟨stl rfl rfl (mh _ g4m), fun _ => ?_⟩
        have hne : ∀ z, blkOf (.slice a3 l3 c3) = some z → z ≠ b' := fun z hz e => by
          have := tI.Oheld Q3 (show tI.B _ z from hz); rw [e] at this; exact this hb'
        refine fin _ _ _ _ _ _ g4 ((Q3.sub sb').keep fun z hz => k4 z (tI.Oheld (Q3.sub sb') hz) (hne z hz)) Q4 N3 N4 (fun z hz hz4 => ?_) s4
        rcases d4 z hz4 with e | e
        · exact hne z hz e
        · exact tI.Oheld (Q3.sub sb') (show tI.B _ z from hz) e
      · intro b' hb'
        have nbm' : bm ≠ b' := fun e => by rw [← e, upd_ne nbm, M1.hb] at hb'; cases hb'
        have sb' : Eng.Sub h1 (upd (upd h1 b (.cells #[] 2)) b' (.cells #[] 2)) := sb.trans (Sub.of_upd hb')
        have nbb : b ≠ b' := fun e => by rw [← e, upd_same] at hb'; cases hb'
        have hb1' : h1 b' = none := sub_none sb hb'
        have gb : upd (upd h1 b (.cells #[] 2)) b' (.cells #[] 2) b = some (.cells #[] 2) := (upd_ne nbb).trans upd_same
        have gb' : upd (upd h1 b (.cells #[] 2)) b' (.cells #[] 2) b' = some (.cells #[] 2) := upd_same
        have gm : upd (upd h1 b (.cells #[] 2)) b' (.cells #[] 2) bm = h1 bm := (upd_ne nbm').trans (upd_ne nbm)
        generalize upd (upd h1 b (.cells #[] 2)) b' (.cells #[] 2) = g at sb' gb gb' gm ⊢
        refine ⟨stl rfl rfl (mh _ gm), ?_⟩
        refine appE hi (s1.trans sb') gb (sub_none s1 hb) (P1.sub sb') hF1 fun a3 l3 c3 g3 Q3 N3 s3 k3 d3 => ?_
        have g3m : g3 bm = h1 bm := (k3 bm (by rw [gm, M1.hb]; simp) nbm).trans gm
        refine ⟨stl rfl rfl (mh _ g3m), ?_⟩
        have P2' : Part .i64 g3 (.slice a2 l2 c2) F.2.2 := (P2.sub sb').keep fun z hz => k3 z (tI.Oheld (P2.sub sb') hz) fun e => by
          have := tI.Oheld P2 (show tI.B _ z from hz); rw [e] at this; exact this hb
        have hne : ∀ z, blkOf (.slice a3 l3 c3) = some z → z ≠ b' := fun z hz e => by
          rcases d3 z hz with h | h
          · exact absurd (h.symm.trans e) nbb
          · rw [e, gb'] at h; cases h
        have g3y : g3 b' = some (.cells #[] 2) := (k3 b' (by rw [gb']; simp) (Ne.symm nbb)).trans gb'
        refine appE hi s3 g3y (sub_none s1 hb1') P2' hF2 fun a4 l4 c4 g4 Q4 N4 s4 k4 d4 => ?_
        have g4m : g4 bm = h1 bm := (k4 bm (by rw [g3m, M1.hb]; simp) nbm').trans g3m
        refine ⟨stl rfl rfl (mh _ g4m), fun _ => ?_⟩
        refine fin _ _ _ _ _ _ g4 (Q3.keep fun z hz => k4 z (tI.Oheld Q3 hz) (hne z hz)) Q4 N3 N4 (fun z hz hz4 => ?_) s4
        rcases d4 z hz4 with e | e
        · exact hne z hz e
        · exact tI.Oheld Q3 (show tI.B _ z from hz) e
    · have sb : Eng.Sub h1 (upd h1 b (.cells #[] 2)) := Sub.of_upd hb
      have nbm : bm ≠ b := fun e => by rw [← e, M1.hb] at hb; cases hb
      refine ⟨stl rfl rfl (mh _ (upd_ne nbm)), fun b' hb' => ?_⟩
      have nbm' : bm ≠ b' := fun e => by rw [← e, upd_ne nbm, M1.hb] at hb'; cases hb'
      have sb' : Eng.Sub h1 (upd (upd h1 b (.cells #[] 2)) b' (.cells #[] 2)) := sb.trans (Sub.of_upd hb')
      have nbb : b ≠ b' := fun e => by rw [← e, upd_same] at hb'; cases hb'
      have hb1' : h1 b' = none := sub_none sb hb'
      have gb : upd (upd h1 b (.cells #[] 2)) b' (.cells #[] 2) b = some (.cells #[] 2) := (upd_ne nbb).trans upd_same
      have gb' : upd (upd h1 b (.cells #[] 2)) b' (.cells #[] 2) b' = some (.cells #[] 2) := upd_same
      have gm : upd (upd h1 b (.cells #[] 2)) b' (.cells #[] 2) bm = h1 bm := (upd_ne nbm').trans (upd_ne nbm)
      generalize upd (upd h1 b (.cells #[] 2)) b' (.cells #[] 2) = g at sb' gb gb' gm ⊢
      refine ⟨stl rfl rfl (mh _ gm), ?_⟩
      refine appE hi (s1.trans sb') gb' (sub_none s1 hb1') (P1.sub sb') hF1 fun a3 l3 c3 g3 Q3 N3 s3 k3 d3 => ?_
      have g3m : g3 bm = h1 bm := (k3 bm (by rw [gm, M1.hb]; simp) nbm').trans gm
      refine ⟨stl rfl rfl (mh _ g3m), ?_⟩
      have P2' : Part .i64 g3 (.slice a2 l2 c2) F.2.2 := (P2.sub sb').keep fun z hz => k3 z (tI.Oheld (P2.sub sb') hz) fun e => by
        have := tI.Oheld P2 (show tI.B _ z from hz); rw [e] at this; exact this hb1'
      have hne : ∀ z, blkOf (.slice a3 l3 c3) = some z → z ≠ b := fun z hz e => by
        rcases d3 z hz with h | h
        · exact absurd (h.symm.trans e) (Ne.symm nbb)
        · rw [e, gb] at h; cases h
      have g3y : g3 b = some (.cells #[] 2) := (k3 b (by rw [gb]; simp) nbb).trans gb
      refine appE hi s3 g3y (sub_none s1 hb) P2' hF2 fun a4 l4 c4 g4 Q4 N4 s4 k4 d4 => ?_
      have g4m : g4 bm = h1 bm := (k4 bm (by rw [g3m, M1.hb]; simp) nbm).trans g3m
      refine ⟨stl rfl rfl (mh _ g4m), fun _ => ?_⟩
      refine fin _ _ _ _ _ _ g4 (Q3.keep fun z hz => k4 z (tI.Oheld Q3 hz) (hne z hz)) Q4 N3 N4 (fun z hz hz4 => ?_) s4
      rcases d4 z hz4 with e | e
      · exact hne z hz e
      · exact tI.Oheld Q3 (show tI.B _ z from hz) e

theorem sm_ReadLens {bs : List Int} {n : Int} (L : limB bs) : smLensRes (ans_ReadLens bs n) := by
  obtain ⟨h1, h2⟩ := lensF_len (bs := bs) (r := ⟨n, 0⟩)
  unfold ans_ReadLens
  split
  · exact ⟨by simp [smI], by simp [smI]⟩
  · split
    · exact ⟨by simp [smI], by simp [smI]⟩
    · split
      · exact ⟨by simp [smI], by simp [smI]⟩
      · exact ⟨Nat.le_trans h1 (by decide), Nat.le_trans h2 (by decide)⟩
end Go.Proofs.YtmnialmphlbmaaaDoor
