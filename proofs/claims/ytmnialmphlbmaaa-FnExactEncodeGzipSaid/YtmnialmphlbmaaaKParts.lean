import Derived.Test.YtmnialmphlbmaaaKWork
import Derived.Test.YtmnialmphlbmaaaTrParts
set_option linter.unusedVariables false
set_option linter.unusedSimpArgs false
namespace Go.Proofs.Ytmnialmphlbmaaa
open Go Go.Eng Go.Conc Go.RowKit Go.Conc.Lib Go.ConcR.Gen
open Go.ConcR (KK wgBlock WgAt stA smA rd wr DC0 Payload)

section
variable {S : Shared} {h : Eng.Heap}

theorem upd_none {h : Eng.Heap} {b x : Nat} {o : Obj} : upd h b o x = none ↔ x ≠ b ∧ h x = none := by
  unfold upd; by_cases e : x = b <;> simp [e]
theorem upd_at {h : Eng.Heap} {b : Nat} {o : Obj} : upd h b o b = some o := by simp [upd]
theorem upd_off {h : Eng.Heap} {b x : Nat} {o : Obj} (e : x ≠ b) : upd h b o x = h x := by simp [upd, e]

/-- A store into a block of one cell. -/
theorem sto1 {b : Nat} {u v : Value} {T : TypeId} {K : Eng.Heap → Prop} (hb : h b = some (.cells #[u] T)) (hS : ¬ S b) (k : K (upd h b (.cells #[v] T))) : storeW S ⟨b, 0, none⟩ 0 [v] h K := by
  have e : hset h (Addr.add ⟨b, 0, none⟩ 0) v = upd h b (.cells #[v] T) := by
    funext x
    by_cases hx : x = b
    · subst hx; simp [hset, upd, Addr.add, hb]
    · simp [hset, upd, Addr.add, hx]
  refine ⟨⟨⟨u, by simp [hcell, Addr.add, hb]⟩, by simp [hfrozen, Addr.add, hb], by simpa [Addr.add] using hS⟩, ?_⟩
  rw [e]; exact k
theorem sto2 {b : Nat} {u u2 v v2 : Value} {T : TypeId} {K : Eng.Heap → Prop} (hb : h b = some (.cells #[u, u2] T)) (hS : ¬ S b) (k : K (upd h b (.cells #[v, v2] T))) : storeW S ⟨b, 0, none⟩ 0 [v, v2] h K := by
  have e : hset (hset h (Addr.add ⟨b, 0, none⟩ 0) v) (Addr.add ⟨b, 0, none⟩ 1) v2 = upd h b (.cells #[v, v2] T) := by
    funext x
    by_cases hx : x = b
    · subst hx; simp [hset, upd, Addr.add, hb]
    · simp [hset, upd, Addr.add, hx]
  refine ⟨⟨⟨u, by simp [hcell, Addr.add, hb]⟩, by simp [hfrozen, Addr.add, hb], by simpa [Addr.add] using hS⟩, ⟨⟨u2, by simp [hset, hcell, Addr.add, hb]⟩, by simp [hset, hfrozen, Addr.add, hb], by simpa [Addr.add] using hS⟩, ?_⟩
  rw [e]; exact k

theorem stoN {b j : Nat} {cs : Array Value} {v : Value} {T : TypeId} {K : Eng.Heap → Prop} (hb : h b = some (.cells cs T)) (hj : j < cs.size) (hS : ¬ S b) (k : K (upd h b (.cells (cs.setIfInBounds j v) T))) :
    storeW S (((some (⟨b, 0, none⟩ : Addr)).getD default).add (((j : Int).toNat) * 1)) 0 [v] h K := by
  have ea : (((some (⟨b, 0, none⟩ : Addr)).getD default).add (((j : Int).toNat) * 1)).add 0 = ⟨b, j, none⟩ := by
    have e0 : ∀ (x : Addr), x.add 0 = x := fun x => by simp [Addr.add]
    rw [e0, Int.toNat_natCast, Nat.mul_one, Option.getD_some, addr_add, Nat.zero_add]
  refine ⟨⟨⟨cs[j], by rw [ea]; simp [hcell, hb, hj]⟩, by rw [ea]; simp [hfrozen, hb], by rw [ea]; exact hS⟩, ?_⟩
  have e : hset h ((((some (⟨b, 0, none⟩ : Addr)).getD default).add (((j : Int).toNat) * 1)).add 0) v = upd h b (.cells (cs.setIfInBounds j v) T) := by
    rw [ea]
    funext x
    by_cases hx : x = b
    · subst hx; simp [hset, upd, hb]
    · simp [hset, upd, hx]
  rw [e]; exact k

theorem endP.intro {n : Nat} {is : List Nat} {R : (Nat → Value) → Eng.Heap → Prop} {env : List Value} {Ks : List Kt} (st : St) (h1 : st.loc = []) (h2 : st.dv = false) (h3 : st.tmps.length = n) (h4 : is.all (isX st) = true) (h5 : R (got st env) h) :
    endP n is R (.norm st) env h Ks := ⟨st, rfl, h1, h2, h3, h4, h5⟩

/-- What is known once the blocks are made. -/
def RA (h : Eng.Heap) (da : Value) (fv : Value) (n : Nat) (f : Nat → Value) (h' : Eng.Heap) : Prop :=
  ∃ fb bC bS sb wg : Nat, f 0 = da ∧ f 3 = .pointer (some ⟨fb, 0, none⟩) ∧ f 6 = .int .i64 n ∧ f 7 = .pointer (some ⟨sb, 0, none⟩) ∧ f 8 = .slice (some ⟨bS, 0, none⟩) n n ∧ f 9 = .pointer (some ⟨wg, 0, none⟩) ∧
    [fb, bC, bS, sb, wg].Nodup ∧ (∀ b ∈ [fb, bC, bS, sb, wg], h b = none) ∧ Eng.Sub h h' ∧
    h' fb = some (.cells #[fv] 49) ∧ h' bC = some (.cells (mkCells n #[.int .u32 0]) 22) ∧ h' bS = some (.cells (mkCells n #[.int .i64 0]) 2) ∧
    h' sb = some (.cells #[.slice (some ⟨bC, 0, none⟩) n n] 45) ∧ h' wg = some (wgBlock 70 0 0)

set_option maxRecDepth 100000 in
theorem wpA {a : Option Addr} {l c : Nat} {fv : Value} (hfv : fnOf fv = fv) (hi : Inv S h) (hl : l < 2 ^ 40) {n : Nat} (hn : n = (l + 32767) / 32768) :
    tA.wp Try.prog S (endP 47 [0, 3, 6, 7, 8, 9] (RA h (.slice a l c) fv n)) (fun _ _ => True) [.slice a l c, fv] h [] := by
  have ns : ∀ b, h b = none → ¬ S b := fun b hb hS => hi b hS hb
  have e1 : IntKind.i64.wrap ((IntKind.i64.wrap (IntKind.i64.wrap ((l : Int) + 32768) - 1)).tdiv 32768) = (n : Int) := by
    have w1 : IntKind.i64.wrap ((l : Int) + 32768) = (l : Int) + 32768 := by rw [IntKind.wrap_i64]; omega
    have w2 : IntKind.i64.wrap ((l : Int) + 32768 - 1) = (l : Int) + 32767 := by rw [IntKind.wrap_i64]; omega
    rw [w1, w2, Int.tdiv_eq_ediv_of_nonneg (by omega), IntKind.wrap_i64]; omega
  have e2 : IntKind.i64.wrap (n : Int) = (n : Int) := by rw [IntKind.wrap_i64]; omega
  have hb4 : ((4 : Nat) : Int) * (n : Int) ≤ 2 ^ 48 := by omega
  have hb8 : ((8 : Nat) : Int) * (n : Int) ≤ 2 ^ 48 := by omega
  simp only [tA, Tr.wp, mksW, callW, Ex.ev, coerce, toInt_int, toBool_bool, slL_sl, slC_sl, slA_sl, toAddr_ptr, ptrOf_ptr, isNil_sl, isNil_ptr, it_and, it_or, it_int, optN_int, optN_nl, cmpI, arith, Cst.val, SV.den, resShs, resV, resSV, resVals, newVars, runCells, exSh, allSh, cellsAre, List.flatMap_cons, List.flatMap_nil, List.replicate_one, List.getD_cons_zero, List.getD_cons_succ, List.getElem?_cons_zero, List.getElem?_cons_succ, decide_eq_true_eq, decide_eq_false_iff_not, List.map_cons, List.map_nil, List.cons_append, List.nil_append, List.append_nil, List.length_cons, List.length_nil, Nat.zero_add, Nat.add_zero, and_true, true_and, if_true, if_false, Bool.false_eq_true, e1, e2, Int.toNat_natCast, Nat.mul_one, hfv]
  have nn : (0 : Int) ≤ (n : Int) := by omega
  have sub5 : ∀ {h' : Eng.Heap}, (∀ x, (∀ b, h b = none → x ≠ b) → h' x = h x) → Eng.Sub h h' := by
    intro h' hx x o ho
    rw [hx x (fun b hb e => by subst e; rw [hb] at ho; cases ho)]
    exact ho
  intro fb g0
  refine ⟨⟨nn, Int.le_refl _, hb4, fun b1 g1 => ⟨⟨nn, Int.le_refl _, hb8, fun b2 g2 b3 g3 => ?_⟩, fun b2 g2 => ⟨⟨nn, Int.le_refl _, hb8, fun b3 g3 => ?_⟩, ?_⟩⟩⟩,
    ⟨⟨nn, Int.le_refl _, hb8, fun b1 g1 => ⟨⟨nn, Int.le_refl _, hb4, fun b2 g2 b3 g3 => ?_⟩, fun b2 g2 => ⟨nn, Int.le_refl _, hb4, fun b3 g3 => ?_⟩⟩⟩,
      fun b1 g1 => ⟨⟨nn, Int.le_refl _, hb4, fun b2 g2 => ⟨⟨nn, Int.le_refl _, hb8, fun b3 g3 => ?_⟩, ?_⟩⟩, ⟨nn, Int.le_refl _, hb8, fun b2 g2 => ⟨nn, Int.le_refl _, hb4, fun b3 g3 => ?_⟩⟩⟩⟩⟩
  have so : ∀ {T : TypeId} {b b' : Nat} {h : Eng.Heap} {o : Obj} {v : Value}, b' ≠ b → (upd h b (.cells #[v] T)) b' = h b' := fun e => upd_off e
  · simp only [upd_none] at g1 g2 g3
    refine sto1 (b := b3) upd_at (ns _ (by first | exact g1.2 | exact g2.2.2 | exact g3.2.2.2)) ?_
    intro b4 g4
    simp only [upd_none] at g4
    refine sto2 upd_at (ns _ (by simp only [g4])) ?_
    refine endP.intro stA0 rfl rfl rfl rfl ⟨fb, b1, b2, b3, b4, rfl, rfl, ?_, rfl, rfl, rfl, ?_, ?_, ?_, ?_, ?_, ?_, ?_, ?_⟩
    all_goals first
      | (simp only [got, stA0, Tr.wp, mksW, callW, Ex.ev, coerce, toInt_int, toBool_bool, slL_sl, slC_sl, slA_sl, toAddr_ptr, ptrOf_ptr, isNil_sl, isNil_ptr, it_and, it_or, it_int, optN_int, optN_nl, cmpI, arith, Cst.val, SV.den, resShs, resV, resSV, resVals, newVars, runCells, exSh, allSh, cellsAre, List.flatMap_cons, List.flatMap_nil, List.replicate_one, List.getD_cons_zero, List.getD_cons_succ, List.getElem?_cons_zero, List.getElem?_cons_succ, decide_eq_true_eq, decide_eq_false_iff_not, List.map_cons, List.map_nil, List.cons_append, List.nil_append, List.append_nil, List.length_cons, List.length_nil, Nat.zero_add, Nat.add_zero, and_true, true_and, if_true, if_false, Bool.false_eq_true]; rw [e1]; done)
      | (simp only [List.nodup_cons, List.mem_cons, List.not_mem_nil, or_false, not_or, not_false_eq_true, List.nodup_nil, and_true]; omega)
      | (intro b hb; simp only [List.mem_cons, List.not_mem_nil, or_false] at hb; rcases hb with rfl | rfl | rfl | rfl | rfl <;> first | exact g0 | exact g1.2 | exact g2.2.2 | exact g3.2.2.2 | exact g4.2.2.2.2.2 | exact g2.2.2.2 | exact g3.2.2.2.2)
      | (refine sub5 fun x hx => ?_; simp only [upd]; repeat rw [if_neg (hx _ (by first | exact g0 | exact g1.2 | exact g2.2.2 | exact g3.2.2.2 | exact g4.2.2.2.2.2 | exact g3.2.2.2.2))])
      | (simp only [upd, wgBlock]; repeat first | rw [if_pos trivial] | rw [if_pos rfl] | rw [if_neg (by omega)])
  · simp only [upd_none] at g1 g2 g3
    refine sto1 (b := b2) ((upd_off (by omega)).trans upd_at) (ns _ (by first | exact g1.2 | exact g2.2.2 | exact g3.2.2.2)) ?_
    intro b4 g4
    simp only [upd_none] at g4
    refine sto2 upd_at (ns _ (by simp only [g4])) ?_
    refine endP.intro stA1 rfl rfl rfl rfl ⟨fb, b1, b3, b2, b4, rfl, rfl, ?_, rfl, rfl, rfl, ?_, ?_, ?_, ?_, ?_, ?_, ?_, ?_⟩
    all_goals first
      | (simp only [got, stA1, Tr.wp, mksW, callW, Ex.ev, coerce, toInt_int, toBool_bool, slL_sl, slC_sl, slA_sl, toAddr_ptr, ptrOf_ptr, isNil_sl, isNil_ptr, it_and, it_or, it_int, optN_int, optN_nl, cmpI, arith, Cst.val, SV.den, resShs, resV, resSV, resVals, newVars, runCells, exSh, allSh, cellsAre, List.flatMap_cons, List.flatMap_nil, List.replicate_one, List.getD_cons_zero, List.getD_cons_succ, List.getElem?_cons_zero, List.getElem?_cons_succ, decide_eq_true_eq, decide_eq_false_iff_not, List.map_cons, List.map_nil, List.cons_append, List.nil_append, List.append_nil, List.length_cons, List.length_nil, Nat.zero_add, Nat.add_zero, and_true, true_and, if_true, if_false, Bool.false_eq_true]; rw [e1]; done)
      | (simp only [List.nodup_cons, List.mem_cons, List.not_mem_nil, or_false, not_or, not_false_eq_true, List.nodup_nil, and_true]; omega)
      | (intro b hb; simp only [List.mem_cons, List.not_mem_nil, or_false] at hb; rcases hb with rfl | rfl | rfl | rfl | rfl <;> first | exact g0 | exact g1.2 | exact g2.2.2 | exact g3.2.2.2 | exact g4.2.2.2.2.2 | exact g2.2.2.2 | exact g3.2.2.2.2)
      | (refine sub5 fun x hx => ?_; simp only [upd]; repeat rw [if_neg (hx _ (by first | exact g0 | exact g1.2 | exact g2.2.2 | exact g3.2.2.2 | exact g4.2.2.2.2.2 | exact g3.2.2.2.2))])
      | (simp only [upd, wgBlock]; repeat first | rw [if_pos trivial] | rw [if_pos rfl] | rw [if_neg (by omega)])
  · simp only [upd_none] at g1 g2
    refine sto1 (b := b2) upd_at (ns _ (by first | exact g1.2 | exact g2.2.2)) ⟨nn, Int.le_refl _, hb8, fun b3 g3 => ?_⟩
    simp only [upd_none] at g3
    intro b4 g4
    simp only [upd_none] at g4
    refine sto2 upd_at (ns _ (by simp only [g4])) ?_
    refine endP.intro stA2 rfl rfl rfl rfl ⟨fb, b1, b3, b2, b4, rfl, rfl, ?_, rfl, rfl, rfl, ?_, ?_, ?_, ?_, ?_, ?_, ?_, ?_⟩
    all_goals first
      | (simp only [got, stA2, Tr.wp, mksW, callW, Ex.ev, coerce, toInt_int, toBool_bool, slL_sl, slC_sl, slA_sl, toAddr_ptr, ptrOf_ptr, isNil_sl, isNil_ptr, it_and, it_or, it_int, optN_int, optN_nl, cmpI, arith, Cst.val, SV.den, resShs, resV, resSV, resVals, newVars, runCells, exSh, allSh, cellsAre, List.flatMap_cons, List.flatMap_nil, List.replicate_one, List.getD_cons_zero, List.getD_cons_succ, List.getElem?_cons_zero, List.getElem?_cons_succ, decide_eq_true_eq, decide_eq_false_iff_not, List.map_cons, List.map_nil, List.cons_append, List.nil_append, List.append_nil, List.length_cons, List.length_nil, Nat.zero_add, Nat.add_zero, and_true, true_and, if_true, if_false, Bool.false_eq_true]; rw [e1]; done)
      | (simp only [List.nodup_cons, List.mem_cons, List.not_mem_nil, or_false, not_or, not_false_eq_true, List.nodup_nil, and_true]; omega)
      | (intro b hb; simp only [List.mem_cons, List.not_mem_nil, or_false] at hb; rcases hb with rfl | rfl | rfl | rfl | rfl <;> first | exact g0 | exact g1.2 | exact g2.2.2 | exact g3.2.2.2 | exact g4.2.2.2.2.2 | exact g2.2.2.2 | exact g3.2.2.2.2)
      | (refine sub5 fun x hx => ?_; simp only [upd]; repeat rw [if_neg (hx _ (by first | exact g0 | exact g1.2 | exact g2.2.2 | exact g3.2.2.2 | exact g4.2.2.2.2.2 | exact g3.2.2.2.2))])
      | (simp only [upd, wgBlock]; repeat first | rw [if_pos trivial] | rw [if_pos rfl] | rw [if_neg (by omega)])
  · simp only [upd_none] at g1 g2 g3
    refine sto1 (b := b3) upd_at (ns _ (by first | exact g1.2 | exact g2.2.2 | exact g3.2.2.2)) ?_
    intro b4 g4
    simp only [upd_none] at g4
    refine sto2 upd_at (ns _ (by simp only [g4])) ?_
    refine endP.intro stA3 rfl rfl rfl rfl ⟨fb, b2, b1, b3, b4, rfl, rfl, ?_, rfl, rfl, rfl, ?_, ?_, ?_, ?_, ?_, ?_, ?_, ?_⟩
    all_goals first
      | (simp only [got, stA3, Tr.wp, mksW, callW, Ex.ev, coerce, toInt_int, toBool_bool, slL_sl, slC_sl, slA_sl, toAddr_ptr, ptrOf_ptr, isNil_sl, isNil_ptr, it_and, it_or, it_int, optN_int, optN_nl, cmpI, arith, Cst.val, SV.den, resShs, resV, resSV, resVals, newVars, runCells, exSh, allSh, cellsAre, List.flatMap_cons, List.flatMap_nil, List.replicate_one, List.getD_cons_zero, List.getD_cons_succ, List.getElem?_cons_zero, List.getElem?_cons_succ, decide_eq_true_eq, decide_eq_false_iff_not, List.map_cons, List.map_nil, List.cons_append, List.nil_append, List.append_nil, List.length_cons, List.length_nil, Nat.zero_add, Nat.add_zero, and_true, true_and, if_true, if_false, Bool.false_eq_true]; rw [e1]; done)
      | (simp only [List.nodup_cons, List.mem_cons, List.not_mem_nil, or_false, not_or, not_false_eq_true, List.nodup_nil, and_true]; omega)
      | (intro b hb; simp only [List.mem_cons, List.not_mem_nil, or_false] at hb; rcases hb with rfl | rfl | rfl | rfl | rfl <;> first | exact g0 | exact g1.2 | exact g2.2.2 | exact g3.2.2.2 | exact g4.2.2.2.2.2 | exact g2.2.2.2 | exact g3.2.2.2.2)
      | (refine sub5 fun x hx => ?_; simp only [upd]; repeat rw [if_neg (hx _ (by first | exact g0 | exact g1.2 | exact g2.2.2 | exact g3.2.2.2 | exact g4.2.2.2.2.2 | exact g3.2.2.2.2))])
      | (simp only [upd, wgBlock]; repeat first | rw [if_pos trivial] | rw [if_pos rfl] | rw [if_neg (by omega)])
  · simp only [upd_none] at g1 g2 g3
    refine sto1 (b := b2) ((upd_off (by omega)).trans upd_at) (ns _ (by first | exact g1.2 | exact g2.2.2 | exact g3.2.2.2)) ?_
    intro b4 g4
    simp only [upd_none] at g4
    refine sto2 upd_at (ns _ (by simp only [g4])) ?_
    refine endP.intro stA4 rfl rfl rfl rfl ⟨fb, b3, b1, b2, b4, rfl, rfl, ?_, rfl, rfl, rfl, ?_, ?_, ?_, ?_, ?_, ?_, ?_, ?_⟩
    all_goals first
      | (simp only [got, stA4, Tr.wp, mksW, callW, Ex.ev, coerce, toInt_int, toBool_bool, slL_sl, slC_sl, slA_sl, toAddr_ptr, ptrOf_ptr, isNil_sl, isNil_ptr, it_and, it_or, it_int, optN_int, optN_nl, cmpI, arith, Cst.val, SV.den, resShs, resV, resSV, resVals, newVars, runCells, exSh, allSh, cellsAre, List.flatMap_cons, List.flatMap_nil, List.replicate_one, List.getD_cons_zero, List.getD_cons_succ, List.getElem?_cons_zero, List.getElem?_cons_succ, decide_eq_true_eq, decide_eq_false_iff_not, List.map_cons, List.map_nil, List.cons_append, List.nil_append, List.append_nil, List.length_cons, List.length_nil, Nat.zero_add, Nat.add_zero, and_true, true_and, if_true, if_false, Bool.false_eq_true]; rw [e1]; done)
      | (simp only [List.nodup_cons, List.mem_cons, List.not_mem_nil, or_false, not_or, not_false_eq_true, List.nodup_nil, and_true]; omega)
      | (intro b hb; simp only [List.mem_cons, List.not_mem_nil, or_false] at hb; rcases hb with rfl | rfl | rfl | rfl | rfl <;> first | exact g0 | exact g1.2 | exact g2.2.2 | exact g3.2.2.2 | exact g4.2.2.2.2.2 | exact g2.2.2.2 | exact g3.2.2.2.2)
      | (refine sub5 fun x hx => ?_; simp only [upd]; repeat rw [if_neg (hx _ (by first | exact g0 | exact g1.2 | exact g2.2.2 | exact g3.2.2.2 | exact g4.2.2.2.2.2 | exact g3.2.2.2.2))])
      | (simp only [upd, wgBlock]; repeat first | rw [if_pos trivial] | rw [if_pos rfl] | rw [if_neg (by omega)])
  · simp only [upd_none] at g1 g2 g3
    refine sto1 (b := b1) ((upd_off (by omega)).trans ((upd_off (by omega)).trans upd_at)) (ns _ (by first | exact g1.2 | exact g2.2.2 | exact g3.2.2.2)) ?_
    intro b4 g4
    simp only [upd_none] at g4
    refine sto2 upd_at (ns _ (by simp only [g4])) ?_
    refine endP.intro stA5 rfl rfl rfl rfl ⟨fb, b2, b3, b1, b4, rfl, rfl, ?_, rfl, rfl, rfl, ?_, ?_, ?_, ?_, ?_, ?_, ?_, ?_⟩
    all_goals first
      | (simp only [got, stA5, Tr.wp, mksW, callW, Ex.ev, coerce, toInt_int, toBool_bool, slL_sl, slC_sl, slA_sl, toAddr_ptr, ptrOf_ptr, isNil_sl, isNil_ptr, it_and, it_or, it_int, optN_int, optN_nl, cmpI, arith, Cst.val, SV.den, resShs, resV, resSV, resVals, newVars, runCells, exSh, allSh, cellsAre, List.flatMap_cons, List.flatMap_nil, List.replicate_one, List.getD_cons_zero, List.getD_cons_succ, List.getElem?_cons_zero, List.getElem?_cons_succ, decide_eq_true_eq, decide_eq_false_iff_not, List.map_cons, List.map_nil, List.cons_append, List.nil_append, List.append_nil, List.length_cons, List.length_nil, Nat.zero_add, Nat.add_zero, and_true, true_and, if_true, if_false, Bool.false_eq_true]; rw [e1]; done)
      | (simp only [List.nodup_cons, List.mem_cons, List.not_mem_nil, or_false, not_or, not_false_eq_true, List.nodup_nil, and_true]; omega)
      | (intro b hb; simp only [List.mem_cons, List.not_mem_nil, or_false] at hb; rcases hb with rfl | rfl | rfl | rfl | rfl <;> first | exact g0 | exact g1.2 | exact g2.2.2 | exact g3.2.2.2 | exact g4.2.2.2.2.2 | exact g2.2.2.2 | exact g3.2.2.2.2)
      | (refine sub5 fun x hx => ?_; simp only [upd]; repeat rw [if_neg (hx _ (by first | exact g0 | exact g1.2 | exact g2.2.2 | exact g3.2.2.2 | exact g4.2.2.2.2.2 | exact g3.2.2.2.2))])
      | (simp only [upd, wgBlock]; repeat first | rw [if_pos trivial] | rw [if_pos rfl] | rw [if_neg (by omega)])
  · simp only [upd_none] at g1 g2
    refine sto1 (b := b1) ((upd_off (by omega)).trans upd_at) (ns _ (by first | exact g1.2 | exact g2.2.2)) ⟨nn, Int.le_refl _, hb8, fun b3 g3 => ?_⟩
    simp only [upd_none] at g3
    intro b4 g4
    simp only [upd_none] at g4
    refine sto2 upd_at (ns _ (by simp only [g4])) ?_
    refine endP.intro stA6 rfl rfl rfl rfl ⟨fb, b2, b3, b1, b4, rfl, rfl, ?_, rfl, rfl, rfl, ?_, ?_, ?_, ?_, ?_, ?_, ?_, ?_⟩
    all_goals first
      | (simp only [got, stA6, Tr.wp, mksW, callW, Ex.ev, coerce, toInt_int, toBool_bool, slL_sl, slC_sl, slA_sl, toAddr_ptr, ptrOf_ptr, isNil_sl, isNil_ptr, it_and, it_or, it_int, optN_int, optN_nl, cmpI, arith, Cst.val, SV.den, resShs, resV, resSV, resVals, newVars, runCells, exSh, allSh, cellsAre, List.flatMap_cons, List.flatMap_nil, List.replicate_one, List.getD_cons_zero, List.getD_cons_succ, List.getElem?_cons_zero, List.getElem?_cons_succ, decide_eq_true_eq, decide_eq_false_iff_not, List.map_cons, List.map_nil, List.cons_append, List.nil_append, List.append_nil, List.length_cons, List.length_nil, Nat.zero_add, Nat.add_zero, and_true, true_and, if_true, if_false, Bool.false_eq_true]; rw [e1]; done)
      | (simp only [List.nodup_cons, List.mem_cons, List.not_mem_nil, or_false, not_or, not_false_eq_true, List.nodup_nil, and_true]; omega)
      | (intro b hb; simp only [List.mem_cons, List.not_mem_nil, or_false] at hb; rcases hb with rfl | rfl | rfl | rfl | rfl <;> first | exact g0 | exact g1.2 | exact g2.2.2 | exact g3.2.2.2 | exact g4.2.2.2.2.2 | exact g2.2.2.2 | exact g3.2.2.2.2)
      | (refine sub5 fun x hx => ?_; simp only [upd]; repeat rw [if_neg (hx _ (by first | exact g0 | exact g1.2 | exact g2.2.2 | exact g3.2.2.2 | exact g4.2.2.2.2.2 | exact g3.2.2.2.2))])
      | (simp only [upd, wgBlock]; repeat first | rw [if_pos trivial] | rw [if_pos rfl] | rw [if_neg (by omega)])
  · simp only [upd_none] at g1 g2 g3
    refine sto1 (b := b1) ((upd_off (by omega)).trans ((upd_off (by omega)).trans upd_at)) (ns _ (by first | exact g1.2 | exact g2.2.2 | exact g3.2.2.2)) ?_
    intro b4 g4
    simp only [upd_none] at g4
    refine sto2 upd_at (ns _ (by simp only [g4])) ?_
    refine endP.intro stA7 rfl rfl rfl rfl ⟨fb, b3, b2, b1, b4, rfl, rfl, ?_, rfl, rfl, rfl, ?_, ?_, ?_, ?_, ?_, ?_, ?_, ?_⟩
    all_goals first
      | (simp only [got, stA7, Tr.wp, mksW, callW, Ex.ev, coerce, toInt_int, toBool_bool, slL_sl, slC_sl, slA_sl, toAddr_ptr, ptrOf_ptr, isNil_sl, isNil_ptr, it_and, it_or, it_int, optN_int, optN_nl, cmpI, arith, Cst.val, SV.den, resShs, resV, resSV, resVals, newVars, runCells, exSh, allSh, cellsAre, List.flatMap_cons, List.flatMap_nil, List.replicate_one, List.getD_cons_zero, List.getD_cons_succ, List.getElem?_cons_zero, List.getElem?_cons_succ, decide_eq_true_eq, decide_eq_false_iff_not, List.map_cons, List.map_nil, List.cons_append, List.nil_append, List.append_nil, List.length_cons, List.length_nil, Nat.zero_add, Nat.add_zero, and_true, true_and, if_true, if_false, Bool.false_eq_true]; rw [e1]; done)
      | (simp only [List.nodup_cons, List.mem_cons, List.not_mem_nil, or_false, not_or, not_false_eq_true, List.nodup_nil, and_true]; omega)
      | (intro b hb; simp only [List.mem_cons, List.not_mem_nil, or_false] at hb; rcases hb with rfl | rfl | rfl | rfl | rfl <;> first | exact g0 | exact g1.2 | exact g2.2.2 | exact g3.2.2.2 | exact g4.2.2.2.2.2 | exact g2.2.2.2 | exact g3.2.2.2.2)
      | (refine sub5 fun x hx => ?_; simp only [upd]; repeat rw [if_neg (hx _ (by first | exact g0 | exact g1.2 | exact g2.2.2 | exact g3.2.2.2 | exact g4.2.2.2.2.2 | exact g3.2.2.2.2))])
      | (simp only [upd, wgBlock]; repeat first | rw [if_pos trivial] | rw [if_pos rfl] | rw [if_neg (by omega)])

/-- The length of part number i of l bytes. -/
def partLen (l i : Nat) : Nat := min ((i + 1) * 32768) l - i * 32768
/-- Part number i. -/
def partOf (xs : List Int) (i : Nat) : List Int := (xs.drop (i * 32768)).take (partLen xs.length i)
theorem partOf_length (xs : List Int) (i : Nat) : (partOf xs i).length = partLen xs.length i := by
  unfold partOf partLen; rw [List.length_take, List.length_drop]; omega
/-- The sizes' cells, j of n told. -/
def szv (n l j : Nat) : Array Value := ((List.range n).map fun i => if i < j then Value.int .i64 (partLen l i) else .int .i64 0).toArray
theorem szv_size (n l j : Nat) : (szv n l j).size = n := by simp [szv]
theorem szv_zero (n l : Nat) : mkCells n #[.int .i64 0] = szv n l 0 := by
  apply Array.ext
  · simp [mkCells, szv]
  · intro i h1 h2
    simp [mkCells, szv, Nat.mod_one]
theorem szv_set {n l j : Nat} (hj : j < n) : (szv n l j).setIfInBounds j (.int .i64 (partLen l j)) = szv n l (j + 1) := by
  apply Array.ext
  · simp [szv]
  · intro i h1 h2
    simp only [szv]
    by_cases e : j = i
    · subst e; simp
    · have e2 : (i < j + 1) = (i < j) := by apply propext; omega
      simp [Array.getElem_setIfInBounds, e, e2]

/-- What is known once a part is laid out. -/
def RB (h0 h : Eng.Heap) (xs : List Int) (da : Value) (fb sb bS wg n j : Nat) (f : Nat → Value) (h' : Eng.Heap) : Prop :=
  ∃ (ib pb : Nat) (a' : Option Addr) (c' : Nat), f 0 = da ∧ f 3 = .pointer (some ⟨fb, 0, none⟩) ∧ f 7 = .pointer (some ⟨sb, 0, none⟩) ∧ f 8 = .slice (some ⟨bS, 0, none⟩) n n ∧ f 9 = .pointer (some ⟨wg, 0, none⟩) ∧
    f 10 = .pointer (some ⟨ib, 0, none⟩) ∧ f 11 = .pointer (some ⟨pb, 0, none⟩) ∧ f 22 = .int .i64 n ∧ f 23 = .int .i64 j ∧
    h ib = none ∧ h pb = none ∧ ib ≠ pb ∧ HInts h0 .u8 a' (partOf xs j) ∧ h' ib = some (.cells #[.int .i64 j] 3) ∧ h' pb = some (.cells #[.slice a' (partOf xs j).length c'] 23) ∧
    h' bS = some (.cells (szv n xs.length (j + 1)) 2) ∧ ∀ x, x ≠ ib → x ≠ pb → x ≠ bS → h' x = h x

set_option maxRecDepth 100000 in
theorem wpB {h0 : Eng.Heap} {a : Option Addr} {c : Nat} {xs : List Int} (hx : HInts h0 .u8 a xs) (hc : xs.length ≤ c) (hl : xs.length < 2 ^ 40) (hi : Inv S h) {n j : Nat} (hn : n = (xs.length + 32767) / 32768) (hj : j < n)
    {fb sb bS wg : Nat} (hS : ¬ S bS) (hbS : h bS = some (.cells (szv n xs.length j) 2)) :
    tBk.wp Try.prog S (endP 47 [0, 3, 7, 8, 9, 10, 11, 22, 23] (RB h0 h xs (.slice a xs.length c) fb sb bS wg n j)) (fun _ _ => True)
      [.slice a xs.length c, .pointer (some ⟨fb, 0, none⟩), .pointer (some ⟨sb, 0, none⟩), .slice (some ⟨bS, 0, none⟩) n n, .pointer (some ⟨wg, 0, none⟩), .int .i64 n, .int .i64 j] h [] := by
  have ns : ∀ b, h b = none → ¬ S b := fun b hb hS => hi b hS hb
  have w1 : IntKind.i64.wrap ((j : Int) * 32768) = ((j * 32768 : Nat) : Int) := by rw [IntKind.wrap_i64]; omega
  have w2 : IntKind.i64.wrap ((j : Int) + 1) = (j : Int) + 1 := by rw [IntKind.wrap_i64]; omega
  have w3 : IntKind.i64.wrap (((j : Int) + 1) * 32768) = (((j + 1) * 32768 : Nat) : Int) := by rw [IntKind.wrap_i64]; omega
  simp only [tBk, Tr.wp, mksW, callW, Ex.ev, coerce, toInt_int, toBool_bool, slL_sl, slC_sl, slA_sl, toAddr_ptr, ptrOf_ptr, isNil_sl, isNil_ptr, it_and, it_or, it_int, optN_int, optN_nl, cmpI, arith, Cst.val, SV.den, resShs, resV, resSV, resVals, newVars, runCells, exSh, allSh, cellsAre, List.flatMap_cons, List.flatMap_nil, List.replicate_one, List.getD_cons_zero, List.getD_cons_succ, List.getElem?_cons_zero, List.getElem?_cons_succ, decide_eq_true_eq, decide_eq_false_iff_not, List.map_cons, List.map_nil, List.cons_append, List.nil_append, List.append_nil, List.length_cons, List.length_nil, Nat.zero_add, Nat.add_zero, and_true, true_and, if_true, if_false, Bool.false_eq_true, w1, w2, w3]
  intro ib g0
  refine sto1 upd_at (ns _ g0) ?_
  have eM : (if (xs.length : Int) < (((j + 1) * 32768 : Nat) : Int) then (xs.length : Int) else (((j + 1) * 32768 : Nat) : Int)) = ((min ((j + 1) * 32768) xs.length : Nat) : Int) := by split <;> omega
  have cell1 : ∀ {h : Eng.Heap} {b : Nat} {v : Value} {T : TypeId}, h b = some (.cells #[v] T) → hcell h (Addr.add ⟨b, 0, none⟩ 0) = some v := fun hb => by simp [hcell, Addr.add, hb]
  refine ⟨j, cell1 upd_at, j, cell1 upd_at, ?_⟩
  simp only [w1, w2, w3, eM, Int.toNat_natCast]
  obtain ⟨a', es, hp⟩ := slSub_ints hx (lo := j * 32768) (hi := min ((j + 1) * 32768) xs.length) (m := c) (by omega) (by omega) (by omega)
  rw [es]
  have ep : (xs.drop (j * 32768)).take (min ((j + 1) * 32768) xs.length - j * 32768) = partOf xs j := rfl
  rw [ep] at hp ⊢
  refine ⟨by omega, by omega, by omega, by omega, fun pb g1 => ?_⟩
  simp only [upd_none] at g1
  have hbi : bS ≠ ib := fun e => by subst e; rw [g0] at hbS; cases hbS
  have hbp : bS ≠ pb := fun e => by subst e; rw [g1.2.2] at hbS; cases hbS
  refine sto1 upd_at (ns _ g1.2.2) ?_
  refine ⟨j, cell1 ((upd_off (Ne.symm g1.1)).trans ((upd_off (Ne.symm g1.1)).trans upd_at)), a', _, _, cell1 upd_at, rfl, by omega, by omega, ?_⟩
  refine stoN (cs := szv n xs.length j) (T := 2) ?_ (by rw [szv_size]; exact hj) hS ?_
  · rw [upd_off hbp, upd_off hbp, upd_off hbi, upd_off hbi]; exact hbS
  refine endP.intro stBk0 rfl rfl rfl rfl ⟨ib, pb, a', c - j * 32768, rfl, rfl, rfl, rfl, rfl, rfl, rfl, rfl, rfl, g0, g1.2.2, Ne.symm g1.1, hp, ?_, ?_, ?_, ?_⟩
  · rw [upd_off (Ne.symm hbi), upd_off (Ne.symm g1.1), upd_off (Ne.symm g1.1), upd_at]
  · rw [upd_off (Ne.symm hbp), upd_at]
  · rw [upd_at, partOf_length, szv_set hj]
  · intro x h1 h2 h3
    rw [upd_off h3, upd_off h2, upd_off h2, upd_off h1, upd_off h1]
end
end Go.Proofs.Ytmnialmphlbmaaa
