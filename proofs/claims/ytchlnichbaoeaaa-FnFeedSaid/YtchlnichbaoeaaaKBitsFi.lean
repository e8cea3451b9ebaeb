import Derived.Test.YtchlnichbaoeaaaKSrc
import Derived.Test.YtchlnichbaoeaaaKMarksP
import Derived.Test.YtchlnichbaoeaaaTrBFi
set_option linter.unusedVariables false
set_option linter.unusedSimpArgs false
namespace Go.Proofs.Ytchlnichbaoeaaa
open Go Go.Eng Go.IntWalk
variable {S : Nat → Prop} {h : Eng.Heap}

/-- What a reader becomes by a chunk. -/
def feedX (xs ys : List Int) : List Int := if xs.length + ys.length ≤ 1000000 then xs ++ ys else xs

theorem k_feed {h0 : Eng.Heap} (hi0 : Eng.Inv S h0) (hs0 : Eng.Sub h0 h) {bs : Nat} {a : Option Addr} {l c : Nat} {p q : Int} {T : TypeId} {xs : List Int} (hb : h bs = some (srcObj (.slice a l c) p q T)) (hbn : h0 bs = none)
    (hp : Part .u8 h (.slice a l c) xs) (hn : New h0 (.slice a l c)) (hne : blkOf (.slice a l c) ≠ some bs) (a2 : Option Addr) (c2 : Nat) (ys : List Int) (hy : HInts h0 .u8 a2 ys) (hl : xs.length + ys.length ≤ 140737488355328) :
    CallsH Try.prog S F_impl_source__feed #[.pointer (some ⟨bs, 0, none⟩), .slice a2 ys.length c2] h (fun v h' => v = .tuple #[] ∧ ∃ a' l' c', h' bs = some (srcObj (.slice a' l' c') p q T) ∧ Part .u8 h' (.slice a' l' c') (xs ++ ys) ∧ New h0 (.slice a' l' c') ∧ Eng.Sub h0 h' ∧ blkOf (.slice a' l' c') ≠ some bs) := by
  have hi := hi0.sub hs0
  obtain ⟨aa, cc, hv, _, _⟩ := hp.ints
  simp only [Value.slice.injEq] at hv
  obtain ⟨rfl, rfl, rfl⟩ := hv
  refine run_impl_source__feed (vs := [.pointer (some ⟨bs, 0, none⟩), .slice a2 ys.length c2]) ⟨rfl, rfl, trivial⟩ hi ?_
  simp only [t_impl_source__feed, Tr.wp, mksW, callW, Ex.ev, coerce, toInt_int, toBool_bool, slL_sl, slC_sl, slA_sl, toAddr_ptr, ptrOf_ptr, isNil_sl, isNil_ptr, it_and, it_or, it_int, optN_int, optN_nl, cmpI, arith, Cst.val, SV.den, resShs, resV, resSV, resVals, newVars, runCells, exSh, allSh, cellsAre, storeW, List.flatMap_cons, List.flatMap_nil, List.replicate_one, List.getD_cons_zero, List.getD_cons_succ, List.getElem?_cons_zero, List.getElem?_cons_succ, decide_eq_true_eq, decide_eq_false_iff_not, List.map_cons, List.map_nil, List.cons_append, List.nil_append, List.append_nil, List.length_cons, List.length_nil, Nat.zero_add, Nat.add_zero, and_true, true_and, if_true, if_false, Bool.false_eq_true]
  obtain ⟨g1, g2, g3⟩ := src_get hb
  refine ⟨by simp, _, _, _, by simpa [addr_add] using g1, ?_⟩
  refine appW_part hi0 hs0 hp hn (hy.sub hs0) (by omega) fun v' h' o n s keep hblk => ?_
  obtain ⟨a3, c3, rfl, _, _⟩ := o.ints
  have hb' : h' bs = some (srcObj (.slice a xs.length c) p q T) := by rw [keep bs (by rw [hb]; simp) hne]; exact hb
  have hsb : ¬ S bs := fun hs => hi0 bs hs hbn
  have hne' : blkOf (.slice a3 (xs ++ ys).length c3) ≠ some bs := by
    rcases hblk with e | hnw
    · rw [e]; exact hne
    · intro e; have := hnw bs e; rw [hb] at this; cases this
  refine ⟨by simp, by simpa [addr_add] using (src_ok hb' hsb).1, ?_⟩
  have e1 := (src_set (w := .slice a3 (xs ++ ys).length c3) (n := 0) hb').1
  simp only [addr_add, Nat.add_zero, Nat.zero_add, Tr.wp, mksW, callW, Ex.ev, coerce, toInt_int, toBool_bool, slL_sl, slC_sl, slA_sl, toAddr_ptr, ptrOf_ptr, isNil_sl, isNil_ptr, it_and, it_or, it_int, optN_int, optN_nl, cmpI, arith, Cst.val, SV.den, resShs, resV, resSV, resVals, newVars, runCells, exSh, allSh, cellsAre, storeW, List.flatMap_cons, List.flatMap_nil, List.replicate_one, List.getD_cons_zero, List.getD_cons_succ, List.getElem?_cons_zero, List.getElem?_cons_succ, decide_eq_true_eq, decide_eq_false_iff_not, List.map_cons, List.map_nil, List.cons_append, List.nil_append, List.append_nil, List.length_cons, List.length_nil, Nat.zero_add, Nat.add_zero, and_true, true_and, if_true, if_false, Bool.false_eq_true] at e1 ⊢
  rw [e1]
  exact ⟨_, _, _, upd_same, o.keep (fun b hb => upd_ne (fun e => hne' (by rw [hb, e]))), n, Sub.upd_new s hbn, hne'⟩

theorem k_impl_BitsFeed (hi : Eng.Inv S h) (a a2 : Option Addr) (c c2 : Nat) (xs ys : List Int) (p q : Int) (hx : HInts h .u8 a xs) (hy : HInts h .u8 a2 ys) (hl : xs.length ≤ 1048576) (hl2 : ys.length ≤ 1048576) :
    CallsH Try.prog S F_impl_BitsFeed #[.agg #[.slice a xs.length c, .int .i64 p, .int .i64 q], .slice a2 ys.length c2] h (fun v h' => ∃ a' l' c' p' q' zs, v = .agg #[.slice a' l' c', .int .i64 p', .int .i64 q'] ∧ Part .u8 h' (.slice a' l' c') zs ∧ New h (.slice a' l' c') ∧ Eng.Sub h h' ∧
      (if vbits xs.length p q then zs = feedX xs ys ∧ p' = p ∧ q' = q else zs = [] ∧ p' = 0 ∧ q' = 0)) := by
  refine run_impl_BitsFeed (vs := [.slice a xs.length c, .int .i64 p, .int .i64 q, .slice a2 ys.length c2]) ⟨rfl, rfl, rfl, rfl, trivial⟩ hi ?_
  simp only [t_impl_BitsFeed, Tr.wp, mksW, callW, Ex.ev, coerce, toInt_int, toBool_bool, slL_sl, slC_sl, slA_sl, toAddr_ptr, ptrOf_ptr, isNil_sl, isNil_ptr, it_and, it_or, it_int, optN_int, optN_nl, cmpI, arith, Cst.val, SV.den, resShs, resV, resSV, resVals, newVars, runCells, exSh, allSh, cellsAre, storeW, List.flatMap_cons, List.flatMap_nil, List.replicate_one, List.getD_cons_zero, List.getD_cons_succ, List.getElem?_cons_zero, List.getElem?_cons_succ, decide_eq_true_eq, decide_eq_false_iff_not, List.map_cons, List.map_nil, List.cons_append, List.nil_append, List.append_nil, List.length_cons, List.length_nil, Nat.zero_add, Nat.add_zero, and_true, true_and, if_true, if_false, Bool.false_eq_true]
  refine (k_impl_ValidBits hi a xs.length c p q).mono ?_
  rintro _ hq ⟨rfl, eq⟩
  rw [eq]
  refine ⟨_, rfl, fun hn => ?_, fun hv => ?_⟩
  · have hn : ¬ vbits xs.length p q := by simpa using hn
    exact ⟨_, _, _, _, _, [], rfl, Part.nil, New.nil, fun _ _ h => h, by rw [if_neg hn]; exact ⟨rfl, rfl, rfl⟩⟩
  have hv : vbits xs.length p q := by simpa using hv
  refine (k_sourceOf hi a c xs p q hx (by omega)).mono ?_
  rintro _ h1 ⟨a', l', c', rfl, o1, n1, s1⟩
  refine ⟨_, _, _, _, _, rfl, fun b hb => ?_⟩
  have ez : ∀ T, Obj.cells (Value.slice none 0 0 :: List.replicate 2 (Value.int IntKind.i64 0)).toArray T = srcObj (.slice none 0 0) 0 0 T := fun _ => rfl
  simp only [ez]
  have hbn : h b = none := by
    cases hh : h b with
    | none => rfl
    | some o => rw [s1 _ _ hh] at hb; cases hb
  have hsb : ¬ S b := fun hs => hi b hs hbn
  obtain ⟨f1, f2, f3, f4⟩ := src_fill (S := S) (h1 := h1) (b := b) (v0 := .slice none 0 0) (v := .slice a' l' c') (p0 := 0) (q0 := 0) (p := p) (q := q) (T := 116) hsb
  refine ⟨f1, f2, f3, ?_⟩
  simp only [f4]
  have w : IntKind.i64.wrap ((xs.length : Int) + ys.length) = xs.length + ys.length := i64_in _ (by omega)
  rw [w]
  have hne : blkOf (.slice a' l' c') ≠ some b := fun e => o1.held b e hb
  have s2 : Eng.Sub h (upd h1 b (srcObj (.slice a' l' c') p q 116)) := Sub.upd_new s1 hbn
  have o2 : Part .u8 (upd h1 b (srcObj (.slice a' l' c') p q 116)) (.slice a' l' c') xs := o1.keep fun x hx => upd_ne fun e => hne (by rw [hx, e])
  refine ⟨fun hle => ?_, fun hgt _ => ?_⟩
  · refine (k_feed hi s2 upd_same hbn o2 n1 hne a2 c2 ys hy (by omega)).mono ?_
    rintro _ h3 ⟨rfl, a3, l3, c3, hb3, o3, n3, s3, _⟩
    refine ⟨rfl, fun _ => ⟨_, _, _, _, _, src_ld hb3, ?_⟩⟩
    refine (k_bits (hi.sub s3) _ _ _ _ _).mono ?_
    rintro _ hq ⟨rfl, eq⟩
    rw [eq]
    refine ⟨_, _, _, _, _, rfl, _, _, _, _, _, _, rfl, o3, n3, s3, ?_⟩
    rw [if_pos hv]
    exact ⟨(if_pos (by omega)).symm, rfl, rfl⟩
  · refine ⟨_, _, _, _, _, src_ld upd_same, ?_⟩
    refine (k_bits (hi.sub s2) _ _ _ _ _).mono ?_
    rintro _ hq ⟨rfl, eq⟩
    rw [eq]
    refine ⟨_, _, _, _, _, rfl, _, _, _, _, _, _, rfl, o2, n1, s2, ?_⟩
    rw [if_pos hv]
    exact ⟨(if_neg (by omega)).symm, rfl, rfl⟩
end Go.Proofs.Ytchlnichbaoeaaa
