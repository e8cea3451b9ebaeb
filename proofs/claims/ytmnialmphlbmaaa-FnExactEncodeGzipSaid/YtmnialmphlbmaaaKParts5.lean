import Derived.Test.YtmnialmphlbmaaaKParts4
set_option linter.unusedVariables false
set_option linter.unusedSimpArgs false
namespace Go.Proofs.Ytmnialmphlbmaaa
open Go Go.Eng Go.Conc Go.RowKit Go.Conc.Lib Go.ConcR.Gen
open Go.ConcR (KK wgBlock WgAt stA smA rd wr DC0 Payload)

theorem bodyP_some : Try.f30.body = some bodyP := by kernel_rfl
theorem ntmpsP : Try.f30.ntmps = 47 := by kernel_rfl
theorem resP : Try.f30.results.toList = cP.results := by kernel_rfl
/-- The sums of the parts. -/
def sumsV (F : List Int → Int) (xs : List Int) (n : Nat) : Array Value := ((List.range n).map fun i => Value.int .u32 (F (partOf xs i))).toArray

theorem two0 (v0 v1 : Value) (m : Nat) : (#[v0, v1] ++ Array.replicate m undef).getD 0 undef = v0 := by
  rw [Array.getD_eq_getD_getElem?, Array.getElem?_append_left (by simp)]; rfl
theorem two1 (v0 v1 : Value) (m : Nat) : (#[v0, v1] ++ Array.replicate m undef).getD 1 undef = v1 := by
  rw [Array.getD_eq_getD_getElem?, Array.getElem?_append_left (by simp)]; rfl

/-- The phase of inParts. -/
def phP (H : Eng.Heap) (wg bC bS n : Nat) (F : List Int → Int) (xs : List Int) : Ph :=
  { ty := 70, Wg := wg, C := bC, ety := 22, n := n, S := ⟨fun y => H y ≠ none ∧ y ≠ wg ∧ y ≠ bC ∧ y ≠ bS, fun _ _ _ _ => False⟩, val := fun i => .int .u32 (F (partOf xs i)) }

set_option maxRecDepth 100000 in
theorem g_impl_inParts {s : Nat → Prop} {h : Eng.Heap} (hi : Inv (Team Try.prog s) h) {x : Option Addr} {c : Nat} {xs : List Int} (hx : HInts h .u8 x xs) (hc : xs.length ≤ c) (hl : xs.length < 2 ^ 40) {g : FuncId} {F : List Int → Int}
    (hsum : ∀ (S' : Shared) (h' : Eng.Heap) (a' : Option Addr) (c' : Nat) (ys : List Int), Inv S' h' → HInts h' .u8 a' ys → ys.length ≤ 32768 → (∀ y ∈ ys, y ∈ xs) → CallsH Try.prog S' g #[.slice a' ys.length c'] h' (fun v h'' => v = .int .u32 (F ys) ∧ Eng.Sub h' h'')) {n : Nat} (hn : n = (xs.length + 32767) / 32768) :
    CallsH Try.prog (Team Try.prog s) F_impl_inParts #[.slice x xs.length c, .func (.func g) #[] #[]] h (fun v h' => ∃ bC bS, v = .tuple #[.slice (some ⟨bC, 0, none⟩) n n, .slice (some ⟨bS, 0, none⟩) n n] ∧
      h' bC = some (.cells (sumsV F xs n) 22) ∧ h' bS = some (.cells (szv n xs.length n) 2) ∧ Eng.Sub h h') := by
  refine .inl ⟨fun vs w => ent_of Try.func30 (by kernel_rfl) (by kernel_rfl) vs w, fun cs => ?_⟩
  have hent : Frame.enter Try.prog F_impl_inParts #[.slice x xs.length c, .func (.func g) #[] #[]] .normal = (Frame.enter Try.prog F_impl_inParts #[.slice x xs.length c, .func (.func g) #[] #[]] .normal).at
      { tmps := #[.slice x xs.length c, .func (.func g) #[] #[]] ++ Array.replicate (Try.f30.ntmps - (#[.slice x xs.length c, .func (.func g) #[] #[]] : Array Value).size) undef, defers := [] } [.code bodyP] := by
    simp [Frame.enter, Frame.at, F_impl_inParts, Try.func30, bodyP_some]
  have hkind : (Frame.enter Try.prog F_impl_inParts #[.slice x xs.length c, .func (.func g) #[] #[]] .normal).kind = .normal := rfl
  have hfn : (Frame.enter Try.prog F_impl_inParts #[.slice x xs.length c, .func (.func g) #[] #[]] .normal).fn = F_impl_inParts := rfl
  rw [hent]
  generalize Frame.enter Try.prog F_impl_inParts #[.slice x xs.length c, .func (.func g) #[] #[]] .normal = b at hkind hfn
  rw [bodyP_eq, ntmpsP]
  refine (piece_ok (rs := [rP 0, rP 1, rP 2, rP 3]) (ps := [(0, .slice), (1, .fnv)]) (env := [.slice x xs.length c, .func (.func g) #[] #[]]) tabPOk mixedP sA ⟨two0 _ _ _, rfl, two1 _ _ _, rfl, trivial⟩ (by simp) rfl hi (wpA rfl hi hl hn)).bind ?_
  rintro _ cs H ⟨rfl, a, f, h', rfl, hsz, hdf, hf, ⟨fb, bC, bS, sb, wg, r0, r3, r6, r7, r8, r9, hnd, hnone, hsubh, cfb, cbC, cbS, csb, cwg⟩, hsub, hinv⟩
  have sH : Eng.Sub h H := fun y o ho => hsub y o (hsubh y o ho)
  have iH : Inv (Team Try.prog s) H := fun y hy => by
    cases e : h y with
    | none => exact absurd e (hi y hy)
    | some o => rw [sH y o e]; simp
  replace cfb := hsub _ _ cfb
  replace cbC := hsub _ _ cbC
  replace cbS := hsub _ _ cbS
  replace csb := hsub _ _ csb
  replace cwg := hsub _ _ cwg
  simp only [List.nodup_cons, List.mem_cons, List.not_mem_nil, or_false, not_or, not_false_eq_true, List.nodup_nil, and_true] at hnd
  have hne : ∀ y, h y ≠ none → y ≠ wg ∧ y ≠ bC ∧ y ≠ bS := fun y hy => ⟨fun e => hy (hnone y (by simp [e])), fun e => hy (hnone y (by simp [e])), fun e => hy (hnone y (by simp [e]))⟩
  have q : ∀ i, i ∈ ([0, 3, 6, 7, 8, 9] : List Nat) → a.tmps.getD i undef = f i := hf
  refine .seq ?_
  refine (piece_ok (rs := [rP 4]) (ps := [(0, .slice), (3, .addr), (7, .addr), (8, .slice), (9, .addr), (6, .int .i64)])
    (env := [.slice x xs.length c, .pointer (some ⟨fb, 0, none⟩), .pointer (some ⟨sb, 0, none⟩), .slice (some ⟨bS, 0, none⟩) n n, .pointer (some ⟨wg, 0, none⟩), .int .i64 n]) (is := [0, 3, 7, 8, 9, 22, 23]) (R := RS H (.slice x xs.length c) fb sb bS wg n 0) (c := .block 0 (.loop loopP)) tabPOk mixedP s4
    ⟨(q 0 (by simp)).trans r0, rfl, (q 3 (by simp)).trans r3, rfl, (q 7 (by simp)).trans r7, rfl, (q 8 (by simp)).trans r8, rfl, (q 9 (by simp)).trans r9, rfl, (q 6 (by simp)).trans r6, rfl, trivial⟩ hsz hdf iH (by
      simp only [t4, Tr.wp]
      exact endP.intro st40 rfl rfl rfl rfl ⟨rfl, rfl, rfl, rfl, rfl, rfl, rfl, rfl⟩)).bind ?_
  rintro _ cs H' ⟨rfl, a1, f1, h1, rfl, hsz1, hdf1, hf1, R1, hsub1, hinv1⟩
  have A1 := AtL.reach hsz1 hdf1 hf1 rfl R1
  obtain ⟨_, _, _, _, _, _, _, rfl⟩ := R1
  replace cfb := hsub1 _ _ cfb
  replace cbC := hsub1 _ _ cbC
  replace cbS := hsub1 _ _ cbS
  replace csb := hsub1 _ _ csb
  replace cwg := hsub1 _ _ cwg
  replace sH : Eng.Sub h H' := fun y o ho => hsub1 y o (sH y o ho)
  clear iH hinv1 hsub1 hsub hf q hinv hsubh
  refine .block (.loop ?_)
  have hk : b.kind ≠ .early := by rw [hkind]; decide
  let Φ := phP H' wg bC bS n F xs
  have hS : ∀ y, Φ.S y ↔ (H' y ≠ none ∧ y ≠ wg ∧ y ≠ bC ∧ y ≠ bS) := fun y => Iff.rfl
  have rest_eq : ∀ y, Φ.S y → Φ.rest H' y = H' y := fun y hy => by
    unfold Ph.rest
    rw [if_neg]
    rintro (e | e)
    · exact hy.2.1 e
    · exact hy.2.2.1 e
  refine .big H' (fun _ => none) (fun fr' cs' h'' => ∃ a2, AtL a2 (.slice x xs.length c) fb sb bS wg n n ∧ Back Try.prog (b.at (a2.put (some 44) (.tuple #[])) [.inRegion (opsP 12) [], .code (rP 13)]) cs fr' cs' ∧
      h'' bC = some (.cells (sumsV F xs n) 22) ∧ h'' bS = some (.cells (szv n xs.length n) 2) ∧ ∀ y, Φ.S y → h'' y = H' y) (plus_none_right _).symm (fun y hy => absurd rfl hy) ?_ ?_
  · refine ⟨Φ, mkCells n #[.int .u32 0], ⟨fun _ _ _ _ h => h, ?_, ?_, cwg, cbC, by simp [mkCells, Φ, phP], fun y hy => ?_, fun y hy => ?_⟩, ?_⟩
    · show n < _
      omega
    · show bC ≠ wg
      omega
    · have e1 := hi y hy
      refine ⟨?_, hne y e1⟩
      cases e : h y with
      | none => exact absurd e e1
      | some o => rw [sH y o e]; simp
    · rw [rest_eq y hy]; exact hy.1
    · refine loopSp (Φ := Φ) (H := H') (h0 := h) (n := n) (g := g) (F := F) rfl (show bC ≠ wg by omega) (fun _ _ _ _ h => h) rfl hx hc hl hn (fun y hy => hy.1) (fun y o ho => ⟨⟨by rw [sH y o ho]; simp, hne y (by rw [ho]; simp)⟩, sH y o ho⟩)
        (fun hy => hy.2.2.2 rfl) ⟨by rw [cfb]; simp, by omega, by omega, by omega⟩ ⟨by rw [csb]; simp, by omega, by omega, by omega⟩ cfb csb (fun i _ => rfl) (fun h' a' c' ys => hsum Φ.S h' a' c' ys) hk ?_ n 0 (by omega) a1 _ A1 rest_eq ?_
      · intro a2 hh A2 hro hbS fr' cs' hB
        refine ⟨a2, A2, hB, ?_, ?_, fun y hy => ?_⟩
        · exact upd_at
        · exact (upd_off (show bS ≠ bC by omega)).trans hbS
        · exact (upd_off hy.2.2.1).trans (hro y hy)
      · unfold Ph.rest
        rw [if_neg (by rintro (e | e); exact absurd (show bS = wg from e) (by omega); exact absurd (show bS = bC from e) (by omega)), cbS, szv_zero]
  · rintro fr' cs' h2 ⟨a2, A2, hB, e1, e2, e3⟩ _ _
    rw [plus_none_right]
    refine hB _ _ _ (.regionEnd ?_)
    have A3 := A2.put 44 (.tuple #[]) (.inr (.inr rfl))
    have i2 : Inv (Team Try.prog s) h2 := fun y hy => by
      have x1 := hi y hy
      cases e : h y with
      | none => exact absurd e x1
      | some o =>
        have x2 := sH y o e
        rw [e3 y ⟨by rw [x2]; simp, hne y x1⟩, x2]; simp
    have s2 : Eng.Sub h h2 := fun y o ho => by
      have x2 := sH y o ho
      rw [e3 y ⟨by rw [x2]; simp, hne y (by rw [ho]; simp)⟩]; exact x2
    have csb2 : h2 sb = some (.cells #[.slice (some ⟨bC, 0, none⟩) n n] 45) := by
      rw [e3 sb ⟨by rw [csb]; simp, by omega, by omega, by omega⟩]; exact csb
    have ha : Ok (Team Try.prog s) h2 (fun _ => none) := ⟨fun b hb => absurd rfl hb, i2⟩
    rw [← plus_none_right h2]
    refine sxC_ok (cfg := cP) (f := F_impl_inParts) (Λ := noLeaf) (Ks := []) tabPOk mixedP hkind hfn Try.func30 resP (rP 13) (stOf 47 [(7, .addr), (8, .slice)]) tZ [.pointer (some ⟨sb, 0, none⟩), .slice (some ⟨bS, 0, none⟩) n n] [] _ _ h2 [] sZ noLeaf_mono
      (Rel.of ⟨A3.s7, rfl, A3.s8, rfl, trivial⟩ A3.sz A3.df) ha rfl ?_ ⟨?_, ?_⟩
    · simp only [tZ, Tr.wp, mksW, callW, Ex.ev, coerce, toInt_int, toBool_bool, slL_sl, slC_sl, slA_sl, toAddr_ptr, ptrOf_ptr, isNil_sl, isNil_ptr, it_and, it_or, it_int, optN_int, optN_nl, cmpI, arith, Cst.val, SV.den, resShs, resV, resSV, resVals, newVars, runCells, exSh, allSh, cellsAre, storeW, List.flatMap_cons, List.flatMap_nil, List.replicate_one, List.getD_cons_zero, List.getD_cons_succ, List.getElem?_cons_zero, List.getElem?_cons_succ, decide_eq_true_eq, decide_eq_false_iff_not, List.map_cons, List.map_nil, List.cons_append, List.nil_append, List.append_nil, List.length_cons, List.length_nil, Nat.zero_add, Nat.add_zero, and_true, true_and, if_true, if_false, Bool.false_eq_true]
      refine ⟨some ⟨bC, 0, none⟩, n, n, by simp [hcell, Addr.add, csb2], bC, bS, ?_, e1, e2, s2⟩
      rfl
    · intro _ _ _ _ _ _ _ h; exact h.elim
    · intro _ _ _ _ _ _ _ _ h; exact h.elim
end Go.Proofs.Ytmnialmphlbmaaa
