import Derived.Test.YtmnialmphlbmaaaKParts3
set_option linter.unusedVariables false
set_option linter.unusedSimpArgs false
namespace Go.Proofs.Ytmnialmphlbmaaa
open Go Go.Eng Go.Conc Go.RowKit Go.Conc.Lib Go.ConcR.Gen
open Go.ConcR (KK wgBlock WgAt stA smA rd wr DC0 Payload)

section
variable {Φ : Ph} {b : Frame} {cs : List Frame}

theorem ints_sub {h h' : Eng.Heap} {k : IntKind} {a : Option Addr} {xs : List Int} (H : HInts h k a xs) (s : Eng.Sub h h') : HInts h' k a xs := fun i x hx => by
  obtain ⟨ad, h1, h2⟩ := H i x hx
  refine ⟨ad, h1, ?_⟩
  unfold hcell at h2 ⊢
  cases e : h (ad.add i).block with
  | none => rw [e] at h2; cases h2
  | some o => rw [e] at h2; rw [s _ _ e]; exact h2

set_option maxRecDepth 100000 in
/-- The loop, r parts being still to be started. -/
theorem loopSp {H h0 : Eng.Heap} {n : Nat} (hty : Φ.ty = Try.link.tWg) (hCW : Φ.C ≠ Φ.Wg) (hnb : ∀ fr cs h Q, ¬ Φ.S.big fr cs h Q) (hΦn : Φ.n = n) {x : Option Addr} {c : Nat} {xs : List Int} (hx : HInts h0 .u8 x xs) (hc : xs.length ≤ c)
    (hl : xs.length < 2 ^ 40) (hn : n = (xs.length + 32767) / 32768) {fb sb bS : Nat} {g : FuncId} {F : List Int → Int} (hSd : ∀ y, Φ.S y → H y ≠ none) (h0S : ∀ y o, h0 y = some o → Φ.S y ∧ H y = some o) (hSb : ¬ Φ.S bS)
    (hfS : Φ.S fb) (hsS : Φ.S sb) (hfb : H fb = some (.cells #[.func (.func g) #[] #[]] 49)) (hsb : H sb = some (.cells #[.slice (some ⟨Φ.C, 0, none⟩) n n] 45))
    (hval : ∀ i, i < n → Φ.val i = .int .u32 (F (partOf xs i)))
    (hsum : ∀ (h' : Eng.Heap) (a' : Option Addr) (c' : Nat) (ys : List Int), Inv Φ.S h' → HInts h' .u8 a' ys → ys.length ≤ 32768 → (∀ y ∈ ys, y ∈ xs) → CallsH Try.prog Φ.S g #[.slice a' ys.length c'] h' (fun v h'' => v = .int .u32 (F ys) ∧ Eng.Sub h' h''))
    (hk : b.kind ≠ .early) {Q : Frame → List Frame → Eng.Heap → Prop}
    (hQ : ∀ a hh, AtL a (.slice x xs.length c) fb sb bS Φ.Wg n n → (∀ y, Φ.S y → hh y = H y) → hh bS = some (.cells (szv n xs.length n) 2) →
      ∀ fr' cs', Back Try.prog (b.at (a.put (some 44) (.tuple #[])) [.inRegion (opsP 12) [], .code (rP 13)]) cs fr' cs' → Q fr' cs' hh) :
    ∀ r j, j + r = n → ∀ a hh, AtL a (.slice x xs.length c) fb sb bS Φ.Wg n j → (∀ y, Φ.S y → hh y = H y) → hh bS = some (.cells (szv n xs.length j) 2) →
      Sp Try.prog Φ Q r (b.at a [.code loopP, .inLoop loopP, .inBlock 0, .code (.seq (rP 12) (rP 13))]) cs hh := by
  have inv : ∀ {hh : Eng.Heap}, (∀ y, Φ.S y → hh y = H y) → Inv Φ.S hh := fun hro y hy => by rw [hro y hy]; exact hSd y hy
  have agr : ∀ {h' H' : Eng.Heap}, Eng.Sub h' H' → Inv Φ.S h' → ∀ y, Φ.S y → H' y = h' y := by
    intro h' H' s hi y hy
    cases e : h' y with
    | none => exact absurd e (hi y hy)
    | some o => exact s y o e
  intro r
  induction r with
  | zero =>
    intro j hj a hh A hro hbS
    have hjn : j = n := by omega
    subst hjn
    unfold Sp
    refine (go5 (c0 := _) A (inv hro)).bind ?_
    rintro _ _ H' ⟨rfl, a', f, h', rfl, hsz, hdf, hf, ⟨R, f24⟩, hsub, hinv⟩
    have A' := AtL.reach hsz hdf hf rfl R
    obtain ⟨_, _, _, _, _, _, _, rfl⟩ := R
    have e24 : a'.eval (.tmp 24) = .bool false := by
      show a'.tmps.getD 24 undef = _
      rw [hf 24 (by simp), f24]; simp
    refine .seq (.cond (t := false) e24 ?_)
    simp only [Bool.false_eq_true, if_false]
    refine .exit (k' := [.code (.seq (rP 12) (rP 13))]) (by simp [exitTo]) (.seq ?_)
    rw [rP12]
    refine .region ?_
    rw [size12]
    have hro' : ∀ y, Φ.S y → H' y = H y := fun y hy => (agr hsub hinv y hy).trans (hro y hy)
    refine .done (WaitOp.mono (fun fr' cs' hB => ?_) (wait12 hty hCW hk A'.s9))
    exact hQ a' H' A' hro' (hsub _ _ hbS) fr' cs' hB
  | succ r ih =>
    intro j hj a hh A hro hbS
    have hjn : j < n := by omega
    unfold Sp
    refine (go5 (c0 := _) A (inv hro)).bind ?_
    rintro _ _ H1 ⟨rfl, a1, f1, h1, rfl, hsz1, hdf1, hf1, ⟨R1, f24⟩, hsub1, hinv1⟩
    have A1 := AtL.reach hsz1 hdf1 hf1 rfl R1
    obtain ⟨_, _, _, _, _, _, _, rfl⟩ := R1
    have e24 : a1.eval (.tmp 24) = .bool true := by
      show a1.tmps.getD 24 undef = _
      rw [hf1 24 (by simp), f24]
      simp only [Value.bool.injEq, decide_eq_true_eq]
      omega
    have hro1 : ∀ y, Φ.S y → H1 y = H y := fun y hy => (agr hsub1 hinv1 y hy).trans (hro y hy)
    have hbS1 := hsub1 _ _ hbS
    refine .seq (.cond (t := true) e24 ?_)
    simp only [if_true]
    refine .skip (.seq (.block ?_))
    refine (piece_ok (rs := [rP 6, rP 7, rP 8]) (ps := allP) tabPOk mixedP sBk A1.slots A1.sz A1.df (inv hro1) (wpB (S := Φ.S) (h := H1) (h0 := h0) (n := n) (j := j) (fb := fb) (sb := sb) (wg := Φ.Wg) hx hc hl (inv hro1) hn hjn hSb hbS1)).bind ?_
    rintro _ _ H2 ⟨rfl, a2, f2, h2, rfl, hsz2, hdf2, hf2, ⟨ib, pb, xa, xc, r0, r3, r7, r8, r9, r10, r11, r22, r23, nib, npb, hne, hpi, cib, cpb, cbS, crest⟩, hsub2, hinv2⟩
    have A2 : AtL a2 (.slice x xs.length c) fb sb bS Φ.Wg n j := ⟨hsz2, hdf2, (hf2 0 (by simp)).trans r0, (hf2 3 (by simp)).trans r3, (hf2 7 (by simp)).trans r7, (hf2 8 (by simp)).trans r8, (hf2 9 (by simp)).trans r9, (hf2 22 (by simp)).trans r22, (hf2 23 (by simp)).trans r23⟩
    have t10 := (hf2 10 (by simp)).trans r10
    have t11 := (hf2 11 (by simp)).trans r11
    have sne : ∀ y, Φ.S y → y ≠ ib ∧ y ≠ pb ∧ y ≠ bS := fun y hy =>
      ⟨fun e => by subst e; exact inv hro1 y hy nib, fun e => by subst e; exact inv hro1 y hy npb, fun e => by subst e; exact hSb hy⟩
    have hro2 : ∀ y, Φ.S y → H2 y = H y := fun y hy => by
      obtain ⟨e1, e2, e3⟩ := sne y hy
      rw [agr hsub2 hinv2 y hy, crest y e1 e2 e3, hro1 y hy]
    have hib2 := hsub2 _ _ cib
    have hpb2 := hsub2 _ _ cpb
    have hbS2 := hsub2 _ _ cbS
    have bne : bS ≠ ib ∧ bS ≠ pb := ⟨fun e => (by rw [e, nib] at hbS1; cases hbS1), fun e => (by rw [e, npb] at hbS1; cases hbS1)⟩
    refine .seq ?_
    rw [rP9]
    refine .region ?_
    rw [size9]
    refine .done (add9 hty hCW hk A2.s9 ?_)
    have A3 := A2.put 41 (.tuple #[]) (.inl rfl)
    have hs2 : 41 < a2.tmps.size := by rw [hsz2]; omega
    have g3 : ∀ i, i ≠ 41 → (a2.put (some 41) (.tuple #[])).tmps.getD i undef = a2.tmps.getD i undef := fun i hi => by rw [put_getD _ _ _ _ hs2, if_neg hi]
    have u10 := (g3 10 (by omega)).trans t10
    have u11 := (g3 11 (by omega)).trans t11
    generalize a2.put (some 41) (.tuple #[]) = a3 at A3 u10 u11
    refine .regionEnd ?_
    rw [rP10]
    refine .region ?_
    rw [size10]
    refine make10 hk A3.s9 A3.s3 u11 A3.s7 u10 (.done ?_)
    have A4 := A3.put 42 (.func (.func 50) #[] (capsW Φ.Wg fb pb sb ib)) (.inr (.inl rfl))
    have h42 : (a3.put (some 42) (.func (.func 50) #[] (capsW Φ.Wg fb pb sb ib))).tmps.getD 42 undef = .func (.func 50) #[] (capsW Φ.Wg fb pb sb ib) := by
      rw [put_getD _ _ _ _ (by rw [A3.sz]; omega), if_pos rfl]
    generalize a3.put (some 42) (.func (.func 50) #[] (capsW Φ.Wg fb pb sb ib)) = a4 at A4 h42
    have ej : Φ.n - (r + 1) = j := by rw [hΦn]; omega
    rw [ej]
    classical
    let hcw : Eng.Heap := fun y => if Φ.S y ∨ y = ib ∨ y = pb then H2 y else none
    let hm : Eng.Heap := fun y => if y = ib ∨ y = pb then none else H2 y
    have hcS : ∀ y, Φ.S y → hcw y = H y := fun y hy => by show (if _ then _ else _) = _; rw [if_pos (.inl hy)]; exact hro2 y hy
    have sub0 : Eng.Sub h0 hcw := fun y o ho => by
      obtain ⟨e1, e2⟩ := h0S y o ho
      rw [hcS y e1]; exact e2
    have c1 : ∀ {y : Nat} {v : Value} {T : TypeId}, hcw y = some (.cells #[v] T) → hcell hcw ⟨y, 0, none⟩ = some v := fun e => by simp [hcell, e]
    refine spawn10 (ib := ib) (pb := pb) (fb := fb) (sb := sb) (h1 := hm) (hc := hcw) hk h42 (fun y o ho => ?_) (fun y o ho => ?_) (fun y hS hy => ?_) (fun y hy => ?_) ?_ ?_
    · simp only [hm] at ho
      split at ho
      · cases ho
      · exact ho
    · simp only [hcw] at ho
      split at ho
      · exact ho
      · cases ho
    · simp only [hcw] at hy
      split at hy
      · rename_i hor
        show (if _ then _ else _) = _
        rw [if_pos (hor.resolve_left hS)]
      · exact absurd rfl hy
    · show (if _ then _ else _) = _
      obtain ⟨e1, e2, _⟩ := sne y hy
      rw [if_neg (by simp [e1, e2])]
    · refine works hnb hty hCW (by rw [hΦn]; exact hjn) (hval j hjn) (fun y hy => ?_) (c1 ((hcS fb hfS).trans hfb)) (c1 (T := 23) ?_) ?_ (c1 (T := 3) ?_) (hsum hcw xa xc _ (fun y hy => ?_) (ints_sub hpi sub0) (by rw [partOf_length]; unfold partLen; omega) (fun y hy => List.mem_of_mem_drop (List.mem_of_mem_take (by unfold partOf at hy; exact hy))))
      · rw [hcS y hy]; exact hSd y hy
      · show (if _ then _ else _) = _
        rw [if_pos (.inr (.inr rfl))]; exact hpb2
      · rw [hΦn]; exact c1 ((hcS sb hsS).trans hsb)
      · show (if _ then _ else _) = _
        rw [if_pos (.inr (.inl rfl))]; exact hib2
      · rw [hcS y hy]; exact hSd y hy
    · refine Sp.pre (.regionEnd (.inBlock ?_))
      have hrom : ∀ y, Φ.S y → hm y = H y := fun y hy => by
        obtain ⟨e1, e2, _⟩ := sne y hy
        show (if _ then _ else _) = _
        rw [if_neg (by simp [e1, e2])]; exact hro2 y hy
      have hbm : hm bS = some (.cells (szv n xs.length (j + 1)) 2) := by
        show (if _ then _ else _) = _
        rw [if_neg (by simp [bne.1, bne.2])]; exact hbS2
      refine (go11 A4 (inv hrom) (by omega)).bind ?_
      rintro _ _ H5 ⟨rfl, a5, f5, h5, rfl, hsz5, hdf5, hf5, R5, hsub5, hinv5⟩
      have A5 := AtL.reach hsz5 hdf5 hf5 rfl R5
      obtain ⟨_, _, _, _, _, _, _, rfl⟩ := R5
      refine .inLoop (.done ?_)
      exact ih (j + 1) (by omega) a5 H5 A5 (fun y hy => (agr hsub5 hinv5 y hy).trans (hrom y hy)) (hsub5 _ _ hbm)
end
end Go.Proofs.Ytmnialmphlbmaaa
