import Derived.Test.YtmnialmphlbmaaaEng9
set_option linter.unusedVariables false
set_option linter.unusedSimpArgs false
/- A phase: what holds of the machine; the steps of those that were started. -/
namespace Go.Eng
open Go Go.Conc Go.ConcN
open Go.ConcR (KK wgBlock WgAt stA smA rd wr mk g_of_ofEvents Bk DC0 bk_of_mute ofEvent_loc_mark ofEvent_cell ofEvent_mk deafBehind_cons deafBehind_one)

structure InPh (P : Program) (Φ : Ph) (N0 j : Nat) (h : Heap) (T : List WS) (gs : Array Goroutine) (w : World) (t : Trace) : Prop where
  len : T.length = N0 + j
  jn : j ≤ Φ.n
  gsz : gs.size = T.length + 1
  sit : ∀ (k : Nat) (x : WS), T[k]? = some x → ∃ g, gs[k + 1]? = some g ∧ WSit P Φ (k - N0) x (Deaf t (k + 1)) g
  old : ∀ (k : Nat) (x : WS), T[k]? = some x → k < N0 → x.stage = 1
  CW : Φ.C ≠ Φ.Wg
  hno : h Φ.Wg = none ∧ h Φ.C = none
  xno : ∀ (k : Nat) (x : WS), T[k]? = some x → x.heap Φ.Wg = none ∧ x.heap Φ.C = none
  lt : Φ.Wg < w.heap.size ∧ Φ.C < w.heap.size
  pay : Φ.pay w
  quiet : ∀ (i : Nat) (a : Touch) (ad : Addr), touchAt t i = some a → a.loc = .cell ad → ad.block = Φ.Wg → (a.kind ≠ .plain ∧ (a.kind = .said → t.g? i = some 0)) ∨ ∀ k, k = 0 ∨ (N0 < k ∧ k ≤ N0 + j) → Knows t k i
  cellF : ∀ (off i : Nat) (a : Touch), j ≤ off → touchAt t i = some a → a.loc = .cell ⟨Φ.C, off, none⟩ → Knows t 0 i
  cellW : ∀ (k : Nat) (x : WS), T[k]? = some x → x.stage = 8 → ∀ (i : Nat) (a : Touch), touchAt t i = some a → a.loc = .cell ⟨Φ.C, k - N0, none⟩ → Knows t (k + 1) i
  cC : ∀ (i : Nat) (a : Touch) (ad : Addr), touchAt t i = some a → a.loc = .cell ad → ad.block = Φ.C → Knows t 0 i ∨ (a.kind = .plain ∧ ∃ k, N0 < k ∧ t.g? i = some k)
  vals : ∀ (k : Nat) (x : WS), T[k]? = some x → N0 ≤ k → x.stage < 8 → w.cell? ⟨Φ.C, k - N0, none⟩ = some (Φ.val (k - N0))
  rel : ∀ (k : Nat) (x : WS), T[k]? = some x → N0 ≤ k → x.stage < 7 → ∃ r, RelBy (stA Φ.Wg) t (k + 1) r

theorem woken_still {P : Program} {g g' o : Goroutine} {w' : World} (h : o.status = .running ∨ o.status = .finished) : woken P g g' w' o = o := by
  unfold woken
  split
  · exact again_running _ h
  · rfl

section
variable {P : Program} {Φ : Ph} {N0 j : Nat} {h h' : Heap} {T : List WS} {gs : Array Goroutine} {w0 w w' : World} {t : Trace} {es : Array Event} {sl : Option (Nat × Nat)} {st sm : Int}

theorem Com.at {S : Shared} (C : Com w0 S N0 h T w t) (d : Nat) : Com w0 S N0 h T (w.at d) t :=
  ⟨C.env, C.has, C.inv, C.hasW, C.apart, C.apart2, C.nr, C.gsb, C.lo, C.norel, C.kn, C.knW, C.ho⟩
theorem InPh.at (I : InPh P Φ N0 j h T gs w t) (d : Nat) : InPh P Φ N0 j h T gs (w.at d) t :=
  ⟨I.len, I.jn, I.gsz, I.sit, I.old, I.CW, I.hno, I.xno, I.lt, I.pay, I.quiet, I.cellF, I.cellW, I.cC, I.vals, I.rel⟩

theorem InPh.J (I : InPh P Φ N0 j h T gs w t) (hw : WgAt Φ.ty Φ.Wg w st sm) : Φ.J w := ⟨⟨_, _, hw⟩, I.pay⟩

/-- How the others come out of a step of number k's. -/
def stepped (P : Program) (gs : Array Goroutine) (k : Nat) (g g' : Goroutine) (w' : World) : Array Goroutine := (gs.map (woken P g g' w')).setIfInBounds (k + 1) g'

theorem commit {k : Nat} {g g' : Goroutine} (hk : gs[k + 1]? = some g) (hs : stepG P false g w = .go g' w' es) :
    runT P (crowd gs w sl) (k + 1) = (.next (crowd (stepped P gs k g g' w') w' sl), MemOp.ofEvents (k + 1) g.frame.fn g.frame.place es) := runT_crowd_go hk hs

theorem stepped_zero {k : Nat} {g g' g0 : Goroutine} (h0 : gs[0]? = some g0) : (stepped P gs k g g' w')[0]? = some (woken P g g' w' g0) := by
  unfold stepped
  rw [get_map_set _ _ _ _ (by omega), h0]; rfl

theorem stepped_same {k : Nat} {g g' : Goroutine} (hk : gs[k + 1]? = some g) : (stepped P gs k g g' w')[k + 1]? = some g' := by
  unfold stepped
  exact get_map_set_same _ _ _ (Array.getElem?_eq_some_iff.1 hk).1

theorem stepped_ne {k i : Nat} {g g' o : Goroutine} (hne : i ≠ k) (hi : gs[i + 1]? = some o) (ho : o.status = .running ∨ o.status = .finished) : (stepped P gs k g g' w')[i + 1]? = some o := by
  unfold stepped
  rw [get_map_set _ _ _ _ (by omega), hi, Option.map_some, woken_still ho]

theorem deafOf {k : Nat} (fn : FuncId) (pos : String) (es : Array Event) {i : Nat} (hne : i ≠ k) : Deaf (t ++ MemOp.ofEvents (k + 1) fn pos es) (i + 1) = Deaf t (i + 1) := Deaf_other t (by omega) _ g_of_ofEvents

/-- What a step's entries may be, where a phase looks. -/
def EvPh (Φ : Ph) (k N0 : Nat) (isPut : Prop) (e : Event) : Prop :=
  ∀ b, (MemAct.ofEvent e).touch? = some b → ∃ ad, b.loc = .cell ad ∧ (ad.block = Φ.Wg → b.kind = .atomic) ∧ (ad.block = Φ.C → isPut ∧ ad = ⟨Φ.C, k - N0, none⟩ ∧ b.kind = .plain)

/-- The phase's part of a step of number k's. -/
theorem InPh.step (I : InPh P Φ N0 j h T gs w t) (hJ : Φ.J w) {k : Nat} {g g' : Goroutine} {x y : WS} (hk : gs[k + 1]? = some g) (hx : T[k]? = some x) (fn : FuncId) (pos : String) {isPut : Prop} (hes : ∀ e ∈ es, EvPh Φ k N0 isPut e)
    (hN : N0 ≤ k ∨ ∀ e ∈ es, (MemAct.ofEvent e).touch? = none) (hy : WSit P Φ (k - N0) y (deafBehind (Deaf t (k + 1)) es) g') (hold : k < N0 → y.stage = 1) (hyno : y.heap Φ.Wg = none ∧ y.heap Φ.C = none)
    (hput : isPut → x.stage = 8) (h8 : y.stage = 8 → x.stage = 8) (hlt : w.heap.size ≤ w'.heap.size) (hpay : Φ.pay w') (hcell : ∀ off, (off ≠ k - N0 ∨ k < N0) → w'.cell? ⟨Φ.C, off, none⟩ = w.cell? ⟨Φ.C, off, none⟩)
    (hval : N0 ≤ k → y.stage < 8 → w'.cell? ⟨Φ.C, k - N0, none⟩ = some (Φ.val (k - N0))) (hrel : N0 ≤ k → y.stage < 7 → ∃ r, RelBy (stA Φ.Wg) (t ++ MemOp.ofEvents (k + 1) fn pos es) (k + 1) r) :
    InPh P Φ N0 j h (T.set k y) (stepped P gs k g g' w') w' (t ++ MemOp.ofEvents (k + 1) fn pos es) := by
  have hg : ∀ op ∈ MemOp.ofEvents (k + 1) fn pos es, op.g = k + 1 := g_of_ofEvents
  have hkl : k < T.length := (List.getElem?_eq_some_iff.1 hx).1
  have evt : ∀ {op : MemOp} {b : Touch}, op ∈ MemOp.ofEvents (k + 1) fn pos es → op.act.touch? = some b → N0 ≤ k ∧ ∃ ad, b.loc = .cell ad ∧ (ad.block = Φ.Wg → b.kind = .atomic) ∧ (ad.block = Φ.C → isPut ∧ ad = ⟨Φ.C, k - N0, none⟩ ∧ b.kind = .plain) := fun hop hb => by
    obtain ⟨e, he, rfl⟩ := ofEvents_mem hop
    refine ⟨hN.resolve_right fun h => ?_, hes e he _ hb⟩
    have := h e he
    simp only at hb
    rw [this] at hb; cases hb
  refine ⟨by rw [List.length_set]; exact I.len, I.jn, by rw [List.length_set, ← I.gsz]; simp [stepped], ?_, ?_, I.CW, I.hno, ?_, ⟨by have := I.lt; omega, by have := I.lt; omega⟩, hpay, ?_, ?_, ?_, ?_, ?_, ?_⟩
  · intro i z hz
    rcases get_set hz with ⟨rfl, rfl⟩ | ⟨hi, hz⟩
    · exact ⟨g', stepped_same hk, by rw [Deaf_own]; exact hy⟩
    · obtain ⟨o, ho, hs⟩ := I.sit i z hz
      exact ⟨o, stepped_ne (Ne.symm hi) ho ((hs.status hJ).imp id fun h => h.1), by rw [deafOf fn pos es (Ne.symm hi)]; exact hs⟩
  · intro i z hz hi
    rcases get_set hz with ⟨rfl, rfl⟩ | ⟨_, hz⟩
    · exact hold hi
    · exact I.old i z hz hi
  · intro i z hz
    rcases get_set hz with ⟨rfl, rfl⟩ | ⟨_, hz⟩
    · exact hyno
    · exact I.xno i z hz
  · intro i a ad ha hl hb
    rcases touch_cases ha with ⟨hlt, h1⟩ | ⟨op, h1, h2, h3⟩
    · rcases I.quiet i a ad h1 hl hb with ⟨h4, h5⟩ | h4
      · exact .inl ⟨h4, fun h => by rw [g?_old hlt]; exact h5 h⟩
      · exact .inr fun k hk => kapp (h4 k hk)
    · obtain ⟨_, ad2, e1, e2, _⟩ := evt h1 h2
      rw [hl] at e1
      cases e1
      exact .inl ⟨by rw [e2 hb]; simp, by rw [e2 hb]; simp⟩
  · intro off i a ho ha hl
    rcases touch_cases ha with ⟨hlt, h1⟩ | ⟨op, h1, h2, h3⟩
    · exact kapp (I.cellF off i a ho h1 hl)
    · obtain ⟨hNk, ad2, e1, _, e2⟩ := evt h1 h2
      rw [hl] at e1
      cases e1
      have e3 := (e2 rfl).2.1
      simp only [Addr.mk.injEq, true_and, and_true] at e3
      have := I.len
      omega
  · intro i z hz hz8 q a ha hl
    rcases touch_cases ha with ⟨hlt, h1⟩ | ⟨op, h1, h2, h3⟩
    · rcases get_set hz with ⟨rfl, rfl⟩ | ⟨_, hz⟩
      · exact kapp (I.cellW k x hx (h8 hz8) q a h1 hl)
      · exact kapp (I.cellW i z hz hz8 q a h1 hl)
    · obtain ⟨hNk, ad2, e1, _, e2⟩ := evt h1 h2
      rw [hl] at e1
      cases e1
      have e3 := (e2 rfl).2.1
      simp only [Addr.mk.injEq, true_and, and_true] at e3
      have hiN : N0 ≤ i := by
        rcases get_set hz with ⟨rfl, rfl⟩ | ⟨_, hz⟩
        · exact hNk
        · refine Nat.le_of_not_lt fun hlt => ?_
          have := I.old i z hz hlt
          omega
      obtain rfl : i = k := by omega
      have := knows_own h3
      rwa [hg op h1] at this
  · intro i a ad ha hl hb
    rcases touch_cases ha with ⟨hlt, h1⟩ | ⟨op, h1, h2, h3⟩
    · rcases I.cC i a ad h1 hl hb with h4 | ⟨h4, q, h5, h6⟩
      · exact .inl (kapp h4)
      · exact .inr ⟨h4, q, h5, by rw [g?_old hlt]; exact h6⟩
    · obtain ⟨hNk, ad2, e1, _, e2⟩ := evt h1 h2
      rw [hl] at e1
      cases e1
      exact .inr ⟨(e2 hb).2.2, k + 1, by omega, by simp [Trace.g?, h3, hg op h1]⟩
  · intro i z hz hi hs
    rcases get_set hz with ⟨rfl, rfl⟩ | ⟨hne, hz⟩
    · exact hval hi hs
    · rw [hcell _ (by omega)]; exact I.vals i z hz hi hs
  · intro i z hz hi hs
    rcases get_set hz with ⟨rfl, rfl⟩ | ⟨hne, hz⟩
    · exact hrel hi hs
    · obtain ⟨r, hr⟩ := I.rel i z hz hi hs
      exact ⟨r, hr.appOther hg (by omega)⟩

/-! ### One step of one of them -/

/-- From stage to stage, and the group's two cells. -/
inductive Turn (P : Program) (g g' : Goroutine) (a b : Nat) (st sm : Int) : Int → Int → Prop
  | same : b = a ∨ (5 ≤ a ∧ 5 ≤ b) → Turn P g g' a b st sm st sm
  | add {v wt : Nat} : wt ≤ 1 → a = 5 → st = (v + 1) * KK + wt → b = (if v = 0 ∧ wt = 1 then 4 else 1) → Turn P g g' a b st sm (v * KK + wt) 0
  | seen : a = 4 → b = 3 → Turn P g g' a b st sm st sm
  | nought : a = 3 → b = 2 → Turn P g g' a b st sm 0 0
  | gone : a = 2 → b = 1 → mayWake P g = true → g'.status ≠ .blocked ∧ g'.status ≠ .waiting → Turn P g g' a b st sm 0 1

/-- What the group's cells must be where somebody is about to take them. -/
structure Fits (a : Nat) (st sm : Int) : Prop where
  five : a = 5 → ∃ v wt : Nat, wt ≤ 1 ∧ v < 2147483647 ∧ st = (v + 1) * KK + wt ∧ sm = 0
  mid : a = 4 ∨ a = 3 → st = 1 ∧ sm = 0
  two : a = 2 → st = 0 ∧ sm = 0

/-- What comes of a step. -/
def Done (P : Program) (Φ : Ph) (N0 j : Nat) (h : Heap) (T : List WS) (gs : Array Goroutine) (w0 w : World) (t : Trace) (k : Nat) (g : Goroutine) (x : WS) (st sm : Int) : Prop :=
  ∃ g' w' es y st' sm', stepG P false g w = .go g' w' es ∧ WS.lt y x ∧ Com w0 Φ.S N0 h (T.set k y) w' (t ++ MemOp.ofEvents (k + 1) g.frame.fn g.frame.place es) ∧
    InPh P Φ N0 j h (T.set k y) (stepped P gs k g g' w') w' (t ++ MemOp.ofEvents (k + 1) g.frame.fn g.frame.place es) ∧ WgAt Φ.ty Φ.Wg w' st' sm' ∧ Turn P g g' x.stage y.stage st sm st' sm'

theorem cell_aside {b : Nat} (ha : Aside b w w') {c off : Nat} (hc : c ≠ b) : w'.cell? ⟨c, off, none⟩ = w.cell? ⟨c, off, none⟩ := by
  simp only [World.cell?, ha.block c hc]

/-- The library's bookkeeping: no more than the group's block turns. -/
theorem bookStep (C : Com w0 Φ.S N0 h T w t) (I : InPh P Φ N0 j h T gs w t) (hw : WgAt Φ.ty Φ.Wg w st sm) {k : Nat} {g g' : Goroutine} {x y : WS} (hk : gs[k + 1]? = some g) (hx : T[k]? = some x) (hs : stepG P false g w = .go g' w' es) {st' sm' : Int}
    (hA : Aside Φ.Wg w w') (hw' : WgAt Φ.ty Φ.Wg w' st' sm') (hbk : ∀ e ∈ es, Bk Φ.Wg e ∨ e = mk (.releaseMerge (stA Φ.Wg))) (hN : N0 ≤ k ∨ ∀ e ∈ es, (MemAct.ofEvent e).touch? = none)
    (hy : WSit P Φ (k - N0) y (deafBehind (Deaf t (k + 1)) es) g') (hxe : x.heap = emp) (hye : y.heap = emp) (hold : k < N0 → y.stage = 1) (h8 : y.stage < 8) (hx8 : x.stage < 8)
    (hrel : N0 ≤ k → y.stage < 7 → ∃ r, RelBy (stA Φ.Wg) (t ++ MemOp.ofEvents (k + 1) g.frame.fn g.frame.place es) (k + 1) r) (hlt : WS.lt y x) (htn : Turn P g g' x.stage y.stage st sm st' sm') :
    Done P Φ N0 j h T gs w0 w t k g x st sm := by
  have hkl : k < T.length := (List.getElem?_eq_some_iff.1 hx).1
  have tch : ∀ e ∈ es, ∀ b, (MemAct.ofEvent e).touch? = some b → ∃ ad, b.loc = .cell ad ∧ ad.block = Φ.Wg ∧ b.kind = .atomic := by
    intro e he b hb
    rcases hbk e he with h1 | rfl
    · rcases h1 with h1 | h1 | ⟨a, q, rfl, ha⟩
      · rw [ofEvent_loc_mark h1] at hb; cases hb
      · rw [ofEvent_loc_mark h1] at hb; cases hb
      · rw [ofEvent_cell] at hb
        simp only [MemAct.touch?, Option.some.injEq] at hb
        subst hb
        exact ⟨a, rfl, ha, rfl⟩
    · cases hb
  refine ⟨g', w', es, y, st', sm', hs, hlt, ?_, ?_, hw', htn⟩
  · refine C.other (g := k + 1) (by omega) g_of_ofEvents (List.length_set ..) ?_ ⟨hA.os, hA.tape, hA.output⟩ hA.size ?_ ?_ ?_ ?_
    · intro i z hz
      rcases get_set hz with ⟨rfl, rfl⟩ | ⟨_, hz⟩
      · exact ⟨x, hx, fun b hb => by rw [hye] at hb; exact absurd rfl hb⟩
      · exact ⟨z, hz, fun b _ => rfl⟩
    · intro b hb
      refine hA.block b fun e => ?_
      subst e
      rcases hb with hb | ⟨i, z, hz, hb⟩
      · exact hb I.hno.1
      · exact hb (I.xno i z hz).1
    · intro op hop b hb
      obtain ⟨e, he, rfl⟩ := ofEvents_mem hop
      obtain ⟨ad, h1, h2, h3⟩ := tch e he b hb
      refine ⟨ad, h1, by rw [h2]; exact I.lt.1, by rw [h2]; exact I.hno.1, fun i z hz => by rw [h2]; exact (I.xno i z hz).1, fun said i a ha hc => ?_⟩
      have hNk : N0 ≤ k := hN.resolve_right fun h => by have := h e he; simp only at hb; rw [this] at hb; cases hb
      rcases I.quiet i a ad ha (hc.1.trans h1) h2 with ⟨h4, _⟩ | h4
      · rcases hc.2.2.2 with h5 | h5 | ⟨_, _, h5⟩
        · exact absurd h5 h4
        · rw [h3] at h5; cases h5
        · rw [h3] at h5; cases h5
      · exact h4 _ (.inr ⟨by omega, by have := I.len; omega⟩)
    · intro op hop a hr
      obtain ⟨e, he, rfl⟩ := ofEvents_mem hop
      simp only at hr
      rcases hbk e he with h1 | rfl
      · rcases h1 with h1 | h1 | ⟨a, q, rfl, ha⟩
        · rw [ofEvent_loc_mark h1] at hr; cases hr
        · rw [ofEvent_loc_mark h1] at hr; cases hr
        · rw [ofEvent_cell] at hr; cases hr
      · cases hr
    · rcases hN with h1 | h1
      · exact .inr (.inl (by omega))
      · refine .inr (.inr fun op hop => ?_)
        obtain ⟨e, he, rfl⟩ := ofEvents_mem hop
        exact h1 e he
  · obtain ⟨cs, hc1, hc2⟩ := I.pay
    refine I.step (I.J hw) hk hx _ _ (isPut := False) (fun e he b hb => ?_) hN hy hold (by rw [hye]; exact ⟨rfl, rfl⟩) False.elim (fun h => by omega) (by rw [hA.size]; exact Nat.le_refl _) ⟨cs, (hA.block _ I.CW).trans hc1, hc2⟩ (fun off _ => cell_aside hA I.CW)
      (fun hNk h => by rw [cell_aside hA I.CW]; exact I.vals k x hx hNk hx8) hrel
    obtain ⟨ad, h1, h2, h3⟩ := tch e he b hb
    exact ⟨ad, h1, fun _ => h3, fun e => absurd (e.symm.trans h2) I.CW⟩

theorem cell_same {b : Nat} (hb : w'.heap[b]? = w.heap[b]?) (off : Nat) : w'.cell? ⟨b, off, none⟩ = w.cell? ⟨b, off, none⟩ := by
  simp only [World.cell?, hb]

/-- A private step. -/
theorem runStep (C : Com w0 Φ.S N0 h T w t) (I : InPh P Φ N0 j h T gs w t) (hw : WgAt Φ.ty Φ.Wg w st sm) {k : Nat} {fr fr' : Frame} {cs cs' : List Frame} {x : WS} (hk : gs[k + 1]? = some (gor fr cs)) (hx : T[k]? = some x) (hs : stepG P false (gor fr cs) w = .go (gor fr' cs') w' es)
    (K : Kept Φ.S x.heap h' w w') (hes : ∀ e ∈ es, EvOk Φ.S x.heap w w' e) {rk : Rk} (hR : RunR P Φ.S false Φ.J (AtPut P Φ (k - N0)) rk fr' cs' h') (hx8 : x.stage = 8) (hlt : Rk.lt rk x.rk) (hd : Deaf t (k + 1) = 0) (hN : N0 ≤ k) :
    Done P Φ N0 j h T gs w0 w t k (gor fr cs) x st sm := by
  obtain ⟨hxW, hxC⟩ := I.xno k x hx
  have hW := (K.old Φ.Wg I.lt.1 hxW)
  have hC := (K.old Φ.C I.lt.2 hxC)
  have dz : deafBehind (Deaf t (k + 1)) es = 0 := by
    rw [hd]
    refine deafBehind_idle (fun e he => ?_) 0
    rcases hes e he with ⟨a, h1, _⟩ | ⟨m, hm, rfl⟩
    · rw [h1]; exact ⟨by simp, by simp⟩
    · cases m <;> simp [Quiet] at hm ⊢
  obtain ⟨xs, hc1, hc2⟩ := I.pay
  refine ⟨gor fr' cs', w', es, ⟨8, rk, x.fuel, h'⟩, st, sm, hs, WS.lt_rk hx8.symm hlt, C.worker hx hN K hes _ _ rfl, ?_, hW.1.trans hw, .same (.inl hx8.symm)⟩
  refine I.step (I.J hw) hk hx _ _ (isPut := False) (fun e he b hb => ?_) (.inl hN) (by rw [dz]; exact .put hR) (fun h => by omega) ⟨hW.2, hC.2⟩ False.elim (fun _ => hx8) K.size ⟨xs, hC.1.trans hc1, hc2⟩ (fun off _ => cell_same hC.1 off)
    (fun _ h => by simp only at h; omega) (fun _ h => by simp only at h; omega)
  have hop : ({ g := 0, fn := 0, pos := "", act := .ofEvent e } : MemOp) ∈ MemOp.ofEvents 0 0 "" #[e] := by simp [MemOp.ofEvents]
  obtain ⟨ad, h1, h2, h3, _, _⟩ := evok_touch (S := Φ.S) (h := x.heap) (w := w) (w' := w') (es := #[e]) (fun e' he' => by simp at he'; rw [he']; exact hes e he) hop hb
  refine ⟨ad, h1, fun e1 => ?_, fun e1 => ?_⟩
  · rw [e1] at h3
    rcases h3 with h3 | h3
    · exact absurd hxW h3
    · have := I.lt.1; omega
  · rw [e1] at h3
    rcases h3 with h3 | h3
    · exact absurd hxC h3
    · have := I.lt.2; omega

/-- The cell is filled. -/
theorem putStep (C : Com w0 Φ.S N0 h T w t) (I : InPh P Φ N0 j h T gs w t) (hw : WgAt Φ.ty Φ.Wg w st sm) {k : Nat} {g g' : Goroutine} {x : WS} (hk : gs[k + 1]? = some g) (hx : T[k]? = some x)
    (hs : stepG P false g w = .go g' (w.setCell ⟨Φ.C, k - N0, none⟩ (Φ.val (k - N0))) #[⟨.cell ⟨Φ.C, k - N0, none⟩, true, false⟩]) {m : Nat} (hR : Sil P false Φ.J (AtR0 P Φ) m g') (hx8 : x.stage = 8) (hd : Deaf t (k + 1) = 0) (hN : N0 ≤ k) :
    Done P Φ N0 j h T gs w0 w t k g x st sm := by
  have hkl : k < T.length := (List.getElem?_eq_some_iff.1 hx).1
  have hA : Aside Φ.C w (w.setCell ⟨Φ.C, k - N0, none⟩ (Φ.val (k - N0))) := aside_setCell w ⟨Φ.C, k - N0, none⟩ _
  obtain ⟨xs, hc1, hc2⟩ := I.pay
  have hkn : k - N0 < Φ.n := by have := I.len; have := I.jn; omega
  have hrow : (w.setCell ⟨Φ.C, k - N0, none⟩ (Φ.val (k - N0))).heap[Φ.C]? = some (.cells (xs.setIfInBounds (k - N0) (Φ.val (k - N0))) Φ.ety) := by
    rw [setCell_eq_setRow w Φ.C (k - N0) xs Φ.ety (0, 0) _ hc1, setRow_heap w Φ.C _ _ Φ.ety _ hc1]
  have tch : ∀ {fn : FuncId} {pos : String} {op : MemOp} {b : Touch}, op ∈ MemOp.ofEvents (k + 1) fn pos #[⟨.cell ⟨Φ.C, k - N0, none⟩, true, false⟩] → op.act.touch? = some b → b = ⟨.cell ⟨Φ.C, k - N0, none⟩, true, .plain⟩ := fun hop hb => by
    obtain ⟨e, he, rfl⟩ := ofEvents_mem hop
    simp only [List.mem_toArray, List.mem_singleton] at he
    subst he
    simp only [ofEvent_cell, MemAct.touch?, Option.some.injEq] at hb
    exact hb.symm
  refine ⟨g', _, _, ⟨7, x.rk, m, emp⟩, st, sm, hs, WS.lt_stage (by rw [hx8]; show 7 < 8; omega), ?_, ?_, (hA.block _ (Ne.symm I.CW)).trans hw, .same (.inr ⟨by omega, by show 5 ≤ 7; omega⟩)⟩
  · refine C.other (g := k + 1) (by omega) g_of_ofEvents (List.length_set ..) ?_ ⟨hA.os, hA.tape, hA.output⟩ hA.size ?_ ?_ ?_ (.inr (.inl (by omega)))
    · intro i z hz
      rcases get_set hz with ⟨rfl, rfl⟩ | ⟨_, hz⟩
      · exact ⟨x, hx, fun b hb => absurd rfl hb⟩
      · exact ⟨z, hz, fun b _ => rfl⟩
    · intro b hb
      refine hA.block b fun e => ?_
      subst e
      rcases hb with hb | ⟨i, z, hz, hb⟩
      · exact hb I.hno.2
      · exact hb (I.xno i z hz).2
    · intro op hop b hb
      have e := tch hop hb
      subst e
      exact ⟨_, rfl, I.lt.2, I.hno.2, fun i z hz => (I.xno i z hz).2, fun said i a ha hc => I.cellW k x hx hx8 i a ha hc.1⟩
    · intro op hop a hr
      obtain ⟨e, he, rfl⟩ := ofEvents_mem hop
      simp only [List.mem_toArray, List.mem_singleton] at he
      subst he
      simp [ofEvent_cell] at hr
  · refine I.step (I.J hw) hk hx _ _ (isPut := True) (fun e he b hb => ?_) (.inl hN) ?_ (fun h => by omega) ⟨rfl, rfl⟩ (fun _ => hx8) (fun h => by simp at h) (by rw [hA.size]; exact Nat.le_refl _) ⟨_, hrow, by simp [hc2]⟩ (fun off ho => ?_) (fun _ _ => ?_) (fun _ h => by simp at h)
    · simp only [List.mem_toArray, List.mem_singleton] at he
      subst he
      simp only [ofEvent_cell, MemAct.touch?, Option.some.injEq] at hb
      subst hb
      exact ⟨_, rfl, fun e => absurd e I.CW, fun _ => ⟨trivial, rfl, rfl⟩⟩
    · have e : deafBehind (Deaf t (k + 1)) #[⟨.cell ⟨Φ.C, k - N0, none⟩, true, false⟩] = 0 := by rw [hd]; rfl
      rw [e]
      exact .rel hR
    · simp only [World.cell?, hrow, hc1]
      rw [Array.getElem?_setIfInBounds_ne (by omega)]
    · simp only [World.cell?, hrow]
      simp [hc2, hkn]
end
end Go.Eng
/- A phase: each step of those that were started. -/
namespace Go.Eng
open Go Go.Conc Go.ConcN
open Go.ConcR (KK wgBlock WgAt stA smA rd wr mk g_of_ofEvents Bk DC0 bk_of_mute ofEvent_loc_mark ofEvent_cell ofEvent_mk deafBehind_cons deafBehind_one)

section
variable {P : Program} {Φ : Ph} {N0 j : Nat} {h h' : Heap} {T : List WS} {gs : Array Goroutine} {w0 w w' : World} {t : Trace} {es : Array Event} {sl : Option (Nat × Nat)} {st sm : Int}

theorem Fits.keep {a : Nat} (F : Fits a st sm) : Fits a st sm := F

/-- A silent step. -/
theorem silStep (C : Com w0 Φ.S N0 h T w t) (I : InPh P Φ N0 j h T gs w t) (hw : WgAt Φ.ty Φ.Wg w st sm) {k : Nat} {g g' : Goroutine} {x : WS} (hk : gs[k + 1]? = some g) (hx : T[k]? = some x) (hs : stepG P false g w = .go g' w #[])
    (hxe : x.heap = emp) (hx8 : x.stage < 8) {m : Nat} (hy : WSit P Φ (k - N0) ⟨x.stage, x.rk, m, emp⟩ (Deaf t (k + 1)) g') (hm : m < x.fuel) (hN : N0 ≤ k ∨ x.stage = 1) : Done P Φ N0 j h T gs w0 w t k g x st sm := by
  refine bookStep C I hw hk hx hs (y := ⟨x.stage, x.rk, m, emp⟩) (Aside.refl _ _) hw (fun e he => by simp at he) (.inr fun e he => by simp at he) hy hxe rfl (fun hlt => I.old k x hx hlt) hx8 hx8 (fun hNk h7 => ?_) (WS.lt_fuel rfl rfl hm) (.same (.inl rfl))
  obtain ⟨r, hr⟩ := I.rel k x hx hNk h7
  exact ⟨r, hr.book (Wg := Φ.Wg) rfl _ _ (fun e he => by simp at he) (fun j e he => by simp at he)⟩

theorem deaf_rw {d : Nat} (hd : 0 < d) (a b : Addr) : ∀ (j : Nat) (e : Event), (#[rd a, wr b] : Array Event)[j]? = some e → (MemAct.ofEvent e).touch? = none ∨ 0 < deafBehind d ((#[rd a, wr b] : Array Event).extract 0 j) := by
  intro j e he
  refine .inr ?_
  rcases j with _ | _ | j
  · exact hd
  · exact hd
  · simp at he

theorem deaf_one {d : Nat} (hd : 0 < d) (e0 : Event) : ∀ (j : Nat) (e : Event), (#[e0] : Array Event)[j]? = some e → (MemAct.ofEvent e).touch? = none ∨ 0 < deafBehind d ((#[e0] : Array Event).extract 0 j) := by
  intro j e he
  rcases j with _ | j
  · exact .inr hd
  · simp at he

theorem deaf_sem {d : Nat} (hd : 0 < d) (a : Addr) : ∀ (j : Nat) (e : Event), (semEvents a)[j]? = some e → (MemAct.ofEvent e).touch? = none ∨ 0 < deafBehind d ((semEvents a).extract 0 j) := by
  intro j e he
  refine .inr ?_
  rcases j with _ | _ | _ | _ | j
  · exact hd
  · show 0 < d + 1; omega
  · show 0 < d + 1; omega
  · show 0 < d + 1; omega
  · simp [semEvents] at he

theorem bk_sem {Wg : Nat} (a : Addr) (h : a.block = Wg) : ∀ e ∈ semEvents a, Bk Wg e := by
  intro e he
  simp only [semEvents, List.mem_toArray, List.mem_cons, List.not_mem_nil, or_false] at he
  rcases he with rfl | rfl | rfl | rfl
  · exact .inl rfl
  · exact bk_cell _ _ h
  · exact bk_cell _ _ h
  · exact .inr (.inl rfl)

set_option maxHeartbeats 1000000 in
/-- Whatever step number k takes. -/
theorem wstep (C : Com w0 Φ.S N0 h T w t) (I : InPh P Φ N0 j h T gs w t) (hw : WgAt Φ.ty Φ.Wg w st sm) {k : Nat} {g : Goroutine} {x : WS} (hk : gs[k + 1]? = some g) (hx : T[k]? = some x) (hrun : g.status = .running) (F : Fits x.stage st sm) :
    Done P Φ N0 j h T gs w0 w t k g x st sm := by
  obtain ⟨g1, hg1, hs⟩ := I.sit k x hx
  obtain rfl : g1 = g := by rw [hk] at hg1; exact (Option.some.inj hg1).symm
  have hJ := I.J hw
  have young : x.stage ≠ 1 → N0 ≤ k := fun h => Nat.le_of_not_lt fun hlt => h (I.old k x hx hlt)
  generalize hd : Deaf t (k + 1) = dd at hs
  have hAst : ∀ v : Int, Aside Φ.Wg w (w.setCell (stA Φ.Wg) (.int .u64 v)) := fun v => aside_setCell w (stA Φ.Wg) _
  have hAsm : ∀ v : Int, Aside Φ.Wg w (w.setCell (smA Φ.Wg) (.int .u32 v)) := fun v => aside_setCell w (smA Φ.Wg) _
  cases hs with
  | @put fr cs rk f hp hR =>
    have hNk := young (by simp)
    cases rk with
    | leaf =>
      obtain ⟨g', h1, m, h2⟩ := hR w (C.hasW k _ hx) hJ
      exact putStep C I hw hk hx h1 h2 rfl hd hNk
    | node f =>
      obtain ⟨fr', cs', w', es, h', h1, h2, h3, h4⟩ := hR w (C.hasW k _ hx) hJ
      exact runStep C I hw hk hx h1 h2 h3 h4 rfl ⟨f, w, rfl, rfl⟩ hd hNk
  | @rel _ rk m hR =>
    have hNk := young (by simp)
    rcases hR.cases with hst | ⟨m', rfl, _, hst⟩
    · obtain ⟨_, g', h1, m', h2⟩ := hst w hJ
      refine bookStep C I hw hk hx h1 (y := ⟨6, rk, m', emp⟩) (Aside.refl _ _) hw (fun e he => ?_) (.inl hNk) (by rw [hd]; exact .dis h2) rfl rfl (fun h => by omega) (by show 6 < 8; omega) (by show 7 < 8; omega) (fun _ _ => ⟨_, RelBy.new hd _ _⟩) (WS.lt_stage (by show 6 < 7; omega)) (.same (.inr ⟨by show 5 ≤ 7; omega, by show 5 ≤ 6; omega⟩))
      simp only [List.mem_toArray, List.mem_singleton] at he
      exact .inr he
    · obtain ⟨g', h1, h2⟩ := hst w hJ
      exact silStep C I hw hk hx h1 rfl (by show 7 < 8; omega) (by rw [hd]; exact .rel h2) (Nat.lt_succ_self _) (.inl hNk)
  | @dis _ rk m hR =>
    have hNk := young (by simp)
    rcases hR.cases with hst | ⟨m', rfl, _, hst⟩
    · obtain ⟨_, g', h1, m', h2⟩ := hst w hJ
      have hb : ∀ e ∈ (#[mk .disable] : Array Event), Bk Φ.Wg e := fun e he => by
        simp only [List.mem_toArray, List.mem_singleton] at he
        exact .inl (by rw [he]; rfl)
      refine bookStep C I hw hk hx h1 (y := ⟨5, rk, m', emp⟩) (Aside.refl _ _) hw (fun e he => .inl (hb e he)) (.inl hNk) (by rw [hd]; exact .d1 h2) rfl rfl (fun h => by omega) (by show 5 < 8; omega) (by show 6 < 8; omega) (fun _ _ => ?_) (WS.lt_stage (by show 5 < 6; omega)) (.same (.inr ⟨by show 5 ≤ 6; omega, by show 5 ≤ 5; omega⟩))
      obtain ⟨r, hr⟩ := I.rel k _ hx hNk (by show 6 < 7; omega)
      refine ⟨r, hr.book hd _ _ hb fun j e he => .inl ?_⟩
      rcases j with _ | j
      · simp at he; rw [← he]; rfl
      · simp at he
    · obtain ⟨g', h1, h2⟩ := hst w hJ
      exact silStep C I hw hk hx h1 rfl (by show 6 < 8; omega) (by rw [hd]; exact .dis h2) (Nat.lt_succ_self _) (.inl hNk)
  | @d1 _ rk m hR =>
    have hNk := young (by simp)
    rcases hR.cases with hst | ⟨m', rfl, _, hst⟩
    · obtain ⟨v, wt, hwt, hv, rfl, rfl⟩ := F.five rfl
      obtain ⟨_, h0⟩ := hst w hJ
      obtain ⟨g', h1, h2, h3⟩ := h0 v wt hwt hv hw
      have hb : ∀ e ∈ (#[rd (stA Φ.Wg), wr (stA Φ.Wg)] : Array Event), Bk Φ.Wg e := fun e he => by
        simp only [List.mem_toArray, List.mem_cons, List.not_mem_nil, or_false] at he
        rcases he with rfl | rfl <;> exact bk_cell _ _ rfl
      obtain ⟨r, hr⟩ := I.rel k _ hx hNk (by show 5 < 7; omega)
      have hr' := hr.book hd g1.frame.fn g1.frame.place hb (deaf_rw (by omega) _ _)
      by_cases hc : v = 0 ∧ wt = 1
      · obtain ⟨m', h4⟩ := h2 hc
        exact bookStep C I hw hk hx h1 (y := ⟨4, rk, m', emp⟩) (hAst _) (hw.setSt _) (fun e he => .inl (hb e he)) (.inl hNk) (by rw [hd]; exact .d2 h4) rfl rfl (fun h => by omega) (by show 4 < 8; omega) (by show 5 < 8; omega) (fun _ _ => ⟨r, hr'⟩) (WS.lt_stage (by show 4 < 5; omega)) (.add hwt rfl rfl (by rw [if_pos hc]))
      · obtain ⟨m', h4⟩ := h3 hc
        exact bookStep C I hw hk hx h1 (y := ⟨1, rk, m', emp⟩) (hAst _) (hw.setSt _) (fun e he => .inl (hb e he)) (.inl hNk) (by rw [hd]; exact .quit h4) rfl rfl (fun _ => rfl) (by show 1 < 8; omega) (by show 5 < 8; omega) (fun _ _ => ⟨r, hr'⟩) (WS.lt_stage (by show 1 < 5; omega)) (.add hwt rfl rfl (by rw [if_neg hc]))
    · obtain ⟨g', h1, h2⟩ := hst w hJ
      exact silStep C I hw hk hx h1 rfl (by show 5 < 8; omega) (by rw [hd]; exact .d1 h2) (Nat.lt_succ_self _) (.inl hNk)
  | @d2 _ rk m hR =>
    have hNk := young (by simp)
    rcases hR.cases with hst | ⟨m', rfl, _, hst⟩
    · obtain ⟨rfl, rfl⟩ := F.mid (.inl rfl)
      obtain ⟨_, h0⟩ := hst w hJ
      obtain ⟨g', h1, m', h2⟩ := h0 hw
      have hb : ∀ e ∈ (#[rd (stA Φ.Wg)] : Array Event), Bk Φ.Wg e := fun e he => by
        simp only [List.mem_toArray, List.mem_singleton] at he
        subst he; exact bk_cell _ _ rfl
      obtain ⟨r, hr⟩ := I.rel k _ hx hNk (by show 4 < 7; omega)
      exact bookStep C I hw hk hx h1 (y := ⟨3, rk, m', emp⟩) (Aside.refl _ _) hw (fun e he => .inl (hb e he)) (.inl hNk) (by rw [hd]; exact .d3 h2) rfl rfl (fun h => by omega) (by show 3 < 8; omega) (by show 4 < 8; omega) (fun _ _ => ⟨r, hr.book hd _ _ hb (deaf_one (by omega) _)⟩) (WS.lt_stage (by show 3 < 4; omega)) (.seen rfl rfl)
    · obtain ⟨g', h1, h2⟩ := hst w hJ
      exact silStep C I hw hk hx h1 rfl (by show 4 < 8; omega) (by rw [hd]; exact .d2 h2) (Nat.lt_succ_self _) (.inl hNk)
  | @d3 _ rk m hR =>
    have hNk := young (by simp)
    rcases hR.cases with hst | ⟨m', rfl, _, hst⟩
    · obtain ⟨rfl, rfl⟩ := F.mid (.inr rfl)
      obtain ⟨_, h0⟩ := hst w hJ
      obtain ⟨g', h1, m', h2⟩ := h0 hw
      have hb : ∀ e ∈ (#[wr (stA Φ.Wg)] : Array Event), Bk Φ.Wg e := fun e he => by
        simp only [List.mem_toArray, List.mem_singleton] at he
        subst he; exact bk_cell _ _ rfl
      obtain ⟨r, hr⟩ := I.rel k _ hx hNk (by show 3 < 7; omega)
      exact bookStep C I hw hk hx h1 (y := ⟨2, rk, m', emp⟩) (hAst _) (hw.setSt _) (fun e he => .inl (hb e he)) (.inl hNk) (by rw [hd]; exact .d4 h2) rfl rfl (fun h => by omega) (by show 2 < 8; omega) (by show 3 < 8; omega) (fun _ _ => ⟨r, hr.book hd _ _ hb (deaf_one (by omega) _)⟩) (WS.lt_stage (by show 2 < 3; omega)) (.nought rfl rfl)
    · obtain ⟨g', h1, h2⟩ := hst w hJ
      exact silStep C I hw hk hx h1 rfl (by show 3 < 8; omega) (by rw [hd]; exact .d3 h2) (Nat.lt_succ_self _) (.inl hNk)
  | @d4 _ rk m hR =>
    have hNk := young (by simp)
    rcases hR.cases with hst | ⟨m', rfl, _, hst⟩
    · obtain ⟨rfl, rfl⟩ := F.two rfl
      obtain ⟨_, hwk, h0⟩ := hst w hJ
      obtain ⟨g', h1, m', h2⟩ := h0 hw
      have hb := bk_sem (smA Φ.Wg) (Wg := Φ.Wg) rfl
      obtain ⟨r, hr⟩ := I.rel k _ hx hNk (by show 2 < 7; omega)
      refine bookStep C I hw hk hx h1 (y := ⟨1, rk, m', emp⟩) (hAsm _) (hw.setSm _) (fun e he => .inl (hb e he)) (.inl hNk) (by rw [hd]; exact .quit h2) rfl rfl (fun _ => rfl) (by show 1 < 8; omega) (by show 2 < 8; omega) (fun _ _ => ⟨r, hr.book hd _ _ hb (deaf_sem (by omega) _)⟩) (WS.lt_stage (by show 1 < 2; omega)) (.gone rfl rfl hwk ?_)
      rcases h2.status with h | h <;> rw [h] <;> exact ⟨by simp, by simp⟩
    · obtain ⟨g', h1, h2⟩ := hst w hJ
      exact silStep C I hw hk hx h1 rfl (by show 2 < 8; omega) (by rw [hd]; exact .d4 h2) (Nat.lt_succ_self _) (.inl hNk)
  | @quit _ rk m d hQ =>
    cases m with
    | zero => rw [hQ.1] at hrun; cases hrun
    | succ m =>
      rcases hQ with ⟨h1, _⟩ | ⟨_, g', es, hm, h1, h2⟩
      · rw [h1] at hrun; cases hrun
      · have ht : ∀ e ∈ es, (MemAct.ofEvent e).touch? = none := fun e he => by
          rcases bk_of_mute (Wg := Φ.Wg) (hm e he) with h3 | h3 | ⟨a, q, h3, _⟩
          · rw [ofEvent_loc_mark h3]; rfl
          · rw [ofEvent_loc_mark h3]; rfl
          · have := hm e he
            rw [h3] at this; simp [Event.mute] at this
        refine bookStep C I hw hk hx (h1 w) (y := ⟨1, rk, m, emp⟩) (Aside.refl _ _) hw (fun e he => .inl (bk_of_mute (hm e he))) (.inr ht) (by rw [hd]; exact .quit h2) rfl rfl (fun _ => rfl) (by show 1 < 8; omega) (by show 1 < 8; omega) (fun hNk _ => ?_) (WS.lt_fuel rfl rfl (Nat.lt_succ_self _)) (.same (.inl rfl))
        obtain ⟨r, hr⟩ := I.rel k _ hx hNk (by show 1 < 7; omega)
        exact ⟨r, hr.book (Wg := Φ.Wg) hd _ _ (fun e he => bk_of_mute (hm e he)) fun j e he => .inl (ht e (Array.mem_of_getElem? he))⟩
end
end Go.Eng
/- A phase: the first goroutine's steps beside the others'. -/
namespace Go.Eng
open Go Go.Conc Go.ConcN
open Go.ConcR (KK wgBlock WgAt stA smA rd wr mk g_of_ofEvents Bk DC0 bk_of_mute ofEvent_loc_mark ofEvent_cell ofEvent_mk deafBehind_cons deafBehind_one)

/-! ### How many are counted -/

def V (T : List WS) : Nat := T.countP fun x => decide (5 ≤ x.stage)
def NoMid (T : List WS) : Prop := ∀ (k : Nat) (x : WS), T[k]? = some x → x.stage ≠ 2 ∧ x.stage ≠ 3 ∧ x.stage ≠ 4

def c5 (n : Nat) : Nat := if 5 ≤ n then 1 else 0

theorem V_set {T : List WS} {k : Nat} {x y : WS} (hx : T[k]? = some x) : V (T.set k y) + c5 x.stage = V T + c5 y.stage := by
  obtain ⟨hlt, rfl⟩ := List.getElem?_eq_some_iff.1 hx
  unfold V c5
  rw [List.countP_set hlt]
  have hp : 5 ≤ T[k].stage → 0 < T.countP fun x => decide (5 ≤ x.stage) := fun h => List.countP_pos_iff.2 ⟨T[k], List.getElem_mem hlt, by simpa using h⟩
  by_cases h1 : 5 ≤ T[k].stage <;> by_cases h2 : 5 ≤ y.stage <;> simp [h1, h2]
  · have := hp h1; omega
  · have := hp h1; omega

theorem V_le {T : List WS} {N0 j : Nat} (hl : T.length = N0 + j) (ho : ∀ (k : Nat) (x : WS), T[k]? = some x → k < N0 → x.stage = 1) : V T ≤ j := by
  unfold V
  rw [← List.take_append_drop N0 T, List.countP_append]
  have h0 : (T.take N0).countP (fun x => decide (5 ≤ x.stage)) = 0 := by
    refine List.countP_eq_zero.2 fun x hx => ?_
    obtain ⟨k, hk⟩ := List.getElem?_of_mem hx
    have hlt : k < N0 := by
      have := (List.getElem?_eq_some_iff.1 hk).1
      rw [List.length_take] at this; omega
    rw [List.getElem?_take, if_pos hlt] at hk
    simp [ho k x hk hlt]
  have h1 := List.countP_le_length (p := fun x : WS => decide (5 ≤ x.stage)) (l := T.drop N0)
  rw [List.length_drop] at h1
  omega

theorem V_pos {T : List WS} {k : Nat} {x : WS} (hx : T[k]? = some x) (h5 : 5 ≤ x.stage) : 1 ≤ V T :=
  List.countP_pos_iff.2 ⟨x, List.mem_of_getElem? hx, by simpa using h5⟩

/-- The first has not yet put itself on the list of those that wait. -/
def ModeO (T : List WS) (pend : Nat) (st sm : Int) : Prop := st = ((V T + pend : Nat) : Int) * KK ∧ sm = 0 ∧ NoMid T

theorem ModeO.fits {T : List WS} {pend n N0 j : Nat} {st sm : Int} (M : ModeO T pend st sm) (hl : T.length = N0 + j) (ho : ∀ (k : Nat) (x : WS), T[k]? = some x → k < N0 → x.stage = 1) (hb : j + pend ≤ n) (hn : n < 2147483648) {k : Nat} {x : WS} (hx : T[k]? = some x) : Fits x.stage st sm := by
  obtain ⟨rfl, rfl, hm⟩ := M
  have h3 := hm k x hx
  refine ⟨fun h => ?_, fun h => by omega, fun h => by omega⟩
  have h1 := V_pos hx (by omega)
  have h2 := V_le hl ho
  refine ⟨V T + pend - 1, 0, by omega, by omega, ?_, rfl⟩
  simp only [KK]; omega

theorem ModeO.turn {T : List WS} {pend : Nat} {st sm st' sm' : Int} (M : ModeO T pend st sm) {k : Nat} {x y : WS} (hx : T[k]? = some x) {P : Program} {g g' : Goroutine} (H : Turn P g g' x.stage y.stage st sm st' sm') : ModeO (T.set k y) pend st' sm' := by
  obtain ⟨rfl, rfl, hm⟩ := M
  have h3 := hm k x hx
  have hv := V_set (y := y) hx
  have nm : y.stage ≠ 2 ∧ y.stage ≠ 3 ∧ y.stage ≠ 4 → NoMid (T.set k y) := fun h i z hz => by
    rcases get_set hz with ⟨rfl, rfl⟩ | ⟨_, hz⟩
    · exact h
    · exact hm i z hz
  generalize ha : x.stage = a at *
  generalize hb : y.stage = b at *
  cases H with
  | same h =>
    have : V (T.set k y) = V T := by
      rcases h with rfl | ⟨h1, h2⟩
      · omega
      · simp only [c5, if_pos h1, if_pos h2] at hv; omega
    exact ⟨by rw [this], rfl, nm (by omega)⟩
  | @add v wt hwt h1 h2 h3' =>
    subst h1
    simp only [KK] at h2
    have hwt0 : wt = 0 := by omega
    subst hwt0
    rw [if_neg (by omega)] at h3'
    subst h3'
    have hc : V (T.set k y) + 1 = V T := by simpa [c5] using hv
    exact ⟨by simp only [KK]; omega, rfl, nm (by omega)⟩
  | seen h _ => omega
  | nought h _ => omega
  | gone h _ _ _ => omega

/-! ### One goes on -/

inductive Le : List WS → List WS → Prop
  | refl (T : List WS) : Le T T
  | step {T' T1 T : List WS} : One WS.lt T' T1 → Le T1 T → Le T' T

theorem Le.trans {A B C : List WS} (h : Le A B) (k : Le B C) : Le A C := by
  induction h with
  | refl => exact k
  | step h1 _ ih => exact .step h1 (ih k)

def MainDone (P : Program) (Good : Machine → Outcome → World → Trace → Prop) (gs : Array Goroutine) (w : World) (sl : Option (Nat × Nat)) (t : Trace) : Prop :=
  (∃ m' ops, runT P (crowd gs w sl) 0 = (.next m', ops) ∧ Runs P Good m' (t ++ ops)) ∨
  (∃ o w1 ops, runT P (crowd gs w sl) 0 = (.ended o w1, ops) ∧ ∀ w2 sl2, Good (crowd gs w2 sl2) o w1 (t ++ ops))

/-- Whoever is taken: the first, who then has done; or another, and all stands as it stood. -/
theorem turn {P : Program} {Good : Machine → Outcome → World → Trace → Prop} {I : List WS → Array Goroutine → World → Trace → Prop} {T0 : List WS}
    (hat : ∀ T gs w t d, I T gs w t → I T gs (w.at d) t) (haw : ∀ T gs w t, I T gs w t → ∀ g ∈ gs, awake g) (hru : ∀ T gs w t, I T gs w t → ∃ (i : Nat) (g : Goroutine), gs[i]? = some g ∧ g.status = .running)
    (hW : ∀ T gs w t sl k g, I T gs w t → gs[k + 1]? = some g → g.status = .running → ∃ T' gs' w' ops, runT P (crowd gs w sl) (k + 1) = (.next (crowd gs' w' sl), ops) ∧ One WS.lt T' T ∧ I T' gs' w' (t ++ ops))
    (hM : ∀ T gs w t sl g, Le T T0 → I T gs w t → gs[0]? = some g → g.status = .running → MainDone P Good gs w sl t) :
    ∀ T gs w t sl, Le T T0 → I T gs w t → Runs P Good (crowd gs w sl) t := by
  intro T
  induction (One.wf WS.wf).apply T with
  | intro T _ ih =>
    intro gs w t sl hle hI
    obtain ⟨i, g, d, sl', hg, hrun, hstep⟩ := crowd_pick (P := P) (w := w) (sl := sl) (haw _ _ _ _ hI) (hru _ _ _ _ hI)
    have hI' := hat _ _ _ _ d hI
    cases i with
    | zero =>
      rcases hM T gs (w.at d) t sl' g hle hI' hg hrun with ⟨m', ops, h1, h2⟩ | ⟨o, w1, ops, h1, h2⟩
      · exact .step (hstep.trans h1) h2
      · exact .fin (hstep.trans h1) (h2 w sl)
    | succ k =>
      obtain ⟨T', gs', w', ops, h1, h2, h3⟩ := hW T gs (w.at d) t sl' k g hI' hg hrun
      exact .step (hstep.trans h1) (ih T' h2 gs' w' (t ++ ops) sl' (.step h2 hle) h3)
end Go.Eng
/- A phase: the first goroutine's own steps, one at a time. -/
namespace Go.Eng
open Go Go.Conc Go.ConcN
open Go.ConcR (KK wgBlock WgAt stA smA rd wr mk g_of_ofEvents Bk DC0 bk_of_mute ofEvent_loc_mark ofEvent_cell ofEvent_mk deafBehind_cons deafBehind_one)

structure Iop (P : Program) (Φ : Ph) (N0 j : Nat) (h : Heap) (w0 : World) (M : List WS → Int → Int → Prop) (d0 : Nat) (g0 : Goroutine) (T : List WS) (gs : Array Goroutine) (w : World) (t : Trace) : Prop where
  C : Com w0 Φ.S N0 h T w t
  I : InPh P Φ N0 j h T gs w t
  wg : ∃ st sm, WgAt Φ.ty Φ.Wg w st sm ∧ M T st sm
  g0 : gs[0]? = some g0
  deaf : Deaf t 0 = d0

/-- M is kept by the others' steps, and gives them what they ask. -/
def Shut (N0 j : Nat) (M : List WS → Int → Int → Prop) : Prop :=
  ∀ (T : List WS) (k : Nat) (x y : WS) (st sm : Int), T.length = N0 + j → (∀ (k : Nat) (x : WS), T[k]? = some x → 1 ≤ x.stage) → (∀ (k : Nat) (x : WS), T[k]? = some x → k < N0 → x.stage = 1) → T[k]? = some x → M T st sm →
    Fits x.stage st sm ∧ ∀ (P : Program) (g g' : Goroutine) (st' sm' : Int), Turn P g g' x.stage y.stage st sm st' sm' → M (T.set k y) st' sm'

def stepped0 (P : Program) (gs : Array Goroutine) (g g' : Goroutine) (w' : World) : Array Goroutine := (gs.map (woken P g g' w')).setIfInBounds 0 g'

section
variable {P : Program} {Φ : Ph} {N0 j : Nat} {h h' : Heap} {T : List WS} {gs : Array Goroutine} {w0 w w' : World} {t : Trace} {es : Array Event} {sl : Option (Nat × Nat)} {st sm : Int} {M M' : List WS → Int → Int → Prop} {d0 : Nat} {g0 g1 : Goroutine}
  {Good : Machine → Outcome → World → Trace → Prop}

theorem commit0 (h0 : gs[0]? = some g0) (hs : stepG P true g0 w = .go g1 w' es) : runT P (crowd gs w sl) 0 = (.next (crowd (stepped0 P gs g0 g1 w') w' sl), MemOp.ofEvents 0 g0.frame.fn g0.frame.place es) := runT_crowd_go h0 hs

theorem stepped0_zero (h0 : gs[0]? = some g0) : (stepped0 P gs g0 g1 w')[0]? = some g1 := get_map_set_same _ _ _ (Array.getElem?_eq_some_iff.1 h0).1

theorem stepped0_succ {i : Nat} {o : Goroutine} (hi : gs[i + 1]? = some o) (ho : o.status = .running ∨ o.status = .finished) : (stepped0 P gs g0 g1 w')[i + 1]? = some o := by
  unfold stepped0
  rw [get_map_set _ _ _ _ (by omega), hi, Option.map_some, woken_still ho]

theorem Iop.J (X : Iop P Φ N0 j h w0 M d0 g0 T gs w t) : Φ.J w := let ⟨_, _, h, _⟩ := X.wg; X.I.J h
theorem Iop.at (X : Iop P Φ N0 j h w0 M d0 g0 T gs w t) (d : Nat) : Iop P Φ N0 j h w0 M d0 g0 T gs (w.at d) t := ⟨X.C.at d, X.I.at d, X.wg, X.g0, X.deaf⟩

theorem sit_awake (I : InPh P Φ N0 j h T gs w t) (hJ : Φ.J w) (h0 : gs[0]? = some g0) (hg : g0.status = .running ∨ g0.status = .finished ∨ g0.status = .blocked) : ∀ g ∈ gs, awake g := by
  intro g hg2 tm
  obtain ⟨i, hi⟩ := Array.mem_iff_getElem?.1 hg2
  cases i with
  | zero =>
    rw [h0] at hi; cases hi
    rcases hg with h | h | h <;> rw [h] <;> simp
  | succ i =>
    have hlt : i < T.length := by
      have := (Array.getElem?_eq_some_iff.1 hi).1
      rw [I.gsz] at this; omega
    obtain ⟨g', hg', hs⟩ := I.sit i _ (List.getElem?_eq_getElem hlt)
    rw [hi] at hg'; cases hg'
    rcases hs.status hJ with h | ⟨h, _⟩ <;> rw [h] <;> simp

/-- Another's step. -/
theorem Iop.worker (X : Iop P Φ N0 j h w0 M d0 g0 T gs w t) (hn : Shut N0 j M) (hr : g0.status = .running) {k : Nat} {g : Goroutine} (hk : gs[k + 1]? = some g) (hrun : g.status = .running) :
    ∃ T' gs' w' ops, runT P (crowd gs w sl) (k + 1) = (.next (crowd gs' w' sl), ops) ∧ One WS.lt T' T ∧ Iop P Φ N0 j h w0 M d0 g0 T' gs' w' (t ++ ops) := by
  obtain ⟨st, sm, hw, hM⟩ := X.wg
  have hlt : k < T.length := by
    have := (Array.getElem?_eq_some_iff.1 hk).1
    rw [X.I.gsz] at this; omega
  have hx := List.getElem?_eq_getElem hlt
  have hst : ∀ (k : Nat) (x : WS), T[k]? = some x → 1 ≤ x.stage := fun k x hx => by
    obtain ⟨g, _, hs⟩ := X.I.sit k x hx
    generalize Deaf t (k + 1) = d at hs
    cases hs <;> simp
  obtain ⟨g', w', es, y, st', sm', h1, h2, h3, h4, h5, h6⟩ := wstep X.C X.I hw hk hx hrun (hn T k _ ⟨0, .leaf, 0, emp⟩ st sm X.I.len hst X.I.old hx hM).1
  refine ⟨_, _, w', _, commit hk h1, One.set hx h2, h3, h4, ⟨st', sm', h5, (hn T k _ y st sm X.I.len hst X.I.old hx hM).2 _ _ _ _ _ h6⟩, ?_, ?_⟩
  · rw [stepped_zero X.g0, woken_still (.inl hr)]
  · rw [Deaf_other t (by omega) _ g_of_ofEvents]; exact X.deaf

/-- The phase's part of a step of the first. -/
theorem InPh.first (I : InPh P Φ N0 j h T gs w t) (hJ : Φ.J w) (h0 : gs[0]? = some g0) (fn : FuncId) (pos : String) (hes : ∀ e ∈ es, ∀ b, (MemAct.ofEvent e).touch? = some b → ∃ ad, b.loc = .cell ad ∧ (ad.block = Φ.Wg → b.kind ≠ .plain) ∧ ad.block ≠ Φ.C)
    (hlt : w.heap.size ≤ w'.heap.size) (hC : w'.heap[Φ.C]? = w.heap[Φ.C]?) (hno : h' Φ.Wg = none ∧ h' Φ.C = none) : InPh P Φ N0 j h' T (stepped0 P gs g0 g1 w') w' (t ++ MemOp.ofEvents 0 fn pos es) := by
  have hg : ∀ op ∈ MemOp.ofEvents 0 fn pos es, op.g = 0 := g_of_ofEvents
  have own : ∀ {i : Nat} {op : MemOp}, op ∈ MemOp.ofEvents 0 fn pos es → (t ++ MemOp.ofEvents 0 fn pos es)[i]? = some op → (t ++ MemOp.ofEvents 0 fn pos es).g? i = some 0 := fun h1 h2 => by simp [Trace.g?, h2, hg _ h1]
  have evt : ∀ {op : MemOp} {b : Touch}, op ∈ MemOp.ofEvents 0 fn pos es → op.act.touch? = some b → ∃ ad, b.loc = .cell ad ∧ (ad.block = Φ.Wg → b.kind ≠ .plain) ∧ ad.block ≠ Φ.C := fun hop hb => by
    obtain ⟨e, he, rfl⟩ := ofEvents_mem hop
    exact hes e he _ hb
  refine ⟨I.len, I.jn, by rw [← I.gsz]; simp [stepped0], ?_, I.old, I.CW, hno, I.xno, ⟨by have := I.lt; omega, by have := I.lt; omega⟩, ?_, ?_, ?_, ?_, ?_, ?_, ?_⟩
  · intro i z hz
    obtain ⟨o, ho, hs⟩ := I.sit i z hz
    exact ⟨o, stepped0_succ ho ((hs.status hJ).imp id fun h => h.1), by rw [Deaf_other t (by omega) _ hg]; exact hs⟩
  · obtain ⟨cs, hc1, hc2⟩ := I.pay
    exact ⟨cs, hC.trans hc1, hc2⟩
  · intro i a ad ha hl hb
    rcases touch_cases ha with ⟨hlt, h1⟩ | ⟨op, h1, h2, h3⟩
    · rcases I.quiet i a ad h1 hl hb with ⟨h4, h5⟩ | h4
      · exact .inl ⟨h4, fun h => by rw [g?_old hlt]; exact h5 h⟩
      · exact .inr fun k hk => kapp (h4 k hk)
    · obtain ⟨ad2, e1, e2, _⟩ := evt h1 h2
      rw [hl] at e1
      cases e1
      exact .inl ⟨e2 hb, fun _ => own h1 h3⟩
  · intro off i a ho ha hl
    rcases touch_cases ha with ⟨hlt, h1⟩ | ⟨op, h1, h2, h3⟩
    · exact kapp (I.cellF off i a ho h1 hl)
    · have := knows_own h3
      rwa [hg op h1] at this
  · intro i z hz hz8 q a ha hl
    rcases touch_cases ha with ⟨hlt, h1⟩ | ⟨op, h1, h2, h3⟩
    · exact kapp (I.cellW i z hz hz8 q a h1 hl)
    · obtain ⟨ad2, e1, _, e2⟩ := evt h1 h2
      rw [hl] at e1
      cases e1
      exact absurd rfl e2
  · intro i a ad ha hl hb
    rcases touch_cases ha with ⟨hlt, h1⟩ | ⟨op, h1, h2, h3⟩
    · rcases I.cC i a ad h1 hl hb with h4 | ⟨h4, q, h5, h6⟩
      · exact .inl (kapp h4)
      · exact .inr ⟨h4, q, h5, by rw [g?_old hlt]; exact h6⟩
    · have := knows_own h3
      rw [hg op h1] at this
      exact .inl this
  · intro i z hz hi hs
    rw [cell_same hC]; exact I.vals i z hz hi hs
  · intro i z hz hi hs
    obtain ⟨r, hr⟩ := I.rel i z hz hi hs
    exact ⟨r, hr.appOther hg (by omega)⟩

/-- A step of the library's bookkeeping. -/
theorem Iop.book (X : Iop P Φ N0 j h w0 M d0 g0 T gs w t) (hA : Aside Φ.Wg w w') (hw' : WgAt Φ.ty Φ.Wg w' st sm) (hM : M' T st sm)
    (hes : ∀ e ∈ es, Bk Φ.Wg e ∨ e = Go.ConcR.mk (.read (smA Φ.Wg)) ∨ e = Go.ConcR.mk (.write (smA Φ.Wg)) ∨ e = Go.ConcR.mk (.acquire (stA Φ.Wg))) (fn : FuncId) (pos : String) :
    Iop P Φ N0 j h w0 M' (deafBehind d0 es) g1 T (stepped0 P gs g0 g1 w') w' (t ++ MemOp.ofEvents 0 fn pos es) := by
  have tch : ∀ e ∈ es, ∀ b, (MemAct.ofEvent e).touch? = some b → ∃ ad, b.loc = .cell ad ∧ ad.block = Φ.Wg ∧ b.kind ≠ .plain := by
    intro e he b hb
    rcases hes e he with h1 | rfl | rfl | rfl
    · rcases h1 with h1 | h1 | ⟨a, q, rfl, ha⟩
      · rw [ofEvent_loc_mark h1] at hb; cases hb
      · rw [ofEvent_loc_mark h1] at hb; cases hb
      · rw [ofEvent_cell] at hb
        simp only [MemAct.touch?, Option.some.injEq] at hb
        subst hb
        exact ⟨a, rfl, ha, by simp⟩
    · simp only [ofEvent_mk, MemAct.touch?, Option.some.injEq] at hb
      subst hb
      exact ⟨_, rfl, rfl, by simp⟩
    · simp only [ofEvent_mk, MemAct.touch?, Option.some.injEq] at hb
      subst hb
      exact ⟨_, rfl, rfl, by simp⟩
    · cases hb
  have said_of : ∀ (x : Touch.Kind), x ≠ .plain → x = .atomic ∨ x = .said := fun x hx => by cases x <;> simp_all
  refine ⟨?_, X.I.first X.J X.g0 fn pos (fun e he b hb => ?_) (by rw [hA.size]; exact Nat.le_refl _) (hA.block _ X.I.CW) X.I.hno, ⟨st, sm, hw', hM⟩, stepped0_zero X.g0, by rw [Deaf_own, X.deaf]⟩
  · refine X.C.other (g := 0) (Nat.zero_le _) g_of_ofEvents rfl (fun i y hy => ⟨y, hy, fun b _ => rfl⟩) ⟨hA.os, hA.tape, hA.output⟩ hA.size (fun b hb => ?_) (fun op hop b hb => ?_) (fun op hop a hr => ?_) (.inl rfl)
    · refine hA.block b fun e => ?_
      subst e
      rcases hb with hb | ⟨i, z, hz, hb⟩
      · exact hb X.I.hno.1
      · exact hb (X.I.xno i z hz).1
    · obtain ⟨e, he, rfl⟩ := ofEvents_mem hop
      obtain ⟨ad, h1, h2, h3⟩ := tch e he b hb
      refine ⟨ad, h1, by rw [h2]; exact X.I.lt.1, by rw [h2]; exact X.I.hno.1, fun i z hz => by rw [h2]; exact (X.I.xno i z hz).1, fun said i a ha hc => ?_⟩
      rcases X.I.quiet i a ad ha (hc.1.trans h1) h2 with ⟨h4, h5⟩ | h4
      · rcases hc.2.2.2 with h6 | h6 | ⟨_, h6, _⟩
        · exact absurd h6 h4
        · exact absurd h6 h3
        · obtain ⟨op, ho, _⟩ := touch_of ha
          have := knows_own ho
          have e0 := h5 h6
          simp only [Trace.g?, ho, Option.map_some, Option.some.injEq] at e0
          rwa [e0] at this
      · exact h4 0 (.inl rfl)
    · obtain ⟨e, he, rfl⟩ := ofEvents_mem hop
      simp only at hr
      rcases hes e he with h1 | rfl | rfl | rfl
      · rcases h1 with h1 | h1 | ⟨a, q, rfl, ha⟩
        · rw [ofEvent_loc_mark h1] at hr; cases hr
        · rw [ofEvent_loc_mark h1] at hr; cases hr
        · rw [ofEvent_cell] at hr; cases hr
      · cases hr
      · cases hr
      · cases hr
  · obtain ⟨ad, h1, h2, h3⟩ := tch e he b hb
    exact ⟨ad, h1, fun _ => h3, fun e => X.I.CW (e.symm.trans h2)⟩

theorem Iop.silent (X : Iop P Φ N0 j h w0 M d0 g0 T gs w t) (fn : FuncId) (pos : String) : Iop P Φ N0 j h w0 M d0 g1 T (stepped0 P gs g0 g1 w) w (t ++ MemOp.ofEvents 0 fn pos #[]) := by
  obtain ⟨st, sm, hw, hM⟩ := X.wg
  exact X.book (es := #[]) (Aside.refl _ _) hw hM (fun e he => by simp at he) fn pos

/-- A private step. -/
theorem Iop.priv (X : Iop P Φ N0 j h w0 M d0 g0 T gs w t) (K : Kept Φ.S h h' w w') (hes : ∀ e ∈ es, EvOk Φ.S h w w' e) (fn : FuncId) (pos : String) :
    Iop P Φ N0 j h' w0 M d0 g1 T (stepped0 P gs g0 g1 w') w' (t ++ MemOp.ofEvents 0 fn pos es) := by
  obtain ⟨st, sm, hw, hM⟩ := X.wg
  have hW := K.old Φ.Wg X.I.lt.1 X.I.hno.1
  have hC := K.old Φ.C X.I.lt.2 X.I.hno.2
  refine ⟨X.C.main K hes fn pos, X.I.first X.J X.g0 fn pos (fun e he b hb => ?_) K.size hC.1 ⟨hW.2, hC.2⟩, ⟨st, sm, hW.1.trans hw, hM⟩, stepped0_zero X.g0, ?_⟩
  · have hop : ({ g := 0, fn := 0, pos := "", act := .ofEvent e } : MemOp) ∈ MemOp.ofEvents 0 0 "" #[e] := by simp [MemOp.ofEvents]
    obtain ⟨ad, h1, h2, h3, _, _⟩ := evok_touch (S := Φ.S) (h := h) (w := w) (w' := w') (es := #[e]) (fun e' he' => by simp at he'; rw [he']; exact hes e he) hop hb
    refine ⟨ad, h1, fun e1 => ?_, fun e1 => ?_⟩
    · rw [e1] at h3
      rcases h3 with h3 | h3
      · exact absurd X.I.hno.1 h3
      · have := X.I.lt.1; omega
    · rw [e1] at h3
      rcases h3 with h3 | h3
      · exact absurd X.I.hno.2 h3
      · have := X.I.lt.2; omega
  · rw [Deaf_own, X.deaf]
    refine deafBehind_idle (fun e he => ?_) _
    rcases hes e he with ⟨a, h1, _⟩ | ⟨m, hm, rfl⟩
    · rw [h1]; exact ⟨by simp, by simp⟩
    · cases m <;> simp [Quiet] at hm ⊢

/-- Beside the others' steps the first takes its own. -/
theorem Iop.turn (hn : Shut N0 j M) (hr : g0.status = .running)
    (hM : ∀ T' gs w t sl, Le T' T → Iop P Φ N0 j h w0 M d0 g0 T' gs w t → MainDone P Good gs w sl t) (X : Iop P Φ N0 j h w0 M d0 g0 T gs w t) (sl : Option (Nat × Nat)) : Runs P Good (crowd gs w sl) t :=
  Eng.turn (I := fun T gs w t => Iop P Φ N0 j h w0 M d0 g0 T gs w t) (T0 := T) (fun T gs w t d X => X.at d) (fun T gs w t X => sit_awake X.I X.J X.g0 (.inl hr)) (fun T gs w t X => ⟨0, g0, X.g0, hr⟩)
    (fun T gs w t sl k g X hk hg => X.worker hn hr hk hg) (fun T' gs w t sl g hle X _ _ => hM T' gs w t sl hle X) T gs w t sl (.refl T) X

/-- Silent steps, to their stop. -/
theorem Iop.sil (hn : Shut N0 j M) {Stop : Goroutine → World → Prop} : ∀ (m : Nat) (g0 : Goroutine) (T : List WS) (gs : Array Goroutine) (w : World) (t : Trace) (sl : Option (Nat × Nat)), Sil P true Φ.J Stop m g0 → Iop P Φ N0 j h w0 M d0 g0 T gs w t →
    (∀ g' T' gs' w' t' sl', Le T' T → (∀ w, Φ.J w → Stop g' w) → Iop P Φ N0 j h w0 M d0 g' T' gs' w' t' → Runs P Good (crowd gs' w' sl') t') → Runs P Good (crowd gs w sl) t := by
  intro m
  induction m with
  | zero =>
    intro g0 T gs w t sl H X K
    rcases H.cases with h | ⟨k, h, _⟩
    · exact K g0 T gs w t sl (.refl T) h X
    · omega
  | succ m ih =>
    intro g0 T gs w t sl H X K
    rcases H.cases with h | ⟨k, h, hr, hst⟩
    · exact K g0 T gs w t sl (.refl T) h X
    · obtain rfl : k = m := by omega
      refine X.turn hn hr (fun T' gs w t sl hle X => ?_) sl
      obtain ⟨g', h1, h2⟩ := hst w X.J
      exact .inl ⟨_, _, commit0 X.g0 h1, ih g' T' _ w _ sl h2 (X.silent _ _) fun g2 T2 gs2 w2 t2 sl2 hl => K g2 T2 gs2 w2 t2 sl2 (hl.trans hle)⟩

/-- Private steps, to their stop. -/
theorem Iop.safe (hS : ∀ fr cs h Q, ¬ Φ.S.big fr cs h Q) (hn : Shut N0 j M) {Post : Frame → List Frame → Heap → Prop} {fr : Frame} {cs : List Frame} (H : Safe P Φ.S Post fr cs h) : ∀ (T : List WS) (gs : Array Goroutine) (w : World) (t : Trace) (sl : Option (Nat × Nat)),
    Iop P Φ N0 j h w0 M d0 (gor fr cs) T gs w t →
    (∀ fr' cs' h' T' gs' w' t' sl', Post fr' cs' h' → (∀ b, Φ.S b → h' b = h b) → Iop P Φ N0 j h' w0 M d0 (gor fr' cs') T' gs' w' t' → Runs P Good (crowd gs' w' sl') t') → Runs P Good (crowd gs w sl) t := by
  induction H with
  | done p => exact fun T gs w t sl X K => K _ _ _ T gs w t sl p (fun _ _ => rfl) X
  | step fr' cs' w' es h' hs _ ih =>
    intro T gs w t sl X K
    refine X.turn hn rfl (fun T' gs w t sl _ X => ?_) sl
    obtain ⟨h1, h2, h3⟩ := hs w true X.C.has
    exact .inl ⟨_, _, commit0 X.g0 h1, ih w true X.C.has T' _ _ _ sl (X.priv h2 h3 _ _) fun fr2 cs2 h2' T2 gs2 w2 t2 sl2 p hro => K fr2 cs2 h2' T2 gs2 w2 t2 sl2 p fun b hb => (hro b hb).trans (h2.ro b hb)⟩
  | big h0 f Q e ha hb _ _ => exact absurd hb (hS _ _ _ _)
end
end Go.Eng
