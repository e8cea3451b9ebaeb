import Derived.Conc.CrowdRun
import Derived.Test.YtmnialmphlbmaaaEng8
set_option linter.unusedVariables false
set_option linter.unusedSimpArgs false
/- Several goroutines: ranks; a run on every tape; a goroutine's own run with its rank. -/
namespace Go.Eng
open Go Go.Conc

/-! ### Ranks -/

/-- The rank of a run that parts at each step by the world that it meets. -/
inductive Rk : Type
  | leaf
  | node (f : World → Rk)

def Rk.lt (a b : Rk) : Prop := ∃ f w, b = .node f ∧ a = f w

theorem Rk.wf : WellFounded Rk.lt := ⟨fun a => by
  induction a with
  | leaf => exact ⟨_, fun b h => by obtain ⟨f, w, h, _⟩ := h; cases h⟩
  | node f ih => exact ⟨_, fun b h => by obtain ⟨g, w, h, rfl⟩ := h; cases h; exact ih w⟩⟩

/-- One of a list goes down. -/
inductive One {α : Type} (r : α → α → Prop) : List α → List α → Prop
  | head {a b : α} {l : List α} : r a b → One r (a :: l) (b :: l)
  | tail {a : α} {l m : List α} : One r l m → One r (a :: l) (a :: m)

theorem One.acc {α : Type} {r : α → α → Prop} (hr : WellFounded r) : ∀ l : List α, Acc (One r) l
  | [] => ⟨_, fun _ h => nomatch h⟩
  | b :: l => by
    have key : ∀ b, Acc r b → ∀ l, Acc (One r) l → Acc (One r) (b :: l) := by
      intro b hb
      induction hb with
      | intro b _ ihb =>
        intro l hl
        induction hl with
        | intro l hl ihl =>
          refine ⟨_, fun m h => ?_⟩
          cases h with
          | head h => exact ihb _ h l ⟨_, hl⟩
          | tail h => exact ihl _ h
    exact key b (hr.apply b) l (One.acc hr l)

theorem One.set {α : Type} {r : α → α → Prop} : ∀ {l : List α} {i : Nat} {x y : α}, l[i]? = some x → r y x → One r (l.set i y) l
  | a :: l, 0, x, y, h, hr => by simp at h; subst h; exact .head hr
  | a :: l, i + 1, x, y, h, hr => .tail (One.set (l := l) (by simpa using h) hr)

theorem One.wf {α : Type} {r : α → α → Prop} (hr : WellFounded r) : WellFounded (One r) := ⟨One.acc hr⟩

/-! ### A run, on every tape -/

/-- From here the machine comes to a good end. -/
inductive Runs (P : Program) (Good : Machine → Outcome → World → Trace → Prop) : Machine → Trace → Prop
  | fin {m : Machine} {t : Trace} {o : Outcome} {w : World} {ops : Array MemOp} : stepT P m = (.ended o w, ops) → Good m o w (t ++ ops) → Runs P Good m t
  | step {m m' : Machine} {t : Trace} {ops : Array MemOp} : stepT P m = (.next m', ops) → Runs P Good m' (t ++ ops) → Runs P Good m t

theorem Runs.run {P : Program} {Good : Machine → Outcome → World → Trace → Prop} {m : Machine} {t : Trace} (H : Runs P Good m t) :
    ∃ N last o w t', runNT P (N + 1) m t = (.ended o w, t') ∧ runN P N m = .next last ∧ Go.step P last = .ended o w ∧ Good last o w t' := by
  induction H with
  | @fin m t o w ops h g => exact ⟨0, m, o, w, _, by simp [runNT, h], rfl, by simp [Go.step, h], g⟩
  | @step m m' t ops h _ ih =>
    obtain ⟨N, last, o, w, t', e1, e2, e3, e4⟩ := ih
    refine ⟨N + 1, last, o, w, t', ?_, ?_, e3, e4⟩
    · rw [runNT, h]; exact e1
    · rw [runN, Go.step, h]; exact e2

/-! ### One goroutine's own run, with its rank -/

/-- Private steps of a goroutine, whatever the rest of the world is, to a stop. J: what is known of the world besides. -/
def RunR (P : Program) (S : Shared) (m : Bool) (J : World → Prop) (Post : Frame → List Frame → Heap → Prop) : Rk → Frame → List Frame → Heap → Prop
  | .leaf, fr, cs, h => Post fr cs h
  | .node f, fr, cs, h => ∀ w, Has w h → J w → ∃ fr' cs' w' es h', stepG P m (gor fr cs) w = .go (gor fr' cs') w' es ∧ Kept S h h' w w' ∧ (∀ e ∈ es, EvOk S h w w' e) ∧ RunR P S m J Post (f w) fr' cs' h'

theorem Safe.rank {P : Program} {S : Shared} (hS : ∀ fr cs h Q, ¬ S.big fr cs h Q) {Post : Frame → List Frame → Heap → Prop} {fr : Frame} {cs : List Frame} {h : Heap} (m : Bool) (J : World → Prop)
    (H : Safe P S Post fr cs h) : ∃ r, RunR P S m J Post r fr cs h := by
  classical
  induction H with
  | done p => exact ⟨.leaf, p⟩
  | step fr' cs' w' es h' hs _ ih =>
    refine ⟨.node fun w => if c : Has w _ then (ih w m c).choose else .leaf, fun w hw _ => ?_⟩
    obtain ⟨h1, h2, h3⟩ := hs w m hw
    refine ⟨_, _, _, _, _, h1, h2, h3, ?_⟩
    simp only [dif_pos hw]
    exact (ih w m hw).choose_spec
  | big h0 f Q e ha hb _ _ => exact absurd hb (hS _ _ _ _)

/-- Silent steps: nothing is turned and nothing is listed; J holds of each world that is met. -/
def Sil (P : Program) (main : Bool) (J : World → Prop) (Stop : Goroutine → World → Prop) (n : Nat) (g : Goroutine) : Prop :=
  ∀ w, Goes P main (fun _ w₁ => J w₁) Go.ConcR.DC0 Stop n g w

theorem goes_any {P : Program} {main : Bool} {J : World → Prop} {D : World → World → Array Event → Prop} {Stop : Goroutine → World → Prop} {n : Nat} {g : Goroutine} {w w' : World}
    (H : Goes P main (fun _ w₁ => J w₁) D Stop n g w) : Goes P main (fun _ w₁ => J w₁) D Stop n g w' := by
  cases n <;> exact H

theorem Sil.of {P : Program} {main : Bool} {J : World → Prop} {Stop : Goroutine → World → Prop} {n : Nat} {g : Goroutine} {w : World}
    (H : Goes P main (fun _ w₁ => J w₁) Go.ConcR.DC0 Stop n g w) : Sil P main J Stop n g := fun _ => goes_any H

/-- A silent goroutine stands at its stop, or takes one silent step. -/
theorem Sil.cases {P : Program} {main : Bool} {J : World → Prop} {Stop : Goroutine → World → Prop} {n : Nat} {g : Goroutine} (H : Sil P main J Stop n g) :
    (∀ w, J w → Stop g w) ∨ ∃ k, n = k + 1 ∧ g.status = .running ∧ ∀ w, J w → ∃ g', stepG P main g w = .go g' w #[] ∧ Sil P main J Stop k g' := by
  cases n with
  | zero => exact .inl fun w hw => H w w hw
  | succ n =>
    rcases H default with h | ⟨hs, h⟩
    · exact .inl h
    · refine .inr ⟨n, rfl, hs, fun w hw => ?_⟩
      have := h w hw
      revert this
      cases stepG P main g w <;> simp only [GStep.goes, false_implies]
      rintro ⟨⟨rfl, rfl⟩, h2⟩
      exact ⟨_, rfl, Sil.of h2⟩
end Go.Eng
/- Several goroutines: what each holds and knows; private steps keep it. -/
namespace Go.Eng
open Go Go.Conc
open Go.ConcR (g_of_ofEvents)

/-- What is told of a goroutine beside the first. -/
structure WS where
  stage : Nat
  rk : Rk
  fuel : Nat
  heap : Heap

/-- w0: the world at the start; S: what nobody writes for now; N0: so many goroutines have been joined; h: what the first holds; T: the others. -/
structure Com (w0 : World) (S : Shared) (N0 : Nat) (h : Heap) (T : List WS) (w : World) (t : Trace) : Prop where
  env : w.os = w0.os ∧ w.tape = w0.tape ∧ w.output = w0.output
  has : Has w h
  inv : Inv S h
  hasW : ∀ (i : Nat) (x : WS), T[i]? = some x → Has w x.heap
  apart : ∀ (i : Nat) (x : WS), T[i]? = some x → ∀ b, ¬ S b → x.heap b ≠ none → h b = none
  apart2 : ∀ (i j : Nat) (x y : WS), T[i]? = some x → T[j]? = some y → i ≠ j → ∀ b, ¬ S b → x.heap b ≠ none → y.heap b = none
  nr : ∀ said, ¬ Race said t
  gsb : ∀ (i : Nat) (op : MemOp), t[i]? = some op → op.g ≤ T.length
  lo : ∀ (i : Nat) (a : Touch), touchAt t i = some a → ∃ ad, a.loc = .cell ad ∧ ad.block < w.heap.size
  norel : ∀ (i : Nat) (a : Addr), t.act? i ≠ some (.mark (.release a))
  kn : ∀ (i : Nat) (a : Touch) (ad : Addr), touchAt t i = some a → a.loc = .cell ad → h ad.block ≠ none → Knows t 0 i ∨ (S ad.block ∧ a.write = false ∧ a.kind = .plain ∧ ∃ k, N0 < k ∧ t.g? i = some k)
  knW : ∀ (k : Nat) (x : WS), T[k]? = some x → ∀ (i : Nat) (a : Touch) (ad : Addr), touchAt t i = some a → a.loc = .cell ad → x.heap ad.block ≠ none → (¬ S ad.block ∨ a.write = true) → Knows t (k + 1) i
  ho : ∀ (i k : Nat), t.g? i = some k → k ≠ 0 → k ≤ N0 → t.counts i → Knows t 0 i

section
variable {S : Shared} {N0 : Nat} {h h' : Heap} {T T' : List WS} {w0 w w' : World} {t u : Trace} {es : Array Event}

theorem touch_cases {i : Nat} {a : Touch} (ha : touchAt (t ++ u) i = some a) : (i < t.size ∧ touchAt t i = some a) ∨ ∃ op ∈ u, op.act.touch? = some a ∧ (t ++ u)[i]? = some op := by
  obtain ⟨op, ho, hoa⟩ := touch_of ha
  rcases getElem?_append_cases ho with ⟨hlt, h1⟩ | ⟨_, hu⟩
  · exact .inl ⟨hlt, by rw [touchAt_of h1]; exact hoa⟩
  · exact .inr ⟨op, hu, hoa, ho⟩

theorem g?_cases {i k : Nat} (hg : (t ++ u).g? i = some k) : (i < t.size ∧ t.g? i = some k) ∨ ∃ op ∈ u, op.g = k ∧ (t ++ u)[i]? = some op := by
  obtain ⟨op, ho, hoa⟩ := Option.map_eq_some_iff.1 hg
  rcases getElem?_append_cases ho with ⟨hlt, h1⟩ | ⟨_, hu⟩
  · exact .inl ⟨hlt, by simp [Trace.g?, h1, hoa]⟩
  · exact .inr ⟨op, hu, hoa, ho⟩

theorem ofEvents_mem {g : Nat} {fn : FuncId} {pos : String} {op : MemOp} (hop : op ∈ MemOp.ofEvents g fn pos es) : ∃ e ∈ es, op = { g, fn, pos, act := .ofEvent e } := by
  unfold MemOp.ofEvents at hop
  split at hop
  · simp at hop
  · obtain ⟨e, he, rfl⟩ := Array.mem_map.1 hop
    exact ⟨e, he, rfl⟩

/-- What a private step lists. -/
theorem evok_touch {g : Nat} {fn : FuncId} {pos : String} {op : MemOp} {b : Touch} (hes : ∀ e ∈ es, EvOk S h w w' e) (hop : op ∈ MemOp.ofEvents g fn pos es) (hb : op.act.touch? = some b) :
    ∃ ad, b.loc = .cell ad ∧ b.kind = .plain ∧ (h ad.block ≠ none ∨ w.heap.size ≤ ad.block) ∧ (b.write = true → ¬ S ad.block) ∧ ad.block < w'.heap.size := by
  obtain ⟨e, he, rfl⟩ := ofEvents_mem hop
  rcases hes e he with ⟨a, h1, h2, h3, h4⟩ | ⟨m, hm, rfl⟩
  · obtain ⟨l, wr, sy⟩ := e
    simp only at h1 h2 h4
    subst h1 h2
    have : MemAct.ofEvent ⟨.cell a, wr, false⟩ = .access ⟨.cell a, wr, false⟩ := by cases wr <;> rfl
    simp only [this, MemAct.touch?, Option.some.injEq] at hb
    subst hb
    exact ⟨a, rfl, rfl, h3, h4⟩
  · cases m <;> simp [Quiet, MemAct.ofEvent, MemAct.touch?] at hb hm

theorem evok_norel {g : Nat} {fn : FuncId} {pos : String} {op : MemOp} (hes : ∀ e ∈ es, EvOk S h w w' e) (hop : op ∈ MemOp.ofEvents g fn pos es) (a : Addr) : op.act ≠ .mark (.release a) := by
  obtain ⟨e, he, rfl⟩ := ofEvents_mem hop
  rcases hes e he with ⟨a, h1, h2, h3, h4⟩ | ⟨m, hm, rfl⟩
  · obtain ⟨l, wr, sy⟩ := e
    simp only at h1 h2
    subst h1 h2
    have : MemAct.ofEvent ⟨.cell a, wr, false⟩ = .access ⟨.cell a, wr, false⟩ := by cases wr <;> rfl
    simp [this]
  · cases m <;> simp [Quiet, MemAct.ofEvent] at hm ⊢

/-- An actor's private step leaves alone what others hold. -/
theorem kept_heap {hA hA' : Heap} (K : Kept S hA hA' w w') (H : Has w hA) {b : Nat} (hb : b < w.heap.size) (hS : hA b = none ∨ S b) : w'.heap[b]? = w.heap[b]? := by
  cases hh : hA b with
  | none => exact (K.old b hb hh).1
  | some o =>
    have hs : S b := hS.resolve_left (by rw [hh]; simp)
    have h1 := K.ro b hs
    rw [hh] at h1
    rw [K.has b o h1, H b o hh]

theorem kept_has {hA hA' hB : Heap} (K : Kept S hA hA' w w') (H : Has w hA) (HB : Has w hB) (hap : ∀ b, ¬ S b → hB b ≠ none → hA b = none) : Has w' hB := fun b o hb => by
  have hlt := HB.lt hb
  rw [kept_heap K H hlt (by
    by_cases hs : S b
    · exact .inr hs
    · exact .inl (hap b hs (by rw [hb]; simp)))]
  exact HB b o hb

theorem kept_old {hA hA' : Heap} (K : Kept S hA hA' w w') {b : Nat} (hb : b < w.heap.size) (h' : hA' b ≠ none) : hA b ≠ none := fun hn => h' (K.old b hb hn).2

theorem kapp {g i : Nat} (h : Knows t g i) : Knows (t ++ u) g i := Knows.app u h

theorem norel_app (h : ∀ (i : Nat) (a : Addr), t.act? i ≠ some (.mark (.release a))) (hu : ∀ op ∈ u, ∀ a, op.act ≠ .mark (.release a)) : ∀ (i : Nat) (a : Addr), (t ++ u).act? i ≠ some (.mark (.release a)) := by
  intro i a e
  obtain ⟨op, ho, hoa⟩ := Option.map_eq_some_iff.1 e
  rcases getElem?_append_cases ho with ⟨_, h1⟩ | ⟨_, h1⟩
  · exact h i a (by simp [Trace.act?, h1, hoa])
  · exact hu op h1 a hoa

theorem gsb_app {n : Nat} (h : ∀ (i : Nat) (op : MemOp), t[i]? = some op → op.g ≤ n) (hu : ∀ op ∈ u, op.g ≤ n) : ∀ (i : Nat) (op : MemOp), (t ++ u)[i]? = some op → op.g ≤ n := by
  intro i op ho
  rcases getElem?_append_cases ho with ⟨_, h1⟩ | ⟨_, h1⟩
  · exact h i op h1
  · exact hu op h1

theorem ho_app {N0 : Nat} (h : ∀ (i k : Nat), t.g? i = some k → k ≠ 0 → k ≤ N0 → t.counts i → Knows t 0 i) (hu : ∀ op ∈ u, op.g = 0 ∨ N0 < op.g ∨ op.act.touch? = none) :
    ∀ (i k : Nat), (t ++ u).g? i = some k → k ≠ 0 → k ≤ N0 → (t ++ u).counts i → Knows (t ++ u) 0 i := by
  intro i k hg hk hN hc
  rcases g?_cases hg with ⟨hlt, h1⟩ | ⟨op, h1, rfl, h2⟩
  · exact kapp (h i k h1 hk hN ((counts_old hlt).1 hc))
  · rcases hu op h1 with h3 | h3 | h3
    · exact absurd h3 hk
    · omega
    · obtain ⟨x, hx, _⟩ := hc
      simp [Trace.act?, h2, h3] at hx

/-- A private step of the first. -/
theorem Com.main (C : Com w0 S N0 h T w t) (K : Kept S h h' w w') (hes : ∀ e ∈ es, EvOk S h w w' e) (fn : FuncId) (pos : String) : Com w0 S N0 h' T w' (t ++ MemOp.ofEvents 0 fn pos es) := by
  have hg : ∀ op ∈ MemOp.ofEvents 0 fn pos es, op.g = 0 := g_of_ofEvents
  have own : ∀ {i : Nat} {op : MemOp}, op ∈ MemOp.ofEvents 0 fn pos es → (t ++ MemOp.ofEvents 0 fn pos es)[i]? = some op → Knows (t ++ MemOp.ofEvents 0 fn pos es) 0 i := fun h1 h2 => by
    have := knows_own h2
    rwa [hg _ h1] at this
  refine ⟨⟨K.os.trans C.env.1, K.tape.trans C.env.2.1, K.output.trans C.env.2.2⟩, K.has, ?_, ?_, ?_, C.apart2, ?_, ?_, ?_, ?_, ?_, ?_, ?_⟩
  · intro b hb hn
    rw [K.ro b hb] at hn
    exact C.inv b hb hn
  · exact fun i x hx => kept_has K C.has (C.hasW i x hx) (C.apart i x hx)
  · intro i x hx b hS hb
    have hlt : b < w.heap.size := by
      cases hh : x.heap b with
      | none => exact absurd hh hb
      | some o => exact (C.hasW i x hx).lt hh
    exact (K.old b hlt (C.apart i x hx b hS hb)).2
  · intro said
    refine noRace_append (C.nr said) hg fun i a ha op hop b hb hc => ?_
    obtain ⟨ad, h1, h2, h3, h4, _⟩ := evok_touch hes hop hb
    have hal : a.loc = .cell ad := hc.1.trans h1
    obtain ⟨ad2, e2, hlt⟩ := C.lo i a ha
    rw [hal] at e2
    cases e2
    rcases C.kn i a ad ha hal (h3.resolve_right (by omega)) with h5 | ⟨h5, h6, _⟩
    · exact h5
    · rcases hc.2.2.1 with h7 | h7
      · rw [h6] at h7; cases h7
      · exact absurd h5 (h4 h7)
  · exact gsb_app C.gsb fun op hop => by rw [hg op hop]; omega
  · intro i a ha
    rcases touch_cases ha with ⟨_, h1⟩ | ⟨op, h1, h2, _⟩
    · obtain ⟨ad, e, hlt⟩ := C.lo i a h1
      exact ⟨ad, e, Nat.lt_of_lt_of_le hlt K.size⟩
    · obtain ⟨ad, e1, _, _, _, e5⟩ := evok_touch hes h1 h2
      exact ⟨ad, e1, e5⟩
  · exact norel_app C.norel fun op hop a => evok_norel hes hop a
  · intro i a ad ha hl hh
    rcases touch_cases ha with ⟨hlt, h1⟩ | ⟨op, h1, h2, h3⟩
    · obtain ⟨ad2, e2, hlt2⟩ := C.lo i a h1
      rw [hl] at e2
      cases e2
      rcases C.kn i a ad h1 hl (kept_old K hlt2 hh) with h4 | ⟨h4, h5, h6, k, h7, h8⟩
      · exact .inl (kapp h4)
      · exact .inr ⟨h4, h5, h6, k, h7, by rw [g?_old hlt]; exact h8⟩
    · exact .inl (own h1 h3)
  · intro k x hx i a ad ha hl hh hc
    rcases touch_cases ha with ⟨hlt, h1⟩ | ⟨op, h1, h2, h3⟩
    · exact kapp (C.knW k x hx i a ad h1 hl hh hc)
    · obtain ⟨ad2, e1, _, e3, e4, _⟩ := evok_touch hes h1 h2
      rw [hl] at e1
      cases e1
      have hlt : ad.block < w.heap.size := by
        cases hx2 : x.heap ad.block with
        | none => exact absurd hx2 hh
        | some o => exact (C.hasW k x hx).lt hx2
      have hne : h ad.block ≠ none := e3.resolve_right (by omega)
      rcases hc with hc | hc
      · exact absurd (C.apart k x hx _ hc hh) hne
      · exact absurd (C.apart k x hx _ (e4 hc) hh) hne
  · exact ho_app C.ho fun op hop => .inl (hg op hop)

theorem get_set {α : Type} {l : List α} {i j : Nat} {x y : α} (h : (l.set i x)[j]? = some y) : (i = j ∧ y = x) ∨ (i ≠ j ∧ l[j]? = some y) := by
  rw [List.getElem?_set] at h
  by_cases e : i = j
  · subst e
    simp only [if_true] at h
    split at h
    · exact .inl ⟨rfl, (Option.some.inj h).symm⟩
    · cases h
  · rw [if_neg e] at h
    exact .inr ⟨e, h⟩

theorem lt_of {g : Heap} (H : Has w g) {b : Nat} (hb : g b ≠ none) : b < w.heap.size := by
  cases hh : g b with
  | none => exact absurd hh hb
  | some o => exact H.lt hh

/-- A private step of another one, not yet joined. -/
theorem Com.worker (C : Com w0 S N0 h T w t) {k : Nat} {x : WS} (hx : T[k]? = some x) (hN : N0 ≤ k) (K : Kept S x.heap h' w w') (hes : ∀ e ∈ es, EvOk S x.heap w w' e) (fn : FuncId) (pos : String) {y : WS} (hy : y.heap = h') :
    Com w0 S N0 h (T.set k y) w' (t ++ MemOp.ofEvents (k + 1) fn pos es) := by
  have hg : ∀ op ∈ MemOp.ofEvents (k + 1) fn pos es, op.g = k + 1 := g_of_ofEvents
  have hW := C.hasW k x hx
  have hkl : k < T.length := (List.getElem?_eq_some_iff.1 hx).1
  have own : ∀ {i : Nat} {op : MemOp}, op ∈ MemOp.ofEvents (k + 1) fn pos es → (t ++ MemOp.ofEvents (k + 1) fn pos es)[i]? = some op → Knows (t ++ MemOp.ofEvents (k + 1) fn pos es) (k + 1) i := fun h1 h2 => by
    have := knows_own h2
    rwa [hg _ h1] at this
  have apM : ∀ b, ¬ S b → h b ≠ none → x.heap b = none := fun b hS hb => by
    cases hh : x.heap b with
    | none => rfl
    | some o => exact absurd (C.apart k x hx b hS (by rw [hh]; simp)) hb
  have ap2 : ∀ (j : Nat) (z : WS), T[j]? = some z → k ≠ j → ∀ b, ¬ S b → z.heap b ≠ none → x.heap b = none := fun j z hz hj b hS hb => C.apart2 j k z x hz hx (Ne.symm hj) b hS hb
  refine ⟨⟨K.os.trans C.env.1, K.tape.trans C.env.2.1, K.output.trans C.env.2.2⟩, kept_has K hW C.has apM, C.inv, ?_, ?_, ?_, ?_, ?_, ?_, ?_, ?_, ?_, ?_⟩
  · intro j z hz
    rcases get_set hz with ⟨rfl, rfl⟩ | ⟨hj, hz⟩
    · rw [hy]; exact K.has
    · exact kept_has K hW (C.hasW j z hz) (ap2 j z hz hj)
  · intro j z hz b hS hb
    rcases get_set hz with ⟨rfl, rfl⟩ | ⟨hj, hz⟩
    · rw [hy] at hb
      cases hh : h b with
      | none => rfl
      | some o =>
        have hlt := lt_of C.has (b := b) (by rw [hh]; simp)
        exact absurd (apM b hS (by rw [hh]; simp)) (kept_old K hlt hb)
    · exact C.apart j z hz b hS hb
  · intro i j z z2 hz hz2 hij b hS hb
    rcases get_set hz with ⟨rfl, rfl⟩ | ⟨hj, hz'⟩
    · rcases get_set hz2 with ⟨rfl, _⟩ | ⟨hj2, hz2⟩
      · exact absurd rfl hij
      · rw [hy] at hb
        cases hh : z2.heap b with
        | none => rfl
        | some o =>
          have hlt := lt_of (C.hasW j z2 hz2) (b := b) (by rw [hh]; simp)
          exact absurd (ap2 j z2 hz2 hij b hS (by rw [hh]; simp)) (kept_old K hlt hb)
    · rcases get_set hz2 with ⟨rfl, rfl⟩ | ⟨hj2, hz2⟩
      · rw [hy]
        have hlt := lt_of (C.hasW i z hz') (b := b) hb
        exact (K.old b hlt (ap2 i z hz' hj b hS hb)).2
      · exact C.apart2 i j z z2 hz' hz2 hij b hS hb
  · intro said
    refine noRace_append (C.nr said) hg fun i a ha op hop b hb hc => ?_
    obtain ⟨ad, h1, h2, h3, h4, _⟩ := evok_touch hes hop hb
    have hal : a.loc = .cell ad := hc.1.trans h1
    obtain ⟨ad2, e2, hlt⟩ := C.lo i a ha
    rw [hal] at e2
    cases e2
    refine C.knW k x hx i a ad ha hal (h3.resolve_right (by omega)) ?_
    rcases hc.2.2.1 with h7 | h7
    · exact .inr h7
    · exact .inl (h4 h7)
  · rw [List.length_set]
    exact gsb_app C.gsb fun op hop => by rw [hg op hop]; omega
  · intro i a ha
    rcases touch_cases ha with ⟨_, h1⟩ | ⟨op, h1, h2, _⟩
    · obtain ⟨ad, e, hlt⟩ := C.lo i a h1
      exact ⟨ad, e, Nat.lt_of_lt_of_le hlt K.size⟩
    · obtain ⟨ad, e1, _, _, _, e5⟩ := evok_touch hes h1 h2
      exact ⟨ad, e1, e5⟩
  · exact norel_app C.norel fun op hop a => evok_norel hes hop a
  · intro i a ad ha hl hh
    rcases touch_cases ha with ⟨hlt, h1⟩ | ⟨op, h1, h2, h3⟩
    · rcases C.kn i a ad h1 hl hh with h4 | ⟨h4, h5, h6, q, h7, h8⟩
      · exact .inl (kapp h4)
      · exact .inr ⟨h4, h5, h6, q, h7, by rw [g?_old hlt]; exact h8⟩
    · obtain ⟨ad2, e1, e2, e3, e4, _⟩ := evok_touch hes h1 h2
      rw [hl] at e1
      cases e1
      have hlt := lt_of C.has hh
      have hne := e3.resolve_right (by omega)
      have hS : S ad.block := by
        refine Classical.byContradiction fun hS => ?_
        exact hne (apM _ hS hh)
      refine .inr ⟨hS, ?_, e2, k + 1, by omega, by simp [Trace.g?, h3, hg op h1]⟩
      cases hw : a.write with
      | false => rfl
      | true => exact absurd hS (e4 hw)
  · intro j z hz i a ad ha hl hh hc
    rcases touch_cases ha with ⟨hlt, h1⟩ | ⟨op, h1, h2, h3⟩
    · rcases get_set hz with ⟨rfl, rfl⟩ | ⟨hj, hz⟩
      · rw [hy] at hh
        obtain ⟨ad2, e2, hlt2⟩ := C.lo i a h1
        rw [hl] at e2
        cases e2
        exact kapp (C.knW k x hx i a ad h1 hl (kept_old K hlt2 hh) hc)
      · exact kapp (C.knW j z hz i a ad h1 hl hh hc)
    · rcases get_set hz with ⟨rfl, rfl⟩ | ⟨hj, hz⟩
      · exact own h1 h3
      · obtain ⟨ad2, e1, _, e3, e4, _⟩ := evok_touch hes h1 h2
        rw [hl] at e1
        cases e1
        have hlt := lt_of (C.hasW j z hz) hh
        have hne := e3.resolve_right (by omega)
        rcases hc with hc | hc
        · exact absurd (ap2 j z hz hj _ hc hh) hne
        · exact absurd (ap2 j z hz hj _ (e4 hc) hh) hne
  · exact ho_app C.ho fun op hop => .inr (.inl (by rw [hg op hop]; omega))

/-- A step that turns and touches only what nobody holds, of whatever goroutine: what it needs to know is asked. -/
theorem Com.other (C : Com w0 S N0 h T w t) {g : Nat} (hgl : g ≤ T.length) (hu : ∀ op ∈ u, op.g = g) (hT : T'.length = T.length) (hTs : ∀ (i : Nat) (y : WS), T'[i]? = some y → ∃ x, T[i]? = some x ∧ ∀ b, y.heap b ≠ none → y.heap b = x.heap b)
    (he : w'.os = w.os ∧ w'.tape = w.tape ∧ w'.output = w.output) (hs : w'.heap.size = w.heap.size) (hh : ∀ b, (h b ≠ none ∨ ∃ (i : Nat) (x : WS), T[i]? = some x ∧ x.heap b ≠ none) → w'.heap[b]? = w.heap[b]?)
    (ht : ∀ op ∈ u, ∀ b, op.act.touch? = some b → ∃ ad, b.loc = .cell ad ∧ ad.block < w.heap.size ∧ h ad.block = none ∧ (∀ (i : Nat) (x : WS), T[i]? = some x → x.heap ad.block = none) ∧ ∀ (said : Bool) (i : Nat) (a : Touch), touchAt t i = some a → a.conflicts said b → Knows t g i)
    (hr : ∀ op ∈ u, ∀ a, op.act ≠ .mark (.release a)) (hN : g = 0 ∨ N0 < g ∨ ∀ op ∈ u, op.act.touch? = none) : Com w0 S N0 h T' w' (t ++ u) := by
  have sub : ∀ {i : Nat} {y : WS}, T'[i]? = some y → ∃ x, T[i]? = some x ∧ ∀ b, y.heap b ≠ none → x.heap b ≠ none := fun hy => by
    obtain ⟨x, hx, hb⟩ := hTs _ _ hy
    exact ⟨x, hx, fun b h => by rw [← hb b h]; exact h⟩
  refine ⟨⟨he.1.trans C.env.1, he.2.1.trans C.env.2.1, he.2.2.trans C.env.2.2⟩, ?_, C.inv, ?_, ?_, ?_, ?_, ?_, ?_, norel_app C.norel hr, ?_, ?_, ?_⟩
  · intro b o hb
    rw [hh b (.inl (by rw [hb]; simp))]
    exact C.has b o hb
  · intro i y hy b o hb
    obtain ⟨x, hx, hb2⟩ := hTs i y hy
    have e := hb2 b (by rw [hb]; simp)
    rw [hb] at e
    rw [hh b (.inr ⟨i, x, hx, by rw [← e]; simp⟩)]
    exact C.hasW i x hx b o e.symm
  · intro i y hy b hS hb
    obtain ⟨x, hx, hb2⟩ := sub hy
    exact C.apart i x hx b hS (hb2 b hb)
  · intro i j y z hy hz hij b hS hb
    obtain ⟨x, hx, hb2⟩ := sub hy
    obtain ⟨x2, hx2, hb3⟩ := sub hz
    cases hzb : z.heap b with
    | none => rfl
    | some o => exact absurd (C.apart2 i j x x2 hx hx2 hij b hS (hb2 b hb)) (hb3 b (by rw [hzb]; simp))
  · intro said
    refine noRace_append (C.nr said) hu fun i a ha op hop b hb hc => ?_
    obtain ⟨ad, _, _, _, _, h5⟩ := ht op hop b hb
    exact h5 said i a ha hc
  · rw [hT]
    exact gsb_app C.gsb fun op hop => by rw [hu op hop]; exact hgl
  · intro i a ha
    rcases touch_cases ha with ⟨_, h1⟩ | ⟨op, h1, h2, _⟩
    · obtain ⟨ad, e, hlt⟩ := C.lo i a h1
      exact ⟨ad, e, by omega⟩
    · obtain ⟨ad, e1, e2, _⟩ := ht op h1 a h2
      exact ⟨ad, e1, by omega⟩
  · intro i a ad ha hl hb
    rcases touch_cases ha with ⟨hlt, h1⟩ | ⟨op, h1, h2, h3⟩
    · rcases C.kn i a ad h1 hl hb with h4 | ⟨h4, h5, h6, q, h7, h8⟩
      · exact .inl (kapp h4)
      · exact .inr ⟨h4, h5, h6, q, h7, by rw [g?_old hlt]; exact h8⟩
    · obtain ⟨ad2, e1, _, e3, _⟩ := ht op h1 a h2
      rw [hl] at e1
      cases e1
      exact absurd e3 hb
  · intro k y hy i a ad ha hl hb hc
    obtain ⟨x, hx, hb2⟩ := sub hy
    rcases touch_cases ha with ⟨hlt, h1⟩ | ⟨op, h1, h2, h3⟩
    · exact kapp (C.knW k x hx i a ad h1 hl (hb2 _ hb) hc)
    · obtain ⟨ad2, e1, _, _, e4, _⟩ := ht op h1 a h2
      rw [hl] at e1
      cases e1
      exact absurd (e4 k x hx) (hb2 _ hb)
  · exact ho_app C.ho fun op hop => by
      rcases hN with h | h | h
      · exact .inl (by rw [hu op hop, h])
      · exact .inr (.inl (by rw [hu op hop]; exact h))
      · exact .inr (.inr (h op hop))
end
end Go.Eng
/- A phase: goroutines that are started, each to fill one cell, and joined by a sync.WaitGroup: the scripts. -/
namespace Go.Eng
open Go Go.Conc Go.ConcN
open Go.ConcR (KK wgBlock WgAt stA smA rd wr mk g_of_ofEvents Bk DC0)

structure Ph where
  ty : TypeId
  Wg : Nat
  C : Nat
  ety : TypeId
  n : Nat
  S : Shared
  val : Nat → Value

def Ph.pay (Φ : Ph) (w : World) : Prop := ∃ cs : Array Value, w.heap[Φ.C]? = some (.cells cs Φ.ety) ∧ cs.size = Φ.n
def Ph.J (Φ : Ph) (w : World) : Prop := WgLive Φ.ty Φ.Wg w ∧ Φ.pay w

section
variable (P : Program) (Φ : Ph)

/-! ### Who is started -/
def AtD4 (g : Goroutine) (w : World) : Prop :=
  g.status = .running ∧ mayWake P g = true ∧ (WgAt Φ.ty Φ.Wg w 0 0 → ∃ g', stepG P false g w = .go g' (w.setCell (smA Φ.Wg) (.int .u32 1)) (semEvents (smA Φ.Wg)) ∧ ∃ q, QuitsD P q 1 g')
def AtD3 (g : Goroutine) (w : World) : Prop :=
  g.status = .running ∧ (WgAt Φ.ty Φ.Wg w 1 0 → ∃ g', stepG P false g w = .go g' (w.setCell (stA Φ.Wg) (.int .u64 0)) #[wr (stA Φ.Wg)] ∧ ∃ m, Sil P false Φ.J (AtD4 P Φ) m g')
def AtD2 (g : Goroutine) (w : World) : Prop :=
  g.status = .running ∧ (WgAt Φ.ty Φ.Wg w 1 0 → ∃ g', stepG P false g w = .go g' w #[rd (stA Φ.Wg)] ∧ ∃ m, Sil P false Φ.J (AtD3 P Φ) m g')
def AtD1 (g : Goroutine) (w : World) : Prop :=
  g.status = .running ∧ ∀ v wt : Nat, wt ≤ 1 → v < 2147483647 → WgAt Φ.ty Φ.Wg w ((v + 1) * KK + wt) 0 →
    ∃ g', stepG P false g w = .go g' (w.setCell (stA Φ.Wg) (.int .u64 (v * KK + wt))) #[rd (stA Φ.Wg), wr (stA Φ.Wg)] ∧
      ((v = 0 ∧ wt = 1) → ∃ m, Sil P false Φ.J (AtD2 P Φ) m g') ∧ (¬ (v = 0 ∧ wt = 1) → ∃ q, QuitsD P q 1 g')
def AtK1 (g : Goroutine) (w : World) : Prop :=
  g.status = .running ∧ ∃ g', stepG P false g w = .go g' w #[mk .disable] ∧ ∃ m, Sil P false Φ.J (AtD1 P Φ) m g'
def AtR0 (g : Goroutine) (w : World) : Prop :=
  g.status = .running ∧ ∃ g', stepG P false g w = .go g' w #[mk (.releaseMerge (stA Φ.Wg))] ∧ ∃ m, Sil P false Φ.J (AtK1 P Φ) m g'
def AtPut (i : Nat) (fr : Frame) (cs : List Frame) (h : Heap) : Prop :=
  ∀ w, Has w h → Φ.J w → ∃ g', stepG P false (gor fr cs) w = .go g' (w.setCell ⟨Φ.C, i, none⟩ (Φ.val i)) #[⟨.cell ⟨Φ.C, i, none⟩, true, false⟩] ∧ ∃ m, Sil P false Φ.J (AtR0 P Φ) m g'
/-- Number i's whole script. -/
def Works (i : Nat) (fr : Frame) (cs : List Frame) (h : Heap) : Prop := ∃ r, RunR P Φ.S false Φ.J (AtPut P Φ i) r fr cs h

/-! ### Who starts: Add -/
def AtNx (Nx : Frame → List Frame → Prop) (g : Goroutine) (_ : World) : Prop := ∃ fr cs, g = gor fr cs ∧ Nx fr cs
def AtAe (Nx : Frame → List Frame → Prop) (g : Goroutine) (w : World) : Prop :=
  g.status = .running ∧ ∃ g', stepG P true g w = .go g' w #[mk .enable] ∧ ∃ m, Sil P true Φ.J (AtNx Nx) m g'
def AtAs (Nx : Frame → List Frame → Prop) (g : Goroutine) (w : World) : Prop :=
  g.status = .running ∧ ∃ g', stepG P true g w = .go g' w #[mk (.read (smA Φ.Wg))] ∧ ∃ m, Sil P true Φ.J (AtAe P Φ Nx) m g'
def AtA1 (Nx : Frame → List Frame → Prop) (g : Goroutine) (w : World) : Prop :=
  g.status = .running ∧ ∀ v : Nat, v < 2147483647 → WgAt Φ.ty Φ.Wg w (v * KK) 0 →
    ∃ g', stepG P true g w = .go g' (w.setCell (stA Φ.Wg) (.int .u64 ((v + 1) * KK))) #[rd (stA Φ.Wg), wr (stA Φ.Wg)] ∧
      (v = 0 → ∃ m, Sil P true Φ.J (AtAs P Φ Nx) m g') ∧ (v ≠ 0 → ∃ m, Sil P true Φ.J (AtAe P Φ Nx) m g')
def AtAd (Nx : Frame → List Frame → Prop) (g : Goroutine) (w : World) : Prop :=
  g.status = .running ∧ ∃ g', stepG P true g w = .go g' w #[mk .disable] ∧ ∃ m, Sil P true Φ.J (AtA1 P Φ Nx) m g'
def AddOp (Nx : Frame → List Frame → Prop) (fr : Frame) (cs : List Frame) : Prop := ∃ m, Sil P true Φ.J (AtAd P Φ Nx) m (gor fr cs)

/-! ### Wait -/
def AtWa (Nx : Frame → List Frame → Prop) (g : Goroutine) (w : World) : Prop :=
  g.status = .running ∧ ∃ fr cs, stepG P true g w = .go (gor fr cs) w #[mk (.acquire (stA Φ.Wg))] ∧ Nx fr cs
def AtWe (Nx : Frame → List Frame → Prop) (g : Goroutine) (w : World) : Prop :=
  g.status = .running ∧ ∃ g', stepG P true g w = .go g' w #[mk .enable] ∧ ∃ m, Sil P true Φ.J (AtWa P Φ Nx) m g'
def AtW4 (Nx : Frame → List Frame → Prop) (g : Goroutine) (w : World) : Prop :=
  g.status = .running ∧ (WgAt Φ.ty Φ.Wg w 0 0 → ∃ g', stepG P true g w = .go g' w #[rd (stA Φ.Wg)] ∧ ∃ m, Sil P true Φ.J (AtWe P Φ Nx) m g')
def AtW3 (Nx : Frame → List Frame → Prop) (g : Goroutine) (w : World) : Prop :=
  g.status = .running ∧ g.offers = none ∧
    ((∃ st, WgAt Φ.ty Φ.Wg w st 0) → stepG P true g w = .go { g with status := .blocked } w #[]) ∧
    (WgAt Φ.ty Φ.Wg w 0 1 → ∃ g', stepG P true g w = .go g' (w.setCell (smA Φ.Wg) (.int .u32 0)) (semEvents (smA Φ.Wg)) ∧ ∃ m, Sil P true Φ.J (AtW4 P Φ Nx) m g')
def AtWs (Nx : Frame → List Frame → Prop) (g : Goroutine) (w : World) : Prop :=
  g.status = .running ∧ ∃ g', stepG P true g w = .go g' w #[mk (.write (smA Φ.Wg))] ∧ ∃ m, Sil P true Φ.J (AtW3 P Φ Nx) m g'
def AtW2 (Nx : Frame → List Frame → Prop) (Anch : Goroutine → Prop) (vs : Nat) (g : Goroutine) (w : World) : Prop :=
  g.status = .running ∧ ∀ v : Nat, v < 2147483648 → WgAt Φ.ty Φ.Wg w (v * KK) 0 →
    (v = vs → ∃ g', stepG P true g w = .go g' (w.setCell (stA Φ.Wg) (.int .u64 (v * KK + 1))) #[rd (stA Φ.Wg), wr (stA Φ.Wg)] ∧ ∃ m, Sil P true Φ.J (AtWs P Φ Nx) m g') ∧
    (v ≠ vs → ∃ g', stepG P true g w = .go g' w #[rd (stA Φ.Wg)] ∧ ∃ m, Sil P true Φ.J (fun g _ => Anch g) m g')
def AtW1 (Nx : Frame → List Frame → Prop) (Anch : Goroutine → Prop) (g : Goroutine) (w : World) : Prop :=
  g.status = .running ∧ ∀ v : Nat, v < 2147483648 → WgAt Φ.ty Φ.Wg w (v * KK) 0 → ∃ g', stepG P true g w = .go g' w #[rd (stA Φ.Wg)] ∧
    (v = 0 → ∃ m, Sil P true Φ.J (AtWe P Φ Nx) m g') ∧ (v ≠ 0 → ∃ m, Sil P true Φ.J (AtW2 P Φ Nx Anch v) m g')
def AtWd (Anch : Goroutine → Prop) (g : Goroutine) (w : World) : Prop :=
  g.status = .running ∧ ∃ g', stepG P true g w = .go g' w #[mk .disable] ∧ ∃ m, Sil P true Φ.J (fun g _ => Anch g) m g'
def WaitOp (Nx : Frame → List Frame → Prop) (fr : Frame) (cs : List Frame) : Prop :=
  ∃ Anch : Goroutine → Prop, (∀ g, Anch g → ∃ m, Sil P true Φ.J (AtW1 P Φ Nx Anch) m g) ∧ ∃ m, Sil P true Φ.J (AtWd P Φ Anch) m (gor fr cs)

/-! ### The go statement; the whole -/
def SpawnOp (i : Nat) (Nx : Frame → List Frame → Heap → Prop) (fr : Frame) (cs : List Frame) (h : Heap) : Prop :=
  ∃ h1 hc : Heap, Sub h1 h ∧ Sub hc h ∧ (∀ b, ¬ Φ.S b → hc b ≠ none → h1 b = none) ∧ (∀ b, Φ.S b → h1 b = h b) ∧
    ∀ w, Has w h → Φ.J w → ∃ fr' cs' frc csc, stepG P true (gor fr cs) w = .spawn (gor fr' cs') (gor frc csc) w #[] ∧ Works P Φ i frc csc hc ∧ Nx fr' cs' h1

def Sp (Q : Frame → List Frame → Heap → Prop) : Nat → Frame → List Frame → Heap → Prop
  | 0 => fun fr cs h => Safe P Φ.S (fun fr cs h => WaitOp P Φ (fun fr' cs' => Q fr' cs' h) fr cs) fr cs h
  | r + 1 => fun fr cs h => Safe P Φ.S (fun fr cs h => AddOp P Φ (fun fr' cs' => Safe P Φ.S (fun fr cs h => SpawnOp P Φ (Φ.n - (r + 1)) (Sp Q r) fr cs h) fr' cs' h) fr cs) fr cs h
end

/-! ### Where each stands -/

def emp : Heap := fun _ => none

inductive WSit (P : Program) (Φ : Ph) (i : Nat) : WS → Nat → Goroutine → Prop
  | put {fr : Frame} {cs : List Frame} {rk : Rk} {f : Nat} {h : Heap} : RunR P Φ.S false Φ.J (AtPut P Φ i) rk fr cs h → WSit P Φ i ⟨8, rk, f, h⟩ 0 (gor fr cs)
  | rel {g : Goroutine} {rk : Rk} {m : Nat} : Sil P false Φ.J (AtR0 P Φ) m g → WSit P Φ i ⟨7, rk, m, emp⟩ 0 g
  | dis {g : Goroutine} {rk : Rk} {m : Nat} : Sil P false Φ.J (AtK1 P Φ) m g → WSit P Φ i ⟨6, rk, m, emp⟩ 0 g
  | d1 {g : Goroutine} {rk : Rk} {m : Nat} : Sil P false Φ.J (AtD1 P Φ) m g → WSit P Φ i ⟨5, rk, m, emp⟩ 1 g
  | d2 {g : Goroutine} {rk : Rk} {m : Nat} : Sil P false Φ.J (AtD2 P Φ) m g → WSit P Φ i ⟨4, rk, m, emp⟩ 1 g
  | d3 {g : Goroutine} {rk : Rk} {m : Nat} : Sil P false Φ.J (AtD3 P Φ) m g → WSit P Φ i ⟨3, rk, m, emp⟩ 1 g
  | d4 {g : Goroutine} {rk : Rk} {m : Nat} : Sil P false Φ.J (AtD4 P Φ) m g → WSit P Φ i ⟨2, rk, m, emp⟩ 1 g
  | quit {g : Goroutine} {rk : Rk} {m d : Nat} : QuitsD P m d g → WSit P Φ i ⟨1, rk, m, emp⟩ d g

theorem Sil.status {P : Program} {main : Bool} {J : World → Prop} {Stop : Goroutine → World → Prop} {n : Nat} {g : Goroutine} {w : World} (hJ : J w) (hs : ∀ g w, Stop g w → g.status = .running) (H : Sil P main J Stop n g) : g.status = .running := by
  rcases H.cases with h | ⟨k, _, h, _⟩
  · exact hs _ _ (h w hJ)
  · exact h

theorem WSit.status {P : Program} {Φ : Ph} {i d : Nat} {x : WS} {g : Goroutine} {w : World} (hJ : Φ.J w) (H : WSit P Φ i x d g) : g.status = .running ∨ (g.status = .finished ∧ x.stage = 1) := by
  cases H with
  | put h => exact .inl rfl
  | rel h => exact .inl (h.status hJ fun _ _ h => h.1)
  | dis h => exact .inl (h.status hJ fun _ _ h => h.1)
  | d1 h => exact .inl (h.status hJ fun _ _ h => h.1)
  | d2 h => exact .inl (h.status hJ fun _ _ h => h.1)
  | d3 h => exact .inl (h.status hJ fun _ _ h => h.1)
  | d4 h => exact .inl (h.status hJ fun _ _ h => h.1)
  | quit h => exact h.status.imp id fun h => ⟨h, rfl⟩

/-- The order of what is told of one. -/
def WS.lt (y x : WS) : Prop := Prod.Lex (· < ·) (Prod.Lex Rk.lt (· < ·)) (y.stage, y.rk, y.fuel) (x.stage, x.rk, x.fuel)
theorem WS.wf : WellFounded WS.lt := InvImage.wf (fun x : WS => (x.stage, x.rk, x.fuel)) (Prod.lex Nat.lt_wfRel (Prod.lex ⟨Rk.lt, Rk.wf⟩ Nat.lt_wfRel)).wf
theorem WS.lt_stage {x y : WS} (h : y.stage < x.stage) : WS.lt y x := .left _ _ h
theorem WS.lt_rk {x y : WS} (h : y.stage = x.stage) (hr : Rk.lt y.rk x.rk) : WS.lt y x := by
  obtain ⟨s, r, f, hp⟩ := y
  obtain ⟨s', r', f', hp'⟩ := x
  simp only at h hr
  subst h
  exact .right _ (.left _ _ hr)
theorem WS.lt_fuel {x y : WS} (h : y.stage = x.stage) (hr : y.rk = x.rk) (hf : y.fuel < x.fuel) : WS.lt y x := by
  obtain ⟨s, r, f, hp⟩ := y
  obtain ⟨s', r', f', hp'⟩ := x
  simp only at h hr hf
  subst h hr
  exact .right _ (.right _ hf)
end Go.Eng
