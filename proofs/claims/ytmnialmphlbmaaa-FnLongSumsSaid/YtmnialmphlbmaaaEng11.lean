import Derived.Test.YtmnialmphlbmaaaEng10
set_option linter.unusedVariables false
set_option linter.unusedSimpArgs false
/- A phase: the go statement; what the modes keep; Add; the wait. -/
namespace Go.Eng
open Go Go.Conc Go.ConcN
open Go.ConcR (KK wgBlock WgAt stA smA rd wr mk g_of_ofEvents Bk DC0 bk_of_mute ofEvent_loc_mark ofEvent_cell ofEvent_mk deafBehind_cons deafBehind_one)

section
variable {P : Program} {Φ : Ph} {N0 j : Nat} {h h' h1 hc : Heap} {T : List WS} {gs : Array Goroutine} {w0 w w' : World} {t : Trace} {es : Array Event} {sl : Option (Nat × Nat)} {st sm : Int} {M M' : List WS → Int → Int → Prop} {d0 : Nat} {g0 g1 : Goroutine}
  {Good : Machine → Outcome → World → Trace → Prop}

/-! ### The go statement -/

theorem get_app {z y : WS} {i : Nat} (hi : (T ++ [z])[i]? = some y) : T[i]? = some y ∨ (i = T.length ∧ y = z) := by
  rcases Nat.lt_or_ge i T.length with hlt | hge
  · rw [List.getElem?_append_left hlt] at hi; exact .inl hi
  · rw [List.getElem?_append_right hge] at hi
    cases e : i - T.length with
    | zero => rw [e] at hi; simp at hi; exact .inr ⟨by omega, hi.symm⟩
    | succ n => rw [e] at hi; simp at hi

theorem Com.deafNew {S : Shared} (C : Com w0 S N0 h T w t) : Deaf t (T.length + 1) = 0 := Deaf_absent fun i op hi e => by have := C.gsb i op hi; omega

theorem two_touch {x y : MemOp} {k : Nat} (hx : x.g = 0 ∧ x.act = .go k) (hy : y.g = k ∧ y.act = .start) : ∀ op ∈ (#[x, y] : Array MemOp), op.act.touch? = none ∧ (∀ m, op.act ≠ .mark m) ∧ (op.g = 0 ∨ op.g = k) := by
  intro op hop
  simp only [List.mem_toArray, List.mem_cons, List.not_mem_nil, or_false] at hop
  rcases hop with rfl | rfl
  · rw [hx.2]; exact ⟨rfl, fun m => by simp, .inl hx.1⟩
  · rw [hy.2]; exact ⟨rfl, fun m => by simp, .inr hy.1⟩

theorem Com.spawn {S : Shared} (C : Com w0 S N0 h T w t) (hN : N0 ≤ T.length) (s1 : Sub h1 h) (sc : Sub hc h) (hap : ∀ b, ¬ S b → hc b ≠ none → h1 b = none) (hS : ∀ b, S b → h1 b = h b) {x y : MemOp} (hx : x.g = 0 ∧ x.act = .go (T.length + 1)) (hy : y.g = T.length + 1 ∧ y.act = .start)
    (h0 : Deaf t 0 = 0) {z : WS} (hz : z.heap = hc) : Com w0 S N0 h1 (T ++ [z]) w (t ++ #[x, y]) := by
  have tw := two_touch hx hy
  have oldt : ∀ {i : Nat} {a : Touch}, touchAt (t ++ #[x, y]) i = some a → i < t.size ∧ touchAt t i = some a := fun ha => by
    rcases touch_cases ha with h | ⟨op, h1, h2, _⟩
    · exact h
    · rw [(tw op h1).1] at h2; cases h2
  have hn1 : ∀ {b : Nat}, h b = none → h1 b = none := fun hb => by
    cases e : h1 _ with
    | none => rfl
    | some o => rw [s1 _ o e] at hb; cases hb
  have hnc : ∀ {b : Nat}, h b = none → hc b = none := fun hb => by
    cases e : hc _ with
    | none => rfl
    | some o => rw [sc _ o e] at hb; cases hb
  refine ⟨C.env, C.has.sub s1, fun b hb hn => C.inv b hb (by rw [← hS b hb]; exact hn), ?_, ?_, ?_, ?_, ?_, ?_, ?_, ?_, ?_, ?_⟩
  · intro i u hu
    rcases get_app hu with hu | ⟨_, rfl⟩
    · exact C.hasW i u hu
    · rw [hz]; exact C.has.sub sc
  · intro i u hu b hb hn
    rcases get_app hu with hu | ⟨_, rfl⟩
    · exact hn1 (C.apart i u hu b hb hn)
    · rw [hz] at hn; exact hap b hb hn
  · intro i q u v hu hv hne b hb hn
    rcases get_app hu with hu' | ⟨rfl, rfl⟩
    · rcases get_app hv with hv | ⟨_, rfl⟩
      · exact C.apart2 i q u v hu' hv hne b hb hn
      · rw [hz]; exact hnc (C.apart i u hu' b hb hn)
    · rcases get_app hv with hv | ⟨rfl, _⟩
      · cases e : v.heap b with
        | none => rfl
        | some o =>
          rw [hz] at hn
          exact absurd (hnc (C.apart q v hv b hb (by rw [e]; simp))) hn
      · exact absurd rfl hne
  · intro said
    have e : t ++ #[x, y] = (t ++ #[x]) ++ #[y] := by apply Array.ext'; simp
    rw [e]
    refine noRace_append (g := T.length + 1) (noRace_append (g := 0) (C.nr said) (fun op hop => by simp at hop; rw [hop]; exact hx.1) (fun i a _ op hop b hb _ => ?_)) (fun op hop => by simp at hop; rw [hop]; exact hy.1) (fun i a _ op hop b hb _ => ?_)
    · rw [(tw op (by simp at hop ⊢; exact .inl hop)).1] at hb; cases hb
    · rw [(tw op (by simp at hop ⊢; exact .inr hop)).1] at hb; cases hb
  · refine gsb_app (fun i op hi => ?_) (fun op hop => ?_)
    · rw [List.length_append]; have := C.gsb i op hi; omega
    · rw [List.length_append]
      rcases (tw op hop).2.2 with e | e <;> rw [e] <;> simp
  · intro i a ha
    obtain ⟨_, h⟩ := oldt ha
    exact C.lo i a h
  · exact norel_app C.norel fun op hop a => (tw op hop).2.1 _
  · intro i a ad ha hl hb
    obtain ⟨hlt, h2⟩ := oldt ha
    rcases C.kn i a ad h2 hl (fun e => hb (hn1 e)) with h4 | ⟨h4, h5, h6, q, h7, h8⟩
    · exact .inl (kapp h4)
    · exact .inr ⟨h4, h5, h6, q, h7, by rw [g?_old hlt]; exact h8⟩
  · intro k u hu i a ad ha hl hb hcc
    obtain ⟨hlt, h2⟩ := oldt ha
    rcases get_app hu with hu | ⟨rfl, rfl⟩
    · exact kapp (C.knW k u hu i a ad h2 hl hb hcc)
    · rw [hz] at hb
      rcases C.kn i a ad h2 hl (fun e => hb (hnc e)) with h4 | ⟨h4, h5, _⟩
      · exact fork_knows hx hy h0 C.deafNew h4
      · rcases hcc with hcc | hcc
        · exact absurd h4 hcc
        · rw [h5] at hcc; cases hcc
  · exact ho_app C.ho fun op hop => .inr (.inr (tw op hop).1)

theorem InPh.spawn (I : InPh P Φ N0 j h T gs w t) (C : Com w0 Φ.S N0 h T w t) (s1 : Sub h1 h) (sc : Sub hc h) (hj : j < Φ.n) (h0 : gs[0]? = some g0) {x y : MemOp} (hx : x.g = 0 ∧ x.act = .go (T.length + 1)) (hy : y.g = T.length + 1 ∧ y.act = .start) (hd : Deaf t 0 = 0)
    {fr : Frame} {cs : List Frame} {rk : Rk} (hR : RunR P Φ.S false Φ.J (AtPut P Φ j) rk fr cs hc) :
    InPh P Φ N0 (j + 1) h1 (T ++ [⟨8, rk, 0, hc⟩]) ((gs.setIfInBounds 0 g1).push (gor fr cs)) w (t ++ #[x, y]) := by
  have tw := two_touch hx hy
  have hl := I.len
  have oldt : ∀ {i : Nat} {a : Touch}, touchAt (t ++ #[x, y]) i = some a → i < t.size ∧ touchAt t i = some a := fun ha => by
    rcases touch_cases ha with h | ⟨op, h1, h2, _⟩
    · exact h
    · rw [(tw op h1).1] at h2; cases h2
  have still : ∀ g, Deaf (t ++ #[x, y]) g = Deaf t g := fun g => Deaf_still t g _ fun op hop => ⟨(tw op hop).2.1 _, (tw op hop).2.1 _⟩
  have hn1 : ∀ {b : Nat}, h b = none → h1 b = none := fun hb => by
    cases e : h1 _ with
    | none => rfl
    | some o => rw [s1 _ o e] at hb; cases hb
  have hnc : ∀ {b : Nat}, h b = none → hc b = none := fun hb => by
    cases e : hc _ with
    | none => rfl
    | some o => rw [sc _ o e] at hb; cases hb
  have hgz : gs.size = T.length + 1 := I.gsz
  refine ⟨by simp [hl]; omega, by omega, by simp [hgz], ?_, ?_, I.CW, ⟨hn1 I.hno.1, hn1 I.hno.2⟩, ?_, I.lt, I.pay, ?_, ?_, ?_, ?_, ?_, ?_⟩
  · intro k u hu
    rcases get_app hu with hu | ⟨rfl, rfl⟩
    · obtain ⟨o, ho, hs⟩ := I.sit k u hu
      refine ⟨o, ?_, by rw [still]; exact hs⟩
      have hlt := (Array.getElem?_eq_some_iff.1 ho).1
      rw [Array.getElem?_push, if_neg (by rw [Array.size_setIfInBounds]; omega), Array.getElem?_setIfInBounds_ne (by omega)]
      exact ho
    · refine ⟨gor fr cs, ?_, ?_⟩
      · rw [Array.getElem?_push, if_pos (by rw [Array.size_setIfInBounds]; omega)]
      · rw [still, C.deafNew, show T.length - N0 = j by omega]
        exact .put hR
  · intro k u hu hk
    rcases get_app hu with hu | ⟨rfl, _⟩
    · exact I.old k u hu hk
    · omega
  · intro k u hu
    rcases get_app hu with hu | ⟨_, rfl⟩
    · exact I.xno k u hu
    · exact ⟨hnc I.hno.1, hnc I.hno.2⟩
  · intro i a ad ha hl2 hb
    obtain ⟨hlt, h2⟩ := oldt ha
    rcases I.quiet i a ad h2 hl2 hb with ⟨h3, h4⟩ | h3
    · exact .inl ⟨h3, fun e => by rw [g?_old hlt]; exact h4 e⟩
    · refine .inr fun k hk => ?_
      by_cases e : k = T.length + 1
      · subst e; exact fork_knows hx hy hd C.deafNew (h3 0 (.inl rfl))
      · exact kapp (h3 k (by omega))
  · intro off i a ho ha hl2
    obtain ⟨_, h2⟩ := oldt ha
    exact kapp (I.cellF off i a (by omega) h2 hl2)
  · intro k u hu h8 i a ha hl2
    obtain ⟨_, h2⟩ := oldt ha
    rcases get_app hu with hu | ⟨rfl, rfl⟩
    · exact kapp (I.cellW k u hu h8 i a h2 hl2)
    · exact fork_knows hx hy hd C.deafNew (I.cellF (T.length - N0) i a (by omega) h2 hl2)
  · intro i a ad ha hl2 hb
    obtain ⟨hlt, h2⟩ := oldt ha
    rcases I.cC i a ad h2 hl2 hb with h3 | ⟨h3, q, h4, h5⟩
    · exact .inl (kapp h3)
    · exact .inr ⟨h3, q, h4, by rw [g?_old hlt]; exact h5⟩
  · intro k u hu hk hs
    rcases get_app hu with hu | ⟨_, rfl⟩
    · exact I.vals k u hu hk hs
    · simp at hs
  · intro k u hu hk hs
    rcases get_app hu with hu | ⟨_, rfl⟩
    · obtain ⟨r, hr⟩ := I.rel k u hu hk hs
      have hku := (List.getElem?_eq_some_iff.1 hu).1
      refine ⟨r, hr.appNot fun op hop => ?_⟩
      rcases (tw op hop).2.2 with e | e <;> omega
    · simp at hs

/-! ### What the modes keep -/

/-- Not on the list; q: all have gone. -/
def MO (q : Prop) (pend : Nat) (T : List WS) (st sm : Int) : Prop := ModeO T pend st sm ∧ (q → ∀ (k : Nat) (x : WS), T[k]? = some x → x.stage = 1)

theorem MO.shut {q : Prop} {pend n : Nat} (hb : j + pend ≤ n) (hn : n < 2147483648) : Shut N0 j (MO q pend) := by
  intro T k x y st sm hl hs ho hx ⟨H, hq⟩
  refine ⟨H.fits hl ho hb hn hx, fun P g g' st' sm' ht => ⟨H.turn hx ht, fun hqq i z hz => ?_⟩⟩
  rcases get_set hz with ⟨rfl, rfl⟩ | ⟨_, hz⟩
  · have h1 := hq hqq _ _ hx
    have h2 := (H.turn hx ht).2.2
    cases ht with
    | same h => omega
    | add _ h _ _ => omega
    | seen h _ => omega
    | nought h _ => omega
    | gone h _ _ _ => omega
  · exact hq hqq i z hz

/-- On the list. -/
def R1 (T : List WS) (st sm : Int) : Prop := st = ((V T : Nat) : Int) * KK + 1 ∧ sm = 0 ∧ 1 ≤ V T ∧ NoMid T
def R2 (T : List WS) (st sm : Int) : Prop := ∃ (L : Nat) (x : WS), T[L]? = some x ∧ (x.stage = 2 ∨ x.stage = 3 ∨ x.stage = 4) ∧ (∀ (k : Nat) (y : WS), T[k]? = some y → k ≠ L → y.stage = 1) ∧ st = (if x.stage = 2 then 0 else 1) ∧ sm = 0
def R3 (T : List WS) (st sm : Int) : Prop := (∀ (k : Nat) (x : WS), T[k]? = some x → x.stage = 1) ∧ st = 0 ∧ sm = 1
def MR (T : List WS) (st sm : Int) : Prop := R1 T st sm ∨ R2 T st sm ∨ R3 T st sm

theorem R_turn {n : Nat} (hjn : j ≤ n) (hn : n < 2147483648) {k : Nat} {x y : WS} (hl : T.length = N0 + j) (hs : ∀ (k : Nat) (x : WS), T[k]? = some x → 1 ≤ x.stage) (ho : ∀ (k : Nat) (x : WS), T[k]? = some x → k < N0 → x.stage = 1) (hx : T[k]? = some x)
    (H : R1 T st sm ∨ R2 T st sm) : Fits x.stage st sm ∧ ∀ (P : Program) (g g' : Goroutine) (st' sm' : Int), Turn P g g' x.stage y.stage st sm st' sm' →
      (R1 (T.set k y) st' sm' ∨ R2 (T.set k y) st' sm') ∨ (R3 (T.set k y) st' sm' ∧ mayWake P g = true ∧ g'.status ≠ .blocked ∧ g'.status ≠ .waiting) := by
  have setAll : ∀ {Pr : WS → Prop}, Pr y → (∀ (i : Nat) (z : WS), i ≠ k → T[i]? = some z → Pr z) → ∀ (i : Nat) (z : WS), (T.set k y)[i]? = some z → Pr z := fun hy h i z hz => by
    rcases get_set hz with ⟨rfl, rfl⟩ | ⟨hne, hz⟩
    · exact hy
    · exact h i z (Ne.symm hne) hz
  have hv := V_set (y := y) hx
  have hVj := V_le hl ho
  have hkl : k < T.length := (List.getElem?_eq_some_iff.1 hx).1
  rcases H with ⟨rfl, rfl, hV, hm⟩ | ⟨L, xl, hL, h234, hoth, rfl, rfl⟩
  · have h3 := hm k x hx
    refine ⟨⟨fun h => ⟨V T - 1, 1, by omega, by omega, by simp only [KK]; omega, rfl⟩, fun h => by omega, fun h => by omega⟩, fun P g g' st' sm' ht => ?_⟩
    generalize ha : x.stage = a at *
    generalize hb : y.stage = b at *
    cases ht with
    | same h =>
      have e : V (T.set k y) = V T := by
        rcases h with rfl | ⟨h1, h2⟩
        · omega
        · simp only [c5, if_pos h1, if_pos h2] at hv; omega
      exact .inl (.inl ⟨by rw [e], rfl, by omega, setAll (by omega) fun i z _ hz => hm i z hz⟩)
    | @add v wt hwt h1 h2 h3' =>
      subst h1
      simp only [KK] at h2
      have hw1 : wt = 1 := by omega
      subst hw1
      have hc : ∀ b', b = b' → b' < 5 → V (T.set k y) + 1 = V T := fun b' e hlt => by
        subst e
        simp only [c5, if_pos (show 5 ≤ 5 by omega), if_neg (show ¬ 5 ≤ b by omega)] at hv
        omega
      by_cases hv0 : v = 0
      · subst hv0
        rw [if_pos ⟨rfl, rfl⟩] at h3'
        have hc' := hc 4 h3' (by omega)
        refine .inl (.inr ⟨k, y, List.getElem?_set_self hkl, .inr (.inr (by omega)), fun i z hz hik => ?_, by rw [if_neg (by omega)]; simp [KK], rfl⟩)
        rcases get_set hz with ⟨rfl, _⟩ | ⟨_, hz⟩
        · exact absurd rfl hik
        · have hz1 := hs i z hz
          have hz2 := hm i z hz
          have hlt5 : ¬ 5 ≤ z.stage := fun h5 => by
            have : (T.set k y)[i]? = some z := by rw [List.getElem?_set_ne (Ne.symm hik)]; exact hz
            have := V_pos this h5
            omega
          omega
      · rw [if_neg (fun h => hv0 h.1)] at h3'
        have hc' := hc 1 h3' (by omega)
        exact .inl (.inl ⟨by simp only [KK]; omega, rfl, by omega, setAll (by omega) fun i z _ hz => hm i z hz⟩)
    | seen h _ => omega
    | nought h _ => omega
    | gone h _ _ _ => omega
  · by_cases hk : k = L
    · subst hk
      rw [hx] at hL
      cases hL
      refine ⟨⟨fun h => by omega, fun h => ⟨by rw [if_neg (by omega)], rfl⟩, fun h => ⟨by rw [if_pos h], rfl⟩⟩, fun P g g' st' sm' ht => ?_⟩
      have mid : y.stage = 2 ∨ y.stage = 3 ∨ y.stage = 4 → ∀ s, s = (if y.stage = 2 then (0 : Int) else 1) → R2 (T.set k y) s 0 := fun h s hs2 => ⟨k, y, List.getElem?_set_self hkl, h, fun i z hz hik => by
        rcases get_set hz with ⟨rfl, _⟩ | ⟨_, hz⟩
        · exact absurd rfl hik
        · exact hoth i z hz hik, hs2, rfl⟩
      generalize ha : x.stage = a at *
      generalize hb : y.stage = b at *
      cases ht with
      | same h =>
        have e : b = a := by omega
        subst e
        exact .inl (.inr (by have := mid (by omega) _ rfl; simpa using this))
      | add _ h _ _ => omega
      | seen h1 h2 => subst h1 h2; exact .inl (.inr (mid (by omega) _ rfl))
      | nought h1 h2 => subst h1 h2; exact .inl (.inr (mid (by omega) _ rfl))
      | gone h1 h2 h3 h4 =>
        subst h1 h2
        exact .inr ⟨⟨setAll hb fun i z hik hz => hoth i z hz hik, rfl, rfl⟩, h3, h4⟩
    · have h1 := hoth k x hx hk
      refine ⟨⟨fun h => by omega, fun h => by omega, fun h => by omega⟩, fun P g g' st' sm' ht => ?_⟩
      have hb1 : y.stage = 1 ∧ st' = (if xl.stage = 2 then (0 : Int) else 1) ∧ sm' = 0 := by
        generalize y.stage = b at *
        generalize x.stage = a at *
        generalize (if xl.stage = 2 then (0 : Int) else 1) = q at *
        cases ht with
        | same h => exact ⟨by omega, rfl, rfl⟩
        | add _ h _ _ => omega
        | seen h _ => omega
        | nought h _ => omega
        | gone h _ _ _ => omega
      obtain ⟨hb1, rfl, rfl⟩ := hb1
      refine .inl (.inr ⟨L, xl, by rw [List.getElem?_set_ne hk]; exact hL, h234, fun i z hz hil => ?_, rfl, rfl⟩)
      rcases get_set hz with ⟨rfl, rfl⟩ | ⟨_, hz⟩
      · exact hb1
      · exact hoth i z hz hil

theorem R3.turn (H : R3 T st sm) {k : Nat} {x y : WS} (hx : T[k]? = some x) : Fits x.stage st sm ∧ ∀ (P : Program) (g g' : Goroutine) (st' sm' : Int), Turn P g g' x.stage y.stage st sm st' sm' → R3 (T.set k y) st' sm' := by
  obtain ⟨ha, rfl, rfl⟩ := H
  have h1 := ha k x hx
  refine ⟨⟨fun h => by omega, fun h => by omega, fun h => by omega⟩, fun P g g' st' sm' ht => ?_⟩
  have hb1 : y.stage = 1 ∧ st' = 0 ∧ sm' = 1 := by
    generalize y.stage = b at *
    generalize x.stage = a at *
    cases ht with
    | same h => exact ⟨by omega, rfl, rfl⟩
    | add _ h _ _ => omega
    | seen h _ => omega
    | nought h _ => omega
    | gone h _ _ _ => omega
  obtain ⟨hb1, rfl, rfl⟩ := hb1
  refine ⟨fun i z hz => ?_, rfl, rfl⟩
  rcases get_set hz with ⟨rfl, rfl⟩ | ⟨_, hz⟩
  · exact hb1
  · exact ha i z hz

theorem MR.shut {n : Nat} (hjn : j ≤ n) (hn : n < 2147483648) : Shut N0 j MR := by
  intro T k x y st sm hl hs ho hx H
  rcases H with H | H | H
  · obtain ⟨h1, h2⟩ := R_turn (y := y) hjn hn hl hs ho hx (.inl H)
    exact ⟨h1, fun P g g' st' sm' ht => (h2 P g g' st' sm' ht).elim (fun h => h.elim .inl fun h => .inr (.inl h)) fun h => .inr (.inr h.1)⟩
  · obtain ⟨h1, h2⟩ := R_turn (y := y) hjn hn hl hs ho hx (.inr H)
    exact ⟨h1, fun P g g' st' sm' ht => (h2 P g g' st' sm' ht).elim (fun h => h.elim .inl fun h => .inr (.inl h)) fun h => .inr (.inr h.1)⟩
  · obtain ⟨h1, h2⟩ := H.turn (y := y) hx
    exact ⟨h1, fun P g g' st' sm' ht => .inr (.inr (h2 P g g' st' sm' ht))⟩
end
end Go.Eng
/- A phase, run: from its beginning to its join, on every tape. -/
namespace Go.Eng
open Go Go.Conc Go.ConcN
open Go.ConcR (KK wgBlock WgAt stA smA rd wr mk g_of_ofEvents Bk DC0 bk_of_mute ofEvent_loc_mark ofEvent_cell ofEvent_mk deafBehind_cons deafBehind_one again_blocked)

section
variable {P : Program} {Φ : Ph} {N0 j : Nat} {h h' h1 hc : Heap} {T : List WS} {gs : Array Goroutine} {w0 w w' : World} {t : Trace} {es : Array Event} {sl : Option (Nat × Nat)} {st sm : Int} {M M' : List WS → Int → Int → Prop} {d0 : Nat} {g0 g1 : Goroutine}
  {Good : Machine → Outcome → World → Trace → Prop}

theorem mk_bk {m : Mark} (h : m = .disable ∨ m = .enable ∨ m = .read (smA Φ.Wg) ∨ m = .write (smA Φ.Wg) ∨ m = .acquire (stA Φ.Wg)) : ∀ e ∈ (#[mk m] : Array Event), Bk Φ.Wg e ∨ e = mk (.read (smA Φ.Wg)) ∨ e = mk (.write (smA Φ.Wg)) ∨ e = mk (.acquire (stA Φ.Wg)) := by
  intro e he
  simp only [List.mem_toArray, List.mem_singleton] at he
  subst he
  rcases h with rfl | rfl | rfl | rfl | rfl
  · exact .inl (.inl rfl)
  · exact .inl (.inr (.inl rfl))
  · exact .inr (.inl rfl)
  · exact .inr (.inr (.inl rfl))
  · exact .inr (.inr (.inr rfl))

theorem rw_bk : ∀ e ∈ (#[rd (stA Φ.Wg), wr (stA Φ.Wg)] : Array Event), Bk Φ.Wg e ∨ e = mk (.read (smA Φ.Wg)) ∨ e = mk (.write (smA Φ.Wg)) ∨ e = mk (.acquire (stA Φ.Wg)) := by
  intro e he
  simp only [List.mem_toArray, List.mem_cons, List.not_mem_nil, or_false] at he
  rcases he with rfl | rfl <;> exact .inl (bk_cell _ _ rfl)

theorem rd_bk : ∀ e ∈ (#[rd (stA Φ.Wg)] : Array Event), Bk Φ.Wg e ∨ e = mk (.read (smA Φ.Wg)) ∨ e = mk (.write (smA Φ.Wg)) ∨ e = mk (.acquire (stA Φ.Wg)) := by
  intro e he
  simp only [List.mem_toArray, List.mem_singleton] at he
  subst he; exact .inl (bk_cell _ _ rfl)

theorem sem_bk' : ∀ e ∈ semEvents (smA Φ.Wg), Bk Φ.Wg e ∨ e = mk (.read (smA Φ.Wg)) ∨ e = mk (.write (smA Φ.Wg)) ∨ e = mk (.acquire (stA Φ.Wg)) := fun e he => .inl (bk_sem (smA Φ.Wg) (Wg := Φ.Wg) rfl e he)

/-- At a stop, whose step is a step of the library's bookkeeping. -/
theorem Iop.stop (X : Iop P Φ N0 j h w0 M d0 g0 T gs w t) (hn : Shut N0 j M) (hr : g0.status = .running) (sl : Option (Nat × Nat))
    (H : ∀ T' gs w t sl, Le T' T → Iop P Φ N0 j h w0 M d0 g0 T' gs w t → ∃ g1 w' es, stepG P true g0 w = .go g1 w' es ∧ Runs P Good (crowd (stepped0 P gs g0 g1 w') w' sl) (t ++ MemOp.ofEvents 0 g0.frame.fn g0.frame.place es)) : Runs P Good (crowd gs w sl) t := by
  refine X.turn hn hr (fun T' gs w t sl hle X => ?_) sl
  obtain ⟨g1, w', es, h1, h2⟩ := H T' gs w t sl hle X
  exact .inl ⟨_, _, commit0 X.g0 h1, h2⟩

/-- Add. -/
theorem addRun {Nx : Frame → List Frame → Prop} {fr : Frame} {cs : List Frame} (hj : j + 1 ≤ Φ.n) (hn : Φ.n < 2147483648) (H : AddOp P Φ Nx fr cs) (X : Iop P Φ N0 j h w0 (MO False 0) 0 (gor fr cs) T gs w t) (sl : Option (Nat × Nat))
    (K : ∀ fr' cs' T' gs' w' t' sl', Nx fr' cs' → Iop P Φ N0 j h w0 (MO False 1) 0 (gor fr' cs') T' gs' w' t' → Runs P Good (crowd gs' w' sl') t') : Runs P Good (crowd gs w sl) t := by
  have s0 : Shut N0 j (MO False 0) := MO.shut (n := Φ.n) (by omega) hn
  have s1 : Shut N0 j (MO False 1) := MO.shut (n := Φ.n) hj hn
  obtain ⟨m, H⟩ := H
  refine Iop.sil s0 m _ T gs w t sl H X fun ga T gs w t sl _ hst X => ?_
  refine X.stop s0 (hst w X.J).1 sl fun T gs w t sl _ X => ?_
  obtain ⟨_, gb, h1, m, h2⟩ := hst w X.J
  obtain ⟨st, sm, hw, hM⟩ := X.wg
  refine ⟨gb, w, _, h1, Iop.sil s0 m gb T _ _ _ sl h2 (X.book (Aside.refl _ _) hw hM (mk_bk (.inl rfl)) _ _) fun gc T gs w t sl _ hst X => ?_⟩
  refine X.stop s0 (hst w X.J).1 sl fun T gs w t sl _ X => ?_
  obtain ⟨_, h0⟩ := hst w X.J
  obtain ⟨st, sm, hw, ⟨rfl, rfl, hm⟩, hq⟩ := X.wg
  have hVj := V_le X.I.len X.I.old
  obtain ⟨gd, h1, h2, h3⟩ := h0 (V T) (by omega) (by simpa using hw)
  have hA : Aside Φ.Wg w (w.setCell (stA Φ.Wg) (Value.int .u64 ((((V T : Nat) : Int) + 1) * KK))) := aside_setCell w (stA Φ.Wg) _
  have X2 := X.book (g1 := gd) (M' := MO False 1) hA (hw.setSt _) ⟨⟨by simp only [KK]; omega, rfl, hm⟩, hq⟩ rw_bk gc.frame.fn gc.frame.place
  have enab : ∀ {g T gs w t sl m}, Sil P true Φ.J (AtAe P Φ Nx) m g → Iop P Φ N0 j h w0 (MO False 1) 1 g T gs w t → Runs P Good (crowd gs w sl) t := by
    intro g T gs w t sl m h2 X
    refine Iop.sil s1 m g T gs w t sl h2 X fun ge T gs w t sl _ hst X => ?_
    refine X.stop s1 (hst w X.J).1 sl fun T gs w t sl _ X => ?_
    obtain ⟨_, gf, h1, m, h2⟩ := hst w X.J
    obtain ⟨st, sm, hw, hM⟩ := X.wg
    refine ⟨gf, w, _, h1, Iop.sil s1 m gf T _ _ _ sl h2 (X.book (Aside.refl _ _) hw hM (mk_bk (.inr (.inl rfl))) _ _) fun gg T gs w t sl _ hst X => ?_⟩
    obtain ⟨fr', cs', rfl, hx⟩ := hst w X.J
    exact K fr' cs' T gs w t sl hx X
  refine ⟨gd, _, _, h1, ?_⟩
  by_cases hv : V T = 0
  · obtain ⟨m, h4⟩ := h2 hv
    refine Iop.sil s1 m gd T _ _ _ sl h4 X2 fun ge T gs w t sl _ hst X => ?_
    refine X.stop s1 (hst w X.J).1 sl fun T gs w t sl _ X => ?_
    obtain ⟨_, gf, h1, m, h2⟩ := hst w X.J
    obtain ⟨st, sm, hw, hM⟩ := X.wg
    exact ⟨gf, w, _, h1, enab h2 (X.book (Aside.refl _ _) hw hM (mk_bk (.inr (.inr (.inl rfl)))) _ _)⟩
  · obtain ⟨m, h4⟩ := h3 hv
    exact enab h4 X2

/-- The go statement. -/
theorem spawnRun {Nx : Frame → List Frame → Heap → Prop} {fr : Frame} {cs : List Frame} (hj : j + 1 ≤ Φ.n) (hn : Φ.n < 2147483648) (H : SpawnOp P Φ j Nx fr cs h) (X : Iop P Φ N0 j h w0 (MO False 1) 0 (gor fr cs) T gs w t) (sl : Option (Nat × Nat))
    (K : ∀ fr' cs' h' T' gs' w' t' sl', Nx fr' cs' h' → (∀ b, Φ.S b → h' b = h b) → Iop P Φ N0 (j + 1) h' w0 (MO False 0) 0 (gor fr' cs') T' gs' w' t' → Runs P Good (crowd gs' w' sl') t') : Runs P Good (crowd gs w sl) t := by
  have s1 : Shut N0 j (MO False 1) := MO.shut (n := Φ.n) hj hn
  obtain ⟨h1, hc, su1, suc, hap, hS, H⟩ := H
  refine X.turn s1 rfl (fun T gs w t sl _ X => .inl ?_) sl
  obtain ⟨fr', cs', frc, csc, hs, ⟨rk, hR⟩, hN⟩ := H w X.C.has X.J
  refine ⟨_, _, runT_crowd_spawn X.g0 hs, K fr' cs' h1 (T ++ [⟨8, rk, 0, hc⟩]) _ _ _ sl hN hS ?_⟩
  have hsz : gs.size = T.length + 1 := X.I.gsz
  obtain ⟨st, sm, hw, ⟨⟨rfl, rfl, hm⟩, _⟩⟩ := X.wg
  have e : ∀ (a b : MemOp), t ++ (((MemOp.ofEvents 0 (gor fr cs).frame.fn (gor fr cs).frame.place #[]).push a).push b) = t ++ #[a, b] := fun a b => by
    apply Array.ext'; simp [MemOp.ofEvents]
  rw [e, hsz]
  refine ⟨X.C.spawn (by have := X.I.len; omega) su1 suc hap hS ⟨rfl, rfl⟩ ⟨rfl, rfl⟩ X.deaf rfl, X.I.spawn X.C su1 suc (by omega) X.g0 ⟨rfl, rfl⟩ ⟨rfl, rfl⟩ X.deaf hR, ⟨_, _, hw, ⟨⟨?_, rfl, ?_⟩, False.elim⟩⟩, ?_, ?_⟩
  · have : V (T ++ [(⟨8, rk, 0, hc⟩ : WS)]) = V T + 1 := by
      unfold V; rw [List.countP_append]; simp
    rw [this]
  · intro k x hx
    rcases get_app hx with hx | ⟨_, rfl⟩
    · exact hm k x hx
    · exact ⟨by simp, by simp, by simp⟩
  · rw [Array.getElem?_push, if_neg (by rw [Array.size_setIfInBounds]; omega)]
    have hlt := (Array.getElem?_eq_some_iff.1 X.g0).1
    simp [hlt]
  · rw [Deaf_still t 0 _ fun op hop => ?_]
    · exact X.deaf
    · have := (two_touch (k := T.length + 1) (x := { g := 0, fn := (gor fr cs).frame.fn, pos := (gor fr cs).frame.place, act := .go (T.length + 1) }) (y := { g := T.length + 1, fn := (gor frc csc).frame.fn, pos := (gor fr cs).frame.place, act := .start }) ⟨rfl, rfl⟩ ⟨rfl, rfl⟩ op hop).2.1
      exact ⟨this _, this _⟩

/-! ### The wait -/

theorem awake_all (I : InPh P Φ N0 j h T gs w t) (hJ : Φ.J w) (h0 : gs[0]? = some g0) (hg : g0.status = .running ∨ g0.status = .blocked) : ∀ g ∈ gs, awake g := sit_awake I hJ h0 (hg.elim .inl fun h => .inr (.inr h))

/-- On the list, at the semaphore: running or blocked. -/
theorem regRun {Nx : Frame → List Frame → Prop} {g3 : Goroutine} (hjn : j ≤ Φ.n) (hn : Φ.n < 2147483648) (hst : ∀ w, Φ.J w → AtW3 P Φ Nx g3 w)
    (K : ∀ g' T' gs' w' t' sl' m, Sil P true Φ.J (AtW4 P Φ Nx) m g' → Iop P Φ N0 j h w0 (MO True 0) 1 g' T' gs' w' t' → Runs P Good (crowd gs' w' sl') t') :
    ∀ T gs w t sl g0, ((g0 = g3 ∧ Iop P Φ N0 j h w0 MR 1 g0 T gs w t) ∨ (g0 = { g3 with status := .blocked } ∧ Iop P Φ N0 j h w0 (fun T st sm => R1 T st sm ∨ R2 T st sm) 1 g0 T gs w t)) → Runs P Good (crowd gs w sl) t := by
  intro T
  induction (One.wf WS.wf).apply T with
  | intro T _ ih =>
    -- another's step, from either
    have other : ∀ gs w t sl g0 k g, ((g0 = g3 ∧ Iop P Φ N0 j h w0 MR 1 g0 T gs w t) ∨ (g0 = { g3 with status := .blocked } ∧ Iop P Φ N0 j h w0 (fun T st sm => R1 T st sm ∨ R2 T st sm) 1 g0 T gs w t)) → gs[k + 1]? = some g → g.status = .running →
        ∃ m' ops, runT P (crowd gs w sl) (k + 1) = (.next m', ops) ∧ Runs P Good m' (t ++ ops) := by
      intro gs w t sl g0 k g H hk hrun
      rcases H with ⟨rfl, X⟩ | ⟨rfl, X⟩
      · obtain ⟨T', gs', w', ops, h1, h2, h3⟩ := X.worker (sl := sl) (MR.shut hjn hn) (hst w X.J).1 hk hrun
        exact ⟨_, ops, h1, ih T' h2 gs' w' _ sl g0 (.inl ⟨rfl, h3⟩)⟩
      · obtain ⟨hr3, ho3, _⟩ := hst w X.J
        obtain ⟨st, sm, hw, hM⟩ := X.wg
        have hlt : k < T.length := by
          have := (Array.getElem?_eq_some_iff.1 hk).1
          rw [X.I.gsz] at this; omega
        have hx := List.getElem?_eq_getElem hlt
        have hs1 : ∀ (k : Nat) (x : WS), T[k]? = some x → 1 ≤ x.stage := fun k x hx => by
          obtain ⟨g, _, hs⟩ := X.I.sit k x hx
          generalize Deaf t (k + 1) = d at hs
          cases hs <;> simp
        obtain ⟨g', w', es, y, st', sm', e1, e2, e3, e4, e5, e6⟩ := wstep X.C X.I hw hk hx hrun (R_turn (y := ⟨0, .leaf, 0, emp⟩) hjn hn X.I.len hs1 X.I.old hx hM).1
        have hR := (R_turn (y := y) hjn hn X.I.len hs1 X.I.old hx hM).2 _ _ _ _ _ e6
        have hdf : Deaf (t ++ MemOp.ofEvents (k + 1) g.frame.fn g.frame.place es) 0 = 1 := by
          rw [Deaf_other t (by omega) _ g_of_ofEvents]; exact X.deaf
        have hz := stepped_zero (P := P) (k := k) (g := g) (g' := g') (w' := w') X.g0
        have hwk : woken P g g' w' ({ g3 with status := .blocked } : Goroutine) = g3 ∨ woken P g g' w' ({ g3 with status := .blocked } : Goroutine) = { g3 with status := .blocked } := by
          unfold woken
          split
          · exact .inl (again_blocked hr3 ho3 w')
          · exact .inr rfl
        refine ⟨_, _, commit hk e1, ih _ (One.set hx e2) _ _ _ sl (woken P g g' w' ({ g3 with status := .blocked } : Goroutine)) ?_⟩
        rcases hR with hR | ⟨hR, m1, m2, m3⟩
        · rcases hwk with e | e
          · exact .inl ⟨e, e3, e4, ⟨st', sm', e5, hR.elim .inl fun h => .inr (.inl h)⟩, by rw [e]; rw [e] at hz; exact hz, hdf⟩
          · exact .inr ⟨e, e3, e4, ⟨st', sm', e5, hR⟩, by rw [e]; rw [e] at hz; exact hz, hdf⟩
        · have e : woken P g g' w' ({ g3 with status := .blocked } : Goroutine) = g3 := by
            unfold woken
            rw [if_pos (by simp [m1, m2, m3])]
            exact again_blocked hr3 ho3 w'
          exact .inl ⟨e, e3, e4, ⟨st', sm', e5, .inr (.inr hR)⟩, by rw [e]; rw [e] at hz; exact hz, hdf⟩
    -- blocked
    have blk : ∀ gs w t sl, Iop P Φ N0 j h w0 (fun T st sm => R1 T st sm ∨ R2 T st sm) 1 { g3 with status := .blocked } T gs w t → Runs P Good (crowd gs w sl) t := by
      intro gs w t sl X
      have hrun : ∃ (i : Nat) (g : Goroutine), gs[i]? = some g ∧ g.status = .running := by
        obtain ⟨st, sm, hw, hM⟩ := X.wg
        have up : ∀ {k : Nat} {x : WS}, T[k]? = some x → x.stage ≠ 1 → ∃ (i : Nat) (g : Goroutine), gs[i]? = some g ∧ g.status = .running := fun hx h1 => by
          obtain ⟨g, hg, hs⟩ := X.I.sit _ _ hx
          exact ⟨_, g, hg, (hs.status X.J).resolve_right fun h => h1 h.2⟩
        rcases hM with ⟨_, _, hV, _⟩ | ⟨L, x, hx, h234, _⟩
        · obtain ⟨x, hx, h5⟩ := List.countP_pos_iff.1 hV
          obtain ⟨k, hk⟩ := List.getElem?_of_mem hx
          exact up hk (by simp at h5; omega)
        · exact up hx (by omega)
      obtain ⟨i, g, d, sl', hg, hr, hstep⟩ := crowd_pick (P := P) (w := w) (sl := sl) (awake_all X.I X.J X.g0 (.inr rfl)) hrun
      cases i with
      | zero => rw [X.g0] at hg; cases hg; cases hr
      | succ k =>
        obtain ⟨m', ops, e1, e2⟩ := other gs (w.at d) t sl' _ k g (.inr ⟨rfl, X.at d⟩) hg hr
        exact .step (hstep.trans e1) e2
    intro gs w t sl g0 H
    rcases H with ⟨rfl, X⟩ | ⟨rfl, X⟩
    · obtain ⟨i, g, d, sl', hg, hr, hstep⟩ := crowd_pick (P := P) (w := w) (sl := sl) (awake_all X.I X.J X.g0 (.inl (hst w X.J).1)) ⟨0, _, X.g0, (hst w X.J).1⟩
      cases i with
      | zero =>
        have X' := X.at d
        obtain ⟨st, sm, hw, hM⟩ := X'.wg
        obtain ⟨_, _, hb, hg2⟩ := hst (w.at d) X'.J
        have fin : R1 T st sm ∨ R2 T st sm → Runs P Good (crowd gs w sl) t := fun hR => by
          have hs0 : sm = 0 := by
            rcases hR with ⟨_, h, _⟩ | ⟨_, _, _, _, _, _, h⟩ <;> exact h
          subst hs0
          refine .step (hstep.trans (commit0 X.g0 (hb ⟨st, hw⟩))) (blk _ _ _ sl' ?_)
          exact X'.book (M' := fun T st sm => R1 T st sm ∨ R2 T st sm) (es := #[]) (Aside.refl _ _) hw hR (fun e he => by simp at he) _ _
        rcases hM with hM | hM | ⟨hall, rfl, rfl⟩
        · exact fin (.inl hM)
        · exact fin (.inr hM)
        · obtain ⟨g', e1, m, e2⟩ := hg2 hw
          refine .step (hstep.trans (commit0 X.g0 e1)) (K g' T _ _ _ sl' m e2 ?_)
          have hV0 : V T = 0 := by
            unfold V
            refine List.countP_eq_zero.2 fun x hx => ?_
            obtain ⟨k, hk⟩ := List.getElem?_of_mem hx
            simp [hall k x hk]
          have hA : Aside Φ.Wg (w.at d) ((w.at d).setCell (smA Φ.Wg) (Value.int .u32 0)) := aside_setCell _ (smA Φ.Wg) _
          exact X'.book (M' := MO True 0) hA (hw.setSm _) ⟨⟨by rw [hV0]; simp [KK], rfl, fun k x hx => by have := hall k x hx; omega⟩, fun _ => hall⟩ sem_bk' _ _
      | succ k =>
        obtain ⟨m', ops, e1, e2⟩ := other gs (w.at d) t sl' _ k g (.inl ⟨rfl, X.at d⟩) hg hr
        exact .step (hstep.trans e1) e2
    · exact blk gs w t sl X

/-- Wait. -/
theorem waitRun {Nx : Frame → List Frame → Prop} {fr : Frame} {cs : List Frame} (hjn : j ≤ Φ.n) (hn : Φ.n < 2147483648) (H : WaitOp P Φ Nx fr cs) (X : Iop P Φ N0 j h w0 (MO False 0) 0 (gor fr cs) T gs w t) (sl : Option (Nat × Nat))
    (K : ∀ g' T' gs' w' t' sl', (∀ w, Φ.J w → AtWa P Φ Nx g' w) → Iop P Φ N0 j h w0 (MO True 0) 0 g' T' gs' w' t' → Runs P Good (crowd gs' w' sl') t') : Runs P Good (crowd gs w sl) t := by
  have s0 : Shut N0 j (MO False 0) := MO.shut (n := Φ.n) (by omega) hn
  have s1 : Shut N0 j (MO True 0) := MO.shut (n := Φ.n) (by omega) hn
  have sr : Shut N0 j MR := MR.shut hjn hn
  obtain ⟨Anch, hAn, m, H⟩ := H
  -- behind the join
  have enab : ∀ {g T gs w t sl m}, Sil P true Φ.J (AtWe P Φ Nx) m g → Iop P Φ N0 j h w0 (MO True 0) 1 g T gs w t → Runs P Good (crowd gs w sl) t := by
    intro g T gs w t sl m h2 X
    refine Iop.sil s1 m g T gs w t sl h2 X fun ge T gs w t sl _ hst X => ?_
    refine X.stop s1 (hst w X.J).1 sl fun T gs w t sl _ X => ?_
    obtain ⟨_, gf, h1, m, h2⟩ := hst w X.J
    obtain ⟨st, sm, hw, hM⟩ := X.wg
    exact ⟨gf, w, _, h1, Iop.sil s1 m gf T _ _ _ sl h2 (X.book (Aside.refl _ _) hw hM (mk_bk (.inr (.inl rfl))) _ _) fun gg T gs w t sl _ hst X => K gg T gs w t sl hst X⟩
  -- the loop
  have loop : ∀ T gs w t sl m g0, Sil P true Φ.J (fun g _ => Anch g) m g0 → Iop P Φ N0 j h w0 (MO False 0) 1 g0 T gs w t → Runs P Good (crowd gs w sl) t := by
    intro T
    induction (One.wf WS.wf).transGen.apply T with
    | intro T _ ih =>
      intro gs w t sl m g0 H X
      refine Iop.sil s0 m g0 T gs w t sl H X fun g1 T1 gs w t sl l1 hst X => ?_
      obtain ⟨m, H⟩ := hAn g1 (hst w X.J)
      refine Iop.sil s0 m g1 T1 gs w t sl H X fun g2 T2 gs w t sl l2 hst X => ?_
      refine X.stop s0 (hst w X.J).1 sl fun T3 gs w t sl l3 X => ?_
      obtain ⟨_, h0⟩ := hst w X.J
      obtain ⟨st, sm, hw, ⟨⟨rfl, rfl, hm⟩, hq⟩⟩ := X.wg
      have hVj := V_le X.I.len X.I.old
      obtain ⟨g3, h1, h2, h3⟩ := h0 (V T3) (by omega) (by simpa using hw)
      refine ⟨g3, w, _, h1, ?_⟩
      by_cases hv : V T3 = 0
      · obtain ⟨m, h4⟩ := h2 hv
        refine enab h4 (X.book (M' := MO True 0) (Aside.refl _ _) hw ⟨⟨rfl, rfl, hm⟩, fun _ k x hx => ?_⟩ rd_bk _ _)
        have e1 := hm k x hx
        have e2 : ¬ 5 ≤ x.stage := fun h5 => by have := V_pos hx h5; omega
        obtain ⟨g, _, hs⟩ := X.I.sit k x hx
        generalize Deaf t (k + 1) = d at hs
        cases hs <;> simp at e1 e2 ⊢
      · obtain ⟨m, h4⟩ := h3 hv
        refine Iop.sil s0 m g3 T3 _ _ _ sl h4 (X.book (M' := MO False 0) (Aside.refl _ _) hw ⟨⟨rfl, rfl, hm⟩, hq⟩ rd_bk _ _) fun g4 T4 gs w t sl l4 hst X => ?_
        refine X.stop s0 (hst w X.J).1 sl fun T5 gs w t sl l5 X => ?_
        obtain ⟨_, h0⟩ := hst w X.J
        obtain ⟨st, sm, hw, ⟨⟨rfl, rfl, hm⟩, hq⟩⟩ := X.wg
        have hVj := V_le X.I.len X.I.old
        obtain ⟨h5, h6⟩ := h0 (V T5) (by omega) (by simpa using hw)
        by_cases hvv : V T5 = V T3
        · obtain ⟨g5, e1, m, e2⟩ := h5 hvv
          have hA : Aside Φ.Wg w (w.setCell (stA Φ.Wg) (Value.int .u64 (((V T5 : Nat) : Int) * KK + 1))) := aside_setCell w (stA Φ.Wg) _
          refine ⟨g5, _, _, e1, Iop.sil sr m g5 T5 _ _ _ sl e2 (X.book (M' := MR) hA (hw.setSt _) (.inl ⟨rfl, rfl, by omega, hm⟩) rw_bk _ _) fun g6 T6 gs w t sl l6 hst X => ?_⟩
          refine X.stop sr (hst w X.J).1 sl fun T7 gs w t sl l7 X => ?_
          obtain ⟨_, g7, e1, m, e2⟩ := hst w X.J
          obtain ⟨st, sm, hw, hM⟩ := X.wg
          refine ⟨g7, w, _, e1, Iop.sil sr m g7 T7 _ _ _ sl e2 (X.book (Aside.refl _ _) hw hM (mk_bk (.inr (.inr (.inr (.inl rfl))))) _ _) fun g8 T8 gs w t sl l8 hst X => ?_⟩
          refine regRun hjn hn hst (fun g9 T9 gs w t sl m hs X => ?_) T8 gs w t sl g8 (.inl ⟨rfl, X⟩)
          refine Iop.sil s1 m g9 T9 _ _ _ sl hs X fun g10 T10 gs w t sl _ hst X => ?_
          refine X.stop s1 (hst w X.J).1 sl fun T11 gs w t sl _ X => ?_
          obtain ⟨_, h0⟩ := hst w X.J
          obtain ⟨st, sm, hw, hM⟩ := X.wg
          obtain ⟨⟨rfl, rfl, hm⟩, hall⟩ := hM
          have hV0 : V T11 = 0 := by
            unfold V
            refine List.countP_eq_zero.2 fun x hx => ?_
            obtain ⟨k, hk⟩ := List.getElem?_of_mem hx
            simp [hall trivial k x hk]
          obtain ⟨g11, e1, m, e2⟩ := h0 (by simpa [hV0] using hw)
          exact ⟨g11, w, _, e1, enab e2 (X.book (M' := MO True 0) (Aside.refl _ _) hw ⟨⟨rfl, rfl, hm⟩, hall⟩ rd_bk _ _)⟩
        · obtain ⟨g5, e1, m, e2⟩ := h6 hvv
          have up : ∀ {A B : List WS}, Le A B → A = B ∨ Relation.TransGen (One WS.lt) A B := fun h => by
            induction h with
            | refl => exact .inl rfl
            | step h1 _ ih => exact .inr (ih.elim (fun e => e ▸ .single h1) fun h2 => .trans (.single h1) h2)
          have hlt : Relation.TransGen (One WS.lt) T5 T := by
            rcases up (l5.trans l4) with e | e
            · exact absurd (by rw [e]) hvv
            · rcases up (l3.trans (l2.trans l1)) with e2 | e2
              · exact e2 ▸ e
              · exact .trans e e2
          exact ⟨g5, w, _, e1, ih T5 hlt _ _ _ sl m g5 e2 (X.book (M' := MO False 0) (Aside.refl _ _) hw ⟨⟨rfl, rfl, hm⟩, hq⟩ rd_bk _ _)⟩
  refine Iop.sil s0 m _ T gs w t sl H X fun ga T gs w t sl _ hst X => ?_
  refine X.stop s0 (hst w X.J).1 sl fun T gs w t sl _ X => ?_
  obtain ⟨_, gb, h1, m, h2⟩ := hst w X.J
  obtain ⟨st, sm, hw, hM⟩ := X.wg
  exact ⟨gb, w, _, h1, loop T _ _ _ sl m gb h2 (X.book (Aside.refl _ _) hw hM (mk_bk (.inl rfl)) _ _)⟩

/-- The whole phase, to its last step. -/
theorem spRun (hS : ∀ fr cs h Q, ¬ Φ.S.big fr cs h Q) (hn : Φ.n < 2147483648) {Q : Frame → List Frame → Heap → Prop} :
    ∀ (r j : Nat) (fr : Frame) (cs : List Frame) (h : Heap) (T : List WS) (gs : Array Goroutine) (w : World) (t : Trace) (sl : Option (Nat × Nat)), r + j = Φ.n → Sp P Φ Q r fr cs h → Iop P Φ N0 j h w0 (MO False 0) 0 (gor fr cs) T gs w t →
      (∀ h' g' T' gs' w' t' sl', (∀ b, Φ.S b → h' b = h b) → (∀ w, Φ.J w → AtWa P Φ (fun fr' cs' => Q fr' cs' h') g' w) → Iop P Φ N0 Φ.n h' w0 (MO True 0) 0 g' T' gs' w' t' → Runs P Good (crowd gs' w' sl') t') → Runs P Good (crowd gs w sl) t := by
  intro r
  induction r with
  | zero =>
    intro j fr cs h T gs w t sl hr H X K
    obtain rfl : j = Φ.n := by omega
    refine Iop.safe hS (MO.shut (n := Φ.n) (by omega) hn) H T gs w t sl X fun fr' cs' h' T' gs' w' t' sl' hW hro X => ?_
    exact waitRun (Nat.le_refl _) hn hW X sl' fun g' T2 gs2 w2 t2 sl2 hst X => K h' g' T2 gs2 w2 t2 sl2 hro hst X
  | succ r ih =>
    intro j fr cs h T gs w t sl hr H X K
    have hjj : Φ.n - (r + 1) = j := by omega
    refine Iop.safe hS (MO.shut (n := Φ.n) (by omega) hn) H T gs w t sl X fun fr1 cs1 ha T1 gs1 w1 t1 sl1 hA hro1 X => ?_
    refine addRun (by omega) hn hA X sl1 fun fr2 cs2 T2 gs2 w2 t2 sl2 hN X => ?_
    refine Iop.safe hS (MO.shut (n := Φ.n) (by omega) hn) hN T2 gs2 w2 t2 sl2 X fun fr3 cs3 hb T3 gs3 w3 t3 sl3 hB hro2 X => ?_
    rw [hjj] at hB
    refine spawnRun (by omega) hn hB X sl3 fun fr4 cs4 hd T4 gs4 w4 t4 sl4 hC hro3 X => ?_
    exact ih (j + 1) fr4 cs4 hd T4 gs4 w4 t4 sl4 (by omega) hC X fun h' g' T' gs' w' t' sl' hro => K h' g' T' gs' w' t' sl' fun b hb' => by rw [hro b hb', hro3 b hb', hro2 b hb', hro1 b hb']
end
end Go.Eng
