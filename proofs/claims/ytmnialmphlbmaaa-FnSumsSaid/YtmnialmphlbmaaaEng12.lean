import Derived.Test.YtmnialmphlbmaaaEng11
set_option linter.unusedVariables false
set_option linter.unusedSimpArgs false
/- Phases within a whole run; the end of the run. -/
namespace Go.Eng
open Go Go.Conc
open Go.ConcN hiding upd upd_same upd_ne
open Go.ConcR (KK wgBlock WgAt stA smA rd wr mk g_of_ofEvents Bk DC0 bk_of_mute ofEvent_loc_mark ofEvent_cell ofEvent_mk deafBehind_cons deafBehind_one)

/-! ### More is asked for less -/
section
variable {P : Program} {Φ : Ph} {main : Bool} {J : World → Prop} {Nx Nx' : Frame → List Frame → Prop} {fr : Frame} {cs : List Frame}

theorem Sil.mono {Stop Stop' : Goroutine → World → Prop} (hS : ∀ g w, Stop g w → Stop' g w) : ∀ {n : Nat} {g : Goroutine}, Sil P main J Stop n g → Sil P main J Stop' n g := by
  intro n
  induction n with
  | zero => exact fun H w w₁ hw => hS _ _ (H w w₁ hw)
  | succ n ih =>
    intro g H w
    rcases H w with h | ⟨hs, h⟩
    · exact .inl fun w₁ hw => hS _ _ (h w₁ hw)
    · refine .inr ⟨hs, fun w₁ hw => ?_⟩
      have := h w₁ hw
      revert this
      cases stepG P main g w₁ <;> simp only [GStep.goes, imp_self]
      exact fun ⟨d, x⟩ => ⟨d, ih (Sil.of x) _⟩

theorem ex_sil {Stop Stop' : Goroutine → World → Prop} {g : Goroutine} (hS : ∀ g w, Stop g w → Stop' g w) : (∃ m, Sil P main J Stop m g) → ∃ m, Sil P main J Stop' m g := fun ⟨m, h⟩ => ⟨m, h.mono hS⟩

variable (hN : ∀ fr cs, Nx fr cs → Nx' fr cs)
include hN
theorem AtNx.mono (g : Goroutine) (w : World) : AtNx Nx g w → AtNx Nx' g w := fun ⟨fr, cs, e, h⟩ => ⟨fr, cs, e, hN _ _ h⟩
theorem AtAe.mono (g : Goroutine) (w : World) : AtAe P Φ Nx g w → AtAe P Φ Nx' g w := fun ⟨h1, g', h2, h3⟩ => ⟨h1, g', h2, ex_sil (AtNx.mono hN) h3⟩
theorem AtAs.mono (g : Goroutine) (w : World) : AtAs P Φ Nx g w → AtAs P Φ Nx' g w := fun ⟨h1, g', h2, h3⟩ => ⟨h1, g', h2, ex_sil (AtAe.mono hN) h3⟩
theorem AtA1.mono (g : Goroutine) (w : World) : AtA1 P Φ Nx g w → AtA1 P Φ Nx' g w := fun ⟨h1, h2⟩ => ⟨h1, fun v hv hw => let ⟨g', h3, h4, h5⟩ := h2 v hv hw; ⟨g', h3, fun e => ex_sil (AtAs.mono hN) (h4 e), fun e => ex_sil (AtAe.mono hN) (h5 e)⟩⟩
theorem AtAd.mono (g : Goroutine) (w : World) : AtAd P Φ Nx g w → AtAd P Φ Nx' g w := fun ⟨h1, g', h2, h3⟩ => ⟨h1, g', h2, ex_sil (AtA1.mono hN) h3⟩
theorem AddOp.mono (H : AddOp P Φ Nx fr cs) : AddOp P Φ Nx' fr cs := ex_sil (AtAd.mono hN) H
theorem AtWa.mono (g : Goroutine) (w : World) : AtWa P Φ Nx g w → AtWa P Φ Nx' g w := fun ⟨h1, fr, cs, h2, h3⟩ => ⟨h1, fr, cs, h2, hN _ _ h3⟩
theorem AtWe.mono (g : Goroutine) (w : World) : AtWe P Φ Nx g w → AtWe P Φ Nx' g w := fun ⟨h1, g', h2, h3⟩ => ⟨h1, g', h2, ex_sil (AtWa.mono hN) h3⟩
theorem AtW4.mono (g : Goroutine) (w : World) : AtW4 P Φ Nx g w → AtW4 P Φ Nx' g w := fun ⟨h1, h2⟩ => ⟨h1, fun hw => let ⟨g', h3, h4⟩ := h2 hw; ⟨g', h3, ex_sil (AtWe.mono hN) h4⟩⟩
theorem AtW3.mono (g : Goroutine) (w : World) : AtW3 P Φ Nx g w → AtW3 P Φ Nx' g w := fun ⟨h1, h2, h3, h4⟩ => ⟨h1, h2, h3, fun hw => let ⟨g', h5, h6⟩ := h4 hw; ⟨g', h5, ex_sil (AtW4.mono hN) h6⟩⟩
theorem AtWs.mono (g : Goroutine) (w : World) : AtWs P Φ Nx g w → AtWs P Φ Nx' g w := fun ⟨h1, g', h2, h3⟩ => ⟨h1, g', h2, ex_sil (AtW3.mono hN) h3⟩
theorem AtW2.mono {Anch : Goroutine → Prop} {vs : Nat} (g : Goroutine) (w : World) : AtW2 P Φ Nx Anch vs g w → AtW2 P Φ Nx' Anch vs g w :=
  fun ⟨h1, h2⟩ => ⟨h1, fun v hv hw => ⟨fun e => let ⟨g', h3, h4⟩ := (h2 v hv hw).1 e; ⟨g', h3, ex_sil (AtWs.mono hN) h4⟩, (h2 v hv hw).2⟩⟩
theorem AtW1.mono {Anch : Goroutine → Prop} (g : Goroutine) (w : World) : AtW1 P Φ Nx Anch g w → AtW1 P Φ Nx' Anch g w :=
  fun ⟨h1, h2⟩ => ⟨h1, fun v hv hw => let ⟨g', h3, h4, h5⟩ := h2 v hv hw; ⟨g', h3, fun e => ex_sil (AtWe.mono hN) (h4 e), fun e => ex_sil (AtW2.mono hN) (h5 e)⟩⟩
theorem WaitOp.mono (H : WaitOp P Φ Nx fr cs) : WaitOp P Φ Nx' fr cs := let ⟨Anch, h1, h2⟩ := H; ⟨Anch, fun g hg => ex_sil (AtW1.mono hN) (h1 g hg), h2⟩
end

section
variable {P : Program} {Φ : Ph}

theorem apart_sub {h1 h f : Heap} (s : Sub h1 h) (ha : Apart h f) : Apart h1 f := fun b hb => by
  cases e : h1 b with
  | none => rfl
  | some o => have := s b o e; rw [ha b hb] at this; cases this

theorem sub_plus {h1 h f : Heap} (s : Sub h1 h) (ha : Apart h f) : Sub (plus h1 f) (plus h f) := fun b o hb => by
  unfold plus at hb ⊢
  cases e : h1 b with
  | some u => rw [e] at hb; rw [s b u e]; exact hb
  | none =>
    rw [e] at hb
    have : h b = none := ha b (by simp only at hb; rw [hb]; simp)
    rw [this]; exact hb

theorem SpawnOp.frame {i : Nat} {Nx Nx' : Frame → List Frame → Heap → Prop} {fr : Frame} {cs : List Frame} {h f : Heap} (ha : Apart h f) (hN : ∀ fr cs h1, Nx fr cs h1 → Apart h1 f → Nx' fr cs (plus h1 f)) (H : SpawnOp P Φ i Nx fr cs h) : SpawnOp P Φ i Nx' fr cs (plus h f) := by
  obtain ⟨h1, hc, s1, sc, hap, hS, H⟩ := H
  refine ⟨plus h1 f, hc, sub_plus s1 ha, fun b o hb => by simp [plus, sc b o hb], fun b hb hn => plus_none.2 ⟨hap b hb hn, ?_⟩, fun b hb => by simp [plus, hS b hb], fun w hw hJ => ?_⟩
  · cases e : f b with
    | none => rfl
    | some o =>
      have h2 := ha b (by rw [e]; simp)
      cases e2 : hc b with
      | none => exact absurd e2 hn
      | some u => rw [sc b u e2] at h2; cases h2
  · obtain ⟨fr', cs', frc, csc, h2, h3, h4⟩ := H w hw.left hJ
    exact ⟨fr', cs', frc, csc, h2, h3, hN _ _ _ h4 (apart_sub s1 ha)⟩

theorem Sp.frame {Q : Frame → List Frame → Heap → Prop} {f : Heap} : ∀ (r : Nat) {fr : Frame} {cs : List Frame} {h : Heap}, Apart h f → Sp P Φ Q r fr cs h → Sp P Φ (fun fr cs h2 => ∃ h1, Q fr cs h1 ∧ Apart h1 f ∧ h2 = plus h1 f) r fr cs (plus h f) := by
  intro r
  induction r with
  | zero =>
    intro fr cs h ha H
    refine (Safe.frame H f ha).bind fun fr cs h2 ⟨h1, hW, ha1, e⟩ => .done ?_
    exact WaitOp.mono (fun fr' cs' hq => ⟨h1, hq, ha1, e⟩) hW
  | succ r ih =>
    intro fr cs h ha H
    refine (Safe.frame H f ha).bind fun fr cs h2 ⟨h1, hA, ha1, e⟩ => .done ?_
    subst e
    refine AddOp.mono (fun fr' cs' hB => ?_) hA
    refine (Safe.frame hB f ha1).bind fun fr cs h2 ⟨h3, hC, ha3, e⟩ => .done ?_
    subst e
    exact hC.frame ha3 fun fr cs h1 hq ha => ih ha hq
end

theorem upd_same' {h : Heap} {b : Nat} {o : Obj} : upd h b o b = some o := by simp [upd]
theorem upd_ne' {h : Heap} {b x : Nat} {o : Obj} (hx : x ≠ b) : upd h b o x = h x := by simp [upd, hx]

/-! ### The phase as one great step -/

def Ph.vals (Φ : Ph) : Array Value := ((List.range Φ.n).map Φ.val).toArray
def Ph.rest (Φ : Ph) (h : Heap) : Heap := fun b => if b = Φ.Wg ∨ b = Φ.C then none else h b

structure PhOk (Φ : Ph) (S : Nat → Prop) (h : Heap) (zs : Array Value) : Prop where
  nobig : ∀ fr cs h Q, ¬ Φ.S.big fr cs h Q
  small : Φ.n < 2147483648
  ne : Φ.C ≠ Φ.Wg
  wg : h Φ.Wg = some (wgBlock Φ.ty 0 0)
  arr : h Φ.C = some (.cells zs Φ.ety)
  size : zs.size = Φ.n
  sub : ∀ b, S b → Φ.S b
  held : ∀ b, Φ.S b → Φ.rest h b ≠ none

def Phase (P : Program) (S : Nat → Prop) (fr : Frame) (cs : List Frame) (h : Heap) (Q : Frame → List Frame → Heap → Prop) : Prop :=
  ∃ (Φ : Ph) (zs : Array Value), PhOk Φ S h zs ∧ Sp P Φ (fun fr' cs' h' => Q fr' cs' (upd h' Φ.C (.cells Φ.vals Φ.ety))) Φ.n fr cs (Φ.rest h)

/-- Shared: s; great steps: phases. -/
def Team (P : Program) (s : Nat → Prop) : Shared := ⟨s, Phase P s⟩

/-! ### Outside of a phase -/

structure Out (P : Program) (S : Shared) (w0 : World) (h : Heap) (g0 : Goroutine) (T : List WS) (gs : Array Goroutine) (w : World) (t : Trace) : Prop where
  C : Com w0 S T.length h T w t
  gsz : gs.size = T.length + 1
  sit : ∀ (k : Nat) (x : WS), T[k]? = some x → x.heap = emp ∧ x.stage = 1 ∧ ∃ g, gs[k + 1]? = some g ∧ QuitsD P x.fuel (Deaf t (k + 1)) g
  g0 : gs[0]? = some g0
  deaf : Deaf t 0 = 0

section
variable {P : Program} {Φ : Ph} {S : Shared} {N0 j : Nat} {h h' h1 hc : Heap} {T : List WS} {gs : Array Goroutine} {w0 w w' : World} {t : Trace} {es : Array Event} {sl : Option (Nat × Nat)} {st sm : Int} {g0 g1 : Goroutine}
  {Good : Machine → Outcome → World → Trace → Prop}

theorem Out.at (X : Out P S w0 h g0 T gs w t) (d : Nat) : Out P S w0 h g0 T gs (w.at d) t := ⟨X.C.at d, X.gsz, X.sit, X.g0, X.deaf⟩

/-- Whoever leaves takes a step. -/
theorem Out.worker (X : Out P S w0 h g0 T gs w t) (hr : g0.status = .running) {k : Nat} {g : Goroutine} (hk : gs[k + 1]? = some g) (hrun : g.status = .running) :
    ∃ T' gs' w' ops, runT P (crowd gs w sl) (k + 1) = (.next (crowd gs' w' sl), ops) ∧ One WS.lt T' T ∧ Out P S w0 h g0 T' gs' w' (t ++ ops) := by
  have hlt : k < T.length := by
    have := (Array.getElem?_eq_some_iff.1 hk).1
    rw [X.gsz] at this; omega
  have hx := List.getElem?_eq_getElem hlt
  generalize T[k] = x at hx
  obtain ⟨he, h1, g', hg, hQ⟩ := X.sit k x hx
  rw [hk] at hg; cases hg
  obtain ⟨s, rk, m, hp⟩ := x
  simp only at he h1 hQ
  subst he h1
  cases m with
  | zero => rw [hQ.1] at hrun; cases hrun
  | succ m =>
    rcases hQ with ⟨h1, _⟩ | ⟨_, g', es, hm, h1, h2⟩
    · rw [h1] at hrun; cases hrun
    · have ht : ∀ e ∈ es, (MemAct.ofEvent e).touch? = none := fun e he => by
        rcases bk_of_mute (Wg := 0) (hm e he) with h3 | h3 | ⟨a, q, h3, _⟩
        · rw [ofEvent_loc_mark h3]; rfl
        · rw [ofEvent_loc_mark h3]; rfl
        · have := hm e he
          rw [h3] at this; simp [Event.mute] at this
      refine ⟨T.set k ⟨1, rk, m, emp⟩, _, w, _, commit hk (h1 w), One.set hx (WS.lt_fuel rfl rfl (Nat.lt_succ_self _)), ?_, ?_, ?_, ?_, ?_⟩
      · rw [List.length_set]
        refine X.C.other (g := k + 1) (by omega) g_of_ofEvents (List.length_set ..) (fun i z hz => ?_) ⟨rfl, rfl, rfl⟩ rfl (fun b _ => rfl) (fun op hop b hb => ?_) (fun op hop a hr => ?_) (.inr (.inr fun op hop => ?_))
        · rcases get_set hz with ⟨rfl, rfl⟩ | ⟨_, hz⟩
          · exact ⟨_, hx, fun b hb => absurd rfl hb⟩
          · exact ⟨z, hz, fun b _ => rfl⟩
        · obtain ⟨e, he, rfl⟩ := ofEvents_mem hop
          have := ht e he
          simp only at hb
          rw [this] at hb; cases hb
        · obtain ⟨e, he, rfl⟩ := ofEvents_mem hop
          simp only at hr
          rcases bk_of_mute (Wg := 0) (hm e he) with h3 | h3 | ⟨a, q, h3, _⟩
          · rw [ofEvent_loc_mark h3] at hr; cases hr
          · rw [ofEvent_loc_mark h3] at hr; cases hr
          · have := hm e he
            rw [h3] at this; simp [Event.mute] at this
        · obtain ⟨e, he, rfl⟩ := ofEvents_mem hop
          exact ht e he
      · rw [List.length_set, ← X.gsz]; simp [stepped]
      · intro i z hz
        rcases get_set hz with ⟨rfl, rfl⟩ | ⟨hi, hz⟩
        · exact ⟨rfl, rfl, g', stepped_same hk, by rw [Deaf_own]; exact h2⟩
        · obtain ⟨h3, h4, o, ho, hq⟩ := X.sit i z hz
          exact ⟨h3, h4, o, stepped_ne (Ne.symm hi) ho hq.status, by rw [deafOf _ _ es (Ne.symm hi)]; exact hq⟩
      · rw [stepped_zero X.g0, woken_still (.inl hr)]
      · rw [Deaf_other t (by omega) _ g_of_ofEvents]; exact X.deaf

theorem Out.awake (X : Out P S w0 h g0 T gs w t) (hr : g0.status = .running) : ∀ g ∈ gs, awake g := by
  intro g hg2 tm
  obtain ⟨i, hi⟩ := Array.mem_iff_getElem?.1 hg2
  cases i with
  | zero =>
    rw [X.g0] at hi; cases hi
    rw [hr]; simp
  | succ i =>
    have hlt : i < T.length := by
      have := (Array.getElem?_eq_some_iff.1 hi).1
      rw [X.gsz] at this; omega
    obtain ⟨_, _, g', hg', hq⟩ := X.sit i _ (List.getElem?_eq_getElem hlt)
    rw [hi] at hg'; cases hg'
    rcases hq.status with h | h <;> rw [h] <;> simp

theorem Out.turn (hr : g0.status = .running) (hM : ∀ T' gs w t sl, Out P S w0 h g0 T' gs w t → MainDone P Good gs w sl t) (X : Out P S w0 h g0 T gs w t) (sl : Option (Nat × Nat)) : Runs P Good (crowd gs w sl) t :=
  Eng.turn (I := fun T gs w t => Out P S w0 h g0 T gs w t) (T0 := T) (fun T gs w t d X => X.at d) (fun T gs w t X => X.awake hr) (fun T gs w t X => ⟨0, g0, X.g0, hr⟩)
    (fun T gs w t sl k g X hk hg => X.worker hr hk hg) (fun T' gs w t sl g _ X _ _ => hM T' gs w t sl X) T gs w t sl (.refl T) X

theorem Out.priv (X : Out P S w0 h g0 T gs w t) (K : Kept S h h' w w') (hes : ∀ e ∈ es, EvOk S h w w' e) (fn : FuncId) (pos : String) : Out P S w0 h' g1 T (stepped0 P gs g0 g1 w') w' (t ++ MemOp.ofEvents 0 fn pos es) := by
  refine ⟨X.C.main K hes fn pos, by rw [← X.gsz]; simp [stepped0], fun k x hx => ?_, stepped0_zero X.g0, ?_⟩
  · obtain ⟨h1, h2, o, ho, hq⟩ := X.sit k x hx
    exact ⟨h1, h2, o, stepped0_succ ho hq.status, by rw [Deaf_other t (by omega) _ g_of_ofEvents]; exact hq⟩
  · rw [Deaf_own, X.deaf]
    refine deafBehind_idle (fun e he => ?_) _
    rcases hes e he with ⟨a, h1, _⟩ | ⟨m, hm, rfl⟩
    · rw [h1]; exact ⟨by simp, by simp⟩
    · cases m <;> simp [Quiet] at hm ⊢

/-- Into a phase. -/
theorem Out.enter {zs : Array Value} {f : Heap} (hΦ : PhOk Φ S h zs) (ha : Apart h f) (X : Out P S w0 (plus h f) g0 T gs w t) : Iop P Φ T.length 0 (plus (Φ.rest h) f) w0 (MO False 0) 0 g0 T gs w t := by
  have held : ∀ {b : Nat}, h b ≠ none → plus h f b ≠ none := fun hb hn => hb (plus_none.1 hn).1
  have hfW : f Φ.Wg = none := by
    cases e : f Φ.Wg with
    | none => rfl
    | some o => have := ha Φ.Wg (by rw [e]; simp); rw [hΦ.wg] at this; cases this
  have hfC : f Φ.C = none := by
    cases e : f Φ.C with
    | none => rfl
    | some o => have := ha Φ.C (by rw [e]; simp); rw [hΦ.arr] at this; cases this
  have sub : Sub (plus (Φ.rest h) f) (plus h f) := sub_plus (fun b o hb => by
    unfold Ph.rest at hb
    split at hb
    · cases hb
    · exact hb) ha
  have noE : ∀ {k : Nat} {x : WS}, T[k]? = some x → ∀ b, x.heap b = none := fun hx b => by rw [(X.sit _ _ hx).1]; rfl
  have kn : ∀ (i : Nat) (a : Touch) (ad : Addr), touchAt t i = some a → a.loc = .cell ad → plus h f ad.block ≠ none → Knows t 0 i := fun i a ad h1 h2 h3 => by
    rcases X.C.kn i a ad h1 h2 h3 with h4 | ⟨_, _, _, q, h5, h6⟩
    · exact h4
    · obtain ⟨op, ho, rfl⟩ := Option.map_eq_some_iff.1 h6
      have := X.C.gsb i op ho
      omega
  have hwW : WgAt Φ.ty Φ.Wg w 0 0 := X.C.has Φ.Wg _ (by simp [plus, hΦ.wg])
  have hwC : w.heap[Φ.C]? = some (.cells zs Φ.ety) := X.C.has Φ.C _ (by simp [plus, hΦ.arr])
  refine ⟨⟨X.C.env, X.C.has.sub sub, fun b hb hn => hΦ.held b hb (plus_none.1 hn).1, X.C.hasW, fun i x hx b _ hb => absurd (noE hx b) hb, fun i q x y hx _ _ b _ hb => absurd (noE hx b) hb, X.C.nr, X.C.gsb, X.C.lo, X.C.norel, fun i a ad h1 h2 h3 => .inl (kn i a ad h1 h2 fun hn => ?_), fun k x hx i a ad _ _ hb => absurd (noE hx _) hb, X.C.ho⟩, ?_, ⟨0, 0, hwW, ⟨?_, ?_, ?_⟩, False.elim⟩, X.g0, X.deaf⟩
  · obtain ⟨h4, h5⟩ := plus_none.1 hn
    refine h3 (plus_none.2 ⟨?_, h5⟩)
    unfold Ph.rest; split
    · rfl
    · exact h4
  · refine ⟨rfl, Nat.zero_le _, X.gsz, fun k x hx => ?_, fun k x hx _ => (X.sit k x hx).2.1, hΦ.ne, ⟨plus_none.2 ⟨by simp [Ph.rest], hfW⟩, plus_none.2 ⟨by simp [Ph.rest], hfC⟩⟩, fun k x hx => ⟨noE hx _, noE hx _⟩, ⟨?_, ?_⟩, ⟨zs, hwC, hΦ.size⟩, fun i a ad h1 h2 h3 => .inr fun k hk => ?_, fun off i a _ h1 h2 => ?_, fun k x hx h8 => ?_, fun i a ad h1 h2 h3 => .inl ?_, fun k x hx hk => ?_, fun k x hx hk => ?_⟩
    · obtain ⟨h1, h2, o, ho, hq⟩ := X.sit k x hx
      obtain ⟨s, rk, m, hp⟩ := x
      simp only at h1 h2 hq
      subst h1 h2
      exact ⟨o, ho, .quit hq⟩
    · exact X.C.has.lt (b := Φ.Wg) (by simp [plus, hΦ.wg]; rfl)
    · exact X.C.has.lt (b := Φ.C) (by simp [plus, hΦ.arr]; rfl)
    · obtain rfl : k = 0 := by omega
      exact kn i a ad h1 h2 (held (by rw [h3, hΦ.wg]; simp))
    · exact kn i a _ h1 h2 (held (by rw [hΦ.arr]; simp))
    · have := (X.sit k x hx).2.1; omega
    · exact kn i a ad h1 h2 (held (by rw [h3, hΦ.arr]; simp))
    · have := (List.getElem?_eq_some_iff.1 hx).1; omega
    · have := (List.getElem?_eq_some_iff.1 hx).1; omega
  · have : V T = 0 := by
      unfold V
      refine List.countP_eq_zero.2 fun x hx => ?_
      obtain ⟨k, hk⟩ := List.getElem?_of_mem hx
      simp [(X.sit k x hk).2.1]
    rw [this]; simp
  · rfl
  · exact fun k x hx => by have := (X.sit k x hx).2.1; omega

/-- Out of a phase: the join. -/
theorem Iop.join (hsub : ∀ b, S b → Φ.S b) (X : Iop P Φ N0 Φ.n h w0 (MO True 0) 0 g0 T gs w t) (fn : FuncId) (pos : String) : Out P S w0 (upd h Φ.C (.cells Φ.vals Φ.ety)) g1 T (stepped0 P gs g0 g1 w) w (t ++ MemOp.ofEvents 0 fn pos #[Go.ConcR.mk (.acquire (stA Φ.Wg))]) := by
  obtain ⟨st, sm, hw, ⟨_, hall⟩⟩ := X.wg
  have hall := hall trivial
  have emps : ∀ {k : Nat} {x : WS}, T[k]? = some x → x.heap = emp ∧ ∃ g, gs[k + 1]? = some g ∧ QuitsD P x.fuel (Deaf t (k + 1)) g := fun {k x} hx => by
    obtain ⟨g, hg, hs⟩ := X.I.sit k x hx
    have h1 := hall k x hx
    generalize Deaf t (k + 1) = d at hs ⊢
    cases hs <;> simp at h1
    case quit hq => exact ⟨rfl, g, hg, hq⟩
  have X2 : Iop P Φ N0 Φ.n h w0 (MO True 0) 0 g1 T (stepped0 P gs g0 g1 w) w (t ++ MemOp.ofEvents 0 fn pos #[Go.ConcR.mk (.acquire (stA Φ.Wg))]) := X.book (Aside.refl _ _) hw ⟨‹_›, fun _ => hall⟩ (mk_bk (.inr (.inr (.inr (.inr rfl))))) fn pos
  have eu : MemOp.ofEvents 0 fn pos #[Go.ConcR.mk (.acquire (stA Φ.Wg))] = #[{ g := 0, fn, pos, act := .mark (.acquire (stA Φ.Wg)) }] := by rw [ofEvents_eq]; simp [ofEvent_mk]
  generalize hu : MemOp.ofEvents 0 fn pos #[Go.ConcR.mk (.acquire (stA Φ.Wg))] = u at X2 eu ⊢
  have hlast : (t ++ u)[t.size]? = some { g := 0, fn, pos, act := .mark (.acquire (stA Φ.Wg)) } := by rw [eu]; simp
  have hq : (t ++ u).act? t.size = some (.mark (.acquire (stA Φ.Wg))) := by rw [act?_of hlast]
  have hqh : (t ++ u).heard t.size := ⟨0, by simp [Trace.g?, hlast], by rw [deaf_old (Nat.le_refl _)]; exact X.deaf⟩
  have nt : ∀ op ∈ u, op.act.touch? = none := fun op hop => by
    rw [eu] at hop
    simp only [List.mem_toArray, List.mem_singleton] at hop
    subst hop; rfl
  have oldt : ∀ {i : Nat} {a : Touch}, touchAt (t ++ u) i = some a → i < t.size ∧ touchAt t i = some a := fun ha => by
    rcases touch_cases ha with h | ⟨op, h1, h2, _⟩
    · exact h
    · rw [nt op h1] at h2; cases h2
  -- what the others did that counts the first knows now
  have joined : ∀ (i k : Nat), t.g? i = some k → N0 < k → t.counts i → Knows (t ++ u) 0 i := by
    intro i k hg hk hcn
    obtain ⟨op, ho, rfl⟩ := Option.map_eq_some_iff.1 hg
    have hle := X.C.gsb i op ho
    have hx : T[op.g - 1]? = some T[op.g - 1] := List.getElem?_eq_getElem (by omega)
    obtain ⟨r, hr⟩ := X.I.rel (op.g - 1) _ hx (by omega) (by rw [hall _ _ hx]; omega)
    rw [show op.g - 1 + 1 = op.g by omega] at hr
    have hrt : r < t.size := lt_of_act? hr.act
    have hile : i ≤ r := Nat.le_of_not_lt fun hlt => hr.after i hlt hg hcn
    have edge : HappensBefore (t ++ u) r t.size := .single (.inr ⟨.marked (a := stA Φ.Wg) hrt (.inr (by rw [act?_old hrt]; exact hr.act)) hq (fun q _ _ => X2.C.norel q _), (heard_old hrt).2 hr.heard, hqh⟩)
    have hit : i < t.size := lt_size_of_getElem? ho
    refine ⟨t.size, _, hlast, rfl, .inr ?_⟩
    rcases Nat.lt_or_ge i r with hlt | hge
    · exact .trans (.single (.inl ⟨hlt, op.g, by rw [g?_old hit]; exact hg, by rw [g?_old hrt]; exact hr.g⟩)) edge
    · obtain rfl : i = r := by omega
      exact edge
  have countP : ∀ {i : Nat} {a : Touch}, touchAt t i = some a → a.kind = .plain → t.counts i := fun {i a} ha hk => by
    obtain ⟨ad, e, _⟩ := X.C.lo i a ha
    exact ⟨a, ha, by rw [e]; rfl, .inl (by rw [hk]; simp)⟩
  have hC : w.heap[Φ.C]? = some (.cells Φ.vals Φ.ety) := by
    obtain ⟨cs, hc1, hc2⟩ := X.I.pay
    rw [hc1]
    congr 2
    refine Array.ext (by simp [Ph.vals, hc2]) fun i h1 h2 => ?_
    have hl := X.I.len
    have hx : T[N0 + i]? = some T[N0 + i] := List.getElem?_eq_getElem (by omega)
    have := X.I.vals (N0 + i) _ hx (by omega) (by rw [hall _ _ hx]; omega)
    rw [show N0 + i - N0 = i by omega] at this
    simp only [World.cell?, hc1] at this
    simp only [Ph.vals, List.getElem_toArray, List.getElem_map, List.getElem_range]
    simp [h1] at this
    exact this
  refine ⟨⟨X2.C.env, fun b o hb => ?_, fun b hb => ?_, X2.C.hasW, fun i x hx b _ hb => ?_, fun i q x y hx _ _ b _ hb => ?_, X2.C.nr, X2.C.gsb, X2.C.lo, X2.C.norel, fun i a ad h1 h2 h3 => .inl ?_, fun k x hx i a ad _ _ hb => ?_, fun i k hg hk _ hcn => ?_⟩, X2.I.gsz, fun k x hx => ?_, X2.g0, X2.deaf⟩
  · by_cases e : b = Φ.C
    · subst e; rw [upd_same'] at hb; cases hb; exact hC
    · rw [upd_ne' e] at hb; exact X.C.has b o hb
  · by_cases e : b = Φ.C
    · subst e; rw [upd_same']; simp
    · rw [upd_ne' e]; exact X.C.inv b (hsub b hb)
  · rw [(emps hx).1] at hb; exact absurd rfl hb
  · rw [(emps hx).1] at hb; exact absurd rfl hb
  · obtain ⟨hit, h4⟩ := oldt h1
    by_cases e : ad.block = Φ.C
    · rcases X.I.cC i a ad h4 h2 e with h5 | ⟨h5, q, h6, h7⟩
      · exact kapp h5
      · exact joined i q h7 h6 (countP h4 h5)
    · rw [upd_ne' e] at h3
      rcases X.C.kn i a ad h4 h2 h3 with h5 | ⟨_, _, h5, q, h6, h7⟩
      · exact kapp h5
      · exact joined i q h7 h6 (countP h4 h5)
  · rw [(emps hx).1] at hb; exact absurd rfl hb
  · rcases g?_cases hg with ⟨hit, h1⟩ | ⟨op, h1, rfl, h2⟩
    · have hcn' := (counts_old hit).1 hcn
      by_cases hkN : N0 < k
      · exact joined i k h1 hkN hcn'
      · exact kapp (X.C.ho i k h1 hk (by omega) hcn')
    · obtain ⟨x, hx, _⟩ := hcn
      simp [Trace.act?, h2, nt op h1] at hx
  · obtain ⟨h1, g, hg, hs⟩ := emps hx
    refine ⟨h1, hall k x hx, g, stepped0_succ hg hs.status, ?_⟩
    have : Deaf (t ++ u) (k + 1) = Deaf t (k + 1) := by rw [← hu]; exact Deaf_other t (by omega) _ g_of_ofEvents
    rw [this]; exact hs
end
end Go.Eng
/- A whole run with phases. -/
namespace Go.Eng
open Go Go.Conc
open Go.ConcN hiding upd upd_same upd_ne
open Go.ConcR (KK wgBlock WgAt stA smA rd wr g_of_ofEvents Bk DC0 bk_of_mute ofEvent_loc_mark ofEvent_cell ofEvent_mk deafBehind_cons deafBehind_one)

section
variable {P : Program} {S : Shared} {h h' : Heap} {T : List WS} {gs : Array Goroutine} {w0 w w' : World} {t : Trace} {es : Array Event} {sl : Option (Nat × Nat)} {g0 g1 : Goroutine}
  {Good : Machine → Outcome → World → Trace → Prop}

theorem outRun (hbig : ∀ fr cs h Q, S.big fr cs h Q → Phase P S fr cs h Q) {Post : Frame → List Frame → Heap → Prop} {fr : Frame} {cs : List Frame} (H : Safe P S Post fr cs h) : ∀ (T : List WS) (gs : Array Goroutine) (w : World) (t : Trace) (sl : Option (Nat × Nat)),
    Out P S w0 h (gor fr cs) T gs w t →
    (∀ fr' cs' h' T' gs' w' t' sl', Post fr' cs' h' → (∀ b, S b → h' b = h b) → Out P S w0 h' (gor fr' cs') T' gs' w' t' → Runs P Good (crowd gs' w' sl') t') → Runs P Good (crowd gs w sl) t := by
  induction H with
  | done p => exact fun T gs w t sl X K => K _ _ _ T gs w t sl p (fun _ _ => rfl) X
  | step fr' cs' w' es h' hs _ ih =>
    intro T gs w t sl X K
    refine X.turn rfl (fun T' gs w t sl X => ?_) sl
    obtain ⟨h1, h2, h3⟩ := hs w true X.C.has
    exact .inl ⟨_, _, commit0 X.g0 h1, ih w true X.C.has T' _ _ _ sl (X.priv h2 h3 _ _) fun fr2 cs2 h2' T2 gs2 w2 t2 sl2 p hro => K fr2 cs2 h2' T2 gs2 w2 t2 sl2 p fun b hb => (hro b hb).trans (h2.ro b hb)⟩
  | @big fr cs h h0 f Q e ha hb _ ih =>
    subst e
    intro T gs w t sl X K
    obtain ⟨Φ, zs, hΦ, hsp⟩ := hbig _ _ _ _ hb
    have har : Apart (Φ.rest h0) f := apart_sub (fun b o hb => by
      unfold Ph.rest at hb
      split at hb
      · cases hb
      · exact hb) ha
    refine spRun hΦ.nobig hΦ.small Φ.n 0 fr cs _ T gs w t sl (by omega) (Sp.frame Φ.n har hsp) (X.enter hΦ ha) fun h' g' T' gs' w' t' sl' hro hst X => ?_
    have s1 : Shut T.length Φ.n (MO True 0) := MO.shut (n := Φ.n) (by omega) hΦ.small
    refine X.stop s1 (hst w' X.J).1 sl' fun T'' gs w t sl _ X => ?_
    obtain ⟨_, fr', cs', hs, h1, hQ, ha1, rfl⟩ := hst w X.J
    have fC : f Φ.C = none := by
      cases e : f Φ.C with
      | none => rfl
      | some o => have := ha Φ.C (by rw [e]; simp); rw [hΦ.arr] at this; cases this
    have eh : upd (plus h1 f) Φ.C (.cells Φ.vals Φ.ety) = plus (upd h1 Φ.C (.cells Φ.vals Φ.ety)) f := by
      funext b
      by_cases e : b = Φ.C
      · subst e; simp [upd, plus]
      · simp [upd, plus, e]
    have agr : ∀ b, S b → upd h1 Φ.C (.cells Φ.vals Φ.ety) b = h0 b := fun b hb => by
      have hn := hΦ.held b (hΦ.sub b hb)
      have hr : Φ.rest h0 b = h0 b ∧ b ≠ Φ.C := by
        unfold Ph.rest at hn ⊢
        split at hn
        · exact absurd rfl hn
        · rename_i hc
          rw [if_neg hc]
          exact ⟨rfl, fun e => hc (.inr e)⟩
      have h2 := hro b (hΦ.sub b hb)
      have h0n : h0 b ≠ none := by rw [← hr.1]; exact hn
      have fb : f b = none := by
        cases e : f b with
        | none => rfl
        | some o => exact absurd (ha b (by rw [e]; simp)) h0n
      rw [upd_ne' hr.2]
      have e1 : plus h1 f b = h1 b := by unfold plus; cases h1 b <;> simp [fb]
      have e2 : plus (Φ.rest h0) f b = Φ.rest h0 b := by unfold plus; cases Φ.rest h0 b <;> simp [fb]
      rw [← e1, h2, e2, hr.1]
    have ap2 : Apart (upd h1 Φ.C (.cells Φ.vals Φ.ety)) f := fun b hb => by
      by_cases e : b = Φ.C
      · subst e; exact absurd fC hb
      · rw [upd_ne' e]; exact ha1 b hb
    have X2 := X.join (S := S) (g1 := gor fr' cs') hΦ.sub g'.frame.fn g'.frame.place
    rw [eh] at X2
    refine ⟨_, w, _, hs, ih fr' cs' _ hQ ap2 agr T'' _ w _ sl X2 fun fr2 cs2 h2' T2 gs2 w2 t2 sl2 p hro2 => K fr2 cs2 h2' T2 gs2 w2 t2 sl2 p fun b hb => ?_⟩
    rw [hro2 b hb]
    unfold plus
    rw [agr b hb]

theorem runT_end {o : Outcome} (h0 : gs[0]? = some g0) (hs : stepG P true g0 w = .ended o w' es) : runT P (crowd gs w sl) 0 = (.ended o w', MemOp.ofEvents 0 g0.frame.fn g0.frame.place es) := by
  obtain ⟨hlt, rfl⟩ := Array.getElem?_eq_some_iff.1 h0
  have hsw := swapAt_of_lt hlt { (default : Goroutine) with status := .finished }
  show runT P { world := w, gs := gs, rest := { timers := #[], alone := none, slice := sl } } 0 = _
  unfold runT
  simp only [hsw, beq_self_eq_true, hs, GStep.es]

/-- The return of the first. -/
theorem Leaves.ended {fr : Frame} {v : Value} (H : Leaves P S fr h v) (hin : P.inits.idxOf? fr.fn = none) (hw : Has w h) : ∃ es, stepG P true (gor fr []) w = .ended (.done v) w es ∧ ∀ e ∈ es, EvOk S h w w e := by
  obtain ⟨hm, hd, hk, fn, hf, hr⟩ := H
  obtain ⟨n, w', es, e1, ⟨rfl, rfl⟩, _, e3⟩ := wpE_run _ (hr w hw) #[]
  refine ⟨seen P fr.fn (if false then #[] else es), ?_, evs_ok false e3⟩
  rw [Sem.runT_eq] at e1
  obtain ⟨e1, e2⟩ := Prod.mk.inj e1
  simp [stepG, gor, hm, unwind, hd, hf, e1, e2, GStep.after, doReturn, hk, hin]

theorem out_start (w : World) (s : Nat → Prop) (hs : ∀ b, s b → b < w.heap.size) (P : Program) (g : Goroutine) : Out P (Team P s) w (wheap w) g [] #[g] w #[] := by
  have nt : ∀ (i : Nat) (a : Touch), touchAt (#[] : Trace) i = some a → False := fun i a h => by simp [touchAt, Trace.act?] at h
  refine ⟨⟨⟨rfl, rfl, rfl⟩, wheap_has w, fun b hb hn => ?_, fun i x hx => by simp at hx, fun i x hx => by simp at hx, fun i j x y hx => by simp at hx, fun said => noRace_nil said, fun i op h => by simp at h, fun i a h => (nt i a h).elim, fun i a h => by simp [Trace.act?] at h, fun i a ad h => (nt i a h).elim, fun k x hx => by simp at hx, fun i k h => by simp [Trace.g?] at h⟩, rfl, fun k x hx => by simp at hx, rfl, rfl⟩
  have : w.heap[b]? = none := hn
  rw [Array.getElem?_eq_none_iff] at this
  have := hs b hb
  omega

/-- FROM THE ENTRY TO THE RETURN, ON EVERY TAPE. -/
theorem team_run {f : FuncId} {args : Array Value} {v : Value} (H : CallsH P (Team P fun b => b < w.heap.size) f args (wheap w) (fun u _ => u = v)) (hin : P.inits.idxOf? f = none) (hb : ((P.funcs[f]?).any fun fn => fn.body.isSome && fn.name != "runtime.NumGoroutine") = true) :
    ∃ N last o w' t', runNT P (N + 1) (solo (G (Frame.enter P f args .normal) []) w) #[] = (.ended o w', t') ∧ runN P N (solo (G (Frame.enter P f args .normal) []) w) = .next last ∧ Go.step P last = .ended o w' ∧
      Conc.Good P (fun u w' => u = v ∧ Go.RowKit.Below w.heap.size w w') last o w' t' := by
  replace H := H.enters hb (wheap_has w)
  have key : Runs P (fun m o w' t' => Conc.Good P (fun u w' => u = v ∧ Go.RowKit.Below w.heap.size w w') m o w' t') (crowd #[gor (Frame.enter P f args .normal) []] w none) #[] := by
    refine outRun (w0 := w) (fun _ _ _ _ h => h) (H.2 []) [] #[gor (Frame.enter P f args .normal) []] w #[] none (out_start w _ (fun _ h => h) P _) ?_
    rintro fr cs h' T gs w' t sl ⟨rfl, hfn, u, h1, rfl, _, _, hl⟩ hro X
    refine X.turn rfl (fun T gs w' t sl X => .inr ?_) sl
    obtain ⟨es, e1, e2⟩ := hl.ended (by rw [hfn]; exact hin) X.C.has
    refine ⟨_, w', _, runT_end X.g0 e1, fun w2 sl2 => ?_⟩
    have X2 := X.priv (g1 := gor fr []) (Kept.refl X.C.has) e2 (gor fr []).frame.fn (gor fr []).frame.place
    refine ⟨u, rfl, ⟨rfl, X.C.env.1, X.C.env.2.1, X.C.env.2.2, ?_, fun b hb => ?_⟩, X2.C.nr, fun i g hg hne hc => ?_, ⟨fun g hg => ?_, rfl⟩, fun i g hg hne => ?_⟩
    · rcases Nat.eq_zero_or_pos w.heap.size with h0 | h0
      · omega
      · have hb : w.heap.size - 1 < w.heap.size := by omega
        have h3 := hro (w.heap.size - 1) hb
        have h4 : wheap w (w.heap.size - 1) = some w.heap[w.heap.size - 1] := by simp [wheap, hb]
        rw [h4] at h3
        have := X.C.has.lt h3
        omega
    · have h3 := hro b hb
      have h4 : wheap w b = some w.heap[b] := by simp [wheap, hb]
      rw [h4] at h3
      rw [X.C.has b _ h3]
      simp [hb]
    · obtain ⟨op, ho, rfl⟩ := Option.map_eq_some_iff.1 hg
      obtain ⟨q, z, hq, hz, hbf⟩ := X2.C.ho i op.g hg hne (X2.C.gsb i op ho) hc
      refine ⟨q, by simp [Trace.g?, hq, hz], ?_⟩
      rcases hbf with rfl | hb
      · rw [ho] at hq; cases hq; exact absurd hz hne
      · exact hb
    · obtain ⟨k, hk⟩ := List.getElem?_of_mem hg
      rw [List.getElem?_drop, Array.getElem?_toList] at hk
      have hkl : k < T.length := by
        have := (Array.getElem?_eq_some_iff.1 hk).1
        have h3 : gs.size = T.length + 1 := X.gsz
        have h4 : (crowd gs w2 sl2).gs.size = gs.size := rfl
        omega
      obtain ⟨_, _, o, ho, hq⟩ := X.sit k _ (List.getElem?_eq_getElem hkl)
      have hk' : gs[k + 1]? = some g := by rw [Nat.add_comm]; exact hk
      rw [hk'] at ho; cases ho
      exact ⟨_, hq.leaves⟩
    · have hk' : gs[i]? = some g := hg
      obtain ⟨k, rfl⟩ : ∃ k, i = k + 1 := ⟨i - 1, by omega⟩
      have hkl : k < T.length := by
        have := (Array.getElem?_eq_some_iff.1 hk').1
        have h3 : gs.size = T.length + 1 := X.gsz
        omega
      obtain ⟨_, _, o, ho, hq⟩ := X.sit k _ (List.getElem?_eq_getElem hkl)
      rw [hk'] at ho; cases ho
      refine ⟨T[k].fuel, ?_⟩
      have e : (t ++ MemOp.ofEvents 0 (gor fr []).frame.fn (gor fr []).frame.place es).deaf (k + 1) (t ++ MemOp.ofEvents 0 (gor fr []).frame.fn (gor fr []).frame.place es).size = Deaf t (k + 1) := Deaf_other t (by omega) _ g_of_ofEvents
      show g.endsWith P w2 T[k].fuel ((t ++ MemOp.ofEvents 0 (gor fr []).frame.fn (gor fr []).frame.place es).deaf (k + 1) (t ++ MemOp.ofEvents 0 (gor fr []).frame.fn (gor fr []).frame.place es).size) = some 0
      rw [e]
      exact hq.hears w2
  exact key.run
end
end Go.Eng
