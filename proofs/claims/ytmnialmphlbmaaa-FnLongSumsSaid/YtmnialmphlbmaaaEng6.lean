import Derived.Test.YtmnialmphlbmaaaEng5
set_option linter.unusedVariables false
set_option linter.unusedSimpArgs false
/- Slices of pairs (an int64, a uint64), two cells each. -/
namespace Go.Eng
open Go

def pv (p : Int × Int) : List Value := [.int .i64 p.1, .int .u64 p.2]
def pairs (ps : List (Int × Int)) : Array Value := (ps.flatMap pv).toArray

theorem pairs_nil : pairs [] = #[] := rfl
theorem pairs_app (ps qs : List (Int × Int)) : pairs (ps ++ qs) = pairs ps ++ pairs qs := by simp [pairs]
theorem pv_len (ps : List (Int × Int)) : (ps.flatMap pv).length = ps.length * 2 := by
  induction ps with
  | nil => rfl
  | cons p r ih => simp only [List.flatMap_cons, List.length_append, ih, pv, List.length_cons, List.length_nil]; omega
theorem pairs_size (ps : List (Int × Int)) : (pairs ps).size = ps.length * 2 := by simp only [pairs, List.size_toArray]; exact pv_len ps

theorem pv_get : ∀ {ps : List (Int × Int)} {i : Nat} {p : Int × Int}, ps[i]? = some p → (ps.flatMap pv)[i * 2]? = some (.int .i64 p.1) ∧ (ps.flatMap pv)[i * 2 + 1]? = some (.int .u64 p.2)
  | [], i, p, h => by simp at h
  | q :: r, 0, p, h => by
    simp only [List.getElem?_cons_zero, Option.some.injEq] at h
    subst h
    exact ⟨rfl, rfl⟩
  | q :: r, i + 1, p, h => by
    rw [List.getElem?_cons_succ] at h
    have := pv_get h
    rw [List.flatMap_cons]
    have e : pv q = [.int .i64 q.1, .int .u64 q.2] := rfl
    rw [e, show (i + 1) * 2 = i * 2 + 2 by omega]
    exact this

theorem pv_set : ∀ {ps : List (Int × Int)} {i : Nat} (x y : Int), i < ps.length → ((ps.flatMap pv).set (i * 2) (.int .i64 x)).set (i * 2 + 1) (.int .u64 y) = (ps.set i (x, y)).flatMap pv
  | [], i, x, y, h => by simp at h
  | q :: r, 0, x, y, h => rfl
  | q :: r, i + 1, x, y, h => by
    have := pv_set (ps := r) (i := i) x y (by simpa using h)
    rw [List.set_cons_succ, List.flatMap_cons, List.flatMap_cons, ← this]
    have e : pv q = [.int .i64 q.1, .int .u64 q.2] := rfl
    rw [e, show (i + 1) * 2 = i * 2 + 2 by omega]
    rfl

theorem pairs_set {ps : List (Int × Int)} {i : Nat} (x y : Int) (h : i < ps.length) : ((pairs ps).setIfInBounds (i * 2) (.int .i64 x)).setIfInBounds (i * 2 + 1) (.int .u64 y) = pairs (ps.set i (x, y)) := by
  simp only [pairs, List.setIfInBounds_toArray]
  rw [pv_set x y h]

theorem mkCells_pairs (n : Nat) : mkCells (n * 2) (([.int .i64 0, .int .u64 0] : List Value).toArray) = pairs (List.replicate n (0, 0)) := by
  apply Array.ext_getElem?
  intro i
  simp only [mkCells, pairs, Array.getElem?_map, List.getElem?_toArray]
  by_cases hi : i < n * 2
  · have e1 : (Array.range (n * 2))[i]? = some i := by simp [hi]
    rw [e1]
    have hr : (List.replicate n ((0 : Int), (0 : Int)))[i / 2]? = some (0, 0) := by rw [List.getElem?_replicate, if_pos (by omega)]
    have := pv_get hr
    rcases Nat.mod_two_eq_zero_or_one i with h2 | h2
    · have e2 : i = i / 2 * 2 := by omega
      rw [e2, this.1]
      simp [show i / 2 * 2 % 2 = 0 by omega]
    · have e2 : i = i / 2 * 2 + 1 := by omega
      rw [e2, this.2]
      simp [show (i / 2 * 2 + 1) % 2 = 1 by omega]
  · have e1 : (Array.range (n * 2))[i]? = none := by simp; omega
    rw [e1]
    symm
    rw [Option.map_none, List.getElem?_eq_none]
    rw [pv_len, List.length_replicate]; omega

theorem zeroCells_pairs (n : Nat) : Builtin.zeroCells ([.int .i64 0, .int .u64 0] : List Value).toArray n = pairs (List.replicate n (0, 0)) := by
  have := mkCells_pairs n
  unfold mkCells at this
  unfold Builtin.zeroCells
  simpa using this

/-- The cells from a on hold the pairs ps. -/
def HPairs (h : Heap) (a : Option Addr) (ps : List (Int × Int)) : Prop := ∀ (i : Nat) p, ps[i]? = some p → ∃ ad, a = some ad ∧ hcell h (ad.add (i * 2)) = some (.int .i64 p.1) ∧ hcell h (ad.add (i * 2 + 1)) = some (.int .u64 p.2)

def OwnP (h : Heap) (v : Value) (ps : List (Int × Int)) : Prop :=
  ∃ b sp T, v = .slice (some ⟨b, 0, none⟩) ps.length (ps.length + sp.length) ∧ h b = some (.cells (pairs (ps ++ sp)) T)

section
variable {h h0 h' : Heap} {v : Value} {ps qs : List (Int × Int)} {a : Option Addr}

theorem HPairs.sub (H : HPairs h a ps) (hs : Sub h h') : HPairs h' a ps := fun i p hp => by
  obtain ⟨ad, e, h1, h2⟩ := H i p hp
  exact ⟨ad, e, hcell_sub hs h1, hcell_sub hs h2⟩

theorem HPairs.cell (H : HPairs h a ps) {i : Nat} {p : Int × Int} (hp : ps[i]? = some p) : hcell h ((a.getD default).add (i * 2)) = some (.int .i64 p.1) ∧ hcell h ((a.getD default).add (i * 2 + 1)) = some (.int .u64 p.2) ∧ a.isSome = true := by
  obtain ⟨ad, rfl, h1, h2⟩ := H i p hp; exact ⟨h1, h2, rfl⟩

theorem HPairs.of {b : Nat} {T : TypeId} {sp : List (Int × Int)} (hb : h b = some (.cells (pairs (ps ++ sp)) T)) : HPairs h (some ⟨b, 0, none⟩) ps := fun i p hp => by
  have hp2 : (ps ++ sp)[i]? = some p := by rw [List.getElem?_append_left (List.getElem?_eq_some_iff.1 hp).1]; exact hp
  have := pv_get hp2
  refine ⟨_, rfl, ?_, ?_⟩ <;> rw [addr0_add] <;> simp only [hcell, hb, pairs, List.getElem?_toArray]
  · exact this.1
  · exact this.2

theorem OwnP.pairs (H : OwnP h v ps) : ∃ a c, v = .slice a ps.length c ∧ ps.length ≤ c ∧ HPairs h a ps := by
  obtain ⟨b, sp, T, rfl, hb⟩ := H
  exact ⟨_, _, rfl, by omega, HPairs.of hb⟩

theorem OwnP.keep (H : OwnP h v ps) (hk : ∀ b, blkOf v = some b → h' b = h b) : OwnP h' v ps := by
  obtain ⟨b, sp, T, rfl, hb⟩ := H
  exact ⟨b, sp, T, rfl, by rw [hk b rfl]; exact hb⟩

theorem OwnP.held (H : OwnP h v ps) : ∀ b, blkOf v = some b → h b ≠ none := by
  obtain ⟨b, sp, T, rfl, hb⟩ := H
  intro b' hb'; cases hb'; rw [hb]; simp

theorem OwnP.made {b : Nat} {T : TypeId} (ps : List (Int × Int)) : OwnP (upd h b (.cells (Eng.pairs ps) T)) (.slice (some ⟨b, 0, none⟩) ps.length ps.length) ps :=
  ⟨b, [], T, by simp, by simp [upd]⟩

theorem hset_cells' {b : Nat} {c : Array Value} {T : TypeId} (hb : h b = some (.cells c T)) (i : Nat) (v : Value) : hset h ⟨b, i, none⟩ v = upd h b (.cells (c.setIfInBounds i v) T) := by
  funext x; unfold hset upd; by_cases hx : x = b <;> simp [hx, hb]

theorem oneCell_i {k : IntKind} {n : Int} : oneCell (.int k n) := ⟨rfl, by simp, by simp⟩

/-- APPEND one pair to a slice of one's own. -/
theorem appW_ownP {S : Shared} {ty : TypeId} {byt : Nat} {a : Option Addr} {c : Nat} {p : Int × Int} {K : Value → Heap → Prop} (hi : Inv S h0) (hsub : Sub h0 h) (hs : OwnP h v ps) (hn : New h0 v) (hx : HPairs h a [p])
    (hl : (ps.length + 1) * byt ≤ 140737488355328)
    (hK : ∀ v' h', OwnP h' v' (ps ++ [p]) → New h0 v' → Sub h0 h' → (∀ b, h b ≠ none → blkOf v ≠ some b → h' b = h b) → (blkOf v' = blkOf v ∨ New h v') → K v' h') :
    appW S ty 2 byt [.int .i64 0, .int .u64 0] v (.slice a 1 c) h K := by
  obtain ⟨b, sp, T, rfl, hb⟩ := hs
  have hb0 : h0 b = none := hn b rfl
  have hsb : ¬ S b := fun hs => hi b hs hb0
  obtain ⟨ad, rfl, g1, g2⟩ := hx 0 p rfl
  refine ⟨pv p, rfl, ⟨by simpa using g1, by simpa using g2, trivial⟩, fun v hv => ?_, fun hroom => ?_, fun hgrow => ?_⟩
  · simp only [pv, List.mem_cons, List.not_mem_nil, or_false] at hv
    rcases hv with rfl | rfl <;> exact oneCell_i
  · simp only [slA, slL, slC] at hroom ⊢
    obtain ⟨q, sp, rfl⟩ : ∃ q r, sp = q :: r := by
      cases sp with
      | nil => exfalso; simp only [List.length_nil] at hroom; omega
      | cons q r => exact ⟨q, r, rfl⟩
    have hsz : (Eng.pairs (ps ++ q :: sp)).size = (ps.length + (sp.length + 1)) * 2 := by rw [pairs_size]; simp
    have hlt : ps.length < (ps ++ q :: sp).length := by simp
    have e0 : ((⟨b, 0, none⟩ : Addr).add (ps.length * 2)) = ⟨b, ps.length * 2, none⟩ := addr0_add _
    rw [e0]
    have ok : ∀ {c : Array Value} {h1 : Heap} {i : Nat}, h1 b = some (.cells c T) → i < c.size → okCell S h1 ⟨b, i, none⟩ := fun {c h1 i} hc hi2 =>
      ⟨⟨c[i], by simp [hcell, hc, hi2]⟩, by simp [hfrozen, hc], hsb⟩
    refine ⟨by rw [addr_add]; exact ok hb (by rw [hsz]; omega), ?_⟩
    rw [addr_add, hset_cells' hb]
    refine ⟨by rw [addr_add]; exact ok upd_same (by rw [Array.size_setIfInBounds, hsz]; omega), ?_⟩
    rw [addr_add, hset_cells' upd_same, upd_upd]
    show K (.slice (some ⟨b, 0, none⟩) (ps.length + 1) (ps.length + (q :: sp).length)) (upd h b (.cells (((Eng.pairs (ps ++ q :: sp)).setIfInBounds (ps.length * 2) (.int .i64 p.1)).setIfInBounds (ps.length * 2 + 1) (.int .u64 p.2)) T))
    rw [pairs_set _ _ hlt]
    have e1 : (ps ++ q :: sp).set ps.length (p.1, p.2) = (ps ++ [p]) ++ sp := by
      rw [List.set_append_right _ _ (Nat.le_refl _), Nat.sub_self, List.set_cons_zero]; simp
    rw [e1]
    refine hK _ _ ⟨b, sp, T, ?_, upd_same⟩ (New.of hb0) ?_ (fun x hx hne => upd_ne fun e => hne (by rw [e]; rfl)) (.inl rfl)
    · simp; omega
    · intro x o hx
      rw [upd_ne (fun e => by rw [e, hb0] at hx; cases hx)]; exact hsub x o hx
  · simp only [slA, slL, slC] at hgrow ⊢
    refine ⟨growslice_fits (by omega) hl, ps.flatMap pv, by rw [pv_len], ?_, fun nc d hnc hd => ?_⟩
    · -- the old cells
      have key : ∀ (zs : List Value) (i : Nat), (∀ j x, zs[j]? = some x → hcell h (((⟨b, 0, none⟩ : Addr)).add (i + j)) = some x) → cellsAre h (⟨b, 0, none⟩ : Addr) i zs := by
        intro zs
        induction zs with
        | nil => intros; trivial
        | cons z r ih =>
          intro i hz
          refine ⟨by simpa using hz 0 z rfl, ih (i + 1) fun j x hx => ?_⟩
          have := hz (j + 1) x (by simpa using hx)
          rwa [show i + (j + 1) = i + 1 + j by omega] at this
      refine key _ 0 fun j x hx => ?_
      rw [addr0_add, Nat.zero_add]
      simp only [hcell, hb, Eng.pairs, List.getElem?_toArray, List.flatMap_append]
      rw [List.getElem?_append_left (List.getElem?_eq_some_iff.1 hx).1]; exact hx
    · have hd0 : h0 d = none := by
        cases hh : h0 d with
        | none => rfl
        | some o => rw [hsub d o hh] at hd; cases hd
      have e1 : ((ps.flatMap pv).toArray ++ (pv p).toArray ++ Builtin.zeroCells ([.int .i64 0, .int .u64 0] : List Value).toArray (nc - (ps.length + 1))) = Eng.pairs ((ps ++ [p]) ++ List.replicate (nc - (ps.length + 1)) (0, 0)) := by
        rw [zeroCells_pairs]; simp [Eng.pairs]
      rw [e1]
      refine hK _ _ ⟨d, List.replicate (nc - (ps.length + 1)) (0, 0), ty, ?_, by simp [upd]⟩ (New.of hd0) ?_ (fun x hx hne => ?_) (.inr (New.of hd))
      · simp; omega
      · intro x o hx
        have : x ≠ d := fun e => by rw [e, hd0] at hx; cases hx
        rw [upd_ne this]; exact hsub x o hx
      · have : x ≠ d := fun e => hx (e ▸ hd)
        exact upd_ne this
end

def tySlP : Ty Value (List (Int × Int)) where
  R h v ps := ∃ a c, v = .slice a ps.length c ∧ HPairs h a ps
  B v b := blkOf v = some b
  O h v ps := OwnP h v ps
  Rsub := by rintro h h' v ps ⟨a, c, e, H⟩ hs; exact ⟨a, c, e, H.sub hs⟩
  OR H := by obtain ⟨a, c, e, _, hx⟩ := H.pairs; exact ⟨a, c, e, hx⟩
  Okeep H hk := H.keep hk
  Oheld H hb := H.held _ hb
end Go.Eng
