import Derived.Test.YtmnialmphlbmaaaEng6
set_option linter.unusedVariables false
set_option linter.unusedSimpArgs false
/- Slices of pairs of int64s, two cells each. -/
namespace Go.Eng
open Go

def pw (p : Int × Int) : List Value := [.int .i64 p.1, .int .i64 p.2]
def cellw (ps : List (Int × Int)) : Array Value := (ps.flatMap pw).toArray

theorem pw_len (ps : List (Int × Int)) : (ps.flatMap pw).length = ps.length * 2 := by
  induction ps with
  | nil => rfl
  | cons p r ih => simp only [List.flatMap_cons, List.length_append, ih, pw, List.length_cons, List.length_nil]; omega
theorem cellw_size (ps : List (Int × Int)) : (cellw ps).size = ps.length * 2 := by simp only [cellw, List.size_toArray]; exact pw_len ps

theorem pw_get : ∀ {ps : List (Int × Int)} {i : Nat} {p : Int × Int}, ps[i]? = some p → (ps.flatMap pw)[i * 2]? = some (.int .i64 p.1) ∧ (ps.flatMap pw)[i * 2 + 1]? = some (.int .i64 p.2)
  | [], i, p, h => by simp at h
  | q :: r, 0, p, h => by
    simp only [List.getElem?_cons_zero, Option.some.injEq] at h
    subst h
    exact ⟨rfl, rfl⟩
  | q :: r, i + 1, p, h => by
    rw [List.getElem?_cons_succ] at h
    have := pw_get h
    rw [List.flatMap_cons]
    have e : pw q = [.int .i64 q.1, .int .i64 q.2] := rfl
    rw [e, show (i + 1) * 2 = i * 2 + 2 by omega]
    exact this

theorem pw_set1 : ∀ {ps : List (Int × Int)} {i : Nat} (x y : Int), ps[i]? = some (x, y) → ∀ z, (ps.flatMap pw).set (i * 2) (.int .i64 z) = (ps.set i (z, y)).flatMap pw
  | [], i, x, y, h, z => by simp at h
  | q :: r, 0, x, y, h, z => by
    simp only [List.getElem?_cons_zero, Option.some.injEq] at h
    subst h
    rfl
  | q :: r, i + 1, x, y, h, z => by
    have := pw_set1 (ps := r) (i := i) x y (by simpa using h) z
    rw [List.set_cons_succ, List.flatMap_cons, List.flatMap_cons, ← this]
    have e : pw q = [.int .i64 q.1, .int .i64 q.2] := rfl
    rw [e, show (i + 1) * 2 = i * 2 + 2 by omega]
    rfl

theorem pw_set2 : ∀ {ps : List (Int × Int)} {i : Nat} (x y : Int), ps[i]? = some (x, y) → ∀ z, (ps.flatMap pw).set (i * 2 + 1) (.int .i64 z) = (ps.set i (x, z)).flatMap pw
  | [], i, x, y, h, z => by simp at h
  | q :: r, 0, x, y, h, z => by
    simp only [List.getElem?_cons_zero, Option.some.injEq] at h
    subst h
    rfl
  | q :: r, i + 1, x, y, h, z => by
    have := pw_set2 (ps := r) (i := i) x y (by simpa using h) z
    rw [List.set_cons_succ, List.flatMap_cons, List.flatMap_cons, ← this]
    have e : pw q = [.int .i64 q.1, .int .i64 q.2] := rfl
    rw [e, show (i + 1) * 2 + 1 = i * 2 + 1 + 2 by omega]
    rfl

theorem mkCells_w (n : Nat) : mkCells (n * 2) (([.int .i64 0, .int .i64 0] : List Value).toArray) = cellw (List.replicate n (0, 0)) := by
  apply Array.ext_getElem?
  intro i
  simp only [mkCells, cellw, Array.getElem?_map, List.getElem?_toArray]
  by_cases hi : i < n * 2
  · have e1 : (Array.range (n * 2))[i]? = some i := by simp [hi]
    rw [e1]
    have hr : (List.replicate n ((0 : Int), (0 : Int)))[i / 2]? = some (0, 0) := by rw [List.getElem?_replicate, if_pos (by omega)]
    have := pw_get hr
    rcases Nat.mod_two_eq_zero_or_one i with h2 | h2
    · have e2 : i = i / 2 * 2 := by omega
      rw [e2, this.1]
      simp [show i / 2 * 2 % 2 = 0 by omega]
    · have e2 : i = i / 2 * 2 + 1 := by omega
      rw [e2, this.2]
      simp [show (i / 2 * 2 + 1) % 2 = 1 by omega]
  · have e1 : (Array.range (n * 2))[i]? = none := by simp; omega
    rw [e1]
    symm
    rw [Option.map_none, List.getElem?_eq_none]
    rw [pw_len, List.length_replicate]; omega

theorem zeroCells_w (n : Nat) : Builtin.zeroCells ([.int .i64 0, .int .i64 0] : List Value).toArray n = cellw (List.replicate n (0, 0)) := by
  have := mkCells_w n
  unfold mkCells at this
  unfold Builtin.zeroCells
  simpa using this

def HPairw (h : Heap) (a : Option Addr) (ps : List (Int × Int)) : Prop := ∀ (i : Nat) p, ps[i]? = some p → ∃ ad, a = some ad ∧ hcell h (ad.add (i * 2)) = some (.int .i64 p.1) ∧ hcell h (ad.add (i * 2 + 1)) = some (.int .i64 p.2)

def OwnW (h : Heap) (v : Value) (ps : List (Int × Int)) : Prop :=
  ∃ b sp T, v = .slice (some ⟨b, 0, none⟩) ps.length (ps.length + sp.length) ∧ h b = some (.cells (cellw (ps ++ sp)) T)

def spliceV (zs : List Value) (n : Nat) (ys : List Value) : List Value := zs.take n ++ ys ++ zs.drop (n + ys.length)

theorem storeW_vals {S : Shared} {b off : Nat} {T : TypeId} {K : Heap → Prop} (hs : ¬ S b) : ∀ (ys : List Value) (i : Nat) (h : Heap) (zs : List Value), h b = some (.cells zs.toArray T) → off + i + ys.length ≤ zs.length →
    K (upd h b (.cells (spliceV zs (off + i) ys).toArray T)) → storeW S ⟨b, off, none⟩ i ys h K := by
  intro ys
  induction ys with
  | nil =>
    intro i h zs hb _ hK
    have e : spliceV zs (off + i) [] = zs := by simp [spliceV]
    rw [e, upd_self hb] at hK
    exact hK
  | cons y r ih =>
    intro i h zs hb hl hK
    simp only [List.length_cons] at hl
    refine ⟨⟨⟨zs[off + i]'(by omega), ?_⟩, ?_, ?_⟩, ?_⟩
    · rw [addr_add]; simp [hcell, hb]
    · rw [addr_add]; simp [hfrozen, hb]
    · rw [addr_add]; exact hs
    · have e1 : hset h ((⟨b, off, none⟩ : Addr).add i) y = upd h b (.cells (zs.set (off + i) y).toArray T) := by
        rw [addr_add]; funext x; unfold hset upd
        by_cases hx : x = b
        · subst hx; simp [hb]
        · simp [hx]
      rw [e1]
      refine ih (i + 1) _ (zs.set (off + i) y) (by simp [upd]) (by simp; omega) ?_
      rw [upd_upd]
      have e2 : spliceV (zs.set (off + i) y) (off + (i + 1)) r = spliceV zs (off + i) (y :: r) := by
        unfold spliceV
        rw [show off + (i + 1) = off + i + 1 by omega, List.take_add_one, List.take_set_of_le (by omega), List.drop_set_of_lt (by omega)]
        simp only [List.length_cons]
        rw [List.getElem?_set_self (by omega)]
        simp [show off + i + 1 + r.length = off + i + (r.length + 1) by omega]
      rw [e2]; exact hK

section
variable {h h0 h' : Heap} {v : Value} {ps qs : List (Int × Int)} {a : Option Addr}

theorem HPairw.sub (H : HPairw h a ps) (hs : Sub h h') : HPairw h' a ps := fun i p hp => by
  obtain ⟨ad, e, h1, h2⟩ := H i p hp
  exact ⟨ad, e, hcell_sub hs h1, hcell_sub hs h2⟩

theorem HPairw.cell (H : HPairw h a ps) {i : Nat} {p : Int × Int} (hp : ps[i]? = some p) : hcell h ((a.getD default).add (i * 2)) = some (.int .i64 p.1) ∧ hcell h ((a.getD default).add (i * 2 + 1)) = some (.int .i64 p.2) ∧ a.isSome = true := by
  obtain ⟨ad, rfl, h1, h2⟩ := H i p hp; exact ⟨h1, h2, rfl⟩

theorem HPairw.of {b : Nat} {T : TypeId} {sp : List (Int × Int)} (hb : h b = some (.cells (cellw (ps ++ sp)) T)) : HPairw h (some ⟨b, 0, none⟩) ps := fun i p hp => by
  have hp2 : (ps ++ sp)[i]? = some p := by rw [List.getElem?_append_left (List.getElem?_eq_some_iff.1 hp).1]; exact hp
  have := pw_get hp2
  refine ⟨_, rfl, ?_, ?_⟩ <;> rw [addr0_add] <;> simp only [hcell, hb, cellw, List.getElem?_toArray]
  · exact this.1
  · exact this.2

theorem OwnW.pairs (H : OwnW h v ps) : ∃ a c, v = .slice a ps.length c ∧ ps.length ≤ c ∧ HPairw h a ps := by
  obtain ⟨b, sp, T, rfl, hb⟩ := H
  exact ⟨_, _, rfl, by omega, HPairw.of hb⟩

theorem OwnW.keep (H : OwnW h v ps) (hk : ∀ b, blkOf v = some b → h' b = h b) : OwnW h' v ps := by
  obtain ⟨b, sp, T, rfl, hb⟩ := H
  exact ⟨b, sp, T, rfl, by rw [hk b rfl]; exact hb⟩

theorem OwnW.held (H : OwnW h v ps) : ∀ b, blkOf v = some b → h b ≠ none := by
  obtain ⟨b, sp, T, rfl, hb⟩ := H
  intro b' hb'; cases hb'; rw [hb]; simp

theorem OwnW.made {b : Nat} {T : TypeId} (ps : List (Int × Int)) : OwnW (upd h b (.cells (cellw ps) T)) (.slice (some ⟨b, 0, none⟩) ps.length ps.length) ps :=
  ⟨b, [], T, by simp, by simp [upd]⟩

/-- One field of one entry stored. -/
theorem OwnW.set1 {S : Shared} {l c : Nat} (H : OwnW h (.slice a l c) ps) (hs : ∀ b, blkOf (.slice a l c) = some b → ¬ S b) {i : Nat} {x y : Int} (hi : ps[i]? = some (x, y)) (z : Int) :
    okCell S h ((((a.getD default).add (i * 2)).add 0).add 0) ∧ OwnW (hset h ((((a.getD default).add (i * 2)).add 0).add 0) (.int .i64 z)) (.slice a l c) (ps.set i (z, y)) ∧
    ∀ w, blkOf (.slice a l c) ≠ some w → hset h ((((a.getD default).add (i * 2)).add 0).add 0) (.int .i64 z) w = h w := by
  obtain ⟨b, sp, T, e, hb⟩ := H
  cases e
  have hsb := hs b rfl
  have hlt := (List.getElem?_eq_some_iff.1 hi).1
  have e1 : ((((some (⟨b, 0, none⟩ : Addr)).getD default).add (i * 2)).add 0).add 0 = (⟨b, i * 2, none⟩ : Addr) := by
    rw [add_add, add_add, Option.getD_some, addr_add]; simp
  have hi2 : (ps ++ sp)[i]? = some (x, y) := by rw [List.getElem?_append_left hlt]; exact hi
  have hsz : (cellw (ps ++ sp)).size = (ps ++ sp).length * 2 := cellw_size _
  rw [e1, hset_cells' hb]
  have e2 : (cellw (ps ++ sp)).setIfInBounds (i * 2) (.int .i64 z) = cellw (ps.set i (z, y) ++ sp) := by
    unfold cellw
    rw [List.setIfInBounds_toArray, pw_set1 x y hi2, List.set_append_left _ _ hlt]
  refine ⟨⟨⟨(cellw (ps ++ sp))[i * 2]'(by rw [hsz]; simp; omega), by simp [hcell, hb]⟩, by simp [hfrozen, hb], hsb⟩, ⟨b, sp, T, by simp, by rw [upd_same, e2]⟩, fun w hw => upd_ne fun e => hw (by rw [e]; rfl)⟩

theorem OwnW.set2 {S : Shared} {l c : Nat} (H : OwnW h (.slice a l c) ps) (hs : ∀ b, blkOf (.slice a l c) = some b → ¬ S b) {i : Nat} {x y : Int} (hi : ps[i]? = some (x, y)) (z : Int) :
    okCell S h ((((a.getD default).add (i * 2)).add 1).add 0) ∧ OwnW (hset h ((((a.getD default).add (i * 2)).add 1).add 0) (.int .i64 z)) (.slice a l c) (ps.set i (x, z)) ∧
    ∀ w, blkOf (.slice a l c) ≠ some w → hset h ((((a.getD default).add (i * 2)).add 1).add 0) (.int .i64 z) w = h w := by
  obtain ⟨b, sp, T, e, hb⟩ := H
  cases e
  have hsb := hs b rfl
  have hlt := (List.getElem?_eq_some_iff.1 hi).1
  have e1 : ((((some (⟨b, 0, none⟩ : Addr)).getD default).add (i * 2)).add 1).add 0 = (⟨b, i * 2 + 1, none⟩ : Addr) := by
    rw [add_add, add_add, Option.getD_some, addr_add]; simp
  have hi2 : (ps ++ sp)[i]? = some (x, y) := by rw [List.getElem?_append_left hlt]; exact hi
  have hsz : (cellw (ps ++ sp)).size = (ps ++ sp).length * 2 := cellw_size _
  rw [e1, hset_cells' hb]
  have e2 : (cellw (ps ++ sp)).setIfInBounds (i * 2 + 1) (.int .i64 z) = cellw (ps.set i (x, z) ++ sp) := by
    unfold cellw
    rw [List.setIfInBounds_toArray, pw_set2 x y hi2, List.set_append_left _ _ hlt]
  refine ⟨⟨⟨(cellw (ps ++ sp))[i * 2 + 1]'(by rw [hsz]; simp; omega), by simp [hcell, hb]⟩, by simp [hfrozen, hb], hsb⟩, ⟨b, sp, T, by simp, by rw [upd_same, e2]⟩, fun w hw => upd_ne fun e => hw (by rw [e]; rfl)⟩

theorem cellsAre_of {ad : Addr} : ∀ (zs : List Value) (i : Nat), (∀ j x, zs[j]? = some x → hcell h (ad.add (i + j)) = some x) → cellsAre h ad i zs
  | [], _, _ => trivial
  | z :: r, i, hz => ⟨by simpa using hz 0 z rfl, cellsAre_of r (i + 1) fun j x hx => by
      have := hz (j + 1) x (by simpa using hx)
      rwa [show i + (j + 1) = i + 1 + j by omega] at this⟩

theorem HPairw.cells (H : HPairw h a qs) : srcCells h a (qs.flatMap pw) := by
  unfold srcCells
  cases a with
  | none =>
    cases qs with
    | nil => rfl
    | cons y r => obtain ⟨ad, h1, _⟩ := H 0 y rfl; cases h1
  | some ad =>
    refine cellsAre_of _ 0 fun j x hx => ?_
    have hj : j < qs.length * 2 := by rw [← pw_len]; exact (List.getElem?_eq_some_iff.1 hx).1
    have hq : qs[j / 2]? = some (qs[j / 2]'(by omega)) := List.getElem?_eq_getElem (by omega)
    obtain ⟨ad', e, h1, h2⟩ := H _ _ hq
    cases e
    have hg := pw_get hq
    rw [Nat.zero_add]
    rcases Nat.mod_two_eq_zero_or_one j with h | h
    · have e2 : j = j / 2 * 2 := by omega
      rw [e2, hg.1] at hx
      rw [e2, ← hx]; exact h1
    · have e2 : j = j / 2 * 2 + 1 := by omega
      rw [e2, hg.2] at hx
      rw [e2, ← hx]; exact h2

theorem appW_ownW {S : Shared} {ty : TypeId} {byt : Nat} {a : Option Addr} {c : Nat} {K : Value → Heap → Prop} (hi : Inv S h0) (hsub : Sub h0 h) (hs : OwnW h v ps) (hn : New h0 v) (hx : HPairw h a qs)
    (hl : (ps.length + qs.length) * byt ≤ 140737488355328)
    (hK : ∀ v' h', OwnW h' v' (ps ++ qs) → New h0 v' → Sub h0 h' → (∀ b, h b ≠ none → blkOf v ≠ some b → h' b = h b) → (blkOf v' = blkOf v ∨ New h v') → K v' h') :
    appW S ty 2 byt [.int .i64 0, .int .i64 0] v (.slice a qs.length c) h K := by
  obtain ⟨b, sp, T, rfl, hb⟩ := hs
  have hb0 : h0 b = none := hn b rfl
  have hsb : ¬ S b := fun hs => hi b hs hb0
  refine ⟨qs.flatMap pw, by rw [pw_len]; rfl, hx.cells, fun v hv => ?_, fun hroom => ?_, fun hgrow => ?_⟩
  · obtain ⟨q, _, hv⟩ := List.mem_flatMap.1 hv
    simp only [pw, List.mem_cons, List.not_mem_nil, or_false] at hv
    rcases hv with rfl | rfl <;> exact oneCell_i
  · simp only [slA, slL, slC] at hroom ⊢
    have e0 : (⟨b, 0, none⟩ : Addr).add (ps.length * 2) = ⟨b, ps.length * 2, none⟩ := addr0_add _
    rw [e0]
    refine storeW_vals hsb (qs.flatMap pw) 0 h ((ps ++ sp).flatMap pw) hb (by rw [pw_len, pw_len]; simp; omega) ?_
    have e1 : spliceV ((ps ++ sp).flatMap pw) (ps.length * 2 + 0) (qs.flatMap pw) = ((ps ++ qs) ++ sp.drop qs.length).flatMap pw := by
      unfold spliceV
      have t1 : ((ps ++ sp).flatMap pw).take (ps.length * 2) = ps.flatMap pw := by rw [List.flatMap_append, List.take_left' (pw_len _)]
      have t2 : ∀ (zs : List (Int × Int)) n, (zs.flatMap pw).drop (n * 2) = (zs.drop n).flatMap pw := by
        intro zs
        induction zs with
        | nil => intro n; simp
        | cons z r ih =>
          intro n
          cases n with
          | zero => simp
          | succ n =>
            rw [List.drop_succ_cons, ← ih n, List.flatMap_cons, show (n + 1) * 2 = n * 2 + 2 by omega]
            rfl
      rw [Nat.add_zero, t1, pw_len, show ps.length * 2 + qs.length * 2 = (ps.length + qs.length) * 2 by omega, t2, List.drop_length_add_append]
      simp [List.flatMap_append]
    rw [e1]
    refine hK _ _ ⟨b, sp.drop qs.length, T, ?_, upd_same⟩ (New.of hb0) ?_ (fun x hx hne => upd_ne fun e => hne (by rw [e]; rfl)) (.inl rfl)
    · simp; omega
    · intro x o hx
      rw [upd_ne (fun e => by rw [e, hb0] at hx; cases hx)]; exact hsub x o hx
  · simp only [slA, slL, slC] at hgrow ⊢
    refine ⟨growslice_fits (by omega) hl, ps.flatMap pw, by rw [pw_len], (HPairw.of hb).cells, fun nc d hnc hd => ?_⟩
    have hd0 : h0 d = none := by
      cases hh : h0 d with
      | none => rfl
      | some o => rw [hsub d o hh] at hd; cases hd
    have e1 : ((ps.flatMap pw).toArray ++ (qs.flatMap pw).toArray ++ Builtin.zeroCells ([.int .i64 0, .int .i64 0] : List Value).toArray (nc - (ps.length + qs.length))) = cellw ((ps ++ qs) ++ List.replicate (nc - (ps.length + qs.length)) (0, 0)) := by
      rw [zeroCells_w]; simp [cellw]
    rw [e1]
    refine hK _ _ ⟨d, List.replicate (nc - (ps.length + qs.length)) (0, 0), ty, ?_, by simp [upd]⟩ (New.of hd0) ?_ (fun x hx hne => ?_) (.inr (New.of hd))
    · simp; omega
    · intro x o hx
      have : x ≠ d := fun e => by rw [e, hd0] at hx; cases hx
      rw [upd_ne this]; exact hsub x o hx
    · have : x ≠ d := fun e => hx (e ▸ hd)
      exact upd_ne this
end
end Go.Eng
/- A table of entries that stands for a set of codes: plain. -/
namespace Go.Eng

/-- The entries T (a symbol, the first of two children or 0) stand at the paths P (length, bits): E says which paths codes go on from, Y which symbol ends at a path. -/
structure TI (E : Nat → Nat → Prop) (Y : Nat → Nat → Nat) (T P : List (Nat × Nat)) : Prop where
  len : P.length = T.length
  root : P[0]? = some (0, 0)
  inj : ∀ {j k : Nat} {p : Nat × Nat}, P[j]? = some p → P[k]? = some p → j = k
  kid : ∀ {k s q l v : Nat}, T[k]? = some (s, q) → P[k]? = some (l, v) → q ≠ 0 → P[q]? = some (l + 1, v) ∧ P[q + 1]? = some (l + 1, v + 2 ^ l)
  par : ∀ {j l v : Nat}, P[j]? = some (l + 1, v) → ∃ k s q : Nat, P[k]? = some (l, v % 2 ^ l) ∧ T[k]? = some (s, q) ∧ q ≠ 0
  ext : ∀ {k s q l v : Nat}, T[k]? = some (s, q) → P[k]? = some (l, v) → (q ≠ 0 ↔ E l v)
  sym : ∀ {k s q l v : Nat}, T[k]? = some (s, q) → P[k]? = some (l, v) → s = Y l v
  lt : ∀ {k l v : Nat}, P[k]? = some (l, v) → v < 2 ^ l

theorem TI.start : TI (fun _ _ => False) (fun _ _ => 0) [(0, 0)] [(0, 0)] := by
  refine ⟨rfl, rfl, ?_, ?_, ?_, ?_, ?_, ?_⟩
  · intro j k p h1 h2
    have h1 := (List.getElem?_eq_some_iff.1 h1).1
    have h2 := (List.getElem?_eq_some_iff.1 h2).1
    simp at h1 h2; omega
  · intro k s q l v h1 _ hq
    have hk := (List.getElem?_eq_some_iff.1 h1).1
    obtain rfl : k = 0 := by simpa using hk
    simp at h1; omega
  · intro j l v h
    have hk := (List.getElem?_eq_some_iff.1 h).1
    obtain rfl : j = 0 := by simpa using hk
    simp at h
  · intro k s q l v h1 _
    have hk := (List.getElem?_eq_some_iff.1 h1).1
    obtain rfl : k = 0 := by simpa using hk
    simp at h1; simp [← h1.2]
  · intro k s q l v h1 _
    have hk := (List.getElem?_eq_some_iff.1 h1).1
    obtain rfl : k = 0 := by simpa using hk
    simp at h1; omega
  · intro k l v h
    have hk := (List.getElem?_eq_some_iff.1 h).1
    obtain rfl : k = 0 := by simpa using hk
    simp at h
    obtain ⟨rfl, rfl⟩ := h
    decide

theorem low_lt {v l : Nat} (h : v < 2 ^ l) : v % 2 ^ l = v := Nat.mod_eq_of_lt h
theorem high_low {v l : Nat} (h : v < 2 ^ l) : (v + 2 ^ l) % 2 ^ l = v := by rw [Nat.add_mod_right]; exact Nat.mod_eq_of_lt h

theorem TI.congr {E E' : Nat → Nat → Prop} {Y Y' : Nat → Nat → Nat} {T P : List (Nat × Nat)} (H : TI E Y T P) (hE : ∀ l v, v < 2 ^ l → (E l v ↔ E' l v)) (hY : ∀ l v, v < 2 ^ l → Y l v = Y' l v) : TI E' Y' T P where
  len := H.len
  root := H.root
  inj := H.inj
  kid := H.kid
  par := H.par
  ext h1 h2 := (H.ext h1 h2).trans (hE _ _ (H.lt h2))
  sym h1 h2 := (H.sym h1 h2).trans (hY _ _ (H.lt h2))
  lt := H.lt

theorem TI.get {E : Nat → Nat → Prop} {Y : Nat → Nat → Nat} {T P : List (Nat × Nat)} (H : TI E Y T P) {k : Nat} {p : Nat × Nat} (h : P[k]? = some p) : ∃ s q, T[k]? = some (s, q) := by
  have hk := (List.getElem?_eq_some_iff.1 h).1
  rw [H.len] at hk
  exact ⟨T[k].1, T[k].2, List.getElem?_eq_getElem hk⟩

/-- Two children for an entry that has none. -/
theorem TI.grow {E : Nat → Nat → Prop} {Y : Nat → Nat → Nat} {T P : List (Nat × Nat)} (H : TI E Y T P) {k s l v : Nat} (hT : T[k]? = some (s, 0)) (hP : P[k]? = some (l, v))
    (hE : ∀ l v, v < 2 ^ (l + 1) → E (l + 1) v → E l (v % 2 ^ l)) (hY : ∀ l v, v < 2 ^ (l + 1) → Y (l + 1) v ≠ 0 → E l (v % 2 ^ l)) :
    TI (fun l' v' => E l' v' ∨ (l' = l ∧ v' = v)) Y (T.set k (s, T.length) ++ [(0, 0), (0, 0)]) (P ++ [(l + 1, v), (l + 1, v + 2 ^ l)]) := by
  have hk := (List.getElem?_eq_some_iff.1 hT).1
  have hv := H.lt hP
  have hnE : ¬ E l v := fun h => (H.ext hT hP).2 h rfl
  have hTl : T.length ≠ 0 := by omega
  have hpow : 2 ^ (l + 1) = 2 * 2 ^ l := by rw [Nat.pow_succ]; omega
  -- no path of P hangs below the entry
  have hno : ∀ {j v'}, P[j]? = some (l + 1, v') → v' % 2 ^ l = v → False := fun {j v'} hj e => by
    obtain ⟨k', s', q', h1, h2, h3⟩ := H.par hj
    rw [e] at h1
    have := H.inj h1 hP
    subst this
    rw [hT] at h2
    simp at h2
    exact h3 h2.2.symm
  have oldP : ∀ {j p}, P[j]? = some p → (P ++ [(l + 1, v), (l + 1, v + 2 ^ l)])[j]? = some p := fun {j p} h => by
    rw [List.getElem?_append_left (List.getElem?_eq_some_iff.1 h).1]; exact h
  have new0 : (P ++ [(l + 1, v), (l + 1, v + 2 ^ l)])[T.length]? = some (l + 1, v) := by rw [List.getElem?_append_right (by rw [H.len]; omega), H.len, Nat.sub_self]; rfl
  have new1 : (P ++ [(l + 1, v), (l + 1, v + 2 ^ l)])[T.length + 1]? = some (l + 1, v + 2 ^ l) := by rw [List.getElem?_append_right (by rw [H.len]; omega), H.len, Nat.add_sub_cancel_left]; rfl
  have casesP : ∀ {j p}, (P ++ [(l + 1, v), (l + 1, v + 2 ^ l)])[j]? = some p → (P[j]? = some p ∧ j < T.length) ∨ (j = T.length ∧ p = (l + 1, v)) ∨ (j = T.length + 1 ∧ p = (l + 1, v + 2 ^ l)) := fun {j p} h => by
    have hj := (List.getElem?_eq_some_iff.1 h).1
    simp only [List.length_append, List.length_cons, List.length_nil, H.len] at hj
    rcases Nat.lt_or_ge j T.length with h1 | h1
    · rw [List.getElem?_append_left (by rw [H.len]; omega)] at h; exact .inl ⟨h, h1⟩
    · rcases (show j = T.length ∨ j = T.length + 1 by omega) with rfl | rfl
      · rw [new0] at h; exact .inr (.inl ⟨rfl, (Option.some.inj h).symm⟩)
      · rw [new1] at h; exact .inr (.inr ⟨rfl, (Option.some.inj h).symm⟩)
  have casesT : ∀ {j e}, (T.set k (s, T.length) ++ [(0, 0), (0, 0)])[j]? = some e → (j = k ∧ e = (s, T.length)) ∨ (j ≠ k ∧ j < T.length ∧ T[j]? = some e) ∨ ((j = T.length ∨ j = T.length + 1) ∧ e = (0, 0)) := fun {j e} h => by
    have hj := (List.getElem?_eq_some_iff.1 h).1
    simp only [List.length_append, List.length_cons, List.length_nil, List.length_set] at hj
    rcases Nat.lt_or_ge j T.length with h1 | h1
    · rw [List.getElem?_append_left (by rw [List.length_set]; exact h1), List.getElem?_set] at h
      by_cases he : k = j
      · subst he; rw [if_pos rfl, if_pos h1] at h; exact .inl ⟨rfl, (Option.some.inj h).symm⟩
      · rw [if_neg he] at h; exact .inr (.inl ⟨fun e => he e.symm, h1, h⟩)
    · rw [List.getElem?_append_right (by rw [List.length_set]; exact h1), List.length_set] at h
      rcases (show j = T.length ∨ j = T.length + 1 by omega) with rfl | rfl
      · rw [Nat.sub_self] at h; exact .inr (.inr ⟨.inl rfl, (Option.some.inj h).symm⟩)
      · rw [Nat.add_sub_cancel_left] at h; exact .inr (.inr ⟨.inr rfl, (Option.some.inj h).symm⟩)
  refine ⟨by simp [H.len], oldP H.root, ?_, ?_, ?_, ?_, ?_, ?_⟩
  · intro j j' p h1 h2
    rcases casesP h1 with ⟨a1, a2⟩ | ⟨rfl, rfl⟩ | ⟨rfl, rfl⟩ <;> rcases casesP h2 with ⟨b1, b2⟩ | ⟨rfl, e⟩ | ⟨rfl, e⟩
    · exact H.inj a1 b1
    · subst e; exact (hno a1 (low_lt hv)).elim
    · subst e; exact (hno a1 (high_low hv)).elim
    · exact (hno b1 (low_lt hv)).elim
    · rfl
    · simp at e
    · exact (hno b1 (high_low hv)).elim
    · simp at e
    · rfl
  · intro j s' q l' v' h1 h2 hq
    rcases casesT h1 with ⟨rfl, e⟩ | ⟨hne, hlt, h1⟩ | ⟨hj, e⟩
    · simp only [Prod.mk.injEq] at e
      obtain ⟨rfl, rfl⟩ := e
      have := oldP hP
      rw [h2] at this
      simp only [Option.some.injEq, Prod.mk.injEq] at this
      obtain ⟨rfl, rfl⟩ := this
      exact ⟨new0, new1⟩
    · rcases casesP h2 with ⟨a1, a2⟩ | ⟨rfl, _⟩ | ⟨rfl, _⟩
      · have := H.kid h1 a1 hq
        exact ⟨oldP this.1, oldP this.2⟩
      · omega
      · omega
    · simp only [Prod.mk.injEq] at e; exact absurd e.2 hq
  · intro j l' v' h
    rcases casesP h with ⟨a1, a2⟩ | ⟨rfl, e⟩ | ⟨rfl, e⟩
    · obtain ⟨k', s', q', b1, b2, b3⟩ := H.par a1
      refine ⟨k', ?_⟩
      by_cases he : k' = k
      · subst he
        exact ⟨s, T.length, oldP b1, by rw [List.getElem?_append_left (by rw [List.length_set]; exact hk), List.getElem?_set_self hk], hTl⟩
      · have hk' := (List.getElem?_eq_some_iff.1 b2).1
        exact ⟨s', q', oldP b1, by rw [List.getElem?_append_left (by rw [List.length_set]; exact hk'), List.getElem?_set_ne (fun e => he e.symm)]; exact b2, b3⟩
    · simp only [Prod.mk.injEq, Nat.add_right_cancel_iff] at e
      obtain ⟨rfl, rfl⟩ := e
      exact ⟨k, s, T.length, by rw [low_lt hv]; exact oldP hP, by rw [List.getElem?_append_left (by rw [List.length_set]; exact hk), List.getElem?_set_self hk], hTl⟩
    · simp only [Prod.mk.injEq, Nat.add_right_cancel_iff] at e
      obtain ⟨rfl, rfl⟩ := e
      exact ⟨k, s, T.length, by rw [high_low hv]; exact oldP hP, by rw [List.getElem?_append_left (by rw [List.length_set]; exact hk), List.getElem?_set_self hk], hTl⟩
  · intro j s' q l' v' h1 h2
    rcases casesT h1 with ⟨rfl, e⟩ | ⟨hne, hlt, h1⟩ | ⟨hj, e⟩
    · simp only [Prod.mk.injEq] at e
      obtain ⟨rfl, rfl⟩ := e
      have := oldP hP
      rw [h2] at this
      simp only [Option.some.injEq, Prod.mk.injEq] at this
      obtain ⟨rfl, rfl⟩ := this
      exact ⟨fun _ => .inr ⟨rfl, rfl⟩, fun _ => hTl⟩
    · rcases casesP h2 with ⟨a1, a2⟩ | ⟨rfl, _⟩ | ⟨rfl, _⟩
      · refine (H.ext h1 a1).trans ⟨.inl, fun h => h.elim id fun ⟨e1, e2⟩ => ?_⟩
        subst e1; subst e2
        exact (hne (H.inj a1 hP)).elim
      · omega
      · omega
    · simp only [Prod.mk.injEq] at e
      obtain ⟨rfl, rfl⟩ := e
      rcases casesP h2 with ⟨a1, a2⟩ | ⟨rfl, e⟩ | ⟨rfl, e⟩
      · omega
      · simp only [Prod.mk.injEq] at e
        obtain ⟨rfl, rfl⟩ := e
        refine ⟨fun h => (h rfl).elim, fun h => h.elim (fun h => ?_) (fun h => by omega)⟩
        have := hE l v' (by omega) h
        rw [low_lt hv] at this
        exact (hnE this).elim
      · simp only [Prod.mk.injEq] at e
        obtain ⟨rfl, rfl⟩ := e
        refine ⟨fun h => (h rfl).elim, fun h => h.elim (fun h => ?_) (fun h => by omega)⟩
        have := hE l _ (by omega) h
        rw [high_low hv] at this
        exact (hnE this).elim
  · intro j s' q l' v' h1 h2
    rcases casesT h1 with ⟨rfl, e⟩ | ⟨hne, hlt, h1⟩ | ⟨hj, e⟩
    · simp only [Prod.mk.injEq] at e
      obtain ⟨rfl, rfl⟩ := e
      have := oldP hP
      rw [h2] at this
      simp only [Option.some.injEq, Prod.mk.injEq] at this
      obtain ⟨rfl, rfl⟩ := this
      exact H.sym hT hP
    · rcases casesP h2 with ⟨a1, a2⟩ | ⟨rfl, _⟩ | ⟨rfl, _⟩
      · exact H.sym h1 a1
      · omega
      · omega
    · simp only [Prod.mk.injEq] at e
      obtain ⟨rfl, rfl⟩ := e
      rcases casesP h2 with ⟨a1, a2⟩ | ⟨rfl, e⟩ | ⟨rfl, e⟩
      · omega
      · simp only [Prod.mk.injEq] at e
        obtain ⟨rfl, rfl⟩ := e
        refine Classical.byContradiction fun h => ?_
        have := hY l v' (by omega) (fun e => h e.symm)
        rw [low_lt hv] at this
        exact hnE this
      · simp only [Prod.mk.injEq] at e
        obtain ⟨rfl, rfl⟩ := e
        refine Classical.byContradiction fun h => ?_
        have := hY l _ (by omega) (fun e => h e.symm)
        rw [high_low hv] at this
        exact hnE this
  · intro j l' v' h
    rcases casesP h with ⟨a1, a2⟩ | ⟨rfl, e⟩ | ⟨rfl, e⟩
    · exact H.lt a1
    · simp only [Prod.mk.injEq] at e; obtain ⟨rfl, rfl⟩ := e; omega
    · simp only [Prod.mk.injEq] at e; obtain ⟨rfl, rfl⟩ := e; omega

/-- A symbol for an entry. -/
theorem TI.put {E : Nat → Nat → Prop} {Y : Nat → Nat → Nat} {T P : List (Nat × Nat)} (H : TI E Y T P) {k s q l v : Nat} (hT : T[k]? = some (s, q)) (hP : P[k]? = some (l, v)) (y : Nat) :
    TI E (fun l' v' => if l' = l ∧ v' = v then y else Y l' v') (T.set k (y, q)) P := by
  have hk := (List.getElem?_eq_some_iff.1 hT).1
  have casesT : ∀ {j e}, (T.set k (y, q))[j]? = some e → (j = k ∧ e = (y, q)) ∨ (j ≠ k ∧ T[j]? = some e) := fun {j e} h => by
    rw [List.getElem?_set] at h
    by_cases he : k = j
    · subst he; rw [if_pos rfl, if_pos hk] at h; exact .inl ⟨rfl, (Option.some.inj h).symm⟩
    · rw [if_neg he] at h; exact .inr ⟨fun e => he e.symm, h⟩
  refine ⟨by rw [List.length_set]; exact H.len, H.root, H.inj, ?_, ?_, ?_, ?_, H.lt⟩
  · intro j s' q' l' v' h1 h2 hq
    rcases casesT h1 with ⟨rfl, e⟩ | ⟨_, h1⟩
    · simp only [Prod.mk.injEq] at e; obtain ⟨rfl, rfl⟩ := e; exact H.kid hT h2 hq
    · exact H.kid h1 h2 hq
  · intro j l' v' h
    obtain ⟨k', s', q', b1, b2, b3⟩ := H.par h
    by_cases he : k' = k
    · subst he
      rw [hT] at b2
      simp only [Option.some.injEq, Prod.mk.injEq] at b2
      obtain ⟨rfl, rfl⟩ := b2
      exact ⟨k', y, q, b1, List.getElem?_set_self hk, b3⟩
    · exact ⟨k', s', q', b1, by rw [List.getElem?_set_ne (fun e => he e.symm)]; exact b2, b3⟩
  · intro j s' q' l' v' h1 h2
    rcases casesT h1 with ⟨rfl, e⟩ | ⟨_, h1⟩
    · simp only [Prod.mk.injEq] at e; obtain ⟨rfl, rfl⟩ := e; exact H.ext hT h2
    · exact H.ext h1 h2
  · intro j s' q' l' v' h1 h2
    rcases casesT h1 with ⟨rfl, e⟩ | ⟨hne, h1⟩
    · simp only [Prod.mk.injEq] at e; obtain ⟨rfl, rfl⟩ := e
      rw [hP] at h2
      simp only [Option.some.injEq, Prod.mk.injEq] at h2
      obtain ⟨rfl, rfl⟩ := h2
      simp
    · rw [if_neg]
      · exact H.sym h1 h2
      · rintro ⟨rfl, rfl⟩; exact hne (H.inj h2 hP)
end Go.Eng
