import Derived.Laws.Append
import Derived.Test.YtmnialmphlbmaaaEng2
set_option linter.unusedVariables false
set_option linter.unusedSimpArgs false
/- A small store of facts for contracts: slices of numbers, new blocks. -/
namespace Go.Eng
open Go

/-- The cells from a on hold the numbers xs, of kind k. -/
def HInts (h : Heap) (k : IntKind) (a : Option Addr) (xs : List Int) : Prop := ∀ (i : Nat) x, xs[i]? = some x → ∃ ad, a = some ad ∧ hcell h (ad.add i) = some (.int k x)

def ints (k : IntKind) (xs : List Int) : Array Value := (xs.map (Value.int k)).toArray

theorem toInt_int {k : IntKind} {n : Int} : toInt (.int k n) = n := rfl
theorem toBool_bool {b : Bool} : toBool (.bool b) = b := rfl
theorem slL_sl {a : Option Addr} {l c : Nat} : slL (.slice a l c) = l := rfl
theorem slC_sl {a : Option Addr} {l c : Nat} : slC (.slice a l c) = c := rfl
theorem slA_sl {a : Option Addr} {l c : Nat} : slA (.slice a l c) = a := rfl
theorem toAddr_ptr {a : Addr} : toAddr (.pointer (some a)) = a := rfl
theorem ptrOf_ptr {a : Option Addr} : ptrOf (.pointer a) = a := rfl
theorem isNil_sl {a : Option Addr} {l c : Nat} : isNilV (.slice a l c) = a.isNone := by cases a <;> rfl
theorem isNil_ptr {a : Option Addr} : isNilV (.pointer a) = a.isNone := by cases a <;> rfl
theorem isNil_if : isNilV .nilIface = true := rfl
theorem isNil_if2 {t : TypeId} {v : Value} : isNilV (.iface t v) = false := rfl
theorem optN_int {d : Nat} {k : IntKind} {n : Int} : optN d (.int k n) = n.toNat := rfl
theorem optN_nl {d : Nat} : optN d (.tuple #[]) = d := rfl
theorem it_and {p : Prop} [Decidable p] {c : Bool} : (if p then Value.bool c else Value.bool false) = .bool (decide p && c) := by by_cases h : p <;> simp [h]
theorem it_or {p : Prop} [Decidable p] {c : Bool} : (if p then Value.bool true else Value.bool c) = .bool (decide p || c) := by by_cases h : p <;> simp [h]
theorem and_of {a b : Prop} (ha : a) (hb : a → b) : a ∧ b := ⟨ha, hb ha⟩

section
variable {h : Heap} {k : IntKind} {b : Nat} {T : TypeId} {o : Obj}

theorem HInts.cell {a : Option Addr} {xs : List Int} (H : HInts h k a xs) {i : Nat} {x : Int} (hx : xs[i]? = some x) : hcell h ((a.getD default).add i) = some (.int k x) ∧ a.isSome = true := by
  obtain ⟨ad, rfl, h2⟩ := H i x hx; exact ⟨h2, rfl⟩

theorem hcell_upd {ad : Addr} {v : Value} (hc : hcell h ad = some v) (hb : h b = none) : hcell (upd h b o) ad = some v := by
  have : ad.block ≠ b := fun e => hcell_held hc (e ▸ hb)
  unfold hcell upd at *
  simpa [this] using hc

theorem HInts.upd {a : Option Addr} {xs : List Int} (H : HInts h k a xs) (hb : h b = none) : HInts (Eng.upd h b o) k a xs := fun i x hx => by
  obtain ⟨ad, h1, h2⟩ := H i x hx; exact ⟨ad, h1, hcell_upd h2 hb⟩

theorem addr0_add (n : Nat) : (⟨b, 0, none⟩ : Addr).add n = ⟨b, n, none⟩ := by
  unfold Addr.add; split
  · rename_i h; subst h; rfl
  · simp

theorem hcell_new {c : Array Value} {n : Nat} : hcell (upd h b (.cells c T)) ((⟨b, 0, none⟩ : Addr).add n) = c[n]? := by
  rw [addr0_add]; simp [hcell, upd]

theorem hset_new {c : Array Value} {n : Nat} {v : Value} : hset (upd h b (.cells c T)) ((⟨b, 0, none⟩ : Addr).add n) v = upd h b (.cells (c.setIfInBounds n v) T) := by
  rw [addr0_add]; funext x; unfold hset upd; by_cases hx : x = b <;> simp [hx]

theorem okCell_new {S : Shared} {c : Array Value} {n : Nat} (hn : n < c.size) (hs : ¬ S b) : okCell S (upd h b (.cells c T)) ((⟨b, 0, none⟩ : Addr).add n) := by
  refine ⟨⟨c[n], by rw [hcell_new]; simp [hn]⟩, ?_, by rw [addr0_add]; exact hs⟩
  rw [addr0_add]; simp [hfrozen, upd]

theorem not_shared {S : Shared} (hi : Inv S h) (hb : h b = none) : ¬ S b := fun hs => hi b hs hb

theorem Inv.upd {S : Shared} (hi : Inv S h) : Inv S (Eng.upd h b o) := fun x hx hn => by
  unfold Eng.upd at hn
  split at hn
  · cases hn
  · exact hi x hx hn

theorem HInts.new {xs : List Int} : HInts (Eng.upd h b (.cells (ints k xs) T)) k (some ⟨b, 0, none⟩) xs := fun i x hx => ⟨_, rfl, by rw [hcell_new]; simp [ints, hx]⟩

theorem mkCells_ints (n : Nat) : mkCells n (([.int k 0] : List Value).toArray) = ints k (List.replicate n 0) := by
  apply Array.ext_getElem?
  intro i
  simp only [mkCells, ints, Array.getElem?_map, List.getElem?_toArray, List.getElem?_map, List.getElem?_replicate]
  by_cases hi : i < n
  · simp [hi, Nat.mod_one]
  · simp [hi]

theorem ints_set (xs : List Int) (n : Nat) (x : Int) : (ints k xs).setIfInBounds n (.int k x) = ints k (xs.set n x) := by
  simp [ints, List.map_set]

theorem ints_size (xs : List Int) : (ints k xs).size = xs.length := by simp [ints]

theorem take_set (xs : List Int) (n : Nat) (hn : n < xs.length) : ((xs.take n) ++ List.replicate (xs.length - n) 0).set n xs[n] = xs.take (n + 1) ++ List.replicate (xs.length - (n + 1)) 0 := by
  apply List.ext_getElem?
  intro i
  rw [List.getElem?_set]
  by_cases h1 : n = i
  · subst h1
    have : n < (xs.take n ++ List.replicate (xs.length - n) 0).length := by simp; omega
    rw [if_pos rfl, if_pos this, List.getElem?_append_left (by simp; omega)]
    simp [List.getElem?_take, hn]
  · rw [if_neg h1]
    rcases Nat.lt_or_ge i n with h2 | h2
    · rw [List.getElem?_append_left (by simp; omega), List.getElem?_append_left (by simp; omega)]
      simp [List.getElem?_take, h2, Nat.lt_succ_of_lt h2]
    · rw [List.getElem?_append_right (by simp; omega), List.getElem?_append_right (by simp; omega)]
      simp only [List.length_take, List.getElem?_replicate]
      by_cases h3 : i < xs.length
      · rw [if_pos (by omega), if_pos (by omega)]
      · rw [if_neg (by omega), if_neg (by omega)]

end
end Go.Eng
/- Slices of numbers that the code itself made: appends. -/
namespace Go.Eng
open Go

theorem Sub.of_upd {h : Heap} {b : Nat} {o : Obj} (hb : h b = none) : Sub h (upd h b o) := fun x y hx => by
  have : x ≠ b := fun e => by rw [e, hb] at hx; cases hx
  simp [upd, this, hx]

theorem Inv.sub {S : Shared} {h h' : Heap} (hi : Inv S h) (hs : Sub h h') : Inv S h' := fun b hb hn => by
  cases hh : h b with
  | none => exact hi b hb hh
  | some o => rw [hs b o hh] at hn; cases hn

theorem hcell_sub {h h' : Heap} (hs : Sub h h') {ad : Addr} {v : Value} (hc : hcell h ad = some v) : hcell h' ad = some v := by
  unfold hcell at *
  cases hh : h ad.block with
  | none => rw [hh] at hc; cases hc
  | some o => rw [hs _ o hh]; rw [hh] at hc; exact hc

theorem HInts.sub {h h' : Heap} {k : IntKind} {a : Option Addr} {xs : List Int} (H : HInts h k a xs) (hs : Sub h h') : HInts h' k a xs := fun i x hx => by
  obtain ⟨ad, h1, h2⟩ := H i x hx; exact ⟨ad, h1, hcell_sub hs h2⟩

theorem upd_upd {h : Heap} {b : Nat} {o o' : Obj} : upd (upd h b o) b o' = upd h b o' := by
  funext x; unfold upd; by_cases hx : x = b <;> simp [hx]
theorem upd_self {h : Heap} {b : Nat} {o : Obj} (hb : h b = some o) : upd h b o = h := by
  funext x; unfold upd; by_cases hx : x = b
  · subst hx; simp [hb]
  · simp [hx]
theorem upd_same {h : Heap} {b : Nat} {o : Obj} : upd h b o b = some o := by simp [upd]
theorem upd_ne {h : Heap} {b x : Nat} {o : Obj} (hx : x ≠ b) : upd h b o x = h x := by simp [upd, hx]

def blkOf : Value → Option Nat
  | .slice (some a) _ _ => some a.block
  | _ => none

/-- v is a slice from the start of a block of its own: it holds xs; numbers lie behind it up to its cap. -/
def Own (k : IntKind) (h : Heap) (v : Value) (xs : List Int) : Prop :=
  ∃ b sp T, v = .slice (some ⟨b, 0, none⟩) xs.length (xs.length + sp.length) ∧ h b = some (.cells (ints k (xs ++ sp)) T)

/-- The block is none of h0's. -/
def New (h0 : Heap) (v : Value) : Prop := ∀ b, blkOf v = some b → h0 b = none

section
variable {k : IntKind} {h h0 : Heap} {v : Value} {xs ys : List Int}

theorem ints_get {sp : List Int} {i : Nat} {x : Int} (hx : xs[i]? = some x) : (Eng.ints k (xs ++ sp))[i]? = some (.int k x) := by
  have : (xs ++ sp)[i]? = some x := by rw [List.getElem?_append_left (List.getElem?_eq_some_iff.1 hx).1]; exact hx
  simp only [Eng.ints, List.getElem?_toArray, List.getElem?_map, this]; rfl

theorem Own.ints (H : Own k h v xs) : ∃ a c, v = .slice a xs.length c ∧ HInts h k a xs := by
  obtain ⟨b, sp, T, rfl, hb⟩ := H
  refine ⟨_, _, rfl, fun i x hx => ⟨_, rfl, ?_⟩⟩
  rw [addr0_add]
  simp only [hcell, hb]
  exact ints_get hx

theorem Own.keep {h' : Heap} (H : Own k h v xs) (hk : ∀ b, blkOf v = some b → h' b = h b) : Own k h' v xs := by
  obtain ⟨b, sp, T, rfl, hb⟩ := H
  exact ⟨b, sp, T, rfl, by rw [hk b rfl]; exact hb⟩

theorem Own.sub {h' : Heap} (H : Own k h v xs) (hs : Sub h h') : Own k h' v xs := by
  obtain ⟨b, sp, T, rfl, hb⟩ := H
  exact ⟨b, sp, T, rfl, hs b _ hb⟩

theorem Own.made {b : Nat} {T : TypeId} (xs : List Int) : Own k (upd h b (.cells (Eng.ints k xs) T)) (.slice (some ⟨b, 0, none⟩) xs.length xs.length) xs :=
  ⟨b, [], T, by simp, by simp [upd]⟩

theorem New.of {b l c : Nat} (hb : h0 b = none) : New h0 (.slice (some ⟨b, 0, none⟩) l c) := fun x hx => by
  cases hx; exact hb

def splice (zs : List Int) (n : Nat) (ys : List Int) : List Int := zs.take n ++ ys ++ zs.drop (n + ys.length)

theorem storeW_ints {S : Shared} {b off : Nat} {T : TypeId} {K : Heap → Prop} (hs : ¬ S b) : ∀ (ys : List Int) (i : Nat) (h : Heap) (zs : List Int), h b = some (.cells (Eng.ints k zs) T) → off + i + ys.length ≤ zs.length →
    K (upd h b (.cells (Eng.ints k (splice zs (off + i) ys)) T)) → storeW S ⟨b, off, none⟩ i (ys.map (Value.int k)) h K := by
  have ea : ∀ j, (⟨b, off, none⟩ : Addr).add j = ⟨b, off + j, none⟩ := fun j => by
    unfold Addr.add; split
    · rename_i h0; subst h0; rfl
    · rfl
  intro ys
  induction ys with
  | nil =>
    intro i h zs hb _ hK
    have e : splice zs (off + i) [] = zs := by simp [splice]
    rw [e, upd_self hb] at hK
    exact hK
  | cons y r ih =>
    intro i h zs hb hl hK
    simp only [List.length_cons] at hl
    refine ⟨⟨⟨.int k (zs[off + i]'(by omega)), ?_⟩, ?_, ?_⟩, ?_⟩
    · rw [ea]; simp [hcell, hb, Eng.ints]
    · rw [ea]; simp [hfrozen, hb]
    · rw [ea]; exact hs
    · have e1 : hset h ((⟨b, off, none⟩ : Addr).add i) (.int k y) = upd h b (.cells (Eng.ints k (zs.set (off + i) y)) T) := by
        rw [ea]; funext x; unfold hset upd
        by_cases hx : x = b
        · subst hx; simp [hb, ints_set]
        · simp [hx]
      rw [e1]
      refine ih (i + 1) _ (zs.set (off + i) y) (by simp [upd]) (by simp; omega) ?_
      rw [upd_upd]
      have e2 : splice (zs.set (off + i) y) (off + (i + 1)) r = splice zs (off + i) (y :: r) := by
        unfold splice
        rw [show off + (i + 1) = off + i + 1 by omega, List.take_add_one, List.take_set_of_le (by omega), List.drop_set_of_lt (by omega)]
        simp only [List.length_cons]
        rw [List.getElem?_set_self (by omega)]
        simp [show off + i + 1 + r.length = off + i + (r.length + 1) by omega]
      rw [e2]; exact hK

theorem oneCell_int {n : Int} : oneCell (.int k n) := ⟨rfl, by simp, by simp⟩

theorem zeroCells_ints (n : Nat) : Builtin.zeroCells ([.int k 0] : List Value).toArray n = Eng.ints k (List.replicate n 0) := by
  have := mkCells_ints (k := k) n
  unfold mkCells at this
  unfold Builtin.zeroCells
  simpa using this

theorem HInts.cells {a : Option Addr} {c : Nat} (H : HInts h k a ys) : srcCells h a (ys.map (Value.int k)) := by
  unfold srcCells
  cases a with
  | none =>
    cases ys with
    | nil => rfl
    | cons y r => obtain ⟨ad, h1, _⟩ := H 0 y rfl; cases h1
  | some ad =>
    have key : ∀ (zs : List Int) (i : Nat), (∀ j x, zs[j]? = some x → hcell h (ad.add (i + j)) = some (.int k x)) → cellsAre h ad i (zs.map (Value.int k)) := by
      intro zs
      induction zs with
      | nil => intros; trivial
      | cons z r ih =>
        intro i hz
        refine ⟨by simpa using hz 0 z rfl, ih (i + 1) fun j x hx => ?_⟩
        have := hz (j + 1) x (by simpa using hx)
        rwa [show i + (j + 1) = i + 1 + j by omega] at this
    refine key ys 0 fun j x hx => ?_
    obtain ⟨ad', h1, h2⟩ := H j x hx
    cases h1
    simpa using h2

/-- APPEND to a slice of one's own. -/
theorem appW_own {S : Shared} {ty : TypeId} {byt : Nat} {a : Option Addr} {c : Nat} {K : Value → Heap → Prop} (hi : Inv S h0) (hsub : Sub h0 h) (hs : Own k h v xs) (hn : New h0 v) (hx : HInts h k a ys)
    (hl : (xs.length + ys.length) * byt ≤ 140737488355328)
    (hK : ∀ v' h', Own k h' v' (xs ++ ys) → New h0 v' → Sub h0 h' → (∀ b, h b ≠ none → blkOf v ≠ some b → h' b = h b) → (blkOf v' = blkOf v ∨ New h v') → K v' h') :
    appW S ty 1 byt [.int k 0] v (.slice a ys.length c) h K := by
  obtain ⟨b, sp, T, rfl, hb⟩ := hs
  have hb0 : h0 b = none := hn b rfl
  have hsb : ¬ S b := fun hs => hi b hs hb0
  refine ⟨ys.map (Value.int k), by simp [slL], hx.cells (c := c), fun v hv => ?_, fun hroom => ?_, fun hgrow => ?_⟩
  · obtain ⟨y, _, rfl⟩ := List.mem_map.1 hv
    exact oneCell_int
  · simp only [slA, slL, slC] at hroom ⊢
    have e0 : (⟨b, 0, none⟩ : Addr).add (xs.length * 1) = ⟨b, xs.length, none⟩ := by rw [Nat.mul_one, addr0_add]
    rw [e0]
    refine storeW_ints hsb ys 0 h (xs ++ sp) hb (by simp; omega) ?_
    have e1 : splice (xs ++ sp) (xs.length + 0) ys = (xs ++ ys) ++ sp.drop ys.length := by
      simp [splice, List.drop_append, List.append_assoc]
    rw [e1]
    refine hK _ _ ⟨b, sp.drop ys.length, T, ?_, by simp [upd]⟩ (New.of hb0) ?_ (fun x hx hne => ?_) (.inl rfl)
    · simp; omega
    · intro x o hx
      have : x ≠ b := fun e => by rw [e, hb0] at hx; cases hx
      rw [upd_ne this]; exact hsub x o hx
    · have : x ≠ b := fun e => hne (by rw [e]; rfl)
      exact upd_ne this
  · simp only [slA, slL, slC] at hgrow ⊢
    refine ⟨growslice_fits (by omega) hl, xs.map (Value.int k), by simp, HInts.cells (c := 0) (ys := xs) ?_, fun nc d hnc hd => ?_⟩
    · intro i x hx
      refine ⟨_, rfl, ?_⟩
      rw [addr0_add]
      simp only [hcell, hb]
      exact ints_get hx
    · have hd0 : h0 d = none := by
        cases hh : h0 d with
        | none => rfl
        | some o => rw [hsub d o hh] at hd; cases hd
      have e1 : ((xs.map (Value.int k)).toArray ++ (ys.map (Value.int k)).toArray ++ Builtin.zeroCells ([.int k 0] : List Value).toArray (nc - (xs.length + ys.length))) = Eng.ints k ((xs ++ ys) ++ List.replicate (nc - (xs.length + ys.length)) 0) := by
        rw [zeroCells_ints]; simp [Eng.ints]
      rw [e1]
      refine hK _ _ ⟨d, List.replicate (nc - (xs.length + ys.length)) 0, ty, ?_, by simp [upd]⟩ (New.of hd0) ?_ (fun x hx hne => ?_) (.inr (New.of hd))
      · simp; omega
      · intro x o hx
        have : x ≠ d := fun e => by rw [e, hd0] at hx; cases hx
        rw [upd_ne this]; exact hsub x o hx
      · have : x ≠ d := fun e => hx (e ▸ hd)
        exact upd_ne this

end
end Go.Eng
/- Cuts of slices of numbers; bytes. -/
namespace Go.Eng
open Go

theorem it_int {p : Prop} [Decidable p] {k : IntKind} {a b : Int} : (if p then Value.int k a else Value.int k b) = .int k (if p then a else b) := by split <;> rfl

theorem slSub_ints {h : Heap} {k : IntKind} {a : Option Addr} {xs : List Int} (H : HInts h k a xs) {lo hi m : Nat} (h1 : lo ≤ hi) (h2 : hi ≤ xs.length) (h3 : hi ≤ m) :
    ∃ a', slSub 1 a lo hi m = .slice a' ((xs.drop lo).take (hi - lo)).length (m - lo) ∧ HInts h k a' ((xs.drop lo).take (hi - lo)) := by
  have hlen : ((xs.drop lo).take (hi - lo)).length = hi - lo := by rw [List.length_take, List.length_drop]; omega
  refine ⟨if m = lo then a else a.map (·.add (lo * 1)), by rw [hlen]; rfl, fun i x hx => ?_⟩
  have hi' : i < hi - lo := by rw [← hlen]; exact (List.getElem?_eq_some_iff.1 hx).1
  rw [List.getElem?_take, if_pos hi', List.getElem?_drop] at hx
  obtain ⟨ad, rfl, hc⟩ := H _ x hx
  rw [if_neg (by omega)]
  exact ⟨_, rfl, by rw [add_add, Nat.mul_one]; exact hc⟩

end Go.Eng
/- Parts of blocks of one's own: slices of numbers, cut and appended to; nil too. -/
namespace Go.Eng
open Go

/-- v is nil and holds nothing, or a part of a block of numbers, which holds xs. -/
def Part (k : IntKind) (h : Heap) (v : Value) (xs : List Int) : Prop :=
  (v = .slice none 0 0 ∧ xs = []) ∨
  ∃ b pr sp re T, v = .slice (some ⟨b, pr.length, none⟩) xs.length (xs.length + sp.length) ∧ h b = some (.cells (ints k (pr ++ xs ++ sp ++ re)) T)

theorem addr_add (b off j : Nat) : (⟨b, off, none⟩ : Addr).add j = ⟨b, off + j, none⟩ := by
  unfold Addr.add; split
  · rename_i h0; subst h0; rfl
  · rfl

section
variable {k : IntKind} {h h0 : Heap} {v : Value} {xs ys : List Int}

theorem ints_get3 {pr sp re : List Int} {i : Nat} {x : Int} (hx : xs[i]? = some x) : (Eng.ints k (pr ++ xs ++ sp ++ re))[pr.length + i]? = some (.int k x) := by
  have hlt := (List.getElem?_eq_some_iff.1 hx).1
  have : (pr ++ xs ++ sp ++ re)[pr.length + i]? = some x := by
    rw [List.append_assoc, List.append_assoc, List.getElem?_append_right (by omega), Nat.add_sub_cancel_left, List.getElem?_append_left hlt]; exact hx
  simp only [Eng.ints, List.getElem?_toArray, List.getElem?_map, this]; rfl

theorem Own.part (H : Own k h v xs) : Part k h v xs := by
  obtain ⟨b, sp, T, rfl, hb⟩ := H
  exact .inr ⟨b, [], sp, [], T, rfl, by simpa using hb⟩

theorem Part.nil : Part k h (.slice none 0 0) [] := .inl ⟨rfl, rfl⟩

theorem Part.ints (H : Part k h v xs) : ∃ a c, v = .slice a xs.length c ∧ xs.length ≤ c ∧ HInts h k a xs := by
  rcases H with ⟨rfl, rfl⟩ | ⟨b, pr, sp, re, T, rfl, hb⟩
  · exact ⟨none, 0, rfl, Nat.le_refl _, fun i x hx => by simp at hx⟩
  · refine ⟨_, _, rfl, by omega, fun i x hx => ⟨_, rfl, ?_⟩⟩
    rw [addr_add]
    simp only [hcell, hb]
    exact ints_get3 hx

theorem Part.keep {h' : Heap} (H : Part k h v xs) (hk : ∀ b, blkOf v = some b → h' b = h b) : Part k h' v xs := by
  rcases H with H | ⟨b, pr, sp, re, T, rfl, hb⟩
  · exact .inl H
  · exact .inr ⟨b, pr, sp, re, T, rfl, by rw [hk b rfl]; exact hb⟩

theorem Part.sub {h' : Heap} (H : Part k h v xs) (hs : Sub h h') : Part k h' v xs := by
  rcases H with H | ⟨b, pr, sp, re, T, rfl, hb⟩
  · exact .inl H
  · exact .inr ⟨b, pr, sp, re, T, rfl, hs b _ hb⟩

theorem Part.held (H : Part k h v xs) : ∀ b, blkOf v = some b → h b ≠ none := by
  rcases H with ⟨rfl, rfl⟩ | ⟨b, pr, sp, re, T, rfl, hb⟩
  · intro b hb; cases hb
  · intro b' hb'; cases hb'; rw [hb]; simp

theorem New.nil : New h0 (.slice none 0 0) := fun b hb => by cases hb

/-- A cut of a part. -/
theorem Part.cut {a : Option Addr} {l c : Nat} (H : Part k h (.slice a l c) xs) {lo hi m : Nat} (h1 : lo ≤ hi) (h2 : hi ≤ xs.length) (h3 : hi ≤ m) (h4 : m ≤ c) :
    Part k h (slSub 1 a lo hi m) ((xs.drop lo).take (hi - lo)) ∧ (blkOf (slSub 1 a lo hi m) = blkOf (.slice a l c)) := by
  rcases H with ⟨hv, rfl⟩ | ⟨b, pr, sp, re, T, hv, hb⟩
  · cases hv
    have : lo = 0 ∧ hi = 0 ∧ m = 0 := by simp at h2; omega
    obtain ⟨rfl, rfl, rfl⟩ := this
    exact ⟨.inl ⟨rfl, by simp⟩, rfl⟩
  · cases hv
    have hlen : ((xs.drop lo).take (hi - lo)).length = hi - lo := by rw [List.length_take, List.length_drop]; omega
    unfold slSub
    by_cases hm : m = lo
    · have hh : hi = lo := by omega
      subst hm
      subst hh
      rw [if_pos rfl]
      refine ⟨.inr ⟨b, pr, [], xs ++ sp ++ re, T, by simp, ?_⟩, rfl⟩
      rw [hb]; simp [List.append_assoc]
    · rw [if_neg hm]
      refine ⟨.inr ⟨b, pr ++ xs.take lo, ((xs.drop lo).drop (hi - lo) ++ sp).take (m - hi), ((xs.drop lo).drop (hi - lo) ++ sp).drop (m - hi) ++ re, T, ?_, ?_⟩, ?_⟩
      · simp only [Option.map_some, addr_add, Nat.mul_one, List.length_append, List.length_take, hlen, List.length_drop]
        have e1 : min lo xs.length = lo := by omega
        have e2 : min (m - hi) (xs.length - lo - (hi - lo) + sp.length) = m - hi := by omega
        rw [e1, e2]
        simp; omega
      · rw [hb]
        have e3 : xs = xs.take lo ++ ((xs.drop lo).take (hi - lo) ++ (xs.drop lo).drop (hi - lo)) := by rw [List.take_append_drop, List.take_append_drop]
        have e4 : ∀ (zs : List Int), zs.take (m - hi) ++ (zs.drop (m - hi) ++ re) = zs ++ re := fun zs => by rw [← List.append_assoc, List.take_append_drop]
        congr 3
        conv => lhs; rw [e3]
        simp only [List.append_assoc]
        rw [← List.append_assoc ((xs.drop lo).drop (hi - lo)) sp re, ← e4]
      · simp [blkOf, addr_add]

/-- APPEND to a part of one's own. -/
theorem appW_part {S : Shared} {ty : TypeId} {byt : Nat} {a : Option Addr} {c : Nat} {K : Value → Heap → Prop} (hi : Inv S h0) (hsub : Sub h0 h) (hs : Part k h v xs) (hn : New h0 v) (hx : HInts h k a ys)
    (hl : (xs.length + ys.length) * byt ≤ 140737488355328)
    (hK : ∀ v' h', Part k h' v' (xs ++ ys) → New h0 v' → Sub h0 h' → (∀ b, h b ≠ none → blkOf v ≠ some b → h' b = h b) → (blkOf v' = blkOf v ∨ New h v') → K v' h') :
    appW S ty 1 byt [.int k 0] v (.slice a ys.length c) h K := by
  have grown : ∀ (nc d : Nat), xs.length + ys.length ≤ nc → h d = none →
      K (.slice (some ⟨d, 0, none⟩) (xs.length + ys.length) nc) (upd h d (.cells ((xs.map (Value.int k)).toArray ++ (ys.map (Value.int k)).toArray ++ Builtin.zeroCells ([.int k 0] : List Value).toArray (nc - (xs.length + ys.length))) ty)) := by
    intro nc d hnc hd
    have hd0 : h0 d = none := by
      cases hh : h0 d with
      | none => rfl
      | some o => rw [hsub d o hh] at hd; cases hd
    have e1 : ((xs.map (Value.int k)).toArray ++ (ys.map (Value.int k)).toArray ++ Builtin.zeroCells ([.int k 0] : List Value).toArray (nc - (xs.length + ys.length))) = Eng.ints k ((xs ++ ys) ++ List.replicate (nc - (xs.length + ys.length)) 0) := by
      rw [zeroCells_ints]; simp [Eng.ints]
    rw [e1]
    refine hK _ _ (Own.part ⟨d, List.replicate (nc - (xs.length + ys.length)) 0, ty, ?_, by simp [upd]⟩) (New.of hd0) ?_ (fun x hx hne => ?_) (.inr (New.of hd))
    · simp; omega
    · intro x o hx
      have : x ≠ d := fun e => by rw [e, hd0] at hx; cases hx
      rw [upd_ne this]; exact hsub x o hx
    · have : x ≠ d := fun e => hx (e ▸ hd)
      exact upd_ne this
  have hs' := hs
  obtain ⟨a0, c0, hv0, _, hi0⟩ := hs'.ints
  rcases hs with ⟨rfl, rfl⟩ | ⟨b, pr, sp, re, T, rfl, hb⟩
  · refine ⟨ys.map (Value.int k), by simp [slL], hx.cells (c := c), fun v hv => ?_, fun hroom => ?_, fun hgrow => ?_⟩
    · obtain ⟨y, _, rfl⟩ := List.mem_map.1 hv
      exact oneCell_int
    · simp only [slL, slC] at hroom
      have hy : ys = [] := List.length_eq_zero_iff.1 (by omega)
      subst hy
      exact hK _ _ Part.nil New.nil hsub (fun _ _ _ => rfl) (.inl rfl)
    · simp only [slA, slL, slC] at hgrow ⊢
      refine ⟨growslice_fits (by omega) (by simpa using hl), [], by simp, rfl, fun nc d hnc hd => ?_⟩
      simpa using grown nc d (by simpa using hnc) hd
  · have hb0 : h0 b = none := hn b rfl
    have hsb : ¬ S b := fun hs => hi b hs hb0
    refine ⟨ys.map (Value.int k), by simp [slL], hx.cells (c := c), fun v hv => ?_, fun hroom => ?_, fun hgrow => ?_⟩
    · obtain ⟨y, _, rfl⟩ := List.mem_map.1 hv
      exact oneCell_int
    · simp only [slA, slL, slC] at hroom ⊢
      have e0 : (⟨b, pr.length, none⟩ : Addr).add (xs.length * 1) = ⟨b, pr.length + xs.length, none⟩ := by rw [Nat.mul_one, addr_add]
      rw [e0]
      refine storeW_ints hsb ys 0 h (pr ++ xs ++ sp ++ re) hb (by simp; omega) ?_
      have e1 : splice (pr ++ xs ++ sp ++ re) (pr.length + xs.length + 0) ys = pr ++ (xs ++ ys) ++ sp.drop ys.length ++ re := by
        have e2 : pr.length + xs.length = (pr ++ xs).length := by simp
        have e3 : (pr ++ xs ++ sp ++ re).take (pr ++ xs).length = pr ++ xs := by rw [List.append_assoc (pr ++ xs), List.take_left']; rfl
        have e4 : (pr ++ xs ++ sp ++ re).drop ((pr ++ xs).length + ys.length) = sp.drop ys.length ++ re := by
          rw [List.append_assoc (pr ++ xs), ← List.drop_drop, List.drop_left', List.drop_append_of_le_length (by omega)]
          rfl
        unfold splice
        rw [Nat.add_zero, e2, e3, e4]
        simp [List.append_assoc]
      rw [e1]
      refine hK _ _ (.inr ⟨b, pr, sp.drop ys.length, re, T, ?_, by simp [upd]⟩) (fun x hx => by cases hx; exact hb0) ?_ (fun x hx hne => ?_) (.inl rfl)
      · simp; omega
      · intro x o hx
        have : x ≠ b := fun e => by rw [e, hb0] at hx; cases hx
        rw [upd_ne this]; exact hsub x o hx
      · have : x ≠ b := fun e => hne (by rw [e]; rfl)
        exact upd_ne this
    · simp only [slA, slL, slC] at hgrow ⊢
      simp only [Value.slice.injEq] at hv0
      obtain ⟨rfl, _, _⟩ := hv0
      exact ⟨growslice_fits (by omega) hl, xs.map (Value.int k), by simp, HInts.cells (c := 0) (ys := xs) hi0, fun nc d hnc hd => grown nc d hnc hd⟩

end
end Go.Eng
/- Types of a law's values, as contracts speak of them: read, owned, blocks. -/
namespace Go.Eng
open Go

/-- How a value (or a list of values) of a type reads (R), which blocks it has (B), how it is owned (O). -/
structure Ty (V X : Type) where
  R : Heap → V → X → Prop
  B : V → Nat → Prop
  O : Heap → V → X → Prop
  Rsub : ∀ {h h' v x}, R h v x → Sub h h' → R h' v x
  OR : ∀ {h v x}, O h v x → R h v x
  Okeep : ∀ {h h' v x}, O h v x → (∀ b, B v b → h' b = h b) → O h' v x
  Oheld : ∀ {h v x b}, O h v x → B v b → h b ≠ none

/-- None of the value's blocks is one of h's. -/
def Ty.New {V X : Type} (A : Ty V X) (h : Heap) (v : V) : Prop := ∀ b, A.B v b → h b = none

theorem sub_none {h1 h2 : Heap} (hs : Sub h1 h2) {b : Nat} (hb : h2 b = none) : h1 b = none := by
  cases hh : h1 b with
  | none => rfl
  | some o => rw [hs _ _ hh] at hb; cases hb

section
variable {V X : Type} {A : Ty V X} {h h' h0 : Heap} {v : V} {x : X}

theorem Ty.Osub (H : A.O h v x) (hs : Sub h h') : A.O h' v x := A.Okeep H fun b hb => by
  cases hh : h b with
  | none => exact absurd hh (A.Oheld H hb)
  | some o => exact hs b o hh

theorem Ty.New.mono (H : A.New h' v) (hs : Sub h h') : A.New h v := fun b hb => sub_none hs (H b hb)
end

def tyInt (k : IntKind) : Ty Value Int where
  R _ v x := v = .int k x
  B _ _ := False
  O _ v x := v = .int k x
  Rsub H _ := H
  OR H := H
  Okeep H _ := H
  Oheld _ hb := hb.elim

def tyBool : Ty Value Bool where
  R _ v x := v = .bool x
  B _ _ := False
  O _ v x := v = .bool x
  Rsub H _ := H
  OR H := H
  Okeep H _ := H
  Oheld _ hb := hb.elim

def tySl (k : IntKind) : Ty Value (List Int) where
  R h v xs := ∃ a c, v = .slice a xs.length c ∧ HInts h k a xs
  B v b := blkOf v = some b
  O h v xs := Part k h v xs
  Rsub := fun ⟨a, c, e, H⟩ hs => ⟨a, c, e, H.sub hs⟩
  OR H := by obtain ⟨a, c, e, _, hx⟩ := H.ints; exact ⟨a, c, e, hx⟩
  Okeep H hk := H.keep hk
  Oheld H hb := H.held _ hb

def tyNil : Ty (List Value) Unit where
  R _ v _ := v = []
  B _ _ := False
  O _ v _ := v = []
  Rsub H _ := H
  OR H := H
  Okeep H _ := H
  Oheld _ hb := hb.elim

def tyCons {X Y : Type} (A : Ty Value X) (L : Ty (List Value) Y) : Ty (List Value) (X × Y) where
  R h vs p := ∃ v ws, vs = v :: ws ∧ A.R h v p.1 ∧ L.R h ws p.2
  B vs b := ∃ v ws, vs = v :: ws ∧ (A.B v b ∨ L.B ws b)
  O h vs p := ∃ v ws, vs = v :: ws ∧ A.O h v p.1 ∧ L.O h ws p.2 ∧ ∀ b, A.B v b → ¬ L.B ws b
  Rsub := by rintro h h' vs x ⟨v, ws, e, H1, H2⟩ hs; exact ⟨v, ws, e, A.Rsub H1 hs, L.Rsub H2 hs⟩
  OR := by rintro h vs x ⟨v, ws, e, H1, H2, _⟩; exact ⟨v, ws, e, A.OR H1, L.OR H2⟩
  Okeep := by rintro h h' vs x ⟨v, ws, rfl, H1, H2, d⟩ hk; exact ⟨v, ws, rfl, A.Okeep H1 fun b hb => hk b ⟨v, ws, rfl, .inl hb⟩, L.Okeep H2 fun b hb => hk b ⟨v, ws, rfl, .inr hb⟩, d⟩
  Oheld := fun ⟨v, ws, e, H1, H2, _⟩ ⟨v', ws', e', hb⟩ => by
    cases e.symm.trans e'
    rcases hb with hb | hb
    · exact A.Oheld H1 hb
    · exact L.Oheld H2 hb

def tyAgg {X : Type} (L : Ty (List Value) X) : Ty Value X where
  R h v p := ∃ ws, v = .agg ws.toArray ∧ L.R h ws p
  B v b := ∃ ws, v = .agg ws.toArray ∧ L.B ws b
  O h v p := ∃ ws, v = .agg ws.toArray ∧ L.O h ws p
  Rsub := by rintro h h' v x ⟨ws, e, H⟩ hs; exact ⟨ws, e, L.Rsub H hs⟩
  OR := by rintro h v x ⟨ws, e, H⟩; exact ⟨ws, e, L.OR H⟩
  Okeep := by rintro h h' v x ⟨ws, rfl, H⟩ hk; exact ⟨ws, rfl, L.Okeep H fun b hb => hk b ⟨ws, rfl, hb⟩⟩
  Oheld := fun ⟨ws, e, H⟩ ⟨ws', e', hb⟩ => by
    cases e.symm.trans e'
    exact L.Oheld H hb


section
variable {V W X Y : Type} {A : Ty V X} {L : Ty W Y} {h h' : Heap} {v : V} {w : W} {x : X}
/-- What stood before a new value came shares no block with it. -/
theorem Ty.far (H : A.O h v x) (hn : L.New h w) : ∀ b, A.B v b → ¬ L.B w b := fun b hb hw => A.Oheld H hb (hn b hw)
theorem Ty.off {S : Shared} (hi : Inv S h) (hn : A.New h v) : ∀ b, A.B v b → ¬ S b := fun b hb hs => hi b hs (hn b hb)
/-- A change at the blocks of a value that is new since h leaves h. -/
theorem Sub.other {h1 h2 : Heap} (hs : Sub h h1) (hn : A.New h v) (hk : ∀ b, ¬ A.B v b → h2 b = h1 b) : Sub h h2 := fun b o hb => by
  rw [hk b fun hB => by rw [hn b hB] at hb; cases hb]; exact hs b o hb
theorem Ty.Oother {h1 h2 : Heap} (H : A.O h1 v x) (hd : ∀ b, A.B v b → ¬ L.B w b) (hk : ∀ b, ¬ L.B w b → h2 b = h1 b) : A.O h2 v x := A.Okeep H fun b hb => hk b (hd b hb)
theorem dis_symm (hd : ∀ b, A.B v b → ¬ L.B w b) : ∀ b, L.B w b → ¬ A.B v b := fun b h1 h2 => hd b h2 h1
end

section
variable {X Y : Type} {A : Ty Value X} {L : Ty (List Value) Y} {h : Heap} {v : Value} {ws : List Value} {b : Nat} {p : X × Y} {y : Y} {k : IntKind}
theorem tyAgg_R : (tyAgg L).R h (.agg ws.toArray) y ↔ L.R h ws y :=
  ⟨fun ⟨ws', e, H⟩ => by have : ws = ws' := by simpa using e
                         subst this; exact H, fun H => ⟨ws, rfl, H⟩⟩
theorem tyAgg_O : (tyAgg L).O h (.agg ws.toArray) y ↔ L.O h ws y :=
  ⟨fun ⟨ws', e, H⟩ => by have : ws = ws' := by simpa using e
                         subst this; exact H, fun H => ⟨ws, rfl, H⟩⟩
theorem tyAgg_B : (tyAgg L).B (.agg ws.toArray) b ↔ L.B ws b :=
  ⟨fun ⟨ws', e, H⟩ => by have : ws = ws' := by simpa using e
                         subst this; exact H, fun H => ⟨ws, rfl, H⟩⟩
theorem tyCons_R : (tyCons A L).R h (v :: ws) p ↔ A.R h v p.1 ∧ L.R h ws p.2 :=
  ⟨fun ⟨_, _, e, H1, H2⟩ => by cases e; exact ⟨H1, H2⟩, fun ⟨H1, H2⟩ => ⟨_, _, rfl, H1, H2⟩⟩
theorem tyCons_O : (tyCons A L).O h (v :: ws) p ↔ A.O h v p.1 ∧ L.O h ws p.2 ∧ ∀ b, A.B v b → ¬ L.B ws b :=
  ⟨fun ⟨_, _, e, H1, H2, d⟩ => by cases e; exact ⟨H1, H2, d⟩, fun ⟨H1, H2, d⟩ => ⟨_, _, rfl, H1, H2, d⟩⟩
theorem tyCons_B : (tyCons A L).B (v :: ws) b ↔ A.B v b ∨ L.B ws b :=
  ⟨fun ⟨_, _, e, H⟩ => by cases e; exact H, fun H => ⟨_, _, rfl, H⟩⟩
theorem tyInt_B : (tyInt k).B v b ↔ False := Iff.rfl
theorem tyBool_B : tyBool.B v b ↔ False := Iff.rfl
theorem tyNil_B : tyNil.B ws b ↔ False := Iff.rfl
theorem tyInt_R {n : Int} : (tyInt k).R h v n ↔ v = .int k n := Iff.rfl
theorem tyInt_O {n : Int} : (tyInt k).O h v n ↔ v = .int k n := Iff.rfl
theorem tyBool_R {n : Bool} : tyBool.R h v n ↔ v = .bool n := Iff.rfl
theorem tyBool_O {n : Bool} : tyBool.O h v n ↔ v = .bool n := Iff.rfl
theorem tyNil_R {n : Unit} : tyNil.R h ws n ↔ ws = [] := Iff.rfl
theorem tyNil_O {n : Unit} : tyNil.O h ws n ↔ ws = [] := Iff.rfl
end
end Go.Eng
