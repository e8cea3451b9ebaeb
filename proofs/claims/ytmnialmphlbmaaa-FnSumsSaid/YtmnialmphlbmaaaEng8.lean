import Derived.Test.YtmnialmphlbmaaaEng7
set_option linter.unusedVariables false
set_option linter.unusedSimpArgs false
/- Slices of one-cell values of whatever kind (slices of slices). -/
namespace Go.Eng
open Go

def HVals (h : Heap) (a : Option Addr) (vs : List Value) : Prop := ∀ (i : Nat) v, vs[i]? = some v → ∃ ad, a = some ad ∧ hcell h (ad.add i) = some v

def OwnL (h : Heap) (v : Value) (vs : List Value) : Prop :=
  ∃ b sp T, v = .slice (some ⟨b, 0, none⟩) vs.length (vs.length + sp.length) ∧ h b = some (.cells (vs ++ sp).toArray T)

theorem mkCells_one (n : Nat) (z : Value) : mkCells n (([z] : List Value).toArray) = (List.replicate n z).toArray := by
  apply Array.ext_getElem?
  intro i
  simp only [mkCells, Array.getElem?_map, List.getElem?_toArray, List.getElem?_replicate]
  by_cases hi : i < n
  · simp [hi, Nat.mod_one]
  · simp [hi]

theorem zeroCells_one (n : Nat) (z : Value) : Builtin.zeroCells ([z] : List Value).toArray n = (List.replicate n z).toArray := by
  have := mkCells_one n z
  unfold mkCells at this
  unfold Builtin.zeroCells
  simpa using this

theorem oneCell_sl {a : Option Addr} {l c : Nat} : oneCell (.slice a l c) := ⟨rfl, by simp, by simp⟩

section
variable {h h0 h' : Heap} {v : Value} {vs : List Value} {a : Option Addr}

theorem HVals.sub (H : HVals h a vs) (hs : Sub h h') : HVals h' a vs := fun i v hv => by
  obtain ⟨ad, e, h1⟩ := H i v hv
  exact ⟨ad, e, hcell_sub hs h1⟩

theorem HVals.cell (H : HVals h a vs) {i : Nat} {v : Value} (hp : vs[i]? = some v) : hcell h ((a.getD default).add i) = some v ∧ a.isSome = true := by
  obtain ⟨ad, rfl, h1⟩ := H i v hp; exact ⟨h1, rfl⟩

theorem HVals.of {b : Nat} {T : TypeId} {sp : List Value} (hb : h b = some (.cells (vs ++ sp).toArray T)) : HVals h (some ⟨b, 0, none⟩) vs := fun i v hv => by
  have hp2 : (vs ++ sp)[i]? = some v := by rw [List.getElem?_append_left (List.getElem?_eq_some_iff.1 hv).1]; exact hv
  exact ⟨_, rfl, by rw [addr0_add]; simp only [hcell, hb, List.getElem?_toArray]; exact hp2⟩

theorem OwnL.vals (H : OwnL h v vs) : ∃ a c, v = .slice a vs.length c ∧ vs.length ≤ c ∧ HVals h a vs := by
  obtain ⟨b, sp, T, rfl, hb⟩ := H
  exact ⟨_, _, rfl, by omega, HVals.of hb⟩

theorem OwnL.keep (H : OwnL h v vs) (hk : ∀ b, blkOf v = some b → h' b = h b) : OwnL h' v vs := by
  obtain ⟨b, sp, T, rfl, hb⟩ := H
  exact ⟨b, sp, T, rfl, by rw [hk b rfl]; exact hb⟩

theorem OwnL.held (H : OwnL h v vs) : ∀ b, blkOf v = some b → h b ≠ none := by
  obtain ⟨b, sp, T, rfl, hb⟩ := H
  intro b' hb'; cases hb'; rw [hb]; simp

theorem OwnL.made {b : Nat} {T : TypeId} (vs : List Value) : OwnL (upd h b (.cells vs.toArray T)) (.slice (some ⟨b, 0, none⟩) vs.length vs.length) vs :=
  ⟨b, [], T, by simp, by simp [upd]⟩

/-- APPEND one value to a slice of one's own. -/
theorem appW_ownL {S : Shared} {ty : TypeId} {byt : Nat} {a : Option Addr} {c : Nat} {u z : Value} {K : Value → Heap → Prop} (hi : Inv S h0) (hsub : Sub h0 h) (hs : OwnL h v vs) (hn : New h0 v) (hx : HVals h a [u]) (h1 : oneCell u)
    (hl : (vs.length + 1) * byt ≤ 140737488355328)
    (hK : ∀ v' h', OwnL h' v' (vs ++ [u]) → New h0 v' → Sub h0 h' → (∀ b, h b ≠ none → blkOf v ≠ some b → h' b = h b) → (blkOf v' = blkOf v ∨ New h v') → K v' h') :
    appW S ty 1 byt [z] v (.slice a 1 c) h K := by
  obtain ⟨b, sp, T, rfl, hb⟩ := hs
  have hb0 : h0 b = none := hn b rfl
  have hsb : ¬ S b := fun hs => hi b hs hb0
  obtain ⟨ad, rfl, g1⟩ := hx 0 u rfl
  refine ⟨[u], rfl, ⟨by simpa using g1, trivial⟩, fun v hv => by simp only [List.mem_singleton] at hv; subst hv; exact h1, fun hroom => ?_, fun hgrow => ?_⟩
  · simp only [slA, slL, slC] at hroom ⊢
    have e0 : (⟨b, 0, none⟩ : Addr).add (vs.length * 1) = ⟨b, vs.length, none⟩ := by rw [Nat.mul_one, addr0_add]
    rw [e0]
    refine storeW_vals hsb [u] 0 h (vs ++ sp) hb (by simp; omega) ?_
    have e1 : spliceV (vs ++ sp) (vs.length + 0) [u] = (vs ++ [u]) ++ sp.drop 1 := by
      simp [spliceV, List.drop_append, List.append_assoc]
    rw [e1]
    refine hK _ _ ⟨b, sp.drop 1, T, ?_, upd_same⟩ (New.of hb0) ?_ (fun x hx hne => upd_ne fun e => hne (by rw [e]; rfl)) (.inl rfl)
    · simp; omega
    · intro x o hx
      rw [upd_ne (fun e => by rw [e, hb0] at hx; cases hx)]; exact hsub x o hx
  · simp only [slA, slL, slC] at hgrow ⊢
    refine ⟨growslice_fits (by omega) hl, vs, by simp, cellsAre_of _ 0 fun j x hx => ?_, fun nc d hnc hd => ?_⟩
    · rw [addr0_add, Nat.zero_add]
      simp only [hcell, hb, List.getElem?_toArray]
      rw [List.getElem?_append_left (List.getElem?_eq_some_iff.1 hx).1]; exact hx
    · have hd0 : h0 d = none := by
        cases hh : h0 d with
        | none => rfl
        | some o => rw [hsub d o hh] at hd; cases hd
      have e1 : (vs.toArray ++ [u].toArray ++ Builtin.zeroCells ([z] : List Value).toArray (nc - (vs.length + 1))) = ((vs ++ [u]) ++ List.replicate (nc - (vs.length + 1)) z).toArray := by
        rw [zeroCells_one]; simp
      rw [e1]
      refine hK _ _ ⟨d, List.replicate (nc - (vs.length + 1)) z, ty, ?_, by simp [upd]⟩ (New.of hd0) ?_ (fun x hx hne => ?_) (.inr (New.of hd))
      · simp; omega
      · intro x o hx
        have : x ≠ d := fun e => by rw [e, hd0] at hx; cases hx
        rw [upd_ne this]; exact hsub x o hx
      · have : x ≠ d := fun e => hx (e ▸ hd)
        exact upd_ne this
end

theorem and_mask {y m : Int} (hm : 0 ≤ m ∧ m ≤ 2147483647) : 0 ≤ Go.bits .and .i64 y m ∧ Go.bits .and .i64 y m ≤ m := by
  obtain ⟨n, rfl⟩ := Int.eq_ofNat_of_zero_le hm.1
  have hn : n ≤ 2147483647 := by omega
  have h2 : (BitVec.ofInt 64 (n : Int)).toNat = n := by
    rw [BitVec.ofInt_natCast, BitVec.toNat_ofNat]; exact Nat.mod_eq_of_lt (by omega)
  show 0 ≤ IntKind.i64.wrap ((BitVec.ofInt 64 y &&& BitVec.ofInt 64 (n : Int)).toNat : Int) ∧ IntKind.i64.wrap ((BitVec.ofInt 64 y &&& BitVec.ofInt 64 (n : Int)).toNat : Int) ≤ n
  rw [BitVec.toNat_and, h2]
  have h3 : (BitVec.ofInt 64 y).toNat &&& n ≤ n := Nat.and_le_right
  rw [Go.IntWalk.i64_in _ (by omega)]
  omega
end Go.Eng
/- One number put into a part of a block. -/
namespace Go.Eng
open Go

theorem Part.put {S : Shared} {k : IntKind} {h : Heap} {v : Value} {xs : List Int} (H : Part k h v xs) (hs : ∀ b, blkOf v = some b → ¬ S b) {i : Nat} (hi : i < xs.length) (x : Int) {K : Heap → Prop}
    (hK : ∀ h', Part k h' v (xs.set i x) → (∀ b, blkOf v ≠ some b → h' b = h b) → K h') : storeW S (((slA v).getD default).add (i * 1)) 0 [.int k x] h K := by
  rcases H with ⟨rfl, rfl⟩ | ⟨b, pr, sp, re, T, rfl, hb⟩
  · simp at hi
  have hsb := hs b rfl
  rw [slA_sl, Option.getD_some, Nat.mul_one, addr_add]
  refine storeW_ints (T := T) (k := k) hsb [x] 0 h (pr ++ xs ++ sp ++ re) hb (by simp; omega) ?_
  refine hK _ (.inr ⟨b, pr, sp, re, T, by rw [List.length_set], ?_⟩) fun b' hb' => upd_ne fun e => hb' (by rw [e]; rfl)
  rw [upd_same]
  congr 3
  unfold splice
  have e1 : (pr ++ xs ++ sp ++ re).take (pr.length + i + 0) = pr ++ xs.take i := by
    rw [Nat.add_zero, List.append_assoc, List.append_assoc, List.take_length_add_append, List.take_append_of_le_length (by omega)]
  have e2 : (pr ++ xs ++ sp ++ re).drop (pr.length + i + 0 + [x].length) = xs.drop (i + 1) ++ sp ++ re := by
    rw [List.append_assoc, List.append_assoc, show pr.length + i + 0 + [x].length = pr.length + (i + 1) by simp; omega, List.drop_length_add_append, List.drop_append_of_le_length (by omega), List.append_assoc]
  rw [e1, e2, List.set_eq_take_append_cons_drop, if_pos hi]
  simp [List.append_assoc]

end Go.Eng
