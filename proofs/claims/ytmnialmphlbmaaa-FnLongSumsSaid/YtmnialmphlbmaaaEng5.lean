import Derived.Test.YtmnialmphlbmaaaEng4
set_option linter.unusedVariables false
set_option linter.unusedSimpArgs false
/- A ring of bytes in a block: size, data, the next place, how many there are. -/
namespace Go.Eng
open Go

/-- The last n, or all. -/
def lastN (n : Nat) (L : List Int) : List Int := L.drop (L.length - n)
theorem lastN_len {n : Nat} {L : List Int} : (lastN n L).length = min L.length n := by unfold lastN; rw [List.length_drop]; omega
theorem lastN_le {n : Nat} {L : List Int} (h : L.length ≤ n) : lastN n L = L := by unfold lastN; rw [show L.length - n = 0 by omega, List.drop_zero]
theorem lastN_app {n : Nat} {K L : List Int} : lastN n (lastN n K ++ L) = lastN n (K ++ L) := by
  unfold lastN
  rw [List.length_append, List.length_append, List.length_drop]
  by_cases h : K.length ≤ n
  · rw [show K.length - n = 0 by omega, List.drop_zero, Nat.sub_zero]
  · have e : (K.drop (K.length - n) ++ L) = (K ++ L).drop (K.length - n) := by rw [List.drop_append_of_le_length (by omega)]
    rw [e, List.drop_drop]
    congr 1
    omega
theorem lastN_idem {n : Nat} {K : List Int} : lastN n (lastN n K) = lastN n K := by
  have := lastN_app (n := n) (K := K) (L := []); simpa using this
theorem lastN_drop {n m : Nat} {K L : List Int} (hm : m ≤ L.length - n) : lastN n (K ++ L.drop m) = lastN n (K ++ L) := by
  unfold lastN
  rw [List.length_append, List.length_append, List.length_drop]
  by_cases h : m = 0
  · subst h; simp
  · have hmn : m + n ≤ L.length := by omega
    have e1 : K.length + (L.length - m) - n = K.length + (L.length - m - n) := by omega
    have e2 : K.length + L.length - n = K.length + (L.length - n) := by omega
    rw [e1, e2, List.drop_length_add_append, List.drop_length_add_append, List.drop_drop]
    congr 1
    omega

def ringObj (sz : Int) (d : List Int) (at_ n : Int) (T : TypeId) : Obj := .cells (Value.int .i64 sz :: (d.map (Value.int .u8) ++ [.int .i64 at_, .int .i64 n])).toArray T

theorem mod2 {x s : Nat} (h : x < 2 * s) : x % s = if x < s then x else x - s := by
  split
  · exact Nat.mod_eq_of_lt ‹_›
  · rw [Nat.mod_eq_sub_mod (by omega)]; exact Nat.mod_eq_of_lt (by omega)

/-- What a ring's fields say of the bytes K that it holds, in order. -/
structure RingS (sz : Nat) (d : List Int) (at_ n : Nat) (K : List Int) : Prop where
  dl : d.length = 32768
  s1 : 1 ≤ sz
  s2 : sz ≤ 32768
  a1 : at_ < sz
  kn : K.length = n
  n1 : n ≤ sz
  rd : ∀ j, j < n → d[(at_ + sz - n + j) % sz]? = K[j]?

theorem RingS.new {sz : Nat} (h1 : 1 ≤ sz) (h2 : sz ≤ 32768) : RingS sz (List.replicate 32768 0) 0 0 [] :=
  ⟨by rw [List.length_replicate], h1, h2, by omega, rfl, by omega, fun j hj => by omega⟩

theorem RingS.push {sz : Nat} {d : List Int} {at_ n : Nat} {K : List Int} (R : RingS sz d at_ n K) (c : Int) :
    RingS sz (d.set at_ c) ((at_ + 1) % sz) (min (n + 1) sz) (lastN sz (K ++ [c])) := by
  obtain ⟨dl, s1, s2, a1, kn, n1, rd⟩ := R
  refine ⟨by rw [List.length_set]; exact dl, s1, s2, Nat.mod_lt _ (by omega), by rw [lastN_len]; simp [kn], by omega, fun j hj => ?_⟩
  have e0 : (at_ + 1) % sz = if at_ + 1 < sz then at_ + 1 else 0 := by
    rw [mod2 (by omega)]; split <;> omega
  rw [e0]
  have pos : ∀ y, (if at_ + 1 < sz then at_ + 1 else 0) + sz - min (n + 1) sz + j = y → y < 2 * sz := by intro y hy; split at hy <;> omega
  rw [mod2 (pos _ rfl)]
  unfold lastN
  rw [List.getElem?_drop, List.length_append, kn, List.length_singleton]
  by_cases hl : j + 1 = min (n + 1) sz
  · -- the new one
    have e1 : (if (if at_ + 1 < sz then at_ + 1 else 0) + sz - min (n + 1) sz + j < sz then (if at_ + 1 < sz then at_ + 1 else 0) + sz - min (n + 1) sz + j else (if at_ + 1 < sz then at_ + 1 else 0) + sz - min (n + 1) sz + j - sz) = at_ := by
      split <;> split <;> omega
    rw [e1, List.getElem?_set_self (by omega)]
    rw [List.getElem?_append_right (by omega)]
    have e2 : n + 1 - sz + j - K.length = 0 := by omega
    rw [e2]; rfl
  · have hj2 : n + 1 - sz + j < n := by omega
    have h := rd (n + 1 - sz + j) hj2
    rw [mod2 (by omega)] at h
    rw [List.getElem?_append_left (by omega), ← h]
    have e1 : (if (if at_ + 1 < sz then at_ + 1 else 0) + sz - min (n + 1) sz + j < sz then (if at_ + 1 < sz then at_ + 1 else 0) + sz - min (n + 1) sz + j else (if at_ + 1 < sz then at_ + 1 else 0) + sz - min (n + 1) sz + j - sz) = (if at_ + sz - n + (n + 1 - sz + j) < sz then at_ + sz - n + (n + 1 - sz + j) else at_ + sz - n + (n + 1 - sz + j) - sz) := by
      split <;> split <;> split <;> omega
    rw [e1, List.getElem?_set_ne]
    split <;> omega

section
variable {h : Heap} {S : Shared} {b : Nat} {sz at_ n : Int} {d : List Int} {T : TypeId}

theorem ring_sz (hb : h b = some (ringObj sz d at_ n T)) : hcell h ⟨b, 0, none⟩ = some (.int .i64 sz) := by simp [hcell, hb, ringObj]
theorem ring_d (hb : h b = some (ringObj sz d at_ n T)) {i : Nat} {x : Int} (hx : d[i]? = some x) : hcell h ⟨b, 1 + i, none⟩ = some (.int .u8 x) := by
  have hi := (List.getElem?_eq_some_iff.1 hx).1
  simp only [hcell, hb, ringObj, List.getElem?_toArray]
  rw [Nat.add_comm, List.getElem?_cons_succ, List.getElem?_append_left (by simpa using hi), List.getElem?_map, hx]
  rfl
theorem ring_at (hb : h b = some (ringObj sz d at_ n T)) (hd : d.length = 32768) : hcell h ⟨b, 32769, none⟩ = some (.int .i64 at_) := by
  simp only [hcell, hb, ringObj, List.getElem?_toArray]
  rw [show (32769 : Nat) = 32768 + 1 by rfl, List.getElem?_cons_succ, List.getElem?_append_right (by simp [hd])]
  simp [hd]
theorem ring_n (hb : h b = some (ringObj sz d at_ n T)) (hd : d.length = 32768) : hcell h ⟨b, 32770, none⟩ = some (.int .i64 n) := by
  simp only [hcell, hb, ringObj, List.getElem?_toArray]
  rw [show (32770 : Nat) = 32769 + 1 by rfl, List.getElem?_cons_succ, List.getElem?_append_right (by simp [hd])]
  simp [hd]
theorem ring_ok (hb : h b = some (ringObj sz d at_ n T)) (hs : ¬ S b) {i : Nat} {v : Value} (hc : hcell h ⟨b, i, none⟩ = some v) : okCell S h ⟨b, i, none⟩ :=
  ⟨⟨v, hc⟩, by simp [hfrozen, hb, ringObj], hs⟩

theorem hset_cells {c : Array Value} (hb : h b = some (.cells c T)) (i : Nat) (v : Value) : hset h ⟨b, i, none⟩ v = upd h b (.cells (c.setIfInBounds i v) T) := by
  funext x; unfold hset upd; by_cases hx : x = b <;> simp [hx, hb]

theorem ring_setd (hb : h b = some (ringObj sz d at_ n T)) {i : Nat} (hi : i < d.length) (x : Int) : hset h ⟨b, 1 + i, none⟩ (.int .u8 x) = upd h b (ringObj sz (d.set i x) at_ n T) := by
  rw [hset_cells hb]
  unfold ringObj
  rw [List.setIfInBounds_toArray, Nat.add_comm, List.set_cons_succ, List.set_append_left _ _ (by simpa using hi), List.map_set]
theorem ring_setat (hb : h b = some (ringObj sz d at_ n T)) (hd : d.length = 32768) (x : Int) : hset h ⟨b, 32769, none⟩ (.int .i64 x) = upd h b (ringObj sz d x n T) := by
  rw [hset_cells hb]
  unfold ringObj
  rw [List.setIfInBounds_toArray, show (32769 : Nat) = 32768 + 1 by rfl, List.set_cons_succ, List.set_append_right _ _ (by simp [hd])]
  simp [hd]
theorem ring_setn (hb : h b = some (ringObj sz d at_ n T)) (hd : d.length = 32768) (x : Int) : hset h ⟨b, 32770, none⟩ (.int .i64 x) = upd h b (ringObj sz d at_ x T) := by
  rw [hset_cells hb]
  unfold ringObj
  rw [List.setIfInBounds_toArray, show (32770 : Nat) = 32769 + 1 by rfl, List.set_cons_succ, List.set_append_right _ _ (by simp [hd])]
  simp [hd]
theorem ring_made (sz : Int) (T : TypeId) : Obj.cells (Value.int .i64 sz :: (List.replicate 32768 (Value.int .u8 0) ++ List.replicate 2 (Value.int .i64 0))).toArray T = ringObj sz (List.replicate 32768 0) 0 0 T := by
  unfold ringObj; rw [List.map_replicate]; rfl
/-- A piece of the ring's bytes, as a slice of the array reads. -/
theorem ring_ints (hb : h b = some (ringObj sz d at_ n T)) {o : Nat} {ys : List Int} (hy : ∀ i x, ys[i]? = some x → d[o + i]? = some x) : HInts h .u8 (some ⟨b, 1 + o, none⟩) ys := fun i x hx =>
  ⟨_, rfl, by rw [addr_add, Nat.add_assoc]; exact ring_d hb (hy i x hx)⟩
end
end Go.Eng
