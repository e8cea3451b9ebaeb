import Derived.Test.YtmnialmphlbmaaaKParts5
set_option linter.unusedVariables false
set_option linter.unusedSimpArgs false
namespace Go.Proofs.Ytmnialmphlbmaaa
open Go Go.Eng Go.IntWalk
variable {h : Eng.Heap}

theorem inv_sub {S : Shared} {h h' : Eng.Heap} (hi : Eng.Inv S h) (s : Eng.Sub h h') : Eng.Inv S h' := fun y hy => by
  cases e : h y with
  | none => exact absurd e (hi y hy)
  | some o => rw [s y o e]; simp
theorem sub_new {h : Eng.Heap} {b : Nat} {o : Obj} (hb : h b = none) : Eng.Sub h (upd h b o) := fun y u hu => by
  rw [upd_off (fun e => by rw [e, hb] at hu; cases hu)]; exact hu
theorem ints_new {h : Eng.Heap} {b : Nat} {xs : List Int} {T : TypeId} : HInts (upd h b (.cells (ints .u8 xs) T)) .u8 (some ⟨b, 0, none⟩) xs := fun i x hx => by
  refine ⟨_, rfl, ?_⟩
  rw [addr_add]
  simp only [hcell, upd_at, Nat.zero_add]
  simp [Eng.ints, hx]

end Go.Proofs.Ytmnialmphlbmaaa
