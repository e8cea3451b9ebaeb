import Derived.Test.YteaonnfokkfnlaaDoorKTrie
import Derived.Test.YteaonnfokkfnlaaDoorKCodes3
import Derived.Test.YteaonnfokkfnlaaDoorTrHN
set_option linter.unusedVariables false
set_option linter.unusedSimpArgs false
namespace Go.Proofs.YteaonnfokkfnlaaDoor
open Go Go.Eng Go.IntWalk
variable {S : Shared} {h : Eng.Heap}

def nres (r : Int × Int × Int) : Value := .agg #[.int .i64 r.1, .int .i64 r.2.1, .int .i64 r.2.2]

theorem Ec_len {cs : List (Nat × Nat)} {l v M : Nat} (hM : ∀ c ∈ cs, c.1 ≤ M) (h : Ec cs l v) : l < M := by
  obtain ⟨c, hc, h1, _⟩ := h
  have := hM c hc
  omega

theorem Em_succ {cs : List (Nat × Nat)} {s l v L β : Nat} (hs : cs[s]? = some (L, β)) : Em cs (s + 1) l v ↔ Em cs s l v ∨ (l < L ∧ β % 2 ^ l = v) := by
  constructor
  · rintro ⟨t, c, h1, h2, h3⟩
    by_cases h : t = s
    · subst h; rw [hs] at h2; have := Option.some.inj h2; subst this; exact .inr h3
    · exact .inl ⟨t, c, by omega, h2, h3⟩
  · rintro (⟨t, c, h1, h2, h3⟩ | h3)
    · exact ⟨t, c, by omega, h2, h3⟩
    · exact ⟨s, _, by omega, hs, h3⟩

end Go.Proofs.YteaonnfokkfnlaaDoor
