import Derived.Test.YteaonnfokkfnlaaDoorKRdL
import Derived.Test.YteaonnfokkfnlaaDoorEng2
import Derived.Test.YteaonnfokkfnlaaDoorChecked
import Derived.Test.YteaonnfokkfnlaaDoorNums
set_option linter.unusedVariables false
set_option linter.unusedSimpArgs false
namespace Go.Proofs.YteaonnfokkfnlaaDoor
open Go Go.Eng Go.IntWalk
variable {S : Shared} {h : Eng.Heap}

theorem ord_lt : ∀ k, k < 19 → ord.getD k 0 < 19 := by decide
theorem ord_get {k : Nat} (h : k < 19) : (ord.map Int.ofNat)[k]? = some ((ord.getD k 0 : Nat) : Int) := by
  have hl : ord.length = 19 := rfl
  rw [List.getElem?_map, List.getElem?_eq_getElem (by omega)]
  simp [List.getD, List.getElem?_eq_getElem (show k < ord.length by omega)]

/-- The codes of good lengths, as they lie in memory. -/
theorem codes_at {h' : Eng.Heap} {v : Value} {xs : List Int} (O : OwnP h' v (ans_HuffCodes xs)) (hg : ¬ (hkind xs = 0 ∨ hkind xs = 2)) : ∃ a c, v = .slice a xs.length c ∧ CodesAt h' a xs.length (codesN xs) := by
  obtain ⟨hlen, hok⟩ := hkind_ok hg
  simp only [ans_HuffCodes, if_neg hg] at O
  obtain ⟨a, c, rfl, _, hx⟩ := OwnP.pairs O
  rw [codesOf_len]
  exact ⟨a, c, rfl, ⟨codesOf xs, hx, codesOf_len, by rw [codesN_len, codesOf_len], fun j p hp => codesOf_cast hok hp⟩, codes_uniq hg, by omega⟩

/-- The reference's end: what it hands back. -/
def PostL (h : Eng.Heap) (a : Option Addr) (c : Nat) (bs : List Int) (F : Rd × List Int × List Int) (v : Value) (h' : Eng.Heap) : Prop :=
  ∃ u w, v = .tuple #[rdV a c bs F.1, u, w] ∧ (F.1.k = 0 → Part .i64 h' u F.2.1 ∧ Part .i64 h' w F.2.2 ∧ Eng.New h u ∧ Eng.New h w) ∧ (∃ a1 l1 c1 a2 l2 c2, u = .slice a1 l1 c1 ∧ w = .slice a2 l2 c2) ∧ Eng.Sub h h'

/-- The end of the lengths. -/
def endL (nl : Nat) (r : Rd) (all : List Int) : Rd × List Int × List Int := if r.k = 0 then (bd (badL (all.take nl) (all.drop nl)) r, all.take nl, all.drop nl) else (r, [], [])

theorem getD_take {all : List Int} {nl : Nat} (h : 256 < nl) : (all.take nl).getD 256 0 = all.getD 256 0 := by
  simp [List.getD, List.getElem?_take, h]

end Go.Proofs.YteaonnfokkfnlaaDoor
