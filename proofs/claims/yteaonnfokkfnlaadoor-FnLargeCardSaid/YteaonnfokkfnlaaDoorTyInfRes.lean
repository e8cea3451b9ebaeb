import Derived.Test.YteaonnfokkfnlaaDoorTyB
import Derived.Test.YteaonnfokkfnlaaDoorEng2
import Derived.Test.YteaonnfokkfnlaaDoorChecked
import Derived.Test.YteaonnfokkfnlaaDoorNums
set_option linter.unusedVariables false
set_option linter.unusedSimpArgs false
namespace Go.Proofs.YteaonnfokkfnlaaDoor
open Go Go.Eng Go.IntWalk
abbrev XInfRes := Int × List Int × Int × Unit
def tInfRes : Ty Value XInfRes := tyAgg (tyCons (tyInt .i64) (tyCons tB (tyCons (tyInt .i64) (tyNil))))
theorem tInfRes_R {h : Eng.Heap} {v : Value} {x : XInfRes} (H : tInfRes.R h v x) : ∃ u1, v = .agg #[Value.int .i64 x.1, u1, Value.int .i64 x.2.2.1] ∧ tB.R h u1 x.2.1 := by
  obtain ⟨_, rfl, _, _, rfl, (rfl : _ = _), ⟨u1, _, rfl, H1, ⟨_, _, rfl, (rfl : _ = _), ⟨rfl⟩⟩⟩⟩ := H
  exact ⟨u1, rfl, H1⟩
theorem tInfRes_mkR {h : Eng.Heap} {x : XInfRes} {u1 : Value} (H1 : tB.R h u1 x.2.1) : tInfRes.R h (.agg #[Value.int .i64 x.1, u1, Value.int .i64 x.2.2.1]) x := by
  unfold tInfRes; simp only [tyAgg_R, tyCons_R, tyInt_R, tyBool_R, tyNil_R]; exact ⟨by first | rfl | trivial, H1, by first | rfl | trivial, by first | rfl | trivial⟩
theorem tInfRes_O {h : Eng.Heap} {v : Value} {x : XInfRes} (H : tInfRes.O h v x) : ∃ u1, v = .agg #[Value.int .i64 x.1, u1, Value.int .i64 x.2.2.1] ∧ tB.O h u1 x.2.1 := by
  obtain ⟨_, rfl, _, _, rfl, (rfl : _ = _), ⟨u1, _, rfl, H1, ⟨_, _, rfl, (rfl : _ = _), ⟨rfl⟩, d2⟩, d1⟩, d0⟩ := H
  exact ⟨u1, rfl, H1⟩
theorem tInfRes_mkO {h : Eng.Heap} {x : XInfRes} {u1 : Value} (H1 : tB.O h u1 x.2.1) : tInfRes.O h (.agg #[Value.int .i64 x.1, u1, Value.int .i64 x.2.2.1]) x := by
  unfold tInfRes; simp only [tyAgg_O, tyCons_O, tyInt_O, tyBool_O, tyNil_O, tyCons_B, tyNil_B, tyInt_B, tyBool_B, false_or, or_false, not_false_eq_true, implies_true, and_true, true_and, forall_false, false_implies]
  first | exact H1 | simp_all
theorem tInfRes_B {u1 : Value} {b : Nat} {x : XInfRes} : tInfRes.B (.agg #[Value.int .i64 x.1, u1, Value.int .i64 x.2.2.1]) b ↔ tB.B u1 b := by
  unfold tInfRes; simp only [tyAgg_B, tyCons_B, tyNil_B, tyInt_B, tyBool_B, false_or, or_false]
theorem tInfRes_F {h : Eng.Heap} {v : Value} {x : XInfRes} (H : tInfRes.R h v x) : ∃ a1 c1, v = .agg #[Value.int .i64 x.1, .slice a1 x.2.1.length c1, Value.int .i64 x.2.2.1] := by
  obtain ⟨u1, rfl, H1⟩ := tInfRes_R H
  obtain ⟨a1, c1, rfl, _⟩ := H1
  exact ⟨_, _, rfl⟩
theorem tInfRes_invR {h : Eng.Heap} {e0 e1 e2 : Value} {x : XInfRes} (H : tInfRes.R h (.agg #[e0, e1, e2]) x) : tB.R h e1 x.2.1 := by
  unfold tInfRes at H
  simp only [tyAgg_R, tyCons_R] at H
  exact H.2.1
theorem tInfRes_invO {h : Eng.Heap} {e0 e1 e2 : Value} {x : XInfRes} (H : tInfRes.O h (.agg #[e0, e1, e2]) x) : tB.O h e1 x.2.1 := by
  unfold tInfRes at H
  simp only [tyAgg_O, tyCons_O] at H
  exact H.2.1.1
variable {S : Shared} {h : Eng.Heap} {v w : Value} {x : XInfRes}
def smInfRes (x : XInfRes) : Prop := smB x.2.1
def cntInfRes (x : XInfRes) : Nat := cntB x.2.1
theorem cntInfRes_le {x : XInfRes} (H : smInfRes x) : cntInfRes x ≤ 1125899906842624 := by
  have h1 : x.2.1.length ≤ 1099511627776 := H
  show x.2.1.length ≤ _
  omega
def mkInfRes (k : Int) (x : XInfRes) : XInfRes := (x.1, mkB k x.2.1, x.2.2.1, ())

end Go.Proofs.YteaonnfokkfnlaaDoor
