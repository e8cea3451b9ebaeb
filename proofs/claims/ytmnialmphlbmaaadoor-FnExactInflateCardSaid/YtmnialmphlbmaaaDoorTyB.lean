import Derived.Test.YtmnialmphlbmaaaDoorKMarksP
set_option linter.unusedVariables false
set_option linter.unusedSimpArgs false
namespace Go.Proofs.YtmnialmphlbmaaaDoor
open Go Go.Eng Go.IntWalk
variable {S : Shared} {h : Eng.Heap} {v w : Value} {xs : List Int}

abbrev tB : Ty Value (List Int) := tySl .u8
def mkB (k : Int) (xs : List Int) : List Int := marks k xs.length
theorem mkB_len {k : Int} {xs : List Int} : (mkB k xs).length = xs.length := marks_len _ _

def smB (xs : List Int) : Prop := xs.length ≤ 1099511627776
def limB (xs : List Int) : Prop := xs.length ≤ 1048576
theorem limB_sm {xs : List Int} (H : limB xs) : smB xs := Nat.le_trans H (by decide)
def cntB (xs : List Int) : Nat := xs.length
theorem cntB_le {xs : List Int} (H : smB xs) : cntB xs ≤ 1125899906842 := Nat.le_trans H (by decide)
theorem tB_F {h : Eng.Heap} {v : Value} {xs : List Int} (H : tB.R h v xs) : ∃ a c, v = .slice a xs.length c := by obtain ⟨a, c, rfl, _⟩ := H; exact ⟨a, c, rfl⟩
theorem tB_form (H : tB.R h v xs) : ∃ a c, v = .slice a xs.length c := by obtain ⟨a, c, rfl, _⟩ := H; exact ⟨a, c, rfl⟩

theorem c_toB (hi : Eng.Inv S h) (H : tB.R h v xs) (hl : smB xs) :
    CallsH Tryd.prog S F_laws_toByteS #[v] h (fun u h' => tB.O h' u xs ∧ tB.New h u ∧ Eng.Sub h h') := by
  obtain ⟨a, c, rfl, hx⟩ := H
  refine (k_toByteS hi a c xs hx (Nat.le_trans hl (by decide))).mono ?_
  rintro _ _ ⟨b, T, hb, rfl, rfl⟩
  exact ⟨(Own.made xs).part, Eng.New.of hb, Sub.of_upd hb⟩

theorem c_eqB (hi : Eng.Inv S h) (H : tB.R h v xs) (H2 : tB.R h w xs) (hl : smB xs) :
    CallsH Tryd.prog S F_laws_eqByteS #[v, w] h (fun u h' => u = .bool true ∧ h' = h) := by
  obtain ⟨a, c, rfl, hx⟩ := H
  obtain ⟨a2, c2, rfl, hx2⟩ := H2
  refine (k_eqByteS hi a a2 c c2 xs xs hx hx2 (Nat.le_trans hl (by decide))).mono ?_
  rintro _ _ ⟨rfl, rfl⟩
  exact ⟨by simp, rfl⟩

theorem c_markB (hi : Eng.Inv S h) (H : tB.O h v xs) (hb : ∀ b, tB.B v b → ¬ S b) (k : Int) (k0 : 0 ≤ k) (k1 : k ≤ 1125899906842624) (hl : smB xs) :
    CallsH Tryd.prog S F_laws_markByteS #[v, .int .i64 k] h (fun u h' => u = .int .i64 (k + cntB xs) ∧ tB.O h' v (mkB k xs) ∧ ∀ b, ¬ tB.B v b → h' b = h b) :=
  k_markByteP hi H hb k k0 (by omega) (Nat.le_trans hl (by decide))

theorem c_heldB (hi : Eng.Inv S h) (k : Int) (H : tB.R h v (mkB k xs)) (k0 : 0 ≤ k) (k1 : k ≤ 1125899906842624) (hl : smB xs) :
    CallsH Tryd.prog S F_laws_heldByteS #[v, .int .i64 k] h (fun u h' => u = .int .i64 (k + cntB xs) ∧ h' = h) := by
  obtain ⟨a, c, rfl, hx⟩ := H
  rw [mkB_len]
  exact k_heldByteS hi a c k xs.length hx k0 (by omega) (Nat.le_trans hl (by decide))
end Go.Proofs.YtmnialmphlbmaaaDoor
