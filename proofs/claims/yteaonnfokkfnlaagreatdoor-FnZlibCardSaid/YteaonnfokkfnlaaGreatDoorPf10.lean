import Derived.Conc.WgGenN3
import Derived.Conc.WgWords
import Derived.Conc.DeferLaws
import Derived.Test.YteaonnfokkfnlaaGreatDoorChecked
import Derived.Conc.LeavingOf
import Derived.SevenTiedAt
import Derived.IntWalk
import Derived.Test.YteaonnfokkfnlaaGreatDoorPf3
import Derived.Test.YteaonnfokkfnlaaGreatDoorPf4
import Derived.Test.YteaonnfokkfnlaaGreatDoorPf5
import Derived.Test.YteaonnfokkfnlaaGreatDoorPf6
import Derived.Test.YteaonnfokkfnlaaGreatDoorPf7
import Derived.Test.YteaonnfokkfnlaaGreatDoorPf8
import Derived.Test.YteaonnfokkfnlaaGreatDoorPf9
set_option maxRecDepth 100000
set_option maxHeartbeats 8000000
set_option linter.unusedVariables false
set_option linter.unusedSimpArgs false
set_option linter.unusedSectionVars false
section
namespace Go.Eng
open Go Go.Conc Go.RowKit Go.Conc.Lib Go.ConcR.Gen Go.ConcN.Gen
open Go.ConcN hiding upd upd_same upd_ne AtD4 AtD3 AtD2 AtD1 AtK1 AtR0 AtAcq AtKe AtW4 AtW3 AtW2 AtW1 AtKd WSit AtA1
open Go.ConcR (KK wgBlock WgAt stA smA rd wr DC0 Payload)
section
variable [Payload] {P : Program} {L : WgLink} {Φ : Ph} {cs : List Frame} {qt : Nat}
theorem jl {w w₁ : World} (_ : Φ.J w) (h : Φ.J w₁) : Φ.J w₁ := h
theorem J.cell0 {w : World} (h : Φ.J w) : ∃ v, w.cell? ⟨Φ.Wg, 0, none⟩ = some v := WgLive.cell0 h.1
theorem J.cell1 {w : World} (h : Φ.J w) : ∃ v, w.cell? ⟨Φ.Wg, 1, none⟩ = some v := WgLive.cell1 h.1
variable {b₀ : Frame} {a₀ : Act} {ops₀ : Array Oper} {i₀ : Nat} {rest₀ : List Nat} {k₀ : List Item}
theorem J.setSt (hCW : Φ.C ≠ Φ.Wg) {w : World} (h : Φ.J w) {st sm : Int} (hw : WgAt Φ.ty Φ.Wg w st sm) (v : Int) : Φ.J (w.setCell (stA Φ.Wg) (.int .u64 v)) := by
 obtain ⟨cs, h1, h2⟩ := h.2
 exact ⟨⟨v, sm, hw.setSt v⟩, cs, ((aside_setCell w (stA Φ.Wg) _).block _ hCW).trans h1, h2⟩
theorem J.setSm (hCW : Φ.C ≠ Φ.Wg) {w : World} (h : Φ.J w) {st sm : Int} (hw : WgAt Φ.ty Φ.Wg w st sm) (v : Int) : Φ.J (w.setCell (smA Φ.Wg) (.int .u32 v)) := by
 obtain ⟨cs, h1, h2⟩ := h.2
 exact ⟨⟨st, v, hw.setSm v⟩, cs, ((aside_setCell w (smA Φ.Wg) _).block _ hCW).trans h1, h2⟩
theorem Ry (H : WgLib P L) (hCW : Φ.C ≠ Φ.Wg) {Nx : Frame → List Frame → Prop} (hN : Nx (b₀.at (a₀.put ((ops₀[i₀]?).bind (·.dst)) (.tuple #[])) (.inRegion ops₀ rest₀ :: k₀)) cs) (w : World) (hK : Φ.J w) :
  Goes P true (fun _ w₁ => Φ.J w₁) DC0 (Hm P Φ Nx) 100
   (G ((base L.add).at ⟨#[.pointer (some ⟨Φ.Wg, 0, none⟩), .int .i64 1, undef, undef, undef, undef, undef, undef, undef, undef, undef, undef, undef, undef, undef, undef, undef, undef, undef, undef, undef, undef, undef, undef, undef, undef, undef, undef, undef, undef, undef, undef, undef, undef, undef, undef, undef, undef, undef, undef, undef, undef, undef, undef, undef, undef, undef, undef, undef, undef, undef, undef, undef, undef, undef, undef, undef, undef, undef, undef, undef, undef, undef, undef, undef, undef, undef, undef, undef, undef, undef, undef, undef, undef, undef, undef, undef, undef, undef, undef, undef, undef, undef, undef, undef, undef, undef, undef, undef, undef, undef, undef, undef, undef, undef, undef, undef, undef, undef, undef, undef, undef, undef, undef, undef, undef, undef, undef, undef, undef, undef, undef, undef, undef, undef, undef, undef], []⟩ [.code (body_add L)]) (b₀.at a₀ (.inRegion ops₀ (i₀ :: rest₀) :: k₀) :: cs)) w := by
 lib_facts
 simp only [body_add, addFn, Option.getD_some]
 u_c stepG_seq jl hK
 u_cond true jl hK
 u_c stepG_seq jl hK
 u_c stepG_seq jl hK
 u_reg jl hK
 u_op jl hK
 u_op jl hK
 u_c stepG_region_end jl hK
 u_cond false jl hK
 u_c stepG_skip jl hK
 u_c stepG_seq jl hK
 u_reg jl hK
 refine Goes.stop (fun w₁ h₁ => ?_)
 replace hK := jl hK h₁
 clear h₁
 refine ⟨rfl, _, stepG_mark0 .disable (by simp) rfl rfl (by k_ne) rfl H.f_disable (x_disable_n L) (x_disable_b L) (x_disable_x L) (x_disable_f L), 100, Sil.of (w := w₁) ?_⟩
 walk_nrm
 u_c stepG_region_end jl hK
 u_reg jl hK
 u_defer jl hK
 u_c stepG_region_end jl hK
 u_c stepG_seq jl hK
 u_reg jl hK
 u_op jl hK
 u_c stepG_region_end jl hK
 u_c stepG_seq jl hK
 u_c stepG_seq jl hK
 u_reg jl hK
 u_bub jl hK
 u_c stepG_region_end jl hK
 u_cond false jl hK
 u_c stepG_skip jl hK
 u_c stepG_seq jl hK
 u_reg jl hK
 u_op jl hK
 u_op jl hK
 u_op jl hK
 u_op jl hK
 u_op jl hK
 u_op jl hK
 u_call H.f_uAdd (nm_uAdd L) uAddFn jl hK
 u_c stepG_seq jl hK
 u_reg jl hK
 u_op jl hK
 u_c stepG_region_end jl hK
 u_c stepG_seq jl hK
 u_reg jl hK
 u_op jl hK
 u_op jl hK
 u_op jl hK
 u_op jl hK
 refine Goes.stop (fun w₁ h₁ => ?_)
 replace hK := jl hK h₁
 clear h₁
 refine ⟨rfl, fun v hv hw => ?_⟩
 have e0 : IntKind.u64.wrap ((v : Int) * KK + 4294967296) = ((v : Int) + 1) * KK := by rw [IntKind.wrap_u64]; simp only [KK]; omega
 refine ⟨_, (stepG_add_atomic rfl rfl (by k_ne) rfl H.f_addU64 (x_addU64_n L) (x_addU64_b L) (x_addU64_x L) .u64 (x_addU64_f L) rfl rfl hw.cellSt (hw.thaw 0)).trans (by rw [e0]; rfl), fun hv0 => ⟨200, ?_⟩, fun hv0 => ⟨200, ?_⟩⟩
 ·subst hv0
  replace hK := J.setSt hCW hK hw ((((0 : Nat) : Int) + 1) * KK)
  refine Sil.of (w := w₁.setCell (stA Φ.Wg) (.int .u64 ((((0 : Nat) : Int) + 1) * KK))) ?_
  generalize w₁.setCell (stA Φ.Wg) (.int .u64 ((((0 : Nat) : Int) + 1) * KK)) = w₂ at hK
  clear hw
  have z : (((0 : Nat) : Int) + 1) * KK = 4294967296 := by simp [KK]
  rw [z]
  walk_nrm
  u_op jl hK
  u_c stepG_region_end jl hK
  u_c stepG_ret' jl hK
  u_leave1 H.f_uAdd jl hK
  u_op jl hK
  u_c stepG_region_end jl hK
  u_c stepG_seq jl hK
  u_c stepG_seq jl hK
  u_reg jl hK
  u_op jl hK
  u_op jl hK
  u_op jl hK
  u_op jl hK
  u_skip jl hK
  u_skip jl hK
  u_op jl hK
  u_c stepG_region_end jl hK
  u_cond false jl hK
  u_c stepG_skip jl hK
  u_c stepG_seq jl hK
  u_reg jl hK
  u_op jl hK
  u_op jl hK
  u_op jl hK
  u_op jl hK
  u_c stepG_region_end jl hK
  u_c stepG_seq jl hK
  u_reg jl hK
  u_op jl hK
  u_op jl hK
  u_op jl hK
  u_op jl hK
  u_c stepG_region_end jl hK
  u_c stepG_seq jl hK
  u_c stepG_seq jl hK
  u_reg jl hK
  u_op jl hK
  u_op jl hK
  u_op jl hK
  u_op jl hK
  u_op jl hK
  u_op jl hK
  u_op jl hK
  u_op jl hK
  u_op jl hK
  u_op jl hK
  u_c stepG_region_end jl hK
  u_cond true jl hK
  u_reg jl hK
  u_op jl hK
  u_op jl hK
  u_op jl hK
  u_conv H.underlying_tPU32 H.room_tU32 (J.cell1 hK).choose_spec jl hK
  refine Goes.stop (fun w₁ h₁ => ?_)
  replace hK := jl hK h₁
  clear h₁
  refine ⟨rfl, _, stepG_markAt .read (by simp) rfl rfl (by k_ne) rfl H.f_raceRead (x_raceRead_n L) (x_raceRead_b L) (x_raceRead_x L) (x_raceRead_f L) (ad := ⟨Φ.Wg, 1, none⟩) (by simp [Act.eval]), 200, Sil.of (w := w₁) ?_⟩
  walk_nrm
  u_c stepG_region_end jl hK
  u_c stepG_seq jl hK
  u_c stepG_seq jl hK
  u_reg jl hK
  u_op jl hK
  u_op jl hK
  u_c stepG_region_end jl hK
  u_cond false jl hK
  u_c stepG_skip jl hK
  u_c stepG_seq jl hK
  u_c stepG_seq jl hK
  u_reg jl hK
  u_op jl hK
  u_op jl hK
  u_op jl hK
  u_skip jl hK
  u_skip jl hK
  u_op jl hK
  u_op jl hK
  u_skip jl hK
  u_skip jl hK
  u_skip jl hK
  u_skip jl hK
  u_op jl hK
  u_c stepG_region_end jl hK
  u_cond false jl hK
  u_c stepG_skip jl hK
  u_c stepG_seq jl hK
  u_c stepG_seq jl hK
  u_reg jl hK
  u_op jl hK
  u_op jl hK
  u_op jl hK
  u_skip jl hK
  u_skip jl hK
  u_op jl hK
  u_c stepG_region_end jl hK
  u_cond true jl hK
  u_c stepG_ret' jl hK
  refine Goes.stop (fun w₁ h₁ => ?_)
  replace hK := jl hK h₁
  clear h₁
  refine ⟨rfl, _, stepG_unwind_entry (v := .tuple #[]) (evs := #[Go.ConcR.mk .enable]) rfl H.f_enable (x_enable_n L) (x_enable_b L) (x_enable_x L) (x_enable_f L) (by simp [Extern.Race.none_]) (by simp [Go.ConcR.mk]) (by simp [Go.ConcR.mk]), 10, Sil.of (w := w₁) ?_⟩
  u_leave0 H.f_add jl hK
  exact Goes.stop fun _ _ => ⟨_, _, rfl, hN⟩
 ·replace hK := J.setSt hCW hK hw (((v : Int) + 1) * KK)
  refine Sil.of (w := w₁.setCell (stA Φ.Wg) (.int .u64 (((v : Int) + 1) * KK))) ?_
  generalize w₁.setCell (stA Φ.Wg) (.int .u64 (((v : Int) + 1) * KK)) = w₂ at hK
  clear hw e0
  obtain ⟨V, hV⟩ : ∃ V : Int, (v : Int) + 1 = V := ⟨_, rfl⟩
  obtain ⟨S, hS⟩ : ∃ S : Int, V * KK = S := ⟨_, rfl⟩
  have a1 : S / 4294967296 = V := by rw [← hS]; simp only [KK]; omega
  have b1 : bits .and .u64 S 2147483648 = 0 := by rw [← hS, ← hV]; have := st_flag (v + 1) 0 (by omega) (by omega); simpa [KK] using this
  have b2 : bits .and .u64 S 2147483647 = 0 := by rw [← hS, ← hV]; have := st_waiters (v + 1) 0 (by omega) (by omega); simpa [KK] using this
  have c1 : IntKind.i32.wrap V = V := by rw [IntKind.wrap_i32]; omega
  have q3 : decide (V < 0) = false := decide_eq_false (by omega)
  have q4 : decide (0 < V) = true := decide_eq_true (by omega)
  have q5 : (V == 1) = false := by simp; omega
  have q6 : decide (V = 1) = false := decide_eq_false (by omega)
  rw [hV, hS]
  walk_nrm
  u_op jl hK
  u_c stepG_region_end jl hK
  u_c stepG_ret' jl hK
  u_leave1 H.f_uAdd jl hK
  u_op jl hK
  u_c stepG_region_end jl hK
  u_c stepG_seq jl hK
  u_c stepG_seq jl hK
  u_reg jl hK
  u_op jl hK
  u_op jl hK
  u_op jl hK
  u_op jl hK
  u_skip jl hK
  u_skip jl hK
  u_op jl hK
  u_c stepG_region_end jl hK
  u_cnd false jl hK
  u_c stepG_skip jl hK
  u_c stepG_seq jl hK
  u_reg jl hK
  u_op jl hK
  u_op jl hK
  u_op jl hK
  u_op jl hK
  u_c stepG_region_end jl hK
  u_c stepG_seq jl hK
  u_reg jl hK
  u_op jl hK
  u_op jl hK
  u_op jl hK
  u_op jl hK
  u_c stepG_region_end jl hK
  u_c stepG_seq jl hK
  u_c stepG_seq jl hK
  u_reg jl hK
  u_op jl hK
  u_op jl hK
  u_op jl hK
  u_op jl hK
  u_op jl hK
  u_op jl hK
  u_op jl hK
  u_op jl hK
  u_op jl hK
  u_op jl hK
  u_c stepG_region_end jl hK
  u_cnd false jl hK
  u_c stepG_skip jl hK
  u_c stepG_seq jl hK
  u_c stepG_seq jl hK
  u_reg jl hK
  u_op jl hK
  u_op jl hK
  u_c stepG_region_end jl hK
  u_cnd false jl hK
  u_c stepG_skip jl hK
  u_c stepG_seq jl hK
  u_c stepG_seq jl hK
  u_reg jl hK
  u_op jl hK
  u_op jl hK
  u_op jl hK
  u_skip jl hK
  u_skip jl hK
  u_op jl hK
  u_op jl hK
  u_skip jl hK
  u_skip jl hK
  u_skip jl hK
  u_skip jl hK
  u_op jl hK
  u_c stepG_region_end jl hK
  u_cnd false jl hK
  u_c stepG_skip jl hK
  u_c stepG_seq jl hK
  u_c stepG_seq jl hK
  u_reg jl hK
  u_op jl hK
  u_op jl hK
  u_op jl hK
  u_skip jl hK
  u_skip jl hK
  u_op jl hK
  u_c stepG_region_end jl hK
  u_cnd true jl hK
  u_c stepG_ret' jl hK
  refine Goes.stop (fun w₁ h₁ => ?_)
  replace hK := jl hK h₁
  clear h₁
  refine ⟨rfl, _, stepG_unwind_entry (v := .tuple #[]) (evs := #[Go.ConcR.mk .enable]) rfl H.f_enable (x_enable_n L) (x_enable_b L) (x_enable_x L) (x_enable_f L) (by simp [Extern.Race.none_]) (by simp [Go.ConcR.mk]) (by simp [Go.ConcR.mk]), 10, Sil.of (w := w₁) ?_⟩
  u_leave0 H.f_add jl hK
  exact Goes.stop fun _ _ => ⟨_, _, rfl, hN⟩
end
end Go.Eng
namespace Go.Eng
open Go Go.Conc Go.RowKit Go.Conc.Lib Go.ConcR.Gen Go.ConcN.Gen
open Go.ConcN hiding upd upd_same upd_ne AtD4 AtD3 AtD2 AtD1 AtK1 AtR0 AtAcq AtKe AtW4 AtW3 AtW2 AtW1 AtKd WSit AtA1
open Go.ConcR (KK wgBlock WgAt stA smA rd wr DC0 Payload)
section
variable [Payload] {P : Program} {L : WgLink} {Φ : Ph} {cs : List Frame} {qt : Nat}
variable {b₀ : Frame} {a₀ : Act} {ops₀ : Array Oper} {i₀ : Nat} {rest₀ : List Nat} {k₀ : List Item}
theorem Rz (H : WgLib P L) (hCW : Φ.C ≠ Φ.Wg) (hT : QuitsD P qt 0 (G (b₀.at (a₀.put ((ops₀[i₀]?).bind (·.dst)) (.tuple #[])) (.inRegion ops₀ rest₀ :: k₀)) cs)) (w : World) (hK : Φ.J w) :
  Goes P false (fun _ w₁ => Φ.J w₁) DC0 (AtR0 P Φ) 100
   (G ((base L.add).at ⟨#[.pointer (some ⟨Φ.Wg, 0, none⟩), .int .i64 (-1), undef, undef, undef, undef, undef, undef, undef, undef, undef, undef, undef, undef, undef, undef, undef, undef, undef, undef, undef, undef, undef, undef, undef, undef, undef, undef, undef, undef, undef, undef, undef, undef, undef, undef, undef, undef, undef, undef, undef, undef, undef, undef, undef, undef, undef, undef, undef, undef, undef, undef, undef, undef, undef, undef, undef, undef, undef, undef, undef, undef, undef, undef, undef, undef, undef, undef, undef, undef, undef, undef, undef, undef, undef, undef, undef, undef, undef, undef, undef, undef, undef, undef, undef, undef, undef, undef, undef, undef, undef, undef, undef, undef, undef, undef, undef, undef, undef, undef, undef, undef, undef, undef, undef, undef, undef, undef, undef, undef, undef, undef, undef, undef, undef, undef, undef], []⟩ [.code (body_add L)]) (b₀.at a₀ (.inRegion ops₀ (i₀ :: rest₀) :: k₀) :: cs)) w := by
 lib_facts
 simp only [body_add, addFn, Option.getD_some]
 u_c stepG_seq jl hK
 u_cond true jl hK
 u_c stepG_seq jl hK
 u_c stepG_seq jl hK
 u_reg jl hK
 u_op jl hK
 u_op jl hK
 u_c stepG_region_end jl hK
 u_cond true jl hK
 u_reg jl hK
 u_op jl hK
 u_conv H.underlying_tWgP H.room_tWg (J.cell0 hK).choose_spec jl hK
 refine Goes.stop (fun w₁ h₁ => ?_)
 replace hK := jl hK h₁
 clear h₁
 refine ⟨rfl, _, stepG_markAt .releaseMerge (by simp) rfl rfl (by k_ne) rfl H.f_relMerge (x_relMerge_n L) (x_relMerge_b L) (x_relMerge_x L) (x_relMerge_f L) (by simp [Act.eval, stA]), 100, Sil.of (w := w₁) ?_⟩
 walk_nrm
 u_c stepG_region_end jl hK
 u_c stepG_seq jl hK
 u_reg jl hK
 refine Goes.stop (fun w₁ h₁ => ?_)
 replace hK := jl hK h₁
 clear h₁
 refine ⟨rfl, _, stepG_mark0 .disable (by simp) rfl rfl (by k_ne) rfl H.f_disable (x_disable_n L) (x_disable_b L) (x_disable_x L) (x_disable_f L), 100, Sil.of (w := w₁) ?_⟩
 walk_nrm
 u_c stepG_region_end jl hK
 u_reg jl hK
 u_defer jl hK
 u_c stepG_region_end jl hK
 u_c stepG_seq jl hK
 u_reg jl hK
 u_op jl hK
 u_c stepG_region_end jl hK
 u_c stepG_seq jl hK
 u_c stepG_seq jl hK
 u_reg jl hK
 u_bub jl hK
 u_c stepG_region_end jl hK
 u_cond false jl hK
 u_c stepG_skip jl hK
 u_c stepG_seq jl hK
 u_reg jl hK
 u_op jl hK
 u_op jl hK
 u_op jl hK
 u_op jl hK
 u_op jl hK
 u_op jl hK
 u_call H.f_uAdd (nm_uAdd L) uAddFn jl hK
 u_c stepG_seq jl hK
 u_reg jl hK
 u_op jl hK
 u_c stepG_region_end jl hK
 u_c stepG_seq jl hK
 u_reg jl hK
 u_op jl hK
 u_op jl hK
 u_op jl hK
 u_op jl hK
 refine Goes.stop (fun w₁ h₁ => ?_)
 replace hK := jl hK h₁
 clear h₁
 refine ⟨rfl, fun v wt hwt hv hw => ?_⟩
 have e0 : IntKind.u64.wrap (((v : Int) + 1) * KK + wt + 18446744069414584320) = (v : Int) * KK + wt := by rw [IntKind.wrap_u64]; simp only [KK]; omega
 refine ⟨_, (stepG_add_atomic rfl rfl (by k_ne) rfl H.f_addU64 (x_addU64_n L) (x_addU64_b L) (x_addU64_x L) .u64 (x_addU64_f L) rfl rfl hw.cellSt (hw.thaw 0)).trans (by rw [e0]; rfl), fun hl => ?_, fun hl => ?_⟩
 ·obtain ⟨rfl, rfl⟩ := hl
  have z : ((0 : Nat) : Int) * KK + ((1 : Nat) : Int) = 1 := by simp
  replace hK := J.setSt hCW hK hw (((0 : Nat) : Int) * KK + ((1 : Nat) : Int))
  refine ⟨200, Sil.of (w := w₁.setCell (stA Φ.Wg) (.int .u64 (((0 : Nat) : Int) * KK + ((1 : Nat) : Int)))) ?_⟩
  generalize w₁.setCell (stA Φ.Wg) (.int .u64 (((0 : Nat) : Int) * KK + ((1 : Nat) : Int))) = w₂ at hK
  clear hw e0
  rw [z]
  walk_nrm
  u_op jl hK
  u_c stepG_region_end jl hK
  u_c stepG_ret' jl hK
  u_leave1 H.f_uAdd jl hK
  u_op jl hK
  u_c stepG_region_end jl hK
  u_c stepG_seq jl hK
  u_c stepG_seq jl hK
  u_reg jl hK
  u_op jl hK
  u_op jl hK
  u_op jl hK
  u_op jl hK
  u_skip jl hK
  u_skip jl hK
  u_op jl hK
  u_c stepG_region_end jl hK
  u_cond false jl hK
  u_c stepG_skip jl hK
  u_c stepG_seq jl hK
  u_reg jl hK
  u_op jl hK
  u_op jl hK
  u_op jl hK
  u_op jl hK
  u_c stepG_region_end jl hK
  u_c stepG_seq jl hK
  u_reg jl hK
  u_op jl hK
  u_op jl hK
  u_op jl hK
  u_op jl hK
  u_c stepG_region_end jl hK
  u_c stepG_seq jl hK
  u_c stepG_seq jl hK
  u_reg jl hK
  u_op jl hK
  u_op jl hK
  u_op jl hK
  u_op jl hK
  u_op jl hK
  u_skip jl hK
  u_skip jl hK
  u_skip jl hK
  u_skip jl hK
  u_op jl hK
  u_c stepG_region_end jl hK
  u_cond false jl hK
  u_c stepG_skip jl hK
  u_c stepG_seq jl hK
  u_c stepG_seq jl hK
  u_reg jl hK
  u_op jl hK
  u_op jl hK
  u_c stepG_region_end jl hK
  u_cond false jl hK
  u_c stepG_skip jl hK
  u_c stepG_seq jl hK
  u_c stepG_seq jl hK
  u_reg jl hK
  u_op jl hK
  u_op jl hK
  u_op jl hK
  u_op jl hK
  u_op jl hK
  u_op jl hK
  u_op jl hK
  u_skip jl hK
  u_skip jl hK
  u_skip jl hK
  u_skip jl hK
  u_op jl hK
  u_c stepG_region_end jl hK
  u_cond false jl hK
  u_c stepG_skip jl hK
  u_c stepG_seq jl hK
  u_c stepG_seq jl hK
  u_reg jl hK
  u_op jl hK
  u_op jl hK
  u_op jl hK
  u_op jl hK
  u_op jl hK
  u_op jl hK
  u_c stepG_region_end jl hK
  u_cond false jl hK
  u_c stepG_skip jl hK
  u_c stepG_seq jl hK
  u_c stepG_seq jl hK
  u_reg jl hK
  u_op jl hK
  u_op jl hK
  u_op jl hK
  u_call H.f_uLoad (nm_uLoad L) uLoadFn jl hK
  u_c stepG_seq jl hK
  u_reg jl hK
  u_op jl hK
  u_c stepG_region_end jl hK
  u_c stepG_seq jl hK
  u_reg jl hK
  u_op jl hK
  u_op jl hK
  u_op jl hK
  refine Goes.stop (fun w₁ h₁ => ?_)
  replace hK := jl hK h₁
  clear h₁
  refine ⟨rfl, fun hw => ⟨_, stepG_load_atomic rfl rfl (by k_ne) rfl H.f_loadU64 (x_loadU64_n L) (x_loadU64_b L) (x_loadU64_x L) .u64 (x_loadU64_f L) rfl hw.cellSt, 200, Sil.of (w := w₁) ?_⟩⟩
  clear hw
  walk_nrm
  u_op jl hK
  u_c stepG_region_end jl hK
  u_c stepG_ret' jl hK
  u_leave1 H.f_uLoad jl hK
  u_op jl hK
  u_op jl hK
  u_c stepG_region_end jl hK
  u_cond false jl hK
  u_c stepG_skip jl hK
  u_c stepG_seq jl hK
  u_reg jl hK
  u_op jl hK
  u_op jl hK
  u_op jl hK
  u_call H.f_uStore (nm_uStore L) uStoreFn jl hK
  u_reg jl hK
  u_op jl hK
  u_op jl hK
  u_op jl hK
  u_op jl hK
  refine Goes.stop (fun w₁ h₁ => ?_)
  replace hK := jl hK h₁
  clear h₁
  refine ⟨rfl, fun hw => ⟨_, stepG_store_atomic rfl rfl (by k_ne) rfl H.f_storeU64 (x_storeU64_n L) (x_storeU64_b L) (x_storeU64_x L) (x_storeU64_f L) rfl rfl hw.cellSt (hw.thaw 0), 200, Sil.of (w := w₁.setCell (stA Φ.Wg) (.int .u64 0)) ?_⟩⟩
  replace hK := J.setSt hCW hK hw 0
  generalize w₁.setCell (stA Φ.Wg) (.int .u64 0) = w₂ at hK
  clear hw
  walk_nrm
  u_c stepG_region_end jl hK
  u_c stepG_end jl hK
  u_leave0 H.f_uStore jl hK
  u_c stepG_region_end jl hK
  u_c stepG_seq jl hK
  u_c stepG_seq jl hK
  u_reg jl hK
  u_op jl hK
  u_c stepG_region_end jl hK
  u_cond false jl hK
  u_c stepG_skip jl hK
  u_c stepG_block jl hK
  u_c stepG_loop jl hK
  u_c stepG_seq jl hK
  u_c stepG_seq jl hK
  u_reg jl hK
  u_op jl hK
  u_op jl hK
  u_c stepG_region_end jl hK
  u_cond true jl hK
  u_c stepG_skip jl hK
  u_c stepG_seq jl hK
  u_c stepG_block jl hK
  u_reg jl hK
  u_op jl hK
  u_op jl hK
  u_op jl hK
  refine Goes.stop (fun w₁ h₁ => ?_)
  replace hK := jl hK h₁
  clear h₁
  refine ⟨rfl, mayWake_entry rfl rfl H.f_semrelease (x_semrelease_b L), fun hw => ⟨_, (stepG_semrelease rfl rfl (by k_ne) rfl H.f_semrelease (x_semrelease_n L) (x_semrelease_b L) (x_semrelease_x L) (x_semrelease_f L) (by simp [Act.eval, smA]) hw.cellSm (hw.thaw 1)).trans (by rfl), qt + 19, ?_⟩⟩
  clear hw
  have q3 : True := trivial
  have q4 : True := trivial
  have q5 : True := trivial
  have c1 : True := trivial
  have c3 : IntKind.u32.wrap 0 = 0 := by decide
  have c4 : IntKind.u32.wrap 1 = 1 := by decide
  walk_nrm
  q_c stepG_region_end
  q_c stepG_inBlock
  q_reg
  (apply QuitsD.value; (case ho => rfl); (case hw => rfl); (case hk => k_ne); (case hr => intro w; go_simp; (try simp only [q3, q4, q5, c1, c3, c4]); first | rfl | (w_num; rfl)); (case he => intro w; simp [go_sem, *]); walk_nrm)
  (apply QuitsD.value; (case ho => rfl); (case hw => rfl); (case hk => k_ne); (case hr => intro w; go_simp; (try simp only [q3, q4, q5, c1, c3, c4]); first | rfl | (w_num; rfl)); (case he => intro w; simp [go_sem, *]); walk_nrm)
  (apply QuitsD.value; (case ho => rfl); (case hw => rfl); (case hk => k_ne); (case hr => intro w; go_simp; (try simp only [q3, q4, q5, c1, c3, c4]); first | rfl | (w_num; rfl)); (case he => intro w; simp [go_sem, *]); walk_nrm)
  q_c stepG_region_end
  q_c stepG_inLoop
  q_c stepG_seq
  q_c stepG_seq
  q_reg
  (apply QuitsD.value; (case ho => rfl); (case hw => rfl); (case hk => k_ne); (case hr => intro w; go_simp; (try simp only [q3, q4, q5, c1, c3, c4]); first | rfl | (w_num; rfl)); (case he => intro w; simp [go_sem, *]); walk_nrm)
  (apply QuitsD.value; (case ho => rfl); (case hw => rfl); (case hk => k_ne); (case hr => intro w; go_simp; (try simp only [q3, q4, q5, c1, c3, c4]); first | rfl | (w_num; rfl)); (case he => intro w; simp [go_sem, *]); walk_nrm)
  q_c stepG_region_end
  q_cond false
  q_exit
  q_c stepG_end
  q_enable
  q_leave0 H.f_add
  exact hT
 ·refine ⟨qt + 89, ?_⟩
  clear e0 hw hK
  obtain ⟨S, hS⟩ : ∃ S : Int, (v : Int) * KK + wt = S := ⟨_, rfl⟩
  have a1 : S / 4294967296 = (v : Int) := by rw [← hS]; simp only [KK]; omega
  have b1 : bits .and .u64 S 2147483648 = 0 := by rw [← hS]; have := st_flag v wt (by omega) (by omega); simpa [KK] using this
  have b2 : bits .and .u64 S 2147483647 = (wt : Int) := by rw [← hS]; have := st_waiters v wt (by omega) (by omega); simpa [KK] using this
  have c1 : IntKind.i32.wrap (v : Int) = (v : Int) := by rw [IntKind.wrap_i32]; omega
  have c2 : IntKind.u32.wrap (wt : Int) = (wt : Int) := by rw [IntKind.wrap_u32]; omega
  have q3 : decide ((v : Int) < 0) = false := decide_eq_false (by omega)
  rw [hS]
  have c3 : IntKind.u32.wrap 0 = 0 := by decide
  have c4 : IntKind.u32.wrap 1 = 1 := by decide
  have hcase : wt = 0 ∨ wt = 1 := by omega
  rcases hcase with rfl | rfl
  ·replace b2 : bits .and .u64 S 2147483647 = 0 := b2
   clear c2
   rcases Nat.eq_zero_or_pos v with rfl | hvp
   ·have z : S = 0 := by rw [← hS]; simp
    subst z
    have q4 : True := trivial
    have q5 : True := trivial
    simp only [Int.natCast_zero] at c1 q3 a1 b1 b2
    walk_nrm
    (apply QuitsD.value; (case ho => rfl); (case hw => rfl); (case hk => k_ne); (case hr => intro w; go_simp; (try simp only [q3, q4, q5, c1, c3, c4]); first | rfl | (w_num; rfl)); (case he => intro w; simp [go_sem, *]); walk_nrm)
    q_c stepG_region_end
    q_c stepG_ret'
    q_leave1 H.f_uAdd
    (apply QuitsD.value; (case ho => rfl); (case hw => rfl); (case hk => k_ne); (case hr => intro w; go_simp; (try simp only [q3, q4, q5, c1, c3, c4]); first | rfl | (w_num; rfl)); (case he => intro w; simp [go_sem, *]); walk_nrm)
    q_c stepG_region_end
    q_c stepG_seq
    q_c stepG_seq
    q_reg
    (apply QuitsD.value; (case ho => rfl); (case hw => rfl); (case hk => k_ne); (case hr => intro w; go_simp; (try simp only [q3, q4, q5, c1, c3, c4]); first | rfl | (w_num; rfl)); (case he => intro w; simp [go_sem, *]); walk_nrm)
    (apply QuitsD.value; (case ho => rfl); (case hw => rfl); (case hk => k_ne); (case hr => intro w; go_simp; (try simp only [q3, q4, q5, c1, c3, c4]); first | rfl | (w_num; rfl)); (case he => intro w; simp [go_sem, *]); walk_nrm)
    (apply QuitsD.value; (case ho => rfl); (case hw => rfl); (case hk => k_ne); (case hr => intro w; go_simp; (try simp only [q3, q4, q5, c1, c3, c4]); first | rfl | (w_num; rfl)); (case he => intro w; simp [go_sem, *]); walk_nrm)
    (apply QuitsD.value; (case ho => rfl); (case hw => rfl); (case hk => k_ne); (case hr => intro w; go_simp; (try simp only [q3, q4, q5, c1, c3, c4]); first | rfl | (w_num; rfl)); (case he => intro w; simp [go_sem, *]); walk_nrm)
    q_skip
    q_skip
    (apply QuitsD.value; (case ho => rfl); (case hw => rfl); (case hk => k_ne); (case hr => intro w; go_simp; (try simp only [q3, q4, q5, c1, c3, c4]); first | rfl | (w_num; rfl)); (case he => intro w; simp [go_sem, *]); walk_nrm)
    q_c stepG_region_end
    q_cond false
    q_c stepG_skip
    q_c stepG_seq
    q_reg
    (apply QuitsD.value; (case ho => rfl); (case hw => rfl); (case hk => k_ne); (case hr => intro w; go_simp; (try simp only [q3, q4, q5, c1, c3, c4]); first | rfl | (w_num; rfl)); (case he => intro w; simp [go_sem, *]); walk_nrm)
    (apply QuitsD.value; (case ho => rfl); (case hw => rfl); (case hk => k_ne); (case hr => intro w; go_simp; (try simp only [q3, q4, q5, c1, c3, c4]); first | rfl | (w_num; rfl)); (case he => intro w; simp [go_sem, *]); walk_nrm)
    (apply QuitsD.value; (case ho => rfl); (case hw => rfl); (case hk => k_ne); (case hr => intro w; go_simp; (try simp only [q3, q4, q5, c1, c3, c4]); first | rfl | (w_num; rfl)); (case he => intro w; simp [go_sem, *]); walk_nrm)
    (apply QuitsD.value; (case ho => rfl); (case hw => rfl); (case hk => k_ne); (case hr => intro w; go_simp; (try simp only [q3, q4, q5, c1, c3, c4]); first | rfl | (w_num; rfl)); (case he => intro w; simp [go_sem, *]); walk_nrm)
    q_c stepG_region_end
    q_c stepG_seq
    q_reg
    (apply QuitsD.value; (case ho => rfl); (case hw => rfl); (case hk => k_ne); (case hr => intro w; go_simp; (try simp only [q3, q4, q5, c1, c3, c4]); first | rfl | (w_num; rfl)); (case he => intro w; simp [go_sem, *]); walk_nrm)
    (apply QuitsD.value; (case ho => rfl); (case hw => rfl); (case hk => k_ne); (case hr => intro w; go_simp; (try simp only [q3, q4, q5, c1, c3, c4]); first | rfl | (w_num; rfl)); (case he => intro w; simp [go_sem, *]); walk_nrm)
    (apply QuitsD.value; (case ho => rfl); (case hw => rfl); (case hk => k_ne); (case hr => intro w; go_simp; (try simp only [q3, q4, q5, c1, c3, c4]); first | rfl | (w_num; rfl)); (case he => intro w; simp [go_sem, *]); walk_nrm)
    (apply QuitsD.value; (case ho => rfl); (case hw => rfl); (case hk => k_ne); (case hr => intro w; go_simp; (try simp only [q3, q4, q5, c1, c3, c4]); first | rfl | (w_num; rfl)); (case he => intro w; simp [go_sem, *]); walk_nrm)
    q_c stepG_region_end
    q_c stepG_seq
    q_c stepG_seq
    q_reg
    (apply QuitsD.value; (case ho => rfl); (case hw => rfl); (case hk => k_ne); (case hr => intro w; go_simp; (try simp only [q3, q4, q5, c1, c3, c4]); first | rfl | (w_num; rfl)); (case he => intro w; simp [go_sem, *]); walk_nrm)
    (apply QuitsD.value; (case ho => rfl); (case hw => rfl); (case hk => k_ne); (case hr => intro w; go_simp; (try simp only [q3, q4, q5, c1, c3, c4]); first | rfl | (w_num; rfl)); (case he => intro w; simp [go_sem, *]); walk_nrm)
    (apply QuitsD.value; (case ho => rfl); (case hw => rfl); (case hk => k_ne); (case hr => intro w; go_simp; (try simp only [q3, q4, q5, c1, c3, c4]); first | rfl | (w_num; rfl)); (case he => intro w; simp [go_sem, *]); walk_nrm)
    (apply QuitsD.value; (case ho => rfl); (case hw => rfl); (case hk => k_ne); (case hr => intro w; go_simp; (try simp only [q3, q4, q5, c1, c3, c4]); first | rfl | (w_num; rfl)); (case he => intro w; simp [go_sem, *]); walk_nrm)
    (apply QuitsD.value; (case ho => rfl); (case hw => rfl); (case hk => k_ne); (case hr => intro w; go_simp; (try simp only [q3, q4, q5, c1, c3, c4]); first | rfl | (w_num; rfl)); (case he => intro w; simp [go_sem, *]); walk_nrm)
    q_skip
    q_skip
    q_skip
    q_skip
    (apply QuitsD.value; (case ho => rfl); (case hw => rfl); (case hk => k_ne); (case hr => intro w; go_simp; (try simp only [q3, q4, q5, c1, c3, c4]); first | rfl | (w_num; rfl)); (case he => intro w; simp [go_sem, *]); walk_nrm)
    q_c stepG_region_end
    q_cond false
    q_c stepG_skip
    q_c stepG_seq
    q_c stepG_seq
    q_reg
    (apply QuitsD.value; (case ho => rfl); (case hw => rfl); (case hk => k_ne); (case hr => intro w; go_simp; (try simp only [q3, q4, q5, c1, c3, c4]); first | rfl | (w_num; rfl)); (case he => intro w; simp [go_sem, *]); walk_nrm)
    (apply QuitsD.value; (case ho => rfl); (case hw => rfl); (case hk => k_ne); (case hr => intro w; go_simp; (try simp only [q3, q4, q5, c1, c3, c4]); first | rfl | (w_num; rfl)); (case he => intro w; simp [go_sem, *]); walk_nrm)
    q_c stepG_region_end
    q_cond false
    q_c stepG_skip
    q_c stepG_seq
    q_c stepG_seq
    q_reg
    (apply QuitsD.value; (case ho => rfl); (case hw => rfl); (case hk => k_ne); (case hr => intro w; go_simp; (try simp only [q3, q4, q5, c1, c3, c4]); first | rfl | (w_num; rfl)); (case he => intro w; simp [go_sem, *]); walk_nrm)
    (apply QuitsD.value; (case ho => rfl); (case hw => rfl); (case hk => k_ne); (case hr => intro w; go_simp; (try simp only [q3, q4, q5, c1, c3, c4]); first | rfl | (w_num; rfl)); (case he => intro w; simp [go_sem, *]); walk_nrm)
    (apply QuitsD.value; (case ho => rfl); (case hw => rfl); (case hk => k_ne); (case hr => intro w; go_simp; (try simp only [q3, q4, q5, c1, c3, c4]); first | rfl | (w_num; rfl)); (case he => intro w; simp [go_sem, *]); walk_nrm)
    q_skip
    q_skip
    (apply QuitsD.value; (case ho => rfl); (case hw => rfl); (case hk => k_ne); (case hr => intro w; go_simp; (try simp only [q3, q4, q5, c1, c3, c4]); first | rfl | (w_num; rfl)); (case he => intro w; simp [go_sem, *]); walk_nrm)
    (apply QuitsD.value; (case ho => rfl); (case hw => rfl); (case hk => k_ne); (case hr => intro w; go_simp; (try simp only [q3, q4, q5, c1, c3, c4]); first | rfl | (w_num; rfl)); (case he => intro w; simp [go_sem, *]); walk_nrm)
    q_skip
    q_skip
    q_skip
    q_skip
    (apply QuitsD.value; (case ho => rfl); (case hw => rfl); (case hk => k_ne); (case hr => intro w; go_simp; (try simp only [q3, q4, q5, c1, c3, c4]); first | rfl | (w_num; rfl)); (case he => intro w; simp [go_sem, *]); walk_nrm)
    q_c stepG_region_end
    q_cond false
    q_c stepG_skip
    q_c stepG_seq
    q_c stepG_seq
    q_reg
    (apply QuitsD.value; (case ho => rfl); (case hw => rfl); (case hk => k_ne); (case hr => intro w; go_simp; (try simp only [q3, q4, q5, c1, c3, c4]); first | rfl | (w_num; rfl)); (case he => intro w; simp [go_sem, *]); walk_nrm)
    (apply QuitsD.value; (case ho => rfl); (case hw => rfl); (case hk => k_ne); (case hr => intro w; go_simp; (try simp only [q3, q4, q5, c1, c3, c4]); first | rfl | (w_num; rfl)); (case he => intro w; simp [go_sem, *]); walk_nrm)
    (apply QuitsD.value; (case ho => rfl); (case hw => rfl); (case hk => k_ne); (case hr => intro w; go_simp; (try simp only [q3, q4, q5, c1, c3, c4]); first | rfl | (w_num; rfl)); (case he => intro w; simp [go_sem, *]); walk_nrm)
    (apply QuitsD.value; (case ho => rfl); (case hw => rfl); (case hk => k_ne); (case hr => intro w; go_simp; (try simp only [q3, q4, q5, c1, c3, c4]); first | rfl | (w_num; rfl)); (case he => intro w; simp [go_sem, *]); walk_nrm)
    (apply QuitsD.value; (case ho => rfl); (case hw => rfl); (case hk => k_ne); (case hr => intro w; go_simp; (try simp only [q3, q4, q5, c1, c3, c4]); first | rfl | (w_num; rfl)); (case he => intro w; simp [go_sem, *]); walk_nrm)
    (apply QuitsD.value; (case ho => rfl); (case hw => rfl); (case hk => k_ne); (case hr => intro w; go_simp; (try simp only [q3, q4, q5, c1, c3, c4]); first | rfl | (w_num; rfl)); (case he => intro w; simp [go_sem, *]); walk_nrm)
    q_c stepG_region_end
    q_cond true
    q_c stepG_ret'
    q_enable
    q_leave0 H.f_add
    exact hT
   ·have q4 : decide (0 < (v : Int)) = true := decide_eq_true (by omega)
    have q5 : ((v : Int) == 0) = false := by simp; omega
    walk_nrm
    (apply QuitsD.value; (case ho => rfl); (case hw => rfl); (case hk => k_ne); (case hr => intro w; go_simp; (try simp only [q3, q4, q5, c1, c3, c4]); first | rfl | (w_num; rfl)); (case he => intro w; simp [go_sem, *]); walk_nrm)
    q_c stepG_region_end
    q_c stepG_ret'
    q_leave1 H.f_uAdd
    (apply QuitsD.value; (case ho => rfl); (case hw => rfl); (case hk => k_ne); (case hr => intro w; go_simp; (try simp only [q3, q4, q5, c1, c3, c4]); first | rfl | (w_num; rfl)); (case he => intro w; simp [go_sem, *]); walk_nrm)
    q_c stepG_region_end
    q_c stepG_seq
    q_c stepG_seq
    q_reg
    (apply QuitsD.value; (case ho => rfl); (case hw => rfl); (case hk => k_ne); (case hr => intro w; go_simp; (try simp only [q3, q4, q5, c1, c3, c4]); first | rfl | (w_num; rfl)); (case he => intro w; simp [go_sem, *]); walk_nrm)
    (apply QuitsD.value; (case ho => rfl); (case hw => rfl); (case hk => k_ne); (case hr => intro w; go_simp; (try simp only [q3, q4, q5, c1, c3, c4]); first | rfl | (w_num; rfl)); (case he => intro w; simp [go_sem, *]); walk_nrm)
    (apply QuitsD.value; (case ho => rfl); (case hw => rfl); (case hk => k_ne); (case hr => intro w; go_simp; (try simp only [q3, q4, q5, c1, c3, c4]); first | rfl | (w_num; rfl)); (case he => intro w; simp [go_sem, *]); walk_nrm)
    (apply QuitsD.value; (case ho => rfl); (case hw => rfl); (case hk => k_ne); (case hr => intro w; go_simp; (try simp only [q3, q4, q5, c1, c3, c4]); first | rfl | (w_num; rfl)); (case he => intro w; simp [go_sem, *]); walk_nrm)
    q_skip
    q_skip
    (apply QuitsD.value; (case ho => rfl); (case hw => rfl); (case hk => k_ne); (case hr => intro w; go_simp; (try simp only [q3, q4, q5, c1, c3, c4]); first | rfl | (w_num; rfl)); (case he => intro w; simp [go_sem, *]); walk_nrm)
    q_c stepG_region_end
    q_cond false
    q_c stepG_skip
    q_c stepG_seq
    q_reg
    (apply QuitsD.value; (case ho => rfl); (case hw => rfl); (case hk => k_ne); (case hr => intro w; go_simp; (try simp only [q3, q4, q5, c1, c3, c4]); first | rfl | (w_num; rfl)); (case he => intro w; simp [go_sem, *]); walk_nrm)
    (apply QuitsD.value; (case ho => rfl); (case hw => rfl); (case hk => k_ne); (case hr => intro w; go_simp; (try simp only [q3, q4, q5, c1, c3, c4]); first | rfl | (w_num; rfl)); (case he => intro w; simp [go_sem, *]); walk_nrm)
    (apply QuitsD.value; (case ho => rfl); (case hw => rfl); (case hk => k_ne); (case hr => intro w; go_simp; (try simp only [q3, q4, q5, c1, c3, c4]); first | rfl | (w_num; rfl)); (case he => intro w; simp [go_sem, *]); walk_nrm)
    (apply QuitsD.value; (case ho => rfl); (case hw => rfl); (case hk => k_ne); (case hr => intro w; go_simp; (try simp only [q3, q4, q5, c1, c3, c4]); first | rfl | (w_num; rfl)); (case he => intro w; simp [go_sem, *]); walk_nrm)
    q_c stepG_region_end
    q_c stepG_seq
    q_reg
    (apply QuitsD.value; (case ho => rfl); (case hw => rfl); (case hk => k_ne); (case hr => intro w; go_simp; (try simp only [q3, q4, q5, c1, c3, c4]); first | rfl | (w_num; rfl)); (case he => intro w; simp [go_sem, *]); walk_nrm)
    (apply QuitsD.value; (case ho => rfl); (case hw => rfl); (case hk => k_ne); (case hr => intro w; go_simp; (try simp only [q3, q4, q5, c1, c3, c4]); first | rfl | (w_num; rfl)); (case he => intro w; simp [go_sem, *]); walk_nrm)
    (apply QuitsD.value; (case ho => rfl); (case hw => rfl); (case hk => k_ne); (case hr => intro w; go_simp; (try simp only [q3, q4, q5, c1, c3, c4]); first | rfl | (w_num; rfl)); (case he => intro w; simp [go_sem, *]); walk_nrm)
    (apply QuitsD.value; (case ho => rfl); (case hw => rfl); (case hk => k_ne); (case hr => intro w; go_simp; (try simp only [q3, q4, q5, c1, c3, c4]); first | rfl | (w_num; rfl)); (case he => intro w; simp [go_sem, *]); walk_nrm)
    q_c stepG_region_end
    q_c stepG_seq
    q_c stepG_seq
    q_reg
    (apply QuitsD.value; (case ho => rfl); (case hw => rfl); (case hk => k_ne); (case hr => intro w; go_simp; (try simp only [q3, q4, q5, c1, c3, c4]); first | rfl | (w_num; rfl)); (case he => intro w; simp [go_sem, *]); walk_nrm)
    (apply QuitsD.value; (case ho => rfl); (case hw => rfl); (case hk => k_ne); (case hr => intro w; go_simp; (try simp only [q3, q4, q5, c1, c3, c4]); first | rfl | (w_num; rfl)); (case he => intro w; simp [go_sem, *]); walk_nrm)
    (apply QuitsD.value; (case ho => rfl); (case hw => rfl); (case hk => k_ne); (case hr => intro w; go_simp; (try simp only [q3, q4, q5, c1, c3, c4]); first | rfl | (w_num; rfl)); (case he => intro w; simp [go_sem, *]); walk_nrm)
    (apply QuitsD.value; (case ho => rfl); (case hw => rfl); (case hk => k_ne); (case hr => intro w; go_simp; (try simp only [q3, q4, q5, c1, c3, c4]); first | rfl | (w_num; rfl)); (case he => intro w; simp [go_sem, *]); walk_nrm)
    (apply QuitsD.value; (case ho => rfl); (case hw => rfl); (case hk => k_ne); (case hr => intro w; go_simp; (try simp only [q3, q4, q5, c1, c3, c4]); first | rfl | (w_num; rfl)); (case he => intro w; simp [go_sem, *]); walk_nrm)
    q_skip
    q_skip
    q_skip
    q_skip
    (apply QuitsD.value; (case ho => rfl); (case hw => rfl); (case hk => k_ne); (case hr => intro w; go_simp; (try simp only [q3, q4, q5, c1, c3, c4]); first | rfl | (w_num; rfl)); (case he => intro w; simp [go_sem, *]); walk_nrm)
    q_c stepG_region_end
    q_cond false
    q_c stepG_skip
    q_c stepG_seq
    q_c stepG_seq
    q_reg
    (apply QuitsD.value; (case ho => rfl); (case hw => rfl); (case hk => k_ne); (case hr => intro w; go_simp; (try simp only [q3, q4, q5, c1, c3, c4]); first | rfl | (w_num; rfl)); (case he => intro w; simp [go_sem, *]); walk_nrm)
    (apply QuitsD.value; (case ho => rfl); (case hw => rfl); (case hk => k_ne); (case hr => intro w; go_simp; (try simp only [q3, q4, q5, c1, c3, c4]); first | rfl | (w_num; rfl)); (case he => intro w; simp [go_sem, *]); walk_nrm)
    q_c stepG_region_end
    q_cond false
    q_c stepG_skip
    q_c stepG_seq
    q_c stepG_seq
    q_reg
    (apply QuitsD.value; (case ho => rfl); (case hw => rfl); (case hk => k_ne); (case hr => intro w; go_simp; (try simp only [q3, q4, q5, c1, c3, c4]); first | rfl | (w_num; rfl)); (case he => intro w; simp [go_sem, *]); walk_nrm)
    (apply QuitsD.value; (case ho => rfl); (case hw => rfl); (case hk => k_ne); (case hr => intro w; go_simp; (try simp only [q3, q4, q5, c1, c3, c4]); first | rfl | (w_num; rfl)); (case he => intro w; simp [go_sem, *]); walk_nrm)
    (apply QuitsD.value; (case ho => rfl); (case hw => rfl); (case hk => k_ne); (case hr => intro w; go_simp; (try simp only [q3, q4, q5, c1, c3, c4]); first | rfl | (w_num; rfl)); (case he => intro w; simp [go_sem, *]); walk_nrm)
    q_skip
    q_skip
    (apply QuitsD.value; (case ho => rfl); (case hw => rfl); (case hk => k_ne); (case hr => intro w; go_simp; (try simp only [q3, q4, q5, c1, c3, c4]); first | rfl | (w_num; rfl)); (case he => intro w; simp [go_sem, *]); walk_nrm)
    (apply QuitsD.value; (case ho => rfl); (case hw => rfl); (case hk => k_ne); (case hr => intro w; go_simp; (try simp only [q3, q4, q5, c1, c3, c4]); first | rfl | (w_num; rfl)); (case he => intro w; simp [go_sem, *]); walk_nrm)
    q_skip
    q_skip
    q_skip
    q_skip
    (apply QuitsD.value; (case ho => rfl); (case hw => rfl); (case hk => k_ne); (case hr => intro w; go_simp; (try simp only [q3, q4, q5, c1, c3, c4]); first | rfl | (w_num; rfl)); (case he => intro w; simp [go_sem, *]); walk_nrm)
    q_c stepG_region_end
    q_cond false
    q_c stepG_skip
    q_c stepG_seq
    q_c stepG_seq
    q_reg
    (apply QuitsD.value; (case ho => rfl); (case hw => rfl); (case hk => k_ne); (case hr => intro w; go_simp; (try simp only [q3, q4, q5, c1, c3, c4]); first | rfl | (w_num; rfl)); (case he => intro w; simp [go_sem, *]); walk_nrm)
    (apply QuitsD.value; (case ho => rfl); (case hw => rfl); (case hk => k_ne); (case hr => intro w; go_simp; (try simp only [q3, q4, q5, c1, c3, c4]); first | rfl | (w_num; rfl)); (case he => intro w; simp [go_sem, *]); walk_nrm)
    (apply QuitsD.value; (case ho => rfl); (case hw => rfl); (case hk => k_ne); (case hr => intro w; go_simp; (try simp only [q3, q4, q5, c1, c3, c4]); first | rfl | (w_num; rfl)); (case he => intro w; simp [go_sem, *]); walk_nrm)
    q_skip
    q_skip
    (apply QuitsD.value; (case ho => rfl); (case hw => rfl); (case hk => k_ne); (case hr => intro w; go_simp; (try simp only [q3, q4, q5, c1, c3, c4]); first | rfl | (w_num; rfl)); (case he => intro w; simp [go_sem, *]); walk_nrm)
    q_c stepG_region_end
    q_cond true
    q_c stepG_ret'
    q_enable
    q_leave0 H.f_add
    exact hT
  ·replace b2 : bits .and .u64 S 2147483647 = 1 := b2
   clear c2
   have hvp : 0 < v := by omega
   have q4 : decide (0 < (v : Int)) = true := decide_eq_true (by omega)
   have q5 : ((v : Int) == 0) = false := by simp; omega
   walk_nrm
   (apply QuitsD.value; (case ho => rfl); (case hw => rfl); (case hk => k_ne); (case hr => intro w; go_simp; (try simp only [q3, q4, q5, c1, c3, c4]); first | rfl | (w_num; rfl)); (case he => intro w; simp [go_sem, *]); walk_nrm)
   q_c stepG_region_end
   q_c stepG_ret'
   q_leave1 H.f_uAdd
   (apply QuitsD.value; (case ho => rfl); (case hw => rfl); (case hk => k_ne); (case hr => intro w; go_simp; (try simp only [q3, q4, q5, c1, c3, c4]); first | rfl | (w_num; rfl)); (case he => intro w; simp [go_sem, *]); walk_nrm)
   q_c stepG_region_end
   q_c stepG_seq
   q_c stepG_seq
   q_reg
   (apply QuitsD.value; (case ho => rfl); (case hw => rfl); (case hk => k_ne); (case hr => intro w; go_simp; (try simp only [q3, q4, q5, c1, c3, c4]); first | rfl | (w_num; rfl)); (case he => intro w; simp [go_sem, *]); walk_nrm)
   (apply QuitsD.value; (case ho => rfl); (case hw => rfl); (case hk => k_ne); (case hr => intro w; go_simp; (try simp only [q3, q4, q5, c1, c3, c4]); first | rfl | (w_num; rfl)); (case he => intro w; simp [go_sem, *]); walk_nrm)
   (apply QuitsD.value; (case ho => rfl); (case hw => rfl); (case hk => k_ne); (case hr => intro w; go_simp; (try simp only [q3, q4, q5, c1, c3, c4]); first | rfl | (w_num; rfl)); (case he => intro w; simp [go_sem, *]); walk_nrm)
   (apply QuitsD.value; (case ho => rfl); (case hw => rfl); (case hk => k_ne); (case hr => intro w; go_simp; (try simp only [q3, q4, q5, c1, c3, c4]); first | rfl | (w_num; rfl)); (case he => intro w; simp [go_sem, *]); walk_nrm)
   q_skip
   q_skip
   (apply QuitsD.value; (case ho => rfl); (case hw => rfl); (case hk => k_ne); (case hr => intro w; go_simp; (try simp only [q3, q4, q5, c1, c3, c4]); first | rfl | (w_num; rfl)); (case he => intro w; simp [go_sem, *]); walk_nrm)
   q_c stepG_region_end
   q_cond false
   q_c stepG_skip
   q_c stepG_seq
   q_reg
   (apply QuitsD.value; (case ho => rfl); (case hw => rfl); (case hk => k_ne); (case hr => intro w; go_simp; (try simp only [q3, q4, q5, c1, c3, c4]); first | rfl | (w_num; rfl)); (case he => intro w; simp [go_sem, *]); walk_nrm)
   (apply QuitsD.value; (case ho => rfl); (case hw => rfl); (case hk => k_ne); (case hr => intro w; go_simp; (try simp only [q3, q4, q5, c1, c3, c4]); first | rfl | (w_num; rfl)); (case he => intro w; simp [go_sem, *]); walk_nrm)
   (apply QuitsD.value; (case ho => rfl); (case hw => rfl); (case hk => k_ne); (case hr => intro w; go_simp; (try simp only [q3, q4, q5, c1, c3, c4]); first | rfl | (w_num; rfl)); (case he => intro w; simp [go_sem, *]); walk_nrm)
   (apply QuitsD.value; (case ho => rfl); (case hw => rfl); (case hk => k_ne); (case hr => intro w; go_simp; (try simp only [q3, q4, q5, c1, c3, c4]); first | rfl | (w_num; rfl)); (case he => intro w; simp [go_sem, *]); walk_nrm)
   q_c stepG_region_end
   q_c stepG_seq
   q_reg
   (apply QuitsD.value; (case ho => rfl); (case hw => rfl); (case hk => k_ne); (case hr => intro w; go_simp; (try simp only [q3, q4, q5, c1, c3, c4]); first | rfl | (w_num; rfl)); (case he => intro w; simp [go_sem, *]); walk_nrm)
   (apply QuitsD.value; (case ho => rfl); (case hw => rfl); (case hk => k_ne); (case hr => intro w; go_simp; (try simp only [q3, q4, q5, c1, c3, c4]); first | rfl | (w_num; rfl)); (case he => intro w; simp [go_sem, *]); walk_nrm)
   (apply QuitsD.value; (case ho => rfl); (case hw => rfl); (case hk => k_ne); (case hr => intro w; go_simp; (try simp only [q3, q4, q5, c1, c3, c4]); first | rfl | (w_num; rfl)); (case he => intro w; simp [go_sem, *]); walk_nrm)
   (apply QuitsD.value; (case ho => rfl); (case hw => rfl); (case hk => k_ne); (case hr => intro w; go_simp; (try simp only [q3, q4, q5, c1, c3, c4]); first | rfl | (w_num; rfl)); (case he => intro w; simp [go_sem, *]); walk_nrm)
   q_c stepG_region_end
   q_c stepG_seq
   q_c stepG_seq
   q_reg
   (apply QuitsD.value; (case ho => rfl); (case hw => rfl); (case hk => k_ne); (case hr => intro w; go_simp; (try simp only [q3, q4, q5, c1, c3, c4]); first | rfl | (w_num; rfl)); (case he => intro w; simp [go_sem, *]); walk_nrm)
   (apply QuitsD.value; (case ho => rfl); (case hw => rfl); (case hk => k_ne); (case hr => intro w; go_simp; (try simp only [q3, q4, q5, c1, c3, c4]); first | rfl | (w_num; rfl)); (case he => intro w; simp [go_sem, *]); walk_nrm)
   (apply QuitsD.value; (case ho => rfl); (case hw => rfl); (case hk => k_ne); (case hr => intro w; go_simp; (try simp only [q3, q4, q5, c1, c3, c4]); first | rfl | (w_num; rfl)); (case he => intro w; simp [go_sem, *]); walk_nrm)
   (apply QuitsD.value; (case ho => rfl); (case hw => rfl); (case hk => k_ne); (case hr => intro w; go_simp; (try simp only [q3, q4, q5, c1, c3, c4]); first | rfl | (w_num; rfl)); (case he => intro w; simp [go_sem, *]); walk_nrm)
   (apply QuitsD.value; (case ho => rfl); (case hw => rfl); (case hk => k_ne); (case hr => intro w; go_simp; (try simp only [q3, q4, q5, c1, c3, c4]); first | rfl | (w_num; rfl)); (case he => intro w; simp [go_sem, *]); walk_nrm)
   q_skip
   q_skip
   q_skip
   q_skip
   (apply QuitsD.value; (case ho => rfl); (case hw => rfl); (case hk => k_ne); (case hr => intro w; go_simp; (try simp only [q3, q4, q5, c1, c3, c4]); first | rfl | (w_num; rfl)); (case he => intro w; simp [go_sem, *]); walk_nrm)
   q_c stepG_region_end
   q_cond false
   q_c stepG_skip
   q_c stepG_seq
   q_c stepG_seq
   q_reg
   (apply QuitsD.value; (case ho => rfl); (case hw => rfl); (case hk => k_ne); (case hr => intro w; go_simp; (try simp only [q3, q4, q5, c1, c3, c4]); first | rfl | (w_num; rfl)); (case he => intro w; simp [go_sem, *]); walk_nrm)
   (apply QuitsD.value; (case ho => rfl); (case hw => rfl); (case hk => k_ne); (case hr => intro w; go_simp; (try simp only [q3, q4, q5, c1, c3, c4]); first | rfl | (w_num; rfl)); (case he => intro w; simp [go_sem, *]); walk_nrm)
   q_c stepG_region_end
   q_cond false
   q_c stepG_skip
   q_c stepG_seq
   q_c stepG_seq
   q_reg
   (apply QuitsD.value; (case ho => rfl); (case hw => rfl); (case hk => k_ne); (case hr => intro w; go_simp; (try simp only [q3, q4, q5, c1, c3, c4]); first | rfl | (w_num; rfl)); (case he => intro w; simp [go_sem, *]); walk_nrm)
   (apply QuitsD.value; (case ho => rfl); (case hw => rfl); (case hk => k_ne); (case hr => intro w; go_simp; (try simp only [q3, q4, q5, c1, c3, c4]); first | rfl | (w_num; rfl)); (case he => intro w; simp [go_sem, *]); walk_nrm)
   (apply QuitsD.value; (case ho => rfl); (case hw => rfl); (case hk => k_ne); (case hr => intro w; go_simp; (try simp only [q3, q4, q5, c1, c3, c4]); first | rfl | (w_num; rfl)); (case he => intro w; simp [go_sem, *]); walk_nrm)
   (apply QuitsD.value; (case ho => rfl); (case hw => rfl); (case hk => k_ne); (case hr => intro w; go_simp; (try simp only [q3, q4, q5, c1, c3, c4]); first | rfl | (w_num; rfl)); (case he => intro w; simp [go_sem, *]); walk_nrm)
   (apply QuitsD.value; (case ho => rfl); (case hw => rfl); (case hk => k_ne); (case hr => intro w; go_simp; (try simp only [q3, q4, q5, c1, c3, c4]); first | rfl | (w_num; rfl)); (case he => intro w; simp [go_sem, *]); walk_nrm)
   (apply QuitsD.value; (case ho => rfl); (case hw => rfl); (case hk => k_ne); (case hr => intro w; go_simp; (try simp only [q3, q4, q5, c1, c3, c4]); first | rfl | (w_num; rfl)); (case he => intro w; simp [go_sem, *]); walk_nrm)
   (apply QuitsD.value; (case ho => rfl); (case hw => rfl); (case hk => k_ne); (case hr => intro w; go_simp; (try simp only [q3, q4, q5, c1, c3, c4]); first | rfl | (w_num; rfl)); (case he => intro w; simp [go_sem, *]); walk_nrm)
   q_skip
   q_skip
   q_skip
   q_skip
   (apply QuitsD.value; (case ho => rfl); (case hw => rfl); (case hk => k_ne); (case hr => intro w; go_simp; (try simp only [q3, q4, q5, c1, c3, c4]); first | rfl | (w_num; rfl)); (case he => intro w; simp [go_sem, *]); walk_nrm)
   q_c stepG_region_end
   q_cond false
   q_c stepG_skip
   q_c stepG_seq
   q_c stepG_seq
   q_reg
   (apply QuitsD.value; (case ho => rfl); (case hw => rfl); (case hk => k_ne); (case hr => intro w; go_simp; (try simp only [q3, q4, q5, c1, c3, c4]); first | rfl | (w_num; rfl)); (case he => intro w; simp [go_sem, *]); walk_nrm)
   (apply QuitsD.value; (case ho => rfl); (case hw => rfl); (case hk => k_ne); (case hr => intro w; go_simp; (try simp only [q3, q4, q5, c1, c3, c4]); first | rfl | (w_num; rfl)); (case he => intro w; simp [go_sem, *]); walk_nrm)
   (apply QuitsD.value; (case ho => rfl); (case hw => rfl); (case hk => k_ne); (case hr => intro w; go_simp; (try simp only [q3, q4, q5, c1, c3, c4]); first | rfl | (w_num; rfl)); (case he => intro w; simp [go_sem, *]); walk_nrm)
   q_skip
   q_skip
   (apply QuitsD.value; (case ho => rfl); (case hw => rfl); (case hk => k_ne); (case hr => intro w; go_simp; (try simp only [q3, q4, q5, c1, c3, c4]); first | rfl | (w_num; rfl)); (case he => intro w; simp [go_sem, *]); walk_nrm)
   q_c stepG_region_end
   q_cond true
   q_c stepG_ret'
   q_enable
   q_leave0 H.f_add
   exact hT
end
end Go.Eng
namespace Go.Eng
open Go Go.Conc Go.RowKit Go.Conc.Lib Go.ConcR.Gen Go.ConcN.Gen
open Go.ConcN hiding upd upd_same upd_ne AtD4 AtD3 AtD2 AtD1 AtK1 AtR0 AtAcq AtKe AtW4 AtW3 AtW2 AtW1 AtKd WSit AtA1
open Go.ConcR (KK wgBlock WgAt stA smA rd wr DC0 Payload)
section
variable [Payload] {P : Program} {L : WgLink} {Φ : Ph} {cs : List Frame} {qt : Nat}
theorem S6 (fr : Frame) (cs : List Frame) : gor fr cs = G fr cs := rfl
theorem Pt (H : WgLib P L) (hCW : Φ.C ≠ Φ.Wg) {c : Frame} (hcm : c.mode = .returning) (hT : QuitsD P qt 0 (G c cs)) (w : World) (hK : Φ.J w) :
  Goes P false (fun _ w₁ => Φ.J w₁) DC0 (AtR0 P Φ) 103 (G ((baseD L.done).at ⟨#[.pointer (some ⟨Φ.Wg, 0, none⟩), undef, undef, undef], []⟩ [.code (body_done L)]) (c :: cs)) w := by
 lib_facts
 have hA := @Rz _ P L Φ
 simp only [body_done, body_add, doneFn, addFn, Option.getD_some] at hA ⊢
 u_reg jl hK
 u_op jl hK
 u_in jl hK
 refine goes_call rfl rfl (by k_ne) rfl H.f_add (nm_add L) rfl ⟨by u_nil, ?_⟩
 walk_nrmf addFn
 refine hA (qt := qt + 3) H hCW ?_ _ hK
 q_c stepG_region_end
 q_c stepG_end
 exact QuitsD.leaveD rfl rfl H.f_done rfl hcm hT
variable {b₀ : Frame} {a₀ : Act} {ops₀ : Array Oper} {i₀ : Nat} {rest₀ : List Nat} {k₀ : List Item}
def Ju (P : Program) (fr₁ : Frame) (cs₁ : List Frame) (fr : Frame) (cs : List Frame) : Prop :=
 ∀ (S : Shared) (Post : Frame → List Frame → Heap → Prop) (h : Heap), Safe P S Post fr₁ cs₁ h → Safe P S Post fr cs h
section
variable {S : Shared} {Post : Frame → List Frame → Heap → Prop} {h : Heap} {b : Frame} {a : Act} {k : List Item}
theorem jj {ops : Array Oper} {i : Nat} {rest : List Nat} {o : Oper} (v : Value) (ho : ops[i]? = some o) (hw : Region.wanted o (yielded ops a.tmps) = true) (hk : b.kind ≠ .early)
  (hr : ∀ w, (execOp a.eval o).run P w = .ok (.value v) w) (he : ∀ w, (execOp a.eval o).events P w #[] = #[])
  (K : Safe P S Post (b.at (a.put o.dst v) (.inRegion ops rest :: k)) cs h) : Safe P S Post (b.at a (.inRegion ops (i :: rest) :: k)) cs h :=
 .zV (fun w m => by show stepG P m (G _ _) w = _; rw [stepG_value ho hw hk (hr w)]; unfold listed; rw [he w, seen_none]; rfl) K
theorem EZ {ops : Array Oper} {i : Nat} {rest : List Nat} {o : Oper} (ho : ops[i]? = some o) (hw : Region.wanted o (yielded ops a.tmps) = false)
  (K : Safe P S Post (b.at (a.put o.dst undef) (.inRegion ops rest :: k)) cs h) : Safe P S Post (b.at a (.inRegion ops (i :: rest) :: k)) cs h :=
 .zV (fun _ _ => stepG_unwanted ho hw) K
theorem HT {fn : Func} {b₀ : Frame} {a₀ : Act} {ops : Array Oper} {i : Nat} {rest : List Nat} {todo : List Item} (hn : b.kind = .normal) (hd : a.defers = []) (hf : P.funcs[b.fn]? = some fn) (hr : fn.results = #[])
  (K : Safe P S Post (b₀.at (a₀.put ((ops[i]?).bind (·.dst)) (.tuple #[])) (.inRegion ops rest :: k)) cs h) : Safe P S Post { b.at a todo with mode := .returning } (b₀.at a₀ (.inRegion ops (i :: rest) :: k) :: cs) h :=
 .zV (fun w m => by show stepG P m (G _ _) w = _; rw [stepG_leave hn hd hf (results_none hr _ P w) (events_results_none hr _ _), Frame.finish_at]; rfl) K
end
def LG (L : WgLink) (Wg : Nat) (c : Frame) (cs : List Frame) (g : Goroutine) : Prop :=
 ∃ T : Array Value, g = G ((base L.wait).at ⟨T, []⟩ [.code (L7 L), .inLoop (L7 L), .inBlock 0]) (c :: cs) ∧ T.size = 84 ∧ T[0]? = some (.pointer (some ⟨Wg, 0, none⟩))
theorem NA (H : WgLib P L) (hCW : Φ.C ≠ Φ.Wg) (g : Goroutine) (h : LG L Φ.Wg (b₀.at a₀ (.inRegion ops₀ (i₀ :: rest₀) :: k₀)) cs g) (w : World) (hK : Φ.J w) :
  Goes P true (fun _ w₁ => Φ.J w₁) DC0 (AtW1 P Φ (Ju P (b₀.at (a₀.put ((ops₀[i₀]?).bind (·.dst)) (.tuple #[])) (.inRegion ops₀ rest₀ :: k₀)) cs) (LG L Φ.Wg (b₀.at a₀ (.inRegion ops₀ (i₀ :: rest₀) :: k₀)) cs)) 100 g w := by
 lib_facts
 obtain ⟨T, rfl, hT84, t0⟩ := h
 obtain ⟨v0, v1, v2, v3, v4, v5, v6, v7, v8, v9, v10, v11, v12, v13, v14, v15, v16, v17, v18, v19, v20, v21, v22, v23, v24, v25, v26, v27, v28, v29, v30, v31, v32, v33, v34, v35, v36, v37, v38, v39, v40, v41, v42, v43, v44, v45, v46, v47, v48, v49, v50, v51, v52, v53, v54, v55, v56, v57, v58, v59, v60, v61, v62, v63, v64, v65, v66, v67, v68, v69, v70, v71, v72, v73, v74, v75, v76, v77, v78, v79, v80, v81, v82, v83, rfl⟩ := array84 T hT84
 simp only [List.getElem?_toArray, List.getElem?_cons_zero, Option.some.injEq] at t0
 subst t0
 simp only [L7, body_wait, waitFn, Option.getD_some]
 u_c stepG_block jl hK
 u_c stepG_seq jl hK
 u_reg jl hK
 u_op jl hK
 u_op jl hK
 u_op jl hK
 u_call H.f_uLoad (nm_uLoad L) uLoadFn jl hK
 u_c stepG_seq jl hK
 u_reg jl hK
 u_op jl hK
 u_c stepG_region_end jl hK
 u_c stepG_seq jl hK
 u_reg jl hK
 u_op jl hK
 u_op jl hK
 u_op jl hK
 refine Goes.stop (fun w₁ h₁ => ?_)
 replace hK := jl hK h₁
 clear h₁
 refine ⟨rfl, fun v hv hw => ?_⟩
 rcases Nat.eq_zero_or_pos v with rfl | hvp
 ·replace hw : WgAt Φ.ty Φ.Wg w₁ 0 0 := by simpa using hw
  refine ⟨_, stepG_load_atomic (v := 0) rfl rfl (by k_ne) rfl H.f_loadU64 (x_loadU64_n L) (x_loadU64_b L) (x_loadU64_x L) .u64 (x_loadU64_f L) rfl hw.cellSt, fun _ => ⟨100, Sil.of (w := w₁) ?_⟩, fun h => absurd rfl h⟩
  clear hw
  walk_nrm
  u_op jl hK
  u_c stepG_region_end jl hK
  u_c stepG_ret' jl hK
  u_leave1 H.f_uLoad jl hK
  u_op jl hK
  u_c stepG_region_end jl hK
  u_c stepG_seq jl hK
  u_reg jl hK
  u_op jl hK
  u_op jl hK
  u_op jl hK
  u_op jl hK
  u_c stepG_region_end jl hK
  u_c stepG_seq jl hK
  u_reg jl hK
  u_op jl hK
  u_op jl hK
  u_op jl hK
  u_op jl hK
  u_c stepG_region_end jl hK
  u_c stepG_seq jl hK
  u_c stepG_seq jl hK
  u_reg jl hK
  u_op jl hK
  u_op jl hK
  u_c stepG_region_end jl hK
  u_cond true jl hK
  u_c stepG_seq jl hK
  u_cond true jl hK
  u_c stepG_seq jl hK
  u_reg jl hK
  refine Goes.stop (fun w₁ h₁ => ?_)
  replace hK := jl hK h₁
  clear h₁
  refine ⟨rfl, _, stepG_mark0 .enable (by simp) rfl rfl (by k_ne) rfl H.f_enable (x_enable_n L) (x_enable_b L) (x_enable_x L) (x_enable_f L), 100, Sil.of (w := w₁) ?_⟩
  walk_nrm
  u_c stepG_region_end jl hK
  u_reg jl hK
  u_op jl hK
  u_conv H.underlying_tWgP H.room_tWg (J.cell0 hK).choose_spec jl hK
  refine Goes.stop (fun w₁ h₁ => ?_)
  replace hK := jl hK h₁
  clear h₁
  refine ⟨rfl, _, _, stepG_markAt .acquire (by simp) rfl rfl (by k_ne) rfl H.f_acquire (x_acquire_n L) (x_acquire_b L) (x_acquire_x L) (x_acquire_f L) (by simp [Act.eval, stA]), fun S Post hh K => ?_⟩
  clear hK
  walk_nrm
  refine Safe.zV (fun _ _ => stepG_region_end) ?_
  refine Safe.zV (fun _ _ => stepG_seq) ?_
  refine Safe.zV (fun _ _ => stepG_seq) ?_
  (refine Safe.zV (fun _ _ => stepG_region) ?_; simp only [List.size_toArray, List.length_cons, List.length_nil, Nat.reduceAdd, Nat.zero_add, List.range, List.range.loop])
  (apply jj; (case ho => rfl); (case hw => rfl); (case hk => k_ne); (case hr => intro w; go_simp; (try simp only [q3, q4, q5, q6, a1, b1, b2, c1, c3, c4]); first | rfl | (w_num; rfl)); (case he => intro w; simp [go_sem, *]); walk_nrm)
  (apply jj; (case ho => rfl); (case hw => rfl); (case hk => k_ne); (case hr => intro w; go_simp; (try simp only [q3, q4, q5, q6, a1, b1, b2, c1, c3, c4]); first | rfl | (w_num; rfl)); (case he => intro w; simp [go_sem, *]); walk_nrm)
  (apply jj; (case ho => rfl); (case hw => rfl); (case hk => k_ne); (case hr => intro w; go_simp; (try simp only [q3, q4, q5, q6, a1, b1, b2, c1, c3, c4]); first | rfl | (w_num; rfl)); (case he => intro w; simp [go_sem, *]); walk_nrm)
  (apply jj; (case ho => rfl); (case hw => rfl); (case hk => k_ne); (case hr => intro w; go_simp; (try simp only [q3, q4, q5, q6, a1, b1, b2, c1, c3, c4]); first | rfl | (w_num; rfl)); (case he => intro w; simp [go_sem, *]); walk_nrm)
  (apply jj; (case ho => rfl); (case hw => rfl); (case hk => k_ne); (case hr => intro w; go_simp; (try simp only [q3, q4, q5, q6, a1, b1, b2, c1, c3, c4]); first | rfl | (w_num; rfl)); (case he => intro w; simp [go_sem, *]); walk_nrm)
  (apply jj; (case ho => rfl); (case hw => rfl); (case hk => k_ne); (case hr => intro w; go_simp; (try simp only [q3, q4, q5, q6, a1, b1, b2, c1, c3, c4]); first | rfl | (w_num; rfl)); (case he => intro w; simp [go_sem, *]); walk_nrm)
  (apply jj; (case ho => rfl); (case hw => rfl); (case hk => k_ne); (case hr => intro w; go_simp; (try simp only [q3, q4, q5, q6, a1, b1, b2, c1, c3, c4]); first | rfl | (w_num; rfl)); (case he => intro w; simp [go_sem, *]); walk_nrm)
  (apply jj; (case ho => rfl); (case hw => rfl); (case hk => k_ne); (case hr => intro w; go_simp; (try simp only [q3, q4, q5, q6, a1, b1, b2, c1, c3, c4]); first | rfl | (w_num; rfl)); (case he => intro w; simp [go_sem, *]); walk_nrm)
  (refine EZ rfl rfl ?_; walk_nrm)
  (refine EZ rfl rfl ?_; walk_nrm)
  (apply jj; (case ho => rfl); (case hw => rfl); (case hk => k_ne); (case hr => intro w; go_simp; (try simp only [q3, q4, q5, q6, a1, b1, b2, c1, c3, c4]); first | rfl | (w_num; rfl)); (case he => intro w; simp [go_sem, *]); walk_nrm)
  refine Safe.zV (fun _ _ => stepG_region_end) ?_
  (refine Safe.zV (fun _ _ => stepG_cond (t := false) rfl) ?_; simp only [Bool.false_eq_true, ↓reduceIte])
  refine Safe.zV (fun _ _ => stepG_skip) ?_
  refine Safe.zV (fun _ _ => stepG_ret') ?_
  refine HT rfl rfl H.f_wait rfl ?_
  exact K
 ·obtain ⟨S, hS⟩ : ∃ S : Int, (v : Int) * KK = S := ⟨_, rfl⟩
  have a1 : S / 4294967296 = (v : Int) := by rw [← hS]; simp only [KK]; omega
  have b1 : bits .and .u64 S 2147483648 = 0 := by rw [← hS]; have := st_flag v 0 (by omega) (by omega); simpa [KK] using this
  have b2 : bits .and .u64 S 2147483647 = 0 := by rw [← hS]; have := st_waiters v 0 (by omega) (by omega); simpa [KK] using this
  have c1 : IntKind.i32.wrap (v : Int) = (v : Int) := by rw [IntKind.wrap_i32]; omega
  have w1 : IntKind.u64.wrap (S + 1) = S + 1 := by rw [IntKind.wrap_u64, ← hS]; simp only [KK]; omega
  have q3 : decide ((v : Int) < 0) = false := decide_eq_false (by omega)
  have q4 : decide (0 < (v : Int)) = true := decide_eq_true (by omega)
  have q5 : ((v : Int) == 0) = false := by simp; omega
  have q6 : decide ((v : Int) = 0) = false := decide_eq_false (by omega)
  rw [hS] at hw
  refine ⟨_, stepG_load_atomic (v := S) rfl rfl (by k_ne) rfl H.f_loadU64 (x_loadU64_n L) (x_loadU64_b L) (x_loadU64_x L) .u64 (x_loadU64_f L) rfl hw.cellSt, fun h0 => absurd h0 (by omega), fun _ => ⟨200, Sil.of (w := w₁) ?_⟩⟩
  clear hw
  walk_nrm
  u_op jl hK
  u_c stepG_region_end jl hK
  u_c stepG_ret' jl hK
  u_leave1 H.f_uLoad jl hK
  u_op jl hK
  u_c stepG_region_end jl hK
  u_c stepG_seq jl hK
  u_reg jl hK
  u_op jl hK
  u_op jl hK
  u_op jl hK
  u_op jl hK
  u_c stepG_region_end jl hK
  u_c stepG_seq jl hK
  u_reg jl hK
  u_op jl hK
  u_op jl hK
  u_op jl hK
  u_op jl hK
  u_c stepG_region_end jl hK
  u_c stepG_seq jl hK
  u_c stepG_seq jl hK
  u_reg jl hK
  u_op jl hK
  u_op jl hK
  u_c stepG_region_end jl hK
  u_cnd false jl hK
  u_c stepG_skip jl hK
  u_c stepG_seq jl hK
  u_reg jl hK
  u_op jl hK
  u_op jl hK
  u_op jl hK
  u_op jl hK
  u_op jl hK
  u_op jl hK
  u_call H.f_uCas (nm_uCas L) uCasFn jl hK
  u_c stepG_seq jl hK
  u_reg jl hK
  u_op jl hK
  u_c stepG_region_end jl hK
  u_c stepG_seq jl hK
  u_reg jl hK
  u_op jl hK
  u_op jl hK
  u_op jl hK
  u_op jl hK
  u_op jl hK
  refine Goes.stop (fun w₁ h₁ => ?_)
  replace hK := jl hK h₁
  clear h₁
  refine ⟨rfl, fun v' hv' hw => ⟨fun e => ?_, fun e => ?_⟩⟩
  ·subst e
   rw [hS] at hw ⊢
   refine ⟨_, (stepG_cas_hit (v := S) (n := S + 1) rfl rfl (by k_ne) rfl H.f_casU64 (x_casU64_n L) (x_casU64_b L) (x_casU64_x L) .u64 (x_casU64_f L) rfl rfl rfl hw.cellSt (hw.thaw 0)).trans (by rfl), 200, Sil.of (w := w₁.setCell (stA Φ.Wg) (.int .u64 (S + 1))) ?_⟩
   replace hK := J.setSt hCW hK hw (S + 1)
   generalize w₁.setCell (stA Φ.Wg) (.int .u64 (S + 1)) = w₂ at hK
   clear hw
   walk_nrm
   u_op jl hK
   u_c stepG_region_end jl hK
   u_c stepG_ret' jl hK
   u_leave1 H.f_uCas jl hK
   u_c stepG_region_end jl hK
   u_cond true jl hK
   u_c stepG_seq jl hK
   u_c stepG_seq jl hK
   u_reg jl hK
   u_op jl hK
   u_op jl hK
   u_op jl hK
   u_op jl hK
   u_c stepG_region_end jl hK
   u_cond true jl hK
   u_reg jl hK
   u_op jl hK
   u_op jl hK
   u_op jl hK
   u_conv H.underlying_tPU32 H.room_tU32 (J.cell1 hK).choose_spec jl hK
   refine Goes.stop (fun w₁ h₁ => ?_)
   replace hK := jl hK h₁
   clear h₁
   refine ⟨rfl, _, stepG_markAt .write (by simp) rfl rfl (by k_ne) rfl H.f_raceWrite (x_raceWrite_n L) (x_raceWrite_b L) (x_raceWrite_x L) (x_raceWrite_f L) (ad := ⟨Φ.Wg, 1, none⟩) (by simp [Act.eval]), 200, Sil.of (w := w₁) ?_⟩
   walk_nrm
   u_c stepG_region_end jl hK
   u_c stepG_seq jl hK
   u_reg jl hK
   u_op jl hK
   u_c stepG_region_end jl hK
   u_c stepG_seq jl hK
   u_c stepG_seq jl hK
   u_reg jl hK
   u_op jl hK
   u_op jl hK
   u_op jl hK
   u_op jl hK
   u_skip jl hK
   u_op jl hK
   u_c stepG_region_end jl hK
   u_cond false jl hK
   u_c stepG_skip jl hK
   u_c stepG_seq jl hK
   u_reg jl hK
   u_op jl hK
   u_op jl hK
   u_op jl hK
   u_op jl hK
   refine Goes.stop (fun w₁ h₁ => ?_)
   replace hK := jl hK h₁
   clear h₁
   refine ⟨rfl, rfl, fun ⟨st, hw⟩ => stepG_semacquire_wait rfl rfl rfl H.f_semacquire (x_semacquire_n L) (x_semacquire_b L) (x_semacquire_x L) (x_semacquire_f L) (by simp [Act.eval, smA]) hw.cellSm, fun hf => ?_⟩
   refine ⟨_, (stepG_semacquire (n := 1) rfl rfl (by k_ne) rfl H.f_semacquire (x_semacquire_n L) (x_semacquire_b L) (x_semacquire_x L) (x_semacquire_f L) (by simp [Act.eval, smA]) hf.cellSm (by k_ne) (hf.thaw 1)).trans (by rfl), 200, Sil.of (w := w₁.setCell (smA Φ.Wg) (.int .u32 0)) ?_⟩
   replace hK := J.setSm hCW hK hf 0
   generalize w₁.setCell (smA Φ.Wg) (.int .u32 0) = w₂ at hK
   clear hf
   walk_nrm
   u_c stepG_region_end jl hK
   u_c stepG_seq jl hK
   u_reg jl hK
   u_op jl hK
   u_op jl hK
   u_op jl hK
   u_call H.f_uLoad (nm_uLoad L) uLoadFn jl hK
   u_c stepG_seq jl hK
   u_reg jl hK
   u_op jl hK
   u_c stepG_region_end jl hK
   u_c stepG_seq jl hK
   u_reg jl hK
   u_op jl hK
   u_op jl hK
   u_op jl hK
   refine Goes.stop (fun w₁ h₁ => ?_)
   replace hK := jl hK h₁
   clear h₁
   refine ⟨rfl, fun hw => ⟨_, stepG_load_atomic (v := 0) rfl rfl (by k_ne) rfl H.f_loadU64 (x_loadU64_n L) (x_loadU64_b L) (x_loadU64_x L) .u64 (x_loadU64_f L) rfl hw.cellSt, 200, Sil.of (w := w₁) ?_⟩⟩
   clear hw
   walk_nrm
   u_op jl hK
   u_c stepG_region_end jl hK
   u_c stepG_ret' jl hK
   u_leave1 H.f_uLoad jl hK
   u_op jl hK
   u_op jl hK
   u_c stepG_region_end jl hK
   u_c stepG_seq jl hK
   u_cond true jl hK
   u_c stepG_seq jl hK
   u_reg jl hK
   refine Goes.stop (fun w₁ h₁ => ?_)
   replace hK := jl hK h₁
   clear h₁
   refine ⟨rfl, _, stepG_mark0 .enable (by simp) rfl rfl (by k_ne) rfl H.f_enable (x_enable_n L) (x_enable_b L) (x_enable_x L) (x_enable_f L), 100, Sil.of (w := w₁) ?_⟩
   walk_nrm
   u_c stepG_region_end jl hK
   u_reg jl hK
   u_op jl hK
   u_conv H.underlying_tWgP H.room_tWg (J.cell0 hK).choose_spec jl hK
   refine Goes.stop (fun w₁ h₁ => ?_)
   replace hK := jl hK h₁
   clear h₁
   refine ⟨rfl, _, _, stepG_markAt .acquire (by simp) rfl rfl (by k_ne) rfl H.f_acquire (x_acquire_n L) (x_acquire_b L) (x_acquire_x L) (x_acquire_f L) (by simp [Act.eval, stA]), fun S Post hh K => ?_⟩
   clear hK
   walk_nrm
   refine Safe.zV (fun _ _ => stepG_region_end) ?_
   refine Safe.zV (fun _ _ => stepG_seq) ?_
   refine Safe.zV (fun _ _ => stepG_seq) ?_
   (refine Safe.zV (fun _ _ => stepG_region) ?_; simp only [List.size_toArray, List.length_cons, List.length_nil, Nat.zero_add, List.range, List.range.loop])
   (apply jj; (case ho => rfl); (case hw => rfl); (case hk => k_ne); (case hr => intro w; go_simp; (try simp only [q3, q4, q5, q6, a1, b1, b2, c1, c3, c4]); first | rfl | (w_num; rfl)); (case he => intro w; simp [go_sem, *]); walk_nrm)
   refine Safe.zV (fun _ _ => stepG_region_end) ?_
   (refine Safe.zV (fun _ _ => stepG_cond (t := false) rfl) ?_; simp only [Bool.false_eq_true, ↓reduceIte])
   refine Safe.zV (fun _ _ => stepG_skip) ?_
   refine Safe.zV (fun _ _ => stepG_ret') ?_
   refine HT rfl rfl H.f_wait rfl ?_
   exact K
  ·refine ⟨_, stepG_cas_miss (v := (v' : Int) * KK) (old := S) (n := S + 1) rfl rfl (by k_ne) rfl H.f_casU64 (x_casU64_n L) (x_casU64_b L) (x_casU64_x L) .u64 (x_casU64_f L) rfl rfl rfl hw.cellSt (hw.thaw 0) (by rw [← hS]; simp only [KK]; omega), 100, Sil.of (w := w₁) ?_⟩
   clear hw
   walk_nrm
   u_op jl hK
   u_c stepG_region_end jl hK
   u_c stepG_ret' jl hK
   u_leave1 H.f_uCas jl hK
   u_c stepG_region_end jl hK
   u_cond false jl hK
   u_c stepG_skip jl hK
   u_c stepG_inBlock jl hK
   u_c stepG_inLoop jl hK
   exact Goes.stop fun _ _ => ⟨_, rfl, by simp, by simp⟩
theorem Pu (H : WgLib P L) (hCW : Φ.C ≠ Φ.Wg) (w : World) (hK : Φ.J w) :
  jS P Φ (Ju P (b₀.at (a₀.put ((ops₀[i₀]?).bind (·.dst)) (.tuple #[])) (.inRegion ops₀ rest₀ :: k₀)) cs)
   ((base L.wait).at ⟨#[.pointer (some ⟨Φ.Wg, 0, none⟩), undef, undef, undef, undef, undef, undef, undef, undef, undef, undef, undef, undef, undef, undef, undef, undef, undef, undef, undef, undef, undef, undef, undef, undef, undef, undef, undef, undef, undef, undef, undef, undef, undef, undef, undef, undef, undef, undef, undef, undef, undef, undef, undef, undef, undef, undef, undef, undef, undef, undef, undef, undef, undef, undef, undef, undef, undef, undef, undef, undef, undef, undef, undef, undef, undef, undef, undef, undef, undef, undef, undef, undef, undef, undef, undef, undef, undef, undef, undef, undef, undef, undef, undef], []⟩ [.code (body_wait L)]) (b₀.at a₀ (.inRegion ops₀ (i₀ :: rest₀) :: k₀) :: cs) := by
 refine ⟨LG L Φ.Wg (b₀.at a₀ (.inRegion ops₀ (i₀ :: rest₀) :: k₀)) cs, fun g hg => ⟨100, Sil.of (NA H hCW g hg w hK)⟩, 100, Sil.of (w := w) ?_⟩
 lib_facts
 simp only [S6]
 simp only [body_wait, waitFn, Option.getD_some]
 u_c stepG_seq jl hK
 u_cond true jl hK
 u_reg jl hK
 refine Goes.stop (fun w₁ h₁ => ?_)
 replace hK := jl hK h₁
 clear h₁
 refine ⟨rfl, _, stepG_mark0 .disable (by simp) rfl rfl (by k_ne) rfl H.f_disable (x_disable_n L) (x_disable_b L) (x_disable_x L) (x_disable_f L), 3, Sil.of (w := w₁) ?_⟩
 walk_nrm
 u_c stepG_region_end jl hK
 u_c stepG_block jl hK
 u_c stepG_loop jl hK
 exact Goes.stop (fun w₂ h₂ => ⟨_, rfl, by simp, by simp⟩)
end
end Go.Eng
namespace Go.Eng
open Go
section
variable {P : Program} {S : Shared} {ops : Array Oper} {Q : Act → Heap → Heap → Prop}
theorem Pv {Post : Frame → List Frame → Heap → Prop} {b : Frame} {k : List Item} {cs : List Frame} (hp : Up S Post) (r : List Nat) :
  ∀ (l : List Nat) (a : Act) (L h : Heap), Ok S h L → kL P S ops Q l a L h → (∀ a' L' h', Ok S h' L' → Q a' L' h' → Safe P S Post (b.at a' (.inRegion ops r :: k)) cs (plus h' L')) →
   Safe P S Post (b.at a (.inRegion ops (l ++ r) :: k)) cs (plus h L) := by
 intro l
 induction l with
 | nil => intro a L h ha H K; exact K a L h ha H
 | cons i rest ih =>
  intro a L h ha H K
  simp only [kL, jV] at H
  cases ho : ops[i]? with
  | none =>
   simp only [ho] at H
   refine .FH (by simp [ho]) ?_
   simp only [ho, Option.bind_none, Act.put]
   exact ih a L h ha H K
  | some o =>
   simp only [ho] at H
   by_cases hw : Region.wanted o (yielded ops a.tmps) = true
   ·simp only [hw, if_true] at H
    cases H with
    | step H => exact .op ho hw fun w hh => jU _ (H w hh) fun n w' ⟨v, L', h', h1, h2, h3, _, _, h5⟩ => ⟨v, plus h' L', h1, h3, ih _ L' h' h2 h5 K⟩
    | call f args R hx hc H => exact .LW hp ho hw hx hc ha.apart fun v h' hr hi hap => ih _ L h' ⟨hap, hi⟩ (H v h' hr ⟨hap, hi⟩).2 K
   ·simp only [hw, if_false, Bool.false_eq_true] at H
    refine .FH (by simp [ho]; simpa using hw) ?_
    simp only [ho, Option.bind_some]
    exact ih _ L h ha H K
theorem put_defers (a : Act) (d : Option Tmp) (v : Value) : (a.put d v).defers = a.defers := by cases d <;> rfl
theorem JQ : ∀ (l : List Nat) (a : Act) (L h : Heap), kL P S ops Q l a L h → kL P S ops (fun a' L' h' => a'.defers = a.defers ∧ Q a' L' h') l a L h := by
 have mono : ∀ (l : List Nat) (a : Act) (L h : Heap) {Q Q' : Act → Heap → Heap → Prop}, (∀ a L h, Q a L h → Q' a L h) → kL P S ops Q l a L h → kL P S ops Q' l a L h := by
  intro l
  induction l with
  | nil => intro a L h Q Q' hk H; exact hk _ _ _ H
  | cons i rest ih =>
   intro a L h Q Q' hk H
   simp only [kL, jV] at H ⊢
   cases ho : ops[i]? with
   | none => simp only [ho] at H ⊢; exact ih _ _ _ hk H
   | some o =>
    simp only [ho] at H ⊢
    by_cases hw : Region.wanted o (yielded ops a.tmps) = true
    ·simp only [hw, if_true] at H ⊢
     exact H.mono fun v L' h' _ _ ⟨h1, h2⟩ => ⟨h1, ih _ _ _ hk h2⟩
    ·simp only [hw, if_false, Bool.false_eq_true] at H ⊢
     exact ih _ _ _ hk H
 intro l
 induction l with
 | nil => intro a L h H; exact ⟨rfl, H⟩
 | cons i rest ih =>
  intro a L h H
  simp only [kL, jV] at H ⊢
  cases ho : ops[i]? with
  | none => simp only [ho] at H ⊢; exact ih _ _ _ H
  | some o =>
   simp only [ho] at H ⊢
   by_cases hw : Region.wanted o (yielded ops a.tmps) = true
   ·simp only [hw, if_true] at H ⊢
    exact H.mono fun v L' h' _ _ ⟨h1, h2⟩ => ⟨h1, mono _ _ _ _ (fun a' L' h' ⟨e, hq⟩ => ⟨e.trans (put_defers ..), hq⟩) (ih _ _ _ h2)⟩
   ·simp only [hw, if_false, Bool.false_eq_true] at H ⊢
    exact mono _ _ _ _ (fun a' L' h' ⟨e, hq⟩ => ⟨e.trans (put_defers ..), hq⟩) (ih _ _ _ H)
theorem LH {z : Nat} (hn : ops.size = z + 1) (h3 : ∀ i o, ops[i]? = some o → ∀ e ∈ o.after, Region.binds .any e = true → e.on < i)
  (h2 : ∀ o, ops[z]? = some o → ∀ i < z, ∃ e ∈ o.after, Region.binds .any e = true ∧ e.on = i) {listed : Array Bool} (hs : listed.size = z + 1) (hz : listed.getD z true = false)
  (hu : ∃ i < z, listed.getD i true = false) : Region.ready .any ops listed = Region.ready .any ops (listed.setIfInBounds z true) ∧ Region.ready .any ops listed ≠ [] := by
 have gd : ∀ i : Nat, i ≠ z → ∀ d, (listed.setIfInBounds z true).getD i d = listed.getD i d := fun i hi d => by
  simp only [Array.getD_eq_getD_getElem?, Array.getElem?_setIfInBounds_ne (Ne.symm hi)]
 have gz : ∀ d, (listed.setIfInBounds z true).getD z d = true := fun d => by
  simp [Array.getD_eq_getD_getElem?, hs]
 have dd : ∀ i < z, listed.getD i true = listed.getD i false := fun i hi => by
  simp [Array.getD_eq_getD_getElem?, Array.getElem?_eq_getElem (show i < listed.size by omega)]
 constructor
 ·unfold Region.ready
  refine List.filter_congr fun i hi => ?_
  rw [List.mem_range, hn] at hi
  by_cases e : i = z
  ·subst e
   rw [gz, hz]
   obtain ⟨j, hj, hju⟩ := hu
   cases ho : ops[i]? with
   | none => simp
   | some o =>
    obtain ⟨ed, he, hb, hon⟩ := h2 o ho j hj
    have : (o.after.all fun e => !Region.binds .any e || listed.getD e.on false) = false := by
     rw [Bool.eq_false_iff]
     intro hall
     have h4 := Array.all_eq_true'.1 hall ed he
     rw [hb, hon, ← dd j hj, hju] at h4
     cases h4
    simp only [Option.map_some, Option.getD_some, this, Bool.not_true, Bool.false_and, Bool.and_false]
  ·rw [gd i e]
   congr 1
   cases ho : ops[i]? with
   | none => simp
   | some o =>
    simp only [Option.map_some, Option.getD_some]
    rw [Bool.eq_iff_iff, Array.all_eq_true', Array.all_eq_true']
    refine forall_congr' fun ed => forall_congr' fun hed => ?_
    cases hb : Region.binds .any ed with
    | false => simp
    | true =>
     have := h3 i o ho ed hed hb
     rw [gd ed.on (by omega)]
 ·intro hnil
  have all : ∀ n i, i < n → i < z → listed.getD i true = true := by
   intro n
   induction n with
   | zero => intro i h; omega
   | succ n ih =>
    intro i hin hiz
    cases hl : listed.getD i true with
    | true => rfl
    | false =>
     have hi : i < ops.size := by omega
     have : i ∈ Region.ready .any ops listed := mem_ready.2 ⟨hl, ops[i], Array.getElem?_eq_getElem hi, fun ed hed hb => by
      have h5 := h3 i _ (Array.getElem?_eq_getElem hi) ed hed hb
      rw [← dd ed.on (by omega)]
      exact ih ed.on (by omega) (by omega)⟩
     rw [hnil] at this
     cases this
  obtain ⟨j, hj, hju⟩ := hu
  rw [all (j + 1) j (by omega) hj] at hju
  cases hju
theorem Ho {z : Nat} (hn : ops.size = z + 1) (h3 : ∀ i o, ops[i]? = some o → ∀ e ∈ o.after, Region.binds .any e = true → e.on < i)
  (h2 : ∀ o, ops[z]? = some o → ∀ i < z, ∃ e ∈ o.after, Region.binds .any e = true ∧ e.on = i) : ∀ (fuel t : Nat) (listed : Array Bool), listed.size = z + 1 → listed.getD z true = false →
   ((List.range z).filter fun i => !listed.getD i true).length = fuel →
   ∃ t', Region.linearise.go .any ops (fuel + 1) t listed [] = Region.linearise.go .any ops fuel t (listed.setIfInBounds z true) [] ++ [z] ∧ t' = t := by
 intro fuel
 induction fuel with
 | zero =>
  intro t listed hs hz hc
  refine ⟨t, ?_, rfl⟩
  have hall : ∀ i < z, listed.getD i true = true := fun i hi => by
   cases h : listed.getD i true with
   | true => rfl
   | false =>
    have : i ∈ (List.range z).filter fun i => !listed.getD i true := List.mem_filter.2 ⟨List.mem_range.2 hi, by simp [h]⟩
    rw [List.length_eq_zero_iff.1 hc] at this
    cases this
  have hr : Region.ready .any ops listed = [z] := by
   unfold Region.ready
   rw [hn, List.range_succ, List.filter_append]
   have e1 : (List.range z).filter (fun i => !listed.getD i true && ((ops[i]?).map (·.after.all fun e => !Region.binds .any e || listed.getD e.on false)).getD false) = [] := by
    rw [List.filter_eq_nil_iff]
    intro i hi
    rw [hall i (List.mem_range.1 hi)]
    simp
   rw [e1, List.nil_append]
   have hzl : z < ops.size := by omega
   have e2 : ((ops[z]?).map (·.after.all fun e => !Region.binds .any e || listed.getD e.on false)).getD false = true := by
    rw [Array.getElem?_eq_getElem hzl]
    simp only [Option.map_some, Option.getD_some]
    rw [Array.all_eq_true']
    intro ed hed
    cases hb : Region.binds .any ed with
    | false => simp
    | true =>
     have h5 := h3 z _ (Array.getElem?_eq_getElem hzl) ed hed hb
     have h6 := hall ed.on h5
     simp [Array.getD_eq_getD_getElem?, Array.getElem?_eq_getElem (show ed.on < listed.size by omega)] at h6 ⊢
     exact h6
   exact List.filter_eq_self.2 fun i hi => by cases List.mem_singleton.1 hi; rw [hz, e2]; rfl
  simp only [Region.linearise.go]
  change (match (Region.ready .any ops listed)[t % (Region.ready .any ops listed).length]? with
   | some i => Region.linearise.go .any ops 0 (t / (Region.ready .any ops listed).length) (listed.setIfInBounds i true) [i]
   | none => [].reverse) = _
  rw [hr]
  simp [Nat.mod_one, Region.linearise.go]
 | succ fuel ih =>
  intro t listed hs hz hc
  refine ⟨t, ?_, rfl⟩
  have hu : ∃ i < z, listed.getD i true = false := by
   cases hl : (List.range z).filter fun i => !listed.getD i true with
   | nil => rw [hl] at hc; cases hc
   | cons i r =>
    have : i ∈ (List.range z).filter fun i => !listed.getD i true := by rw [hl]; exact List.mem_cons_self
    obtain ⟨h4, h5⟩ := List.mem_filter.1 this
    exact ⟨i, List.mem_range.1 h4, by simpa using h5⟩
  obtain ⟨he, hne⟩ := LH hn h3 h2 hs hz hu
  have A : ∀ (f t : Nat) (l : Array Bool), Region.linearise.go .any ops (f + 1) t l [] = (match (Region.ready .any ops l)[t % (Region.ready .any ops l).length]? with
   | some i => Region.linearise.go .any ops f (t / (Region.ready .any ops l).length) (l.setIfInBounds i true) [i]
   | none => []) := fun f t l => by simp only [Region.linearise.go]; rfl
  rw [A, A, ← he]
  have hlt : t % (Region.ready .any ops listed).length < (Region.ready .any ops listed).length := Nat.mod_lt _ (by
   cases hr : Region.ready .any ops listed with
   | nil => exact absurd hr hne
   | cons x xs => simp)
  rw [List.getElem?_eq_getElem hlt]
  simp only []
  have hmem := List.getElem_mem hlt
  generalize (Region.ready .any ops listed)[t % (Region.ready .any ops listed).length] = i at hmem
  have hi1 := (mem_ready.1 hmem).1
  have hiz : i ≠ z := fun e => by
   subst e
   rw [he] at hmem
   have := (mem_ready.1 hmem).1
   simp [Array.getD_eq_getD_getElem?, hs] at this
  have hilt : i < z := by
   rcases Nat.lt_or_ge i listed.size with h | h
   ·omega
   ·simp [Array.getD_eq_getD_getElem?, Array.getElem?_eq_none h] at hi1
  rw [linearise_go_acc, linearise_go_acc _ _ _ _ _ [i]]
  have gi : ∀ j : Nat, (listed.setIfInBounds i true).getD j true = (if j = i then true else listed.getD j true) := fun j => by
   by_cases e : j = i
   ·subst e
    simp only [if_true, Array.getD_eq_getD_getElem?, Array.getElem?_setIfInBounds]
    split <;> simp
   ·simp only [if_neg e, Array.getD_eq_getD_getElem?, Array.getElem?_setIfInBounds_ne (Ne.symm e)]
  obtain ⟨_, h6, _⟩ := ih (t / (Region.ready .any ops listed).length) (listed.setIfInBounds i true) (by simp [hs]) (by rw [gi, if_neg (Ne.symm hiz)]; exact hz) (by
   have key : ∀ l : List Nat, l.Nodup → i ∈ l → (l.filter fun j => !(listed.setIfInBounds i true).getD j true).length + 1 = (l.filter fun j => !listed.getD j true).length := by
    intro l
    induction l with
    | nil => intro _ h; cases h
    | cons x xs ihl =>
     intro hnd hm
     obtain ⟨hx, hnd⟩ := List.nodup_cons.1 hnd
     rw [List.filter_cons, List.filter_cons]
     rcases List.mem_cons.1 hm with rfl | hm
     ·have e5 : (xs.filter fun j => !(listed.setIfInBounds i true).getD j true) = xs.filter fun j => !listed.getD j true :=
       List.filter_congr fun j hj => by rw [gi, if_neg (fun e => hx (by rw [← e]; exact hj))]
      rw [gi, if_pos rfl, hi1, e5]; simp
     ·have hxi : x ≠ i := fun e => hx (by rw [e]; exact hm)
      rw [gi, if_neg hxi]
      have := ihl hnd hm
      cases listed.getD x true <;> simp only [Bool.not_true, Bool.not_false, Bool.false_eq_true, List.length_cons, ↓reduceIte] <;> omega
   have := key (List.range z) List.nodup_range (List.mem_range.2 hilt)
   omega)
  rw [h6, Array.setIfInBounds_comm _ _ hiz]
  simp
end
end Go.Eng
namespace Go.Eng
open Go
def Jv (ops : Array Oper) (z : Nat) : Bool :=
 ops.size == z + 1 && ((List.range (z + 1)).all fun i => match ops[i]? with | some o => o.after.all (fun e => !Region.binds .any e || decide (e.on < i)) | none => true) &&
  (match ops[z]? with | some o => (List.range z).all fun i => o.after.any fun e => Region.binds .any e && e.on == i | none => true)
theorem linearise_last' {ops : Array Oper} {z : Nat} (h : Jv ops z = true) (t : Nat) :
  Region.linearise.go .any ops (z + 1) t (Array.replicate (z + 1) false) [] = Region.linearise.go .any ops z t ((Array.replicate (z + 1) false).setIfInBounds z true) [] ++ [z] := by
 unfold Jv at h
 simp only [Bool.and_eq_true, beq_iff_eq] at h
 obtain ⟨⟨h1, h2⟩, h3⟩ := h
 refine (Ho h1 (fun i o ho e he hb => ?_) (fun o ho i hi => ?_) z t _ (by simp) (by simp [Array.getD_eq_getD_getElem?]) ?_).choose_spec.1
 ·have hlt : i < z + 1 := by
   rcases Nat.lt_or_ge i ops.size with h | h
   ·omega
   ·rw [Array.getElem?_eq_none h] at ho; cases ho
  have h4 := List.all_eq_true.1 h2 i (List.mem_range.2 hlt)
  rw [ho] at h4
  have h5 := Array.all_eq_true'.1 h4 e he
  rw [hb] at h5
  simpa using h5
 ·rw [ho] at h3
  have h4 := List.all_eq_true.1 h3 i (List.mem_range.2 hi)
  obtain ⟨e, he, h5⟩ := Array.any_eq_true'.1 h4
  simp only [Bool.and_eq_true, beq_iff_eq] at h5
  exact ⟨e, he, h5.1, h5.2⟩
 ·have : (List.range z).filter (fun i => !(Array.replicate (z + 1) false).getD i true) = List.range z := List.filter_eq_self.2 fun i hi => by
   have := List.mem_range.1 hi
   simp [Array.getD_eq_getD_getElem?, show i < z + 1 by omega]
  rw [this, List.length_range]
end Go.Eng
namespace Go.Eng
open Go
def Hp (l : List (Option (Sh × Nat))) : List GV := l.map fun | some (s, j) => ⟨[], .x (.var s j)⟩ | none => ⟨[], .junk⟩
theorem Pw {env : List Value} {nums : List Nat} {s : Sh} {j : Nat} {u : Value} (h : env[j]? = some u) (hc : coerce s u = u) : Good env nums (.var s j) u := fun xs ys => by
 have hlt : j < env.length := (List.getElem?_eq_some_iff.1 h).1
 simp only [Ex.ev, List.getD_eq_getElem?_getD, List.getElem?_append_left hlt, h, Option.getD_some, hc]
theorem Rel.init {l : List (Option (Sh × Nat))} {env : List Value} {a : Act} {n d : Nat} {dv : Bool} (hn : n = env.length) (hl : l.length = a.tmps.size) (hd : dv = false → a.defers = [])
  (hv : ∀ (i : Nat) s j, l[i]? = some (some (s, j)) → ∃ u, env[j]? = some u ∧ a.tmps.getD i undef = u ∧ coerce s u = u) :
  Rel { tmps := Hp l, loc := [], n := n, known := [], d := d, dv := dv } env [] a (fun _ => none) := by
 have key : ∀ (i : Nat) gv, (Hp l)[i]? = some gv → gv = ⟨[], .junk⟩ ∨ ∃ s j, l[i]? = some (some (s, j)) ∧ gv = ⟨[], .x (.var s j)⟩ := by
  intro i gv h
  unfold Hp at h
  rw [List.getElem?_map] at h
  obtain ⟨x, h1, rfl⟩ := Option.map_eq_some_iff.1 h
  cases x with
  | none => exact .inl rfl
  | some p => exact .inr ⟨p.1, p.2, h1, rfl⟩
 refine ⟨hn, rfl, by simp [Hp, hl], hd, ?_, ?_, ?_, by simp, by simp, by simp⟩
 ·intro i g v h e he
  rcases key i _ h with h | ⟨s, j, _, h⟩ <;> cases h <;> cases he
 ·intro i g v h _
  rcases key i _ h with h | ⟨s, j, h1, h⟩
  ·cases h; trivial
  ·cases h
   obtain ⟨u, h2, h3, h4⟩ := hv i s j h1
   rw [h3]
   exact Pw h2 h4
 ·rintro i g v h ⟨e, he, _⟩
  rcases key i _ h with h | ⟨s, j, _, h⟩ <;> cases h <;> cases he
end Go.Eng
namespace Go.Eng
open Go
def sxs (cfg : Cfg) : List Code → St → Option Tr
 | [], st => some (.leaf (.norm st))
 | r :: rs, st => match r with
  | .region _ ops draw => (match sxR cfg ops draw st with | some t => FO t (sxs cfg rs) | none => none)
  | _ => none
def nest : List Code → Code → Code
 | [], c => c
 | r :: rs, c => .seq r (nest rs c)
section
variable {P : Program} {S : Shared} {cfg : Cfg} {Λ : Hand} {Q : Value → Heap → Prop} {Ks : List Kt} {Post : Frame → List Frame → Heap → Prop} {b : Frame} {k : List Item} {cs : List Frame} {c : Code}
theorem S7 (hT : zl P cfg.tab) (hm : P.follows .mixedOrders = true) (hp : Up S Post) (hΛ : Λ.BI) : ∀ (rs : List Code) (st : St) (t : Tr) (env : List Value) (nums : List Nat) (a : Act) (L h : Heap),
  sxs cfg rs st = some t → t.wp P S Λ Q env h Ks → Rel st env nums a L → Ok S h L →
  (∀ st' vs ms a' L' h', Λ (.norm st') (env ++ vs) h' Ks → Rel st' (env ++ vs) (nums ++ ms) a' L' → Ok S h' L' → Safe P S Post (b.at a' (.code c :: k)) cs (plus h' L')) →
  Safe P S Post (b.at a (.code (nest rs c) :: k)) cs (plus h L) := by
 intro rs
 induction rs with
 | nil =>
  intro st t env nums a L h ht hw H ha hf
  simp only [sxs] at ht
  cases ht
  exact hf st [] [] a L h (by simpa [Tr.wp] using hw) (by simpa using H) ha
 | cons r rs ih =>
  intro st t env nums a L h ht hw H ha hf
  simp only [sxs] at ht
  split at ht
  ·rename_i id ops draw
   split at ht
   ·rename_i t1 ht1
    have hw1 := Tr.wp_bind hΛ t1 t ht env h Ks hw
    refine .seq (Gd hT hm hp ht1 hw1 H ha ?_)
    rintro st' vs ms a' L' h' ⟨u, hu, huw⟩ H' ha' _
    refine ih st' u _ _ a' L' h' hu huw H' ha' fun st2 vs2 ms2 a2 L2 h2 h3 h4 h5 => ?_
    rw [List.append_assoc] at h3 h4
    rw [List.append_assoc] at h4
    exact hf st2 _ _ a2 L2 h2 h3 h4 h5
   ·cases ht
  ·cases ht
def got (st : St) (env : List Value) (i : Nat) : Value := match st.tmps[i]? with | some ⟨[], .x e⟩ => e.ev env [] | _ => undef
def isX (st : St) (i : Nat) : Bool := match st.tmps[i]? with | some ⟨[], .x _⟩ => true | _ => false
def jr (n : Nat) (is : List Nat) (R : (Nat → Value) → Heap → Prop) : Hand := fun l env h _ => ∃ st, l = .norm st ∧ st.loc = [] ∧ st.dv = false ∧ st.tmps.length = n ∧ is.all (isX st) = true ∧ R (got st env) h
theorem jr.mono {n : Nat} {is : List Nat} {R : (Nat → Value) → Heap → Prop} : (jr n is R).BI := fun _ _ _ _ _ _ h => h
def Reach (S : Shared) (b : Frame) (n : Nat) (k : List Item) (cs : List Frame) (is : List Nat) (R : (Nat → Value) → Heap → Prop) (fr : Frame) (cs' : List Frame) (H : Heap) : Prop :=
 cs' = cs ∧ ∃ a f h', fr = b.at a k ∧ a.tmps.size = n ∧ a.defers = [] ∧ (∀ i ∈ is, a.tmps.getD i undef = f i) ∧ R f h' ∧ Sub h' H ∧ Inv S h'
theorem Reach.up {n : Nat} {is : List Nat} {R : (Nat → Value) → Heap → Prop} : Up S (Reach S b n k cs is R) :=
 fun _ _ _ _ ⟨h1, a, f, h', h2, h3, h4, h5, h6, h7, h8⟩ hs _ => ⟨h1, a, f, h', h2, h3, h4, h5, h6, h7.trans hs, h8⟩
def lOf (n : Nat) (ps : List (Nat × Sh)) : List (Option (Sh × Nat)) := (List.range n).map fun i => (ps.zipIdx.find? fun p => p.1.1 == i).map fun p => (p.1.2, p.2)
def BU (n : Nat) (ps : List (Nat × Sh)) : St := { tmps := Hp (lOf n ps), loc := [], n := ps.length, known := [], d := 0, dv := false }
def kY (a : Act) : List (Nat × Sh) → List Value → Prop
 | [], [] => True
 | p :: ps, u :: us => a.tmps.getD p.1 undef = u ∧ coerce p.2 u = u ∧ kY a ps us
 | _, _ => False
theorem kY.get {a : Act} : ∀ {ps : List (Nat × Sh)} {us : List Value}, kY a ps us → ps.length = us.length ∧ ∀ (j : Nat) (p : Nat × Sh), ps[j]? = some p → ∃ u, us[j]? = some u ∧ a.tmps.getD p.1 undef = u ∧ coerce p.2 u = u
 | [], [], _ => ⟨rfl, fun j p h => by simp at h⟩
 | p :: ps, u :: us, ⟨h1, h2, h3⟩ => by
  obtain ⟨e, ih⟩ := kY.get h3
  refine ⟨by simp [e], fun j q h => ?_⟩
  cases j with
  | zero => simp at h; subst h; exact ⟨u, rfl, h1, h2⟩
  | succ j => exact ih j q (by simpa using h)
 | [], _ :: _, h => h.elim
 | _ :: _, [], h => h.elim
theorem Rel.of {n : Nat} {ps : List (Nat × Sh)} {env : List Value} {a : Act} (hs : kY a ps env) (hn : a.tmps.size = n) (hd : a.defers = []) : Rel (BU n ps) env [] a (fun _ => none) := by
 obtain ⟨e, hg⟩ := hs.get
 refine Rel.init e (by simp [lOf, hn]) (fun _ => hd) fun i s j h => ?_
 unfold lOf at h
 rw [List.getElem?_map] at h
 obtain ⟨i', h1, h2⟩ := Option.map_eq_some_iff.1 h
 have hii : i' = i := by
  have := (List.getElem?_eq_some_iff.1 h1).2
  simpa using this.symm
 subst hii
 obtain ⟨⟨p, j'⟩, h3, h4⟩ := Option.map_eq_some_iff.1 h2
 simp only [Prod.mk.injEq] at h4
 obtain ⟨rfl, rfl⟩ := h4
 have h5 := List.find?_some h3
 have h6 := List.mem_zipIdx_iff_getElem?.1 (List.mem_of_find?_eq_some h3)
 simp only [beq_iff_eq] at h5 h6
 obtain ⟨u, k1, k2, k3⟩ := hg _ _ h6
 exact ⟨u, k1, by rw [← h5]; exact k2, k3⟩
theorem CQ (hT : zl P cfg.tab) (hm : P.follows .mixedOrders = true) {rs : List Code} {n : Nat} {ps : List (Nat × Sh)} {t : Tr} {env : List Value} {a : Act} {h : Heap} {is : List Nat} {R : (Nat → Value) → Heap → Prop}
  (ht : sxs cfg rs (BU n ps) = some t) (hs : kY a ps env) (hn : a.tmps.size = n) (hd : a.defers = []) (hi : Inv S h) (hw : t.wp P S (jr n is R) (fun _ _ => True) env h []) :
  Safe P S (Reach S b n (.code c :: k) cs is R) (b.at a (.code (nest rs c) :: k)) cs h := by
 have ha : Ok S h (fun _ => none) := ⟨fun b hb => absurd rfl hb, hi⟩
 rw [← xe h]
 refine S7 (Q := fun _ _ => True) (Ks := []) hT hm Reach.up jr.mono rs _ t env [] a _ h ht hw (Rel.of hs hn hd) ha ?_
 rintro st' vs ms a' L' h' ⟨st, e, hl, hdv, hsz, his, hR⟩ H' ha'
 cases e
 have hms : ms = [] := by
  have := H'.m
  rw [hl] at this
  simpa using this.symm
 subst hms
 refine .done ⟨rfl, a', _, h', rfl, ?_, H'.df hdv, fun i hi => ?_, hR, fun x o hx => by simp [plus, hx], ha'.inv⟩
 ·rw [← H'.sz]; exact hsz
 ·have hx := List.all_eq_true.1 his i hi
  unfold isX at hx
  unfold got
  split at hx
  ·rename_i e he
   have := Good.at (H'.vl i [] _ he (by simp))
   simpa using this.symm
  ·cases hx
theorem S8 (hT : zl P cfg.tab) (hm : P.follows .mixedOrders = true) {r : Code} {n : Nat} {ps : List (Nat × Sh)} {t : Tr} {env : List Value} {a : Act} {h : Heap} {is : List Nat} {R : (Nat → Value) → Heap → Prop}
  (ht : sxs cfg [r] (BU n ps) = some t) (hs : kY a ps env) (hn : a.tmps.size = n) (hd : a.defers = []) (hi : Inv S h) (hw : t.wp P S (jr n is R) (fun _ _ => True) env h []) :
  Safe P S (Reach S b n k cs is R) (b.at a (.code r :: k)) cs h := by
 have ha : Ok S h (fun _ => none) := ⟨fun b hb => absurd rfl hb, hi⟩
 rw [← xe h]
 simp only [sxs] at ht
 split at ht
 ·rename_i id ops draw
  split at ht
  ·rename_i t1 ht1
   have hw1 := Tr.wp_bind jr.mono t1 t ht env h [] hw
   refine Gd (Ks := []) hT hm Reach.up ht1 hw1 (Rel.of hs hn hd) ha ?_
   rintro st' vs ms a' L' h' ⟨u, hu, huw⟩ H' ha' _
   cases hu
   obtain ⟨st, e, hl, hdv, hsz, his, hR⟩ := huw
   cases e
   have hms : ms = [] := by
    have := H'.m
    rw [hl] at this
    simpa using this.symm
   subst hms
   refine .done ⟨rfl, a', _, h', rfl, by rw [← H'.sz]; exact hsz, H'.df hdv, fun i hi => ?_, hR, fun x o hx => by simp [plus, hx], ha'.inv⟩
   have hx := List.all_eq_true.1 his i hi
   unfold isX at hx
   unfold got
   split at hx
   ·rename_i e he
    have := Good.at (H'.vl i [] _ he (by simp))
    simpa using this.symm
   ·cases hx
  ·cases ht
 ·cases ht
end
section
open Go.Conc Go.ConcR
variable {P : Program} {Φ : Ph} {cs cs' : List Frame} {fr fr' : Frame}
theorem Sil.step {main : Bool} {J : World → Prop} {Stop : Goroutine → World → Prop} {n : Nat} {g g' : Goroutine} (hr : g.status = .running) (hs : ∀ w, stepG P main g w = .go g' w #[]) (H : Sil P main J Stop n g') : Sil P main J Stop (n + 1) g :=
 fun w => Goes.step hr fun w₁ h₁ => by
  rw [hs w₁]
  exact ⟨⟨rfl, rfl⟩, H w₁⟩
theorem wH.step {Nx : Frame → List Frame → Prop} (hs : ∀ w, stepG P true (gor fr cs) w = .go (gor fr' cs') w #[]) (H : wH P Φ Nx fr' cs') : wH P Φ Nx fr cs :=
 let ⟨m, h⟩ := H
 ⟨m + 1, Sil.step rfl hs h⟩
theorem jS.step {Nx : Frame → List Frame → Prop} (hs : ∀ w, stepG P true (gor fr cs) w = .go (gor fr' cs') w #[]) (H : jS P Φ Nx fr' cs') : jS P Φ Nx fr cs :=
 let ⟨Anch, h1, m, h⟩ := H
 ⟨Anch, h1, m + 1, Sil.step rfl hs h⟩
theorem Jw {s : GStep} {g : Goroutine} {w : World} {es : Array Event} (h : s.goes (fun g' w' es' => g' = g ∧ w' = w ∧ es' = es)) : s = .go g w es := by
 cases s <;> simp only [GStep.goes] at h
 obtain ⟨rfl, rfl, rfl⟩ := h; rfl
theorem Sp.pre {Q : Frame → List Frame → Heap → Prop} {r : Nat} {h : Heap} (H : Safe P Φ.S (fun fr cs h => Sp P Φ Q r fr cs h) fr cs h) : Sp P Φ Q r fr cs h := by
 cases r with
 | zero => exact H.bind fun _ _ _ x => x
 | succ r => exact H.bind fun _ _ _ x => x
end
end Go.Eng
end
section
namespace Go.Proofs.YteaonnfokkfnlaaGreatDoor
open Go Go.Eng Go.Conc Go.RowKit Go.Conc.Lib Go.ConcR.Gen
open Go.ConcR (KK wgBlock WgAt stA smA rd wr DC0 Payload)
instance : Payload := ⟨53⟩
noncomputable def G9 : Code := Tryz.f136.body.getD .skip
noncomputable def F8 : Array Oper := match G9 with | .seq (.region _ ops _) _ => ops | _ => #[]
noncomputable def qL : Array Oper := match G9 with | .seq _ (.region _ ops _) => ops | _ => #[]
theorem Px : G9 = .seq (.region 0 F8 false) (.region 1 qL true) := by kernel_rfl
def S9 : List (TypeId × TyD) := [(0, ⟨.oth, 1, 0, [], none, some []⟩), (3, ⟨(.int .i64), 1, 8, [.int .i64], some [(1, (.int .i64 0))], none⟩), (5, ⟨(.int .u8), 1, 1, [.int .u8], some [(1, (.int .u8 0))], none⟩), (53, ⟨(.int .u32), 1, 4, [.int .u32], some [(1, (.int .u32 0))], none⟩), (22, ⟨(.sl 5), 1, 24, [.slice], some [(1, .nilSl)], none⟩), (131, ⟨(.sl 53), 1, 24, [.slice], some [(1, .nilSl)], none⟩), (134, ⟨.fnk, 1, 8, [.fnv], some [(1, .nilFn)], none⟩)]
theorem SA : zl Tryz.prog S9 := Fp (by kernel_rfl)
theorem SB : Tryz.prog.follows .mixedOrders = true := by kernel_rfl
def cW : Cfg := ⟨S9, [], [], []⟩
def stW : St := { tmps := [⟨[], .x (.var .addr 0)⟩, ⟨[], .x (.var .addr 1)⟩, ⟨[], .x (.var .addr 2)⟩, ⟨[], .x (.var .addr 3)⟩, ⟨[], .x (.var .addr 4)⟩] ++ List.replicate 6 ⟨[], .junk⟩, loc := [], n := 5, known := [], d := 0, dv := true }
def stW' : St := { tmps := [⟨[], .x (.var .addr 0)⟩, ⟨[], .x (.var .addr 1)⟩, ⟨[], .x (.var .addr 2)⟩, ⟨[], .x (.var .addr 3)⟩, ⟨[], .x (.var .addr 4)⟩, ⟨[], .x (.var .slice 5)⟩, ⟨[], .x (.var (.int .i64) 6)⟩, ⟨[], .x (.var .fnv 7)⟩, ⟨[], .x (.var .slice 8)⟩, ⟨[], .x (.var (.int .u32) 9)⟩, ⟨[], .x (.ix 1 (.var .slice 5) (.var (.int .i64) 6))⟩], loc := [], n := 10, known := [], d := 0, dv := true }
def tW : Tr :=
(.load (.var (.addr) 3) [.slice]
(.load (.var (.addr) 4) [.int .i64]
(.load (.var (.addr) 1) [.fnv]
(.load (.var (.addr) 2) [.slice]
(.callv (.var (.fnv) 7) [(.x (.var (.slice) 8))] false [(false, [.int .u32])]
(.still [((.var (.addr) 4), (.var (.int .i64) 6)), ((.var (.addr) 3), (.var (.slice) 5))]
(.need (.nt (.nn (.var (.slice) 5)))
(.need (.cm .leq (.cst (.int .i64 0)) (.var (.int .i64) 6))
(.need (.cm .lss (.var (.int .i64) 6) (.ln (.var (.slice) 5)))
(.leaf (.norm stW')))))))))))
def EG : Array Bool := (Array.replicate 7 false).setIfInBounds 6 true
theorem sW : sxA cW qL 6 EG [] stW = some tW := by kernel_rfl
theorem TH : Jv qL 6 = true := by kernel_rfl
theorem Uk : Region.noSelect qL = true := by kernel_rfl
theorem TJ : qL.size = 7 := by kernel_rfl
theorem Ul : qL[6]? = some { dst := none, op := .store 53 (.tmp 10) (.tmp 9), type := 0, pos := (qL[6]?.map (·.pos)).getD "", after := (qL[6]?.map (·.after)).getD #[], guard := none } := by kernel_rfl
theorem SC : (Tryz.prog.funcs[(baseD 136).fn]?).any (·.norace) = false := by kernel_rfl
noncomputable def bot : Frame := { (default : Frame) with fn := Tryz.prog.funcs.size, defers := [], mode := .panicking [goexitEntry] }
def Cv (wg fb pb sb ib : Nat) : Deferred := { target := .fn (.func 136) #[.pointer (some ⟨wg, 0, none⟩), .pointer (some ⟨fb, 0, none⟩), .pointer (some ⟨pb, 0, none⟩), .pointer (some ⟨sb, 0, none⟩), .pointer (some ⟨ib, 0, none⟩)], args := #[] }
noncomputable def Iw (d : Deferred) : Frame := { (default : Frame) with fn := Tryz.prog.funcs.size, defers := [d], mode := .panicking [goexitEntry] }
def ky (wg fb pb sb ib : Nat) : Array Value := #[.pointer (some ⟨wg, 0, none⟩), .pointer (some ⟨fb, 0, none⟩), .pointer (some ⟨pb, 0, none⟩), .pointer (some ⟨sb, 0, none⟩), .pointer (some ⟨ib, 0, none⟩)]
theorem NB (wg fb pb sb ib : Nat) (m : Bool) (w : World) : stepG Tryz.prog m (gor (Iw (Cv wg fb pb sb ib)) []) w =
  .go (gor ((baseD 136).at ⟨ky wg fb pb sb ib ++ #[undef, undef, undef, undef, undef, undef], []⟩ [.code G9]) [bot]) w #[] := by
 simp [gor, Iw, ky, Cv, stepG, unwind, callDeferred, invoke, callFunc, Tryz.func136, Tryz.f136, seen, GStep.after, Frame.enter, Frame.at, baseD, bot, G9]
section
variable {Φ : Ph} {i : Nat}
theorem Py : Up Φ.S (ED Tryz.prog Φ i) := fun fr cs h1 h2 H hs _ w hw hJ => H w (fun b o hb => hw b o (hs b o hb)) hJ
theorem SD (T : Array Value) (td : List Item) : QuitsD Tryz.prog 2 0 (G { (baseD 136).at ⟨T, []⟩ td with mode := .returning } [bot]) := by
 refine QuitsD.ctl (g' := G bot []) rfl (fun w => ?_) ?_
 ·simp [G, stepG, unwind, doReturn, results, Frame.at, baseD, bot, Tryz.func136, Tryz.f136, seen, GStep.after, goexitEntry]
 refine QuitsD.ctl (g' := { G bot [] with status := .finished }) rfl (fun w => ?_) ⟨rfl, rfl⟩
 simp [G, stepG, unwind, bot, goexitEntry, Frame.catches]
 rfl
theorem TK (hty : Φ.ty = Tryz.link.tWg) (hCW : Φ.C ≠ Φ.Wg) (hi : i < Φ.n) {x : Int} (hval : Φ.val i = .int .u32 x) {a : Act} (hd : a.defers = [dcall 137 #[.pointer (some ⟨Φ.Wg, 0, none⟩)]])
  (h9 : a.tmps.getD 9 undef = .int .u32 x) (h10 : a.tmps.getD 10 undef = .pointer (some ⟨Φ.C, i, none⟩)) (h : Eng.Heap) :
  ED Tryz.prog Φ i ((baseD 136).at a [.inRegion qL [6]]) [bot] h := by
 intro w hw hJ
 obtain ⟨arr, p1, p2⟩ := hJ.2
 have hc : w.cell? ⟨Φ.C, i, none⟩ = some (arr[i]'(by omega)) := by simp [World.cell?, p1, p2, hi]
 have hz : w.frozen? ⟨Φ.C, i, none⟩ = false := by simp [World.frozen?, p1]
 have hr : (execOp a.eval { dst := none, op := .store 53 (.tmp 10) (.tmp 9), type := 0, pos := (qL[6]?.map (·.pos)).getD "", after := (qL[6]?.map (·.after)).getD #[], guard := none }).run Tryz.prog w = .ok .skip (w.setCell ⟨Φ.C, i, none⟩ (.int .u32 x)) := by
  unfold execOp
  simp only [Act.eval, h9, h10]
  simp [go_sem, stored, hc, hz]
 have he : (execOp a.eval { dst := none, op := .store 53 (.tmp 10) (.tmp 9), type := 0, pos := (qL[6]?.map (·.pos)).getD "", after := (qL[6]?.map (·.after)).getD #[], guard := none }).events Tryz.prog w #[] = #[⟨.cell ⟨Φ.C, i, none⟩, true, false⟩] := by
  unfold execOp
  simp only [Act.eval, h9, h10]
  simp [go_sem, storedEv, hc, hz]
 have st := stepG_none (P := Tryz.prog) (main := false) (b := baseD 136) (a := a) (k := []) (cs := [bot]) (w := w) (rest := []) Ul rfl (by decide) hr
 unfold listed at st
 rw [he, seen_eq SC (by simp)] at st
 rw [hval]
 refine ⟨_, st, 200, ?_⟩
 have hK : Φ.J (w.setCell ⟨Φ.C, i, none⟩ (.int .u32 x)) := by
  refine ⟨let ⟨st, sm, y⟩ := hJ.1; ⟨st, sm, y.of_block ((aside_setCell _ ⟨Φ.C, i, none⟩ _).block _ (Ne.symm hCW))⟩, arr.setIfInBounds i (.int .u32 x), ?_, by simpa using p2⟩
  rw [setCell_eq_setRow w Φ.C i arr _ (0, 0) _ p1, setRow_heap w Φ.C _ _ _ _ p1]
 generalize w.setCell ⟨Φ.C, i, none⟩ (.int .u32 x) = w₁ at hK
 clear st he hr hc hz p1 hw hJ
 refine Sil.of (w := w₁) ?_
 obtain ⟨T, D⟩ := a
 simp only at hd
 subst hd
 simp only [Act.put]
 u_c stepG_region_end jl hK
 u_c stepG_end jl hK
 u_in jl hK
 rw [stepG_unwind_enter rfl Tryz.func137 (nm_done Tryz.link) rfl]
 simp only [goes_go]
 refine ⟨by u_nil, ?_⟩
 walk_nrmf Tryz.f137
 have hA := @Pt _ Tryz.prog Tryz.link Φ [bot] 2 Tryz.G2 hCW _ rfl (SD T []) _ hK
 simp only [body_done, doneFn, Option.getD_some] at hA
 exact Goes.mono hA (by omega)
theorem R0 : (F8[0]?.map fun o => (o.dst, o.guard)) = some (none, none) := by kernel_rfl
theorem R4 : (F8[0]?.map fun o => o.op) = some (.defer { callee := .value (.func 137), args := #[.tmp 0], argTypes := ((F8[0]?.map fun o => match o.op with | .defer c => c.argTypes | _ => #[]).getD #[]) }) := by kernel_rfl
theorem SE : ∃ o ats, F8[0]? = some o ∧ o.dst = none ∧ o.guard = none ∧ o.op = .defer { callee := .value (.func 137), args := #[.tmp 0], argTypes := ats } := by
 have h1 := R0
 have h2 := R4
 cases h : F8[0]? with
 | none => rw [h] at h1; cases h1
 | some o =>
  rw [h] at h1 h2
  simp only [Option.map_some, Option.some.injEq, Prod.mk.injEq] at h1 h2
  exact ⟨o, _, rfl, h1.1, h1.2, h2⟩
theorem TL : F8.size = 1 := by kernel_rfl
def lW : List (Option (Sh × Nat)) := [some (.addr, 0), some (.addr, 1), some (.addr, 2), some (.addr, 3), some (.addr, 4), none, none, none, none, none, none]
theorem SF : stW = { tmps := Hp lW, loc := [], n := 5, known := [], d := 0, dv := true } := rfl
def SG (C : Nat) (i : Nat) (x : Int) : Hand := fun l env _ _ => l = .norm stW' ∧ (∃ n c, env[5]? = some (.slice (some ⟨C, 0, none⟩) n c)) ∧ env[6]? = some (.int .i64 i) ∧ env[9]? = some (.int .u32 x)
theorem TM (hnb : ∀ fr cs h Q, ¬ Φ.S.big fr cs h Q) (hty : Φ.ty = Tryz.link.tWg) (hCW : Φ.C ≠ Φ.Wg) (hi : i < Φ.n) {x : Int} (hval : Φ.val i = .int .u32 x) {hc : Eng.Heap} (hin : Inv Φ.S hc)
  {fb pb sb ib : Nat} {g : FuncId} {pa : Option Addr} {pl pc : Nat}
  (hf : zb hc ⟨fb, 0, none⟩ = some (.func (.func g) #[] #[])) (hp : zb hc ⟨pb, 0, none⟩ = some (.slice pa pl pc)) (hs : zb hc ⟨sb, 0, none⟩ = some (.slice (some ⟨Φ.C, 0, none⟩) Φ.n Φ.n))
  (hib : zb hc ⟨ib, 0, none⟩ = some (.int .i64 i)) (hsum : zc Tryz.prog Φ.S g #[.slice pa pl pc] hc (fun v h' => v = .int .u32 x ∧ Eng.Sub hc h')) :
  Works Tryz.prog Φ i (Iw (Cv Φ.Wg fb pb sb ib)) [] hc := by
 refine Safe.Uh hnb false Φ.J ?_
 refine Safe.zV (fun w m => NB _ _ _ _ _ m w) ?_
 rw [Px]
 refine .seq (.region ?_)
 rw [TL]
 obtain ⟨oD, ats, d1, d2, d3, d4⟩ := SE
 refine Safe.zV (fun w m => stepG_defer (rest := []) d1 (by simp [Region.wanted, d3]) (by decide) d4) ?_
 rw [d2]
 refine .Ab (.FG fun t' => ?_)
 have e : Region.schedule (Tryz.prog.follows .mixedOrders) qL t' = Region.linearise.go .any qL 6 t' EG [] ++ [6] := by
  simp only [Region.schedule, SB, Region.linearise, TJ, Bool.true_or, if_true]
  exact linearise_last' TH t'
 rw [e, ← xe hc]
 have ha : Ok Φ.S hc (fun _ => none) := ⟨fun b hb => absurd rfl hb, hin⟩
 have env : List Value := []
 have H : Rel stW [.pointer (some ⟨Φ.Wg, 0, none⟩), .pointer (some ⟨fb, 0, none⟩), .pointer (some ⟨pb, 0, none⟩), .pointer (some ⟨sb, 0, none⟩), .pointer (some ⟨ib, 0, none⟩)] []
   (Act.put ⟨ky Φ.Wg fb pb sb ib ++ #[undef, undef, undef, undef, undef, undef], [dcall 137 (#[.tmp 0].map (Act.eval ⟨ky Φ.Wg fb pb sb ib ++ #[undef, undef, undef, undef, undef, undef], []⟩))]⟩ none undef) (fun _ => none) := by
  rw [SF]
  refine Rel.init rfl rfl (fun h => by cases h) fun i s j h => ?_
  match i, h with
  | 0, h => cases h; exact ⟨_, rfl, rfl, rfl⟩
  | 1, h => cases h; exact ⟨_, rfl, rfl, rfl⟩
  | 2, h => cases h; exact ⟨_, rfl, rfl, rfl⟩
  | 3, h => cases h; exact ⟨_, rfl, rfl, rfl⟩
  | 4, h => cases h; exact ⟨_, rfl, rfl, rfl⟩
  | 5, h => cases h
  | 6, h => cases h
  | 7, h => cases h
  | 8, h => cases h
  | 9, h => cases h
  | 10, h => cases h
  | _ + 11, h => cases h
 refine Pv Py [6] _ _ _ _ ha (JQ _ _ _ _ (FJ 6 t' [] EG _ _ _ ha (Mt SA Uk (R := fun a' _ _ => a'.tmps.getD 9 undef = .int .u32 x ∧ a'.tmps.getD 10 undef = .pointer (some ⟨Φ.C, i, none⟩))
  (Λ := SG Φ.C i x) (Q := fun _ _ => True) (Ks := []) 6 EG [] stW tW _ [] _ _ hc [] sW ?_ H ha (fun q hq => by cases hq) (.nil _) ?_))) ?_
 ·have hn : ∀ {a : Addr} {v : Value} {h' : Eng.Heap}, Eng.Sub hc h' → zb hc a = some v → zb h' a = some v := fun s hv => by
   unfold zb at hv ⊢
   cases e : hc _ with
   | none => rw [e] at hv; cases hv
   | some o => rw [e] at hv; rw [s _ o e]; exact hv
  simp only [tW, Tr.wp, zX, Ex.ev, coerce, toInt_int, zf, zn, zu, zo, zg, yF, ya, Cst.val, SV.den, z6, yl, zU, zt, zk, zG, zy, List.flatMap_cons, List.flatMap_nil, List.getD_cons_zero, List.getD_cons_succ, List.getElem?_cons_zero, List.getElem?_cons_succ, decide_eq_true_eq, List.map_cons, List.map_nil, List.cons_append, List.nil_append, List.append_nil, and_true, true_and, if_false, Bool.false_eq_true, SG]
  refine ⟨_, _, _, hs, _, hib, _, rfl, hf, _, _, _, hp, g, #[], #[], rfl, ?_⟩
  refine hsum.mono ?_
  rintro _ h' ⟨rfl, sub⟩
  refine ⟨x, rfl, fun p hp => ?_, rfl, by omega, by omega, ⟨_, _, rfl⟩, rfl, rfl⟩
  rcases List.mem_cons.1 hp with rfl | hp
  ·exact hn sub hib
  ·cases List.mem_singleton.1 hp
   exact hn sub hs
 ·rintro st' vs ms a' L' h' ⟨e1, ⟨n5, c5, e5⟩, e6, e9⟩ H' _ _
  cases e1
  have v9 := H'.vl 9 [] _ rfl (by simp)
  have v10 := H'.vl 10 [] _ rfl (by simp)
  generalize ([.pointer (some ⟨Φ.Wg, 0, none⟩), .pointer (some ⟨fb, 0, none⟩), .pointer (some ⟨pb, 0, none⟩), .pointer (some ⟨sb, 0, none⟩), .pointer (some ⟨ib, 0, none⟩)] ++ vs : List Value) = en at e5 e6 e9 v9 v10
  have w9 := Good.at v9
  have w10 := Good.at v10
  simp only [Ex.ev, List.getD_eq_getElem?_getD, e5, e6, e9, Option.getD_some, coerce, toInt_int, zo, zn, zu] at w9 w10
  refine ⟨w9.symm, w10.symm.trans ?_⟩
  simp [Addr.add]; omega
 ·rintro a' L' h' _ ⟨hd, h9, h10⟩
  exact .done (TK hty hCW hi hval (hd.trans (by simp [Act.put, Act.eval, ky])) h9 h10 _)
end
end Go.Proofs.YteaonnfokkfnlaaGreatDoor
end
section
namespace Go.Proofs.YteaonnfokkfnlaaGreatDoor
open Go Go.Eng
def SH : List (TypeId × TyD) := [(0, ⟨.oth, 1, 0, [], none, some []⟩), (1, ⟨.fnk, 1, 8, [.fnv], some [(1, .nilFn)], none⟩), (2, ⟨(.int .i64), 1, 8, [.int .i64], some [(1, (.int .i64 0))], none⟩), (3, ⟨(.int .i64), 1, 8, [.int .i64], some [(1, (.int .i64 0))], none⟩), (4, ⟨.bool, 1, 1, [.bool], some [(1, (.bool false))], none⟩), (5, ⟨(.int .u8), 1, 1, [.int .u8], some [(1, (.int .u8 0))], none⟩), (22, ⟨(.sl 5), 1, 24, [.slice], some [(1, .nilSl)], none⟩), (53, ⟨(.int .u32), 1, 4, [.int .u32], some [(1, (.int .u32 0))], none⟩), (98, ⟨(.int .u64), 1, 8, [.int .u64], some [(1, (.int .u64 0))], none⟩), (108, ⟨(.sl 2), 1, 24, [.slice], some [(1, .nilSl)], none⟩), (131, ⟨(.sl 53), 1, 24, [.slice], some [(1, .nilSl)], none⟩), (134, ⟨.fnk, 1, 8, [.fnv], some [(1, .nilFn)], none⟩), (178, ⟨(.st []), 0, 0, [], some [], none⟩), (179, ⟨(.st []), 0, 0, [], some [], none⟩), (180, ⟨(.st []), 0, 0, [], some [], none⟩), (182, ⟨(.st [(0, 179), (0, 180), (0, 98)]), 1, 8, [.int .u64], some [(1, (.int .u64 0))], none⟩), (184, ⟨(.st [(0, 178), (0, 182), (1, 53)]), 2, 16, [.int .u64, .int .u32], some [(1, (.int .u64 0)), (1, (.int .u32 0))], none⟩)]
theorem Cw : zl Tryz.prog SH := Fp (by kernel_rfl)
theorem Cx : Tryz.prog.follows .mixedOrders = true := by kernel_rfl
def cP : Cfg := ⟨SH, [], [3, 7, 9, 10, 11], [.tmp 4, .tmp 5]⟩
noncomputable def Ix : Code := Tryz.f97.body.getD .skip
noncomputable def SI : List Code := match Ix with
 | .seq r0 (.seq r1 (.seq r2 (.seq r3 (.seq (.seq r4 (.block 0 (.loop (.seq r5 (.seq _ (.seq (.block 1 (.seq r6 (.seq r7 (.seq r8 (.seq r9 r10))))) r11)))))) (.seq r12 z))))) => [r0, r1, r2, r3, r4, r5, r6, r7, r8, r9, r10, r11, r12, z]
 | _ => []
noncomputable def rP (i : Nat) : Code := SI.getD i .skip
noncomputable def Iy : Code := .seq (rP 5) (.seq (.cond (.tmp 24) .skip (.exit 0)) (.seq (.block 1 (nest [rP 6, rP 7, rP 8] (.seq (rP 9) (rP 10)))) (rP 11)))
theorem Pz : Ix = nest [rP 0, rP 1, rP 2, rP 3] (.seq (.seq (rP 4) (.block 0 (.loop Iy))) (.seq (rP 12) (rP 13))) := by kernel_rfl
def P7 : St := { tmps := [⟨[], (.x (.var (.slice) 0))⟩, ⟨[], (.x (.var (.fnv) 1))⟩, ⟨[], .junk⟩, ⟨[], (.x (.var (.addr) 2))⟩, ⟨[], (.x (.cst .nilSl))⟩, ⟨[], (.x (.cst .nilSl))⟩, ⟨[], (.x (.ar .quo .i64 (.ar .sub .i64 (.ar .add .i64 (.ln (.var (.slice) 0)) (.cst (.int .i64 32768))) (.cst (.int .i64 1))) (.cst (.int .i64 32768))))⟩, ⟨[], (.x (.var (.addr) 5))⟩, ⟨[], (.x (.var (.slice) 4))⟩, ⟨[], (.x (.var (.addr) 6))⟩, ⟨[], .junk⟩, ⟨[], .junk⟩, ⟨[], (.x (.var (.slice) 0))⟩, ⟨[], (.x (.ln (.var (.slice) 0)))⟩, ⟨[], (.x (.ar .add .i64 (.ln (.var (.slice) 0)) (.cst (.int .i64 32768))))⟩, ⟨[], (.x (.ar .sub .i64 (.ar .add .i64 (.ln (.var (.slice) 0)) (.cst (.int .i64 32768))) (.cst (.int .i64 1))))⟩, ⟨[], (.x (.ar .quo .i64 (.ar .sub .i64 (.ar .add .i64 (.ln (.var (.slice) 0)) (.cst (.int .i64 32768))) (.cst (.int .i64 1))) (.cst (.int .i64 32768))))⟩, ⟨[], (.x (.ar .quo .i64 (.ar .sub .i64 (.ar .add .i64 (.ln (.var (.slice) 0)) (.cst (.int .i64 32768))) (.cst (.int .i64 1))) (.cst (.int .i64 32768))))⟩, ⟨[], (.x (.var (.slice) 3))⟩, ⟨[], (.x (.ar .quo .i64 (.ar .sub .i64 (.ar .add .i64 (.ln (.var (.slice) 0)) (.cst (.int .i64 32768))) (.cst (.int .i64 1))) (.cst (.int .i64 32768))))⟩, ⟨[], (.x (.var (.slice) 4))⟩, ⟨[], (.agg [(.cst (.int .u64 0)), (.cst (.int .u32 0))])⟩, ⟨[], .junk⟩, ⟨[], .junk⟩, ⟨[], .junk⟩, ⟨[], .junk⟩, ⟨[], .junk⟩, ⟨[], .junk⟩, ⟨[], .junk⟩, ⟨[], .junk⟩, ⟨[], .junk⟩, ⟨[], .junk⟩, ⟨[], .junk⟩, ⟨[], .junk⟩, ⟨[], .junk⟩, ⟨[], .junk⟩, ⟨[], .junk⟩, ⟨[], .junk⟩, ⟨[], .junk⟩, ⟨[], .junk⟩, ⟨[], .junk⟩, ⟨[], .junk⟩, ⟨[], .junk⟩, ⟨[], .junk⟩, ⟨[], .junk⟩, ⟨[], .junk⟩, ⟨[], .junk⟩], loc := [], n := 7, known := [], d := 0 }
def P8 : St := { tmps := [⟨[], (.x (.var (.slice) 0))⟩, ⟨[], (.x (.var (.fnv) 1))⟩, ⟨[], .junk⟩, ⟨[], (.x (.var (.addr) 2))⟩, ⟨[], (.x (.cst .nilSl))⟩, ⟨[], (.x (.cst .nilSl))⟩, ⟨[], (.x (.ar .quo .i64 (.ar .sub .i64 (.ar .add .i64 (.ln (.var (.slice) 0)) (.cst (.int .i64 32768))) (.cst (.int .i64 1))) (.cst (.int .i64 32768))))⟩, ⟨[], (.x (.var (.addr) 4))⟩, ⟨[], (.x (.var (.slice) 5))⟩, ⟨[], (.x (.var (.addr) 6))⟩, ⟨[], .junk⟩, ⟨[], .junk⟩, ⟨[], (.x (.var (.slice) 0))⟩, ⟨[], (.x (.ln (.var (.slice) 0)))⟩, ⟨[], (.x (.ar .add .i64 (.ln (.var (.slice) 0)) (.cst (.int .i64 32768))))⟩, ⟨[], (.x (.ar .sub .i64 (.ar .add .i64 (.ln (.var (.slice) 0)) (.cst (.int .i64 32768))) (.cst (.int .i64 1))))⟩, ⟨[], (.x (.ar .quo .i64 (.ar .sub .i64 (.ar .add .i64 (.ln (.var (.slice) 0)) (.cst (.int .i64 32768))) (.cst (.int .i64 1))) (.cst (.int .i64 32768))))⟩, ⟨[], (.x (.ar .quo .i64 (.ar .sub .i64 (.ar .add .i64 (.ln (.var (.slice) 0)) (.cst (.int .i64 32768))) (.cst (.int .i64 1))) (.cst (.int .i64 32768))))⟩, ⟨[], (.x (.var (.slice) 3))⟩, ⟨[], (.x (.ar .quo .i64 (.ar .sub .i64 (.ar .add .i64 (.ln (.var (.slice) 0)) (.cst (.int .i64 32768))) (.cst (.int .i64 1))) (.cst (.int .i64 32768))))⟩, ⟨[], (.x (.var (.slice) 5))⟩, ⟨[], (.agg [(.cst (.int .u64 0)), (.cst (.int .u32 0))])⟩, ⟨[], .junk⟩, ⟨[], .junk⟩, ⟨[], .junk⟩, ⟨[], .junk⟩, ⟨[], .junk⟩, ⟨[], .junk⟩, ⟨[], .junk⟩, ⟨[], .junk⟩, ⟨[], .junk⟩, ⟨[], .junk⟩, ⟨[], .junk⟩, ⟨[], .junk⟩, ⟨[], .junk⟩, ⟨[], .junk⟩, ⟨[], .junk⟩, ⟨[], .junk⟩, ⟨[], .junk⟩, ⟨[], .junk⟩, ⟨[], .junk⟩, ⟨[], .junk⟩, ⟨[], .junk⟩, ⟨[], .junk⟩, ⟨[], .junk⟩, ⟨[], .junk⟩, ⟨[], .junk⟩], loc := [], n := 7, known := [], d := 0 }
def P9 : St := { tmps := [⟨[], (.x (.var (.slice) 0))⟩, ⟨[], (.x (.var (.fnv) 1))⟩, ⟨[], .junk⟩, ⟨[], (.x (.var (.addr) 2))⟩, ⟨[], (.x (.cst .nilSl))⟩, ⟨[], (.x (.cst .nilSl))⟩, ⟨[], (.x (.ar .quo .i64 (.ar .sub .i64 (.ar .add .i64 (.ln (.var (.slice) 0)) (.cst (.int .i64 32768))) (.cst (.int .i64 1))) (.cst (.int .i64 32768))))⟩, ⟨[], (.x (.var (.addr) 4))⟩, ⟨[], (.x (.var (.slice) 5))⟩, ⟨[], (.x (.var (.addr) 6))⟩, ⟨[], .junk⟩, ⟨[], .junk⟩, ⟨[], (.x (.var (.slice) 0))⟩, ⟨[], (.x (.ln (.var (.slice) 0)))⟩, ⟨[], (.x (.ar .add .i64 (.ln (.var (.slice) 0)) (.cst (.int .i64 32768))))⟩, ⟨[], (.x (.ar .sub .i64 (.ar .add .i64 (.ln (.var (.slice) 0)) (.cst (.int .i64 32768))) (.cst (.int .i64 1))))⟩, ⟨[], (.x (.ar .quo .i64 (.ar .sub .i64 (.ar .add .i64 (.ln (.var (.slice) 0)) (.cst (.int .i64 32768))) (.cst (.int .i64 1))) (.cst (.int .i64 32768))))⟩, ⟨[], (.x (.ar .quo .i64 (.ar .sub .i64 (.ar .add .i64 (.ln (.var (.slice) 0)) (.cst (.int .i64 32768))) (.cst (.int .i64 1))) (.cst (.int .i64 32768))))⟩, ⟨[], (.x (.var (.slice) 3))⟩, ⟨[], (.x (.ar .quo .i64 (.ar .sub .i64 (.ar .add .i64 (.ln (.var (.slice) 0)) (.cst (.int .i64 32768))) (.cst (.int .i64 1))) (.cst (.int .i64 32768))))⟩, ⟨[], (.x (.var (.slice) 5))⟩, ⟨[], (.agg [(.cst (.int .u64 0)), (.cst (.int .u32 0))])⟩, ⟨[], .junk⟩, ⟨[], .junk⟩, ⟨[], .junk⟩, ⟨[], .junk⟩, ⟨[], .junk⟩, ⟨[], .junk⟩, ⟨[], .junk⟩, ⟨[], .junk⟩, ⟨[], .junk⟩, ⟨[], .junk⟩, ⟨[], .junk⟩, ⟨[], .junk⟩, ⟨[], .junk⟩, ⟨[], .junk⟩, ⟨[], .junk⟩, ⟨[], .junk⟩, ⟨[], .junk⟩, ⟨[], .junk⟩, ⟨[], .junk⟩, ⟨[], .junk⟩, ⟨[], .junk⟩, ⟨[], .junk⟩, ⟨[], .junk⟩, ⟨[], .junk⟩, ⟨[], .junk⟩], loc := [], n := 7, known := [], d := 0 }
def PC : St := { tmps := [⟨[], (.x (.var (.slice) 0))⟩, ⟨[], (.x (.var (.fnv) 1))⟩, ⟨[], .junk⟩, ⟨[], (.x (.var (.addr) 2))⟩, ⟨[], (.x (.cst .nilSl))⟩, ⟨[], (.x (.cst .nilSl))⟩, ⟨[], (.x (.ar .quo .i64 (.ar .sub .i64 (.ar .add .i64 (.ln (.var (.slice) 0)) (.cst (.int .i64 32768))) (.cst (.int .i64 1))) (.cst (.int .i64 32768))))⟩, ⟨[], (.x (.var (.addr) 5))⟩, ⟨[], (.x (.var (.slice) 3))⟩, ⟨[], (.x (.var (.addr) 6))⟩, ⟨[], .junk⟩, ⟨[], .junk⟩, ⟨[], (.x (.var (.slice) 0))⟩, ⟨[], (.x (.ln (.var (.slice) 0)))⟩, ⟨[], (.x (.ar .add .i64 (.ln (.var (.slice) 0)) (.cst (.int .i64 32768))))⟩, ⟨[], (.x (.ar .sub .i64 (.ar .add .i64 (.ln (.var (.slice) 0)) (.cst (.int .i64 32768))) (.cst (.int .i64 1))))⟩, ⟨[], (.x (.ar .quo .i64 (.ar .sub .i64 (.ar .add .i64 (.ln (.var (.slice) 0)) (.cst (.int .i64 32768))) (.cst (.int .i64 1))) (.cst (.int .i64 32768))))⟩, ⟨[], (.x (.ar .quo .i64 (.ar .sub .i64 (.ar .add .i64 (.ln (.var (.slice) 0)) (.cst (.int .i64 32768))) (.cst (.int .i64 1))) (.cst (.int .i64 32768))))⟩, ⟨[], (.x (.var (.slice) 4))⟩, ⟨[], (.x (.ar .quo .i64 (.ar .sub .i64 (.ar .add .i64 (.ln (.var (.slice) 0)) (.cst (.int .i64 32768))) (.cst (.int .i64 1))) (.cst (.int .i64 32768))))⟩, ⟨[], (.x (.var (.slice) 3))⟩, ⟨[], (.agg [(.cst (.int .u64 0)), (.cst (.int .u32 0))])⟩, ⟨[], .junk⟩, ⟨[], .junk⟩, ⟨[], .junk⟩, ⟨[], .junk⟩, ⟨[], .junk⟩, ⟨[], .junk⟩, ⟨[], .junk⟩, ⟨[], .junk⟩, ⟨[], .junk⟩, ⟨[], .junk⟩, ⟨[], .junk⟩, ⟨[], .junk⟩, ⟨[], .junk⟩, ⟨[], .junk⟩, ⟨[], .junk⟩, ⟨[], .junk⟩, ⟨[], .junk⟩, ⟨[], .junk⟩, ⟨[], .junk⟩, ⟨[], .junk⟩, ⟨[], .junk⟩, ⟨[], .junk⟩, ⟨[], .junk⟩, ⟨[], .junk⟩, ⟨[], .junk⟩], loc := [], n := 7, known := [], d := 0 }
def PD : St := { tmps := [⟨[], (.x (.var (.slice) 0))⟩, ⟨[], (.x (.var (.fnv) 1))⟩, ⟨[], .junk⟩, ⟨[], (.x (.var (.addr) 2))⟩, ⟨[], (.x (.cst .nilSl))⟩, ⟨[], (.x (.cst .nilSl))⟩, ⟨[], (.x (.ar .quo .i64 (.ar .sub .i64 (.ar .add .i64 (.ln (.var (.slice) 0)) (.cst (.int .i64 32768))) (.cst (.int .i64 1))) (.cst (.int .i64 32768))))⟩, ⟨[], (.x (.var (.addr) 4))⟩, ⟨[], (.x (.var (.slice) 3))⟩, ⟨[], (.x (.var (.addr) 6))⟩, ⟨[], .junk⟩, ⟨[], .junk⟩, ⟨[], (.x (.var (.slice) 0))⟩, ⟨[], (.x (.ln (.var (.slice) 0)))⟩, ⟨[], (.x (.ar .add .i64 (.ln (.var (.slice) 0)) (.cst (.int .i64 32768))))⟩, ⟨[], (.x (.ar .sub .i64 (.ar .add .i64 (.ln (.var (.slice) 0)) (.cst (.int .i64 32768))) (.cst (.int .i64 1))))⟩, ⟨[], (.x (.ar .quo .i64 (.ar .sub .i64 (.ar .add .i64 (.ln (.var (.slice) 0)) (.cst (.int .i64 32768))) (.cst (.int .i64 1))) (.cst (.int .i64 32768))))⟩, ⟨[], (.x (.ar .quo .i64 (.ar .sub .i64 (.ar .add .i64 (.ln (.var (.slice) 0)) (.cst (.int .i64 32768))) (.cst (.int .i64 1))) (.cst (.int .i64 32768))))⟩, ⟨[], (.x (.var (.slice) 5))⟩, ⟨[], (.x (.ar .quo .i64 (.ar .sub .i64 (.ar .add .i64 (.ln (.var (.slice) 0)) (.cst (.int .i64 32768))) (.cst (.int .i64 1))) (.cst (.int .i64 32768))))⟩, ⟨[], (.x (.var (.slice) 3))⟩, ⟨[], (.agg [(.cst (.int .u64 0)), (.cst (.int .u32 0))])⟩, ⟨[], .junk⟩, ⟨[], .junk⟩, ⟨[], .junk⟩, ⟨[], .junk⟩, ⟨[], .junk⟩, ⟨[], .junk⟩, ⟨[], .junk⟩, ⟨[], .junk⟩, ⟨[], .junk⟩, ⟨[], .junk⟩, ⟨[], .junk⟩, ⟨[], .junk⟩, ⟨[], .junk⟩, ⟨[], .junk⟩, ⟨[], .junk⟩, ⟨[], .junk⟩, ⟨[], .junk⟩, ⟨[], .junk⟩, ⟨[], .junk⟩, ⟨[], .junk⟩, ⟨[], .junk⟩, ⟨[], .junk⟩, ⟨[], .junk⟩, ⟨[], .junk⟩, ⟨[], .junk⟩], loc := [], n := 7, known := [], d := 0 }
def PE : St := { tmps := [⟨[], (.x (.var (.slice) 0))⟩, ⟨[], (.x (.var (.fnv) 1))⟩, ⟨[], .junk⟩, ⟨[], (.x (.var (.addr) 2))⟩, ⟨[], (.x (.cst .nilSl))⟩, ⟨[], (.x (.cst .nilSl))⟩, ⟨[], (.x (.ar .quo .i64 (.ar .sub .i64 (.ar .add .i64 (.ln (.var (.slice) 0)) (.cst (.int .i64 32768))) (.cst (.int .i64 1))) (.cst (.int .i64 32768))))⟩, ⟨[], (.x (.var (.addr) 3))⟩, ⟨[], (.x (.var (.slice) 5))⟩, ⟨[], (.x (.var (.addr) 6))⟩, ⟨[], .junk⟩, ⟨[], .junk⟩, ⟨[], (.x (.var (.slice) 0))⟩, ⟨[], (.x (.ln (.var (.slice) 0)))⟩, ⟨[], (.x (.ar .add .i64 (.ln (.var (.slice) 0)) (.cst (.int .i64 32768))))⟩, ⟨[], (.x (.ar .sub .i64 (.ar .add .i64 (.ln (.var (.slice) 0)) (.cst (.int .i64 32768))) (.cst (.int .i64 1))))⟩, ⟨[], (.x (.ar .quo .i64 (.ar .sub .i64 (.ar .add .i64 (.ln (.var (.slice) 0)) (.cst (.int .i64 32768))) (.cst (.int .i64 1))) (.cst (.int .i64 32768))))⟩, ⟨[], (.x (.ar .quo .i64 (.ar .sub .i64 (.ar .add .i64 (.ln (.var (.slice) 0)) (.cst (.int .i64 32768))) (.cst (.int .i64 1))) (.cst (.int .i64 32768))))⟩, ⟨[], (.x (.var (.slice) 4))⟩, ⟨[], (.x (.ar .quo .i64 (.ar .sub .i64 (.ar .add .i64 (.ln (.var (.slice) 0)) (.cst (.int .i64 32768))) (.cst (.int .i64 1))) (.cst (.int .i64 32768))))⟩, ⟨[], (.x (.var (.slice) 5))⟩, ⟨[], (.agg [(.cst (.int .u64 0)), (.cst (.int .u32 0))])⟩, ⟨[], .junk⟩, ⟨[], .junk⟩, ⟨[], .junk⟩, ⟨[], .junk⟩, ⟨[], .junk⟩, ⟨[], .junk⟩, ⟨[], .junk⟩, ⟨[], .junk⟩, ⟨[], .junk⟩, ⟨[], .junk⟩, ⟨[], .junk⟩, ⟨[], .junk⟩, ⟨[], .junk⟩, ⟨[], .junk⟩, ⟨[], .junk⟩, ⟨[], .junk⟩, ⟨[], .junk⟩, ⟨[], .junk⟩, ⟨[], .junk⟩, ⟨[], .junk⟩, ⟨[], .junk⟩, ⟨[], .junk⟩, ⟨[], .junk⟩, ⟨[], .junk⟩, ⟨[], .junk⟩], loc := [], n := 7, known := [], d := 0 }
def PH : St := { tmps := [⟨[], (.x (.var (.slice) 0))⟩, ⟨[], (.x (.var (.fnv) 1))⟩, ⟨[], .junk⟩, ⟨[], (.x (.var (.addr) 2))⟩, ⟨[], (.x (.cst .nilSl))⟩, ⟨[], (.x (.cst .nilSl))⟩, ⟨[], (.x (.ar .quo .i64 (.ar .sub .i64 (.ar .add .i64 (.ln (.var (.slice) 0)) (.cst (.int .i64 32768))) (.cst (.int .i64 1))) (.cst (.int .i64 32768))))⟩, ⟨[], (.x (.var (.addr) 3))⟩, ⟨[], (.x (.var (.slice) 5))⟩, ⟨[], (.x (.var (.addr) 6))⟩, ⟨[], .junk⟩, ⟨[], .junk⟩, ⟨[], (.x (.var (.slice) 0))⟩, ⟨[], (.x (.ln (.var (.slice) 0)))⟩, ⟨[], (.x (.ar .add .i64 (.ln (.var (.slice) 0)) (.cst (.int .i64 32768))))⟩, ⟨[], (.x (.ar .sub .i64 (.ar .add .i64 (.ln (.var (.slice) 0)) (.cst (.int .i64 32768))) (.cst (.int .i64 1))))⟩, ⟨[], (.x (.ar .quo .i64 (.ar .sub .i64 (.ar .add .i64 (.ln (.var (.slice) 0)) (.cst (.int .i64 32768))) (.cst (.int .i64 1))) (.cst (.int .i64 32768))))⟩, ⟨[], (.x (.ar .quo .i64 (.ar .sub .i64 (.ar .add .i64 (.ln (.var (.slice) 0)) (.cst (.int .i64 32768))) (.cst (.int .i64 1))) (.cst (.int .i64 32768))))⟩, ⟨[], (.x (.var (.slice) 4))⟩, ⟨[], (.x (.ar .quo .i64 (.ar .sub .i64 (.ar .add .i64 (.ln (.var (.slice) 0)) (.cst (.int .i64 32768))) (.cst (.int .i64 1))) (.cst (.int .i64 32768))))⟩, ⟨[], (.x (.var (.slice) 5))⟩, ⟨[], (.agg [(.cst (.int .u64 0)), (.cst (.int .u32 0))])⟩, ⟨[], .junk⟩, ⟨[], .junk⟩, ⟨[], .junk⟩, ⟨[], .junk⟩, ⟨[], .junk⟩, ⟨[], .junk⟩, ⟨[], .junk⟩, ⟨[], .junk⟩, ⟨[], .junk⟩, ⟨[], .junk⟩, ⟨[], .junk⟩, ⟨[], .junk⟩, ⟨[], .junk⟩, ⟨[], .junk⟩, ⟨[], .junk⟩, ⟨[], .junk⟩, ⟨[], .junk⟩, ⟨[], .junk⟩, ⟨[], .junk⟩, ⟨[], .junk⟩, ⟨[], .junk⟩, ⟨[], .junk⟩, ⟨[], .junk⟩, ⟨[], .junk⟩, ⟨[], .junk⟩], loc := [], n := 7, known := [], d := 0 }
def PI : St := { tmps := [⟨[], (.x (.var (.slice) 0))⟩, ⟨[], (.x (.var (.fnv) 1))⟩, ⟨[], .junk⟩, ⟨[], (.x (.var (.addr) 2))⟩, ⟨[], (.x (.cst .nilSl))⟩, ⟨[], (.x (.cst .nilSl))⟩, ⟨[], (.x (.ar .quo .i64 (.ar .sub .i64 (.ar .add .i64 (.ln (.var (.slice) 0)) (.cst (.int .i64 32768))) (.cst (.int .i64 1))) (.cst (.int .i64 32768))))⟩, ⟨[], (.x (.var (.addr) 3))⟩, ⟨[], (.x (.var (.slice) 4))⟩, ⟨[], (.x (.var (.addr) 6))⟩, ⟨[], .junk⟩, ⟨[], .junk⟩, ⟨[], (.x (.var (.slice) 0))⟩, ⟨[], (.x (.ln (.var (.slice) 0)))⟩, ⟨[], (.x (.ar .add .i64 (.ln (.var (.slice) 0)) (.cst (.int .i64 32768))))⟩, ⟨[], (.x (.ar .sub .i64 (.ar .add .i64 (.ln (.var (.slice) 0)) (.cst (.int .i64 32768))) (.cst (.int .i64 1))))⟩, ⟨[], (.x (.ar .quo .i64 (.ar .sub .i64 (.ar .add .i64 (.ln (.var (.slice) 0)) (.cst (.int .i64 32768))) (.cst (.int .i64 1))) (.cst (.int .i64 32768))))⟩, ⟨[], (.x (.ar .quo .i64 (.ar .sub .i64 (.ar .add .i64 (.ln (.var (.slice) 0)) (.cst (.int .i64 32768))) (.cst (.int .i64 1))) (.cst (.int .i64 32768))))⟩, ⟨[], (.x (.var (.slice) 5))⟩, ⟨[], (.x (.ar .quo .i64 (.ar .sub .i64 (.ar .add .i64 (.ln (.var (.slice) 0)) (.cst (.int .i64 32768))) (.cst (.int .i64 1))) (.cst (.int .i64 32768))))⟩, ⟨[], (.x (.var (.slice) 4))⟩, ⟨[], (.agg [(.cst (.int .u64 0)), (.cst (.int .u32 0))])⟩, ⟨[], .junk⟩, ⟨[], .junk⟩, ⟨[], .junk⟩, ⟨[], .junk⟩, ⟨[], .junk⟩, ⟨[], .junk⟩, ⟨[], .junk⟩, ⟨[], .junk⟩, ⟨[], .junk⟩, ⟨[], .junk⟩, ⟨[], .junk⟩, ⟨[], .junk⟩, ⟨[], .junk⟩, ⟨[], .junk⟩, ⟨[], .junk⟩, ⟨[], .junk⟩, ⟨[], .junk⟩, ⟨[], .junk⟩, ⟨[], .junk⟩, ⟨[], .junk⟩, ⟨[], .junk⟩, ⟨[], .junk⟩, ⟨[], .junk⟩, ⟨[], .junk⟩, ⟨[], .junk⟩], loc := [], n := 7, known := [], d := 0 }
def tA : Tr :=
(.hall 134 [(1, (.var (.fnv) 1))]
(.both
 (.mks 53 1 4 [(.int .u32 0)] (.ar .quo .i64 (.ar .sub .i64 (.ar .add .i64 (.ln (.var (.slice) 0)) (.cst (.int .i64 32768))) (.cst (.int .i64 1))) (.cst (.int .i64 32768))) (.ar .quo .i64 (.ar .sub .i64 (.ar .add .i64 (.ln (.var (.slice) 0)) (.cst (.int .i64 32768))) (.cst (.int .i64 1))) (.cst (.int .i64 32768)))
 (.both
  (.mks 2 1 8 [(.int .i64 0)] (.ar .quo .i64 (.ar .sub .i64 (.ar .add .i64 (.ln (.var (.slice) 0)) (.cst (.int .i64 32768))) (.cst (.int .i64 1))) (.cst (.int .i64 32768))) (.ar .quo .i64 (.ar .sub .i64 (.ar .add .i64 (.ln (.var (.slice) 0)) (.cst (.int .i64 32768))) (.cst (.int .i64 1))) (.cst (.int .i64 32768)))
  (.hall 131 [(1, (.cst .nilSl))]
  (.hsto (.var (.addr) 5) [(.var (.slice) 3)]
  (.hall 184 [(1, (.cst (.int .u64 0))), (1, (.cst (.int .u32 0)))]
  (.hsto (.var (.addr) 6) [(.cst (.int .u64 0)), (.cst (.int .u32 0))]
  (.leaf (.norm P7)))))))
  (.hall 131 [(1, (.cst .nilSl))]
  (.both
   (.mks 2 1 8 [(.int .i64 0)] (.ar .quo .i64 (.ar .sub .i64 (.ar .add .i64 (.ln (.var (.slice) 0)) (.cst (.int .i64 32768))) (.cst (.int .i64 1))) (.cst (.int .i64 32768))) (.ar .quo .i64 (.ar .sub .i64 (.ar .add .i64 (.ln (.var (.slice) 0)) (.cst (.int .i64 32768))) (.cst (.int .i64 1))) (.cst (.int .i64 32768)))
   (.hsto (.var (.addr) 4) [(.var (.slice) 3)]
   (.hall 184 [(1, (.cst (.int .u64 0))), (1, (.cst (.int .u32 0)))]
   (.hsto (.var (.addr) 6) [(.cst (.int .u64 0)), (.cst (.int .u32 0))]
   (.leaf (.norm P8))))))
   (.hsto (.var (.addr) 4) [(.var (.slice) 3)]
   (.mks 2 1 8 [(.int .i64 0)] (.ar .quo .i64 (.ar .sub .i64 (.ar .add .i64 (.ln (.var (.slice) 0)) (.cst (.int .i64 32768))) (.cst (.int .i64 1))) (.cst (.int .i64 32768))) (.ar .quo .i64 (.ar .sub .i64 (.ar .add .i64 (.ln (.var (.slice) 0)) (.cst (.int .i64 32768))) (.cst (.int .i64 1))) (.cst (.int .i64 32768)))
   (.hall 184 [(1, (.cst (.int .u64 0))), (1, (.cst (.int .u32 0)))]
   (.hsto (.var (.addr) 6) [(.cst (.int .u64 0)), (.cst (.int .u32 0))]
   (.leaf (.norm P9))))))))))
 (.both
  (.mks 2 1 8 [(.int .i64 0)] (.ar .quo .i64 (.ar .sub .i64 (.ar .add .i64 (.ln (.var (.slice) 0)) (.cst (.int .i64 32768))) (.cst (.int .i64 1))) (.cst (.int .i64 32768))) (.ar .quo .i64 (.ar .sub .i64 (.ar .add .i64 (.ln (.var (.slice) 0)) (.cst (.int .i64 32768))) (.cst (.int .i64 1))) (.cst (.int .i64 32768)))
  (.both
   (.mks 53 1 4 [(.int .u32 0)] (.ar .quo .i64 (.ar .sub .i64 (.ar .add .i64 (.ln (.var (.slice) 0)) (.cst (.int .i64 32768))) (.cst (.int .i64 1))) (.cst (.int .i64 32768))) (.ar .quo .i64 (.ar .sub .i64 (.ar .add .i64 (.ln (.var (.slice) 0)) (.cst (.int .i64 32768))) (.cst (.int .i64 1))) (.cst (.int .i64 32768)))
   (.hall 131 [(1, (.cst .nilSl))]
   (.hsto (.var (.addr) 5) [(.var (.slice) 4)]
   (.hall 184 [(1, (.cst (.int .u64 0))), (1, (.cst (.int .u32 0)))]
   (.hsto (.var (.addr) 6) [(.cst (.int .u64 0)), (.cst (.int .u32 0))]
   (.leaf (.norm PC)))))))
   (.hall 131 [(1, (.cst .nilSl))]
   (.mks 53 1 4 [(.int .u32 0)] (.ar .quo .i64 (.ar .sub .i64 (.ar .add .i64 (.ln (.var (.slice) 0)) (.cst (.int .i64 32768))) (.cst (.int .i64 1))) (.cst (.int .i64 32768))) (.ar .quo .i64 (.ar .sub .i64 (.ar .add .i64 (.ln (.var (.slice) 0)) (.cst (.int .i64 32768))) (.cst (.int .i64 1))) (.cst (.int .i64 32768)))
   (.hsto (.var (.addr) 4) [(.var (.slice) 5)]
   (.hall 184 [(1, (.cst (.int .u64 0))), (1, (.cst (.int .u32 0)))]
   (.hsto (.var (.addr) 6) [(.cst (.int .u64 0)), (.cst (.int .u32 0))]
   (.leaf (.norm PD)))))))))
  (.hall 131 [(1, (.cst .nilSl))]
  (.both
   (.mks 53 1 4 [(.int .u32 0)] (.ar .quo .i64 (.ar .sub .i64 (.ar .add .i64 (.ln (.var (.slice) 0)) (.cst (.int .i64 32768))) (.cst (.int .i64 1))) (.cst (.int .i64 32768))) (.ar .quo .i64 (.ar .sub .i64 (.ar .add .i64 (.ln (.var (.slice) 0)) (.cst (.int .i64 32768))) (.cst (.int .i64 1))) (.cst (.int .i64 32768)))
   (.both
    (.mks 2 1 8 [(.int .i64 0)] (.ar .quo .i64 (.ar .sub .i64 (.ar .add .i64 (.ln (.var (.slice) 0)) (.cst (.int .i64 32768))) (.cst (.int .i64 1))) (.cst (.int .i64 32768))) (.ar .quo .i64 (.ar .sub .i64 (.ar .add .i64 (.ln (.var (.slice) 0)) (.cst (.int .i64 32768))) (.cst (.int .i64 1))) (.cst (.int .i64 32768)))
    (.hsto (.var (.addr) 3) [(.var (.slice) 4)]
    (.hall 184 [(1, (.cst (.int .u64 0))), (1, (.cst (.int .u32 0)))]
    (.hsto (.var (.addr) 6) [(.cst (.int .u64 0)), (.cst (.int .u32 0))]
    (.leaf (.norm PE))))))
    (.hsto (.var (.addr) 3) [(.var (.slice) 4)]
    (.mks 2 1 8 [(.int .i64 0)] (.ar .quo .i64 (.ar .sub .i64 (.ar .add .i64 (.ln (.var (.slice) 0)) (.cst (.int .i64 32768))) (.cst (.int .i64 1))) (.cst (.int .i64 32768))) (.ar .quo .i64 (.ar .sub .i64 (.ar .add .i64 (.ln (.var (.slice) 0)) (.cst (.int .i64 32768))) (.cst (.int .i64 1))) (.cst (.int .i64 32768)))
    (.hall 184 [(1, (.cst (.int .u64 0))), (1, (.cst (.int .u32 0)))]
    (.hsto (.var (.addr) 6) [(.cst (.int .u64 0)), (.cst (.int .u32 0))]
    (.leaf (.norm PH))))))))
   (.mks 2 1 8 [(.int .i64 0)] (.ar .quo .i64 (.ar .sub .i64 (.ar .add .i64 (.ln (.var (.slice) 0)) (.cst (.int .i64 32768))) (.cst (.int .i64 1))) (.cst (.int .i64 32768))) (.ar .quo .i64 (.ar .sub .i64 (.ar .add .i64 (.ln (.var (.slice) 0)) (.cst (.int .i64 32768))) (.cst (.int .i64 1))) (.cst (.int .i64 32768)))
   (.mks 53 1 4 [(.int .u32 0)] (.ar .quo .i64 (.ar .sub .i64 (.ar .add .i64 (.ln (.var (.slice) 0)) (.cst (.int .i64 32768))) (.cst (.int .i64 1))) (.cst (.int .i64 32768))) (.ar .quo .i64 (.ar .sub .i64 (.ar .add .i64 (.ln (.var (.slice) 0)) (.cst (.int .i64 32768))) (.cst (.int .i64 1))) (.cst (.int .i64 32768)))
   (.hsto (.var (.addr) 3) [(.var (.slice) 5)]
   (.hall 184 [(1, (.cst (.int .u64 0))), (1, (.cst (.int .u32 0)))]
   (.hsto (.var (.addr) 6) [(.cst (.int .u64 0)), (.cst (.int .u32 0))]
   (.leaf (.norm PI))))))))))))
theorem sA : sxs cP [rP 0, rP 1, rP 2, rP 3] (BU 47 [(0, .slice), (1, .fnv)]) = some tA := by kernel_rfl
def SJ : St := { tmps := [⟨[], (.x (.var (.slice) 0))⟩, ⟨[], .junk⟩, ⟨[], .junk⟩, ⟨[], (.x (.var (.addr) 1))⟩, ⟨[], .junk⟩, ⟨[], .junk⟩, ⟨[], (.x (.var (.int .i64) 5))⟩, ⟨[], (.x (.var (.addr) 2))⟩, ⟨[], (.x (.var (.slice) 3))⟩, ⟨[], (.x (.var (.addr) 4))⟩, ⟨[], .junk⟩, ⟨[], .junk⟩, ⟨[], .junk⟩, ⟨[], .junk⟩, ⟨[], .junk⟩, ⟨[], .junk⟩, ⟨[], .junk⟩, ⟨[], .junk⟩, ⟨[], .junk⟩, ⟨[], .junk⟩, ⟨[], .junk⟩, ⟨[], .junk⟩, ⟨[], (.x (.var (.int .i64) 5))⟩, ⟨[], (.x (.cst (.int .i64 0)))⟩, ⟨[], .junk⟩, ⟨[], .junk⟩, ⟨[], .junk⟩, ⟨[], .junk⟩, ⟨[], .junk⟩, ⟨[], .junk⟩, ⟨[], .junk⟩, ⟨[], .junk⟩, ⟨[], .junk⟩, ⟨[], .junk⟩, ⟨[], .junk⟩, ⟨[], .junk⟩, ⟨[], .junk⟩, ⟨[], .junk⟩, ⟨[], .junk⟩, ⟨[], .junk⟩, ⟨[], .junk⟩, ⟨[], .junk⟩, ⟨[], .junk⟩, ⟨[], .junk⟩, ⟨[], .junk⟩, ⟨[], .junk⟩, ⟨[], .junk⟩], loc := [], n := 6, known := [], d := 0 }
def t4 : Tr :=
(.leaf (.norm SJ))
theorem s4 : sxs cP [rP 4] (BU 47 [(0, .slice), (3, .addr), (7, .addr), (8, .slice), (9, .addr), (6, .int .i64)]) = some t4 := by kernel_rfl
def PK : St := { tmps := [⟨[], (.x (.var (.slice) 0))⟩, ⟨[], .junk⟩, ⟨[], .junk⟩, ⟨[], (.x (.var (.addr) 1))⟩, ⟨[], .junk⟩, ⟨[], .junk⟩, ⟨[], .junk⟩, ⟨[], (.x (.var (.addr) 2))⟩, ⟨[], (.x (.var (.slice) 3))⟩, ⟨[], (.x (.var (.addr) 4))⟩, ⟨[], .junk⟩, ⟨[], .junk⟩, ⟨[], .junk⟩, ⟨[], .junk⟩, ⟨[], .junk⟩, ⟨[], .junk⟩, ⟨[], .junk⟩, ⟨[], .junk⟩, ⟨[], .junk⟩, ⟨[], .junk⟩, ⟨[], .junk⟩, ⟨[], .junk⟩, ⟨[], (.x (.var (.int .i64) 5))⟩, ⟨[], (.x (.var (.int .i64) 6))⟩, ⟨[], (.x (.cm .lss (.var (.int .i64) 6) (.var (.int .i64) 5)))⟩, ⟨[], .junk⟩, ⟨[], .junk⟩, ⟨[], .junk⟩, ⟨[], .junk⟩, ⟨[], .junk⟩, ⟨[], .junk⟩, ⟨[], .junk⟩, ⟨[], .junk⟩, ⟨[], .junk⟩, ⟨[], .junk⟩, ⟨[], .junk⟩, ⟨[], .junk⟩, ⟨[], .junk⟩, ⟨[], .junk⟩, ⟨[], .junk⟩, ⟨[], .junk⟩, ⟨[], .junk⟩, ⟨[], .junk⟩, ⟨[], .junk⟩, ⟨[], .junk⟩, ⟨[], .junk⟩, ⟨[], .junk⟩], loc := [], n := 7, known := [], d := 0 }
def t5 : Tr :=
(.leaf (.norm PK))
theorem s5 : sxs cP [rP 5] (BU 47 [(0, .slice), (3, .addr), (7, .addr), (8, .slice), (9, .addr), (22, .int .i64), (23, .int .i64)]) = some t5 := by kernel_rfl
def Qp : St := { tmps := [⟨[], (.x (.var (.slice) 0))⟩, ⟨[], .junk⟩, ⟨[], .junk⟩, ⟨[], (.x (.var (.addr) 1))⟩, ⟨[], .junk⟩, ⟨[], .junk⟩, ⟨[], .junk⟩, ⟨[], (.x (.var (.addr) 2))⟩, ⟨[], (.x (.var (.slice) 3))⟩, ⟨[], (.x (.var (.addr) 4))⟩, ⟨[], (.x (.var (.addr) 7))⟩, ⟨[], (.x (.var (.addr) 10))⟩, ⟨[], .junk⟩, ⟨[], .junk⟩, ⟨[], .junk⟩, ⟨[], .junk⟩, ⟨[], .junk⟩, ⟨[], .junk⟩, ⟨[], .junk⟩, ⟨[], .junk⟩, ⟨[], .junk⟩, ⟨[], .junk⟩, ⟨[], (.x (.var (.int .i64) 5))⟩, ⟨[], (.x (.var (.int .i64) 6))⟩, ⟨[], .junk⟩, ⟨[], (.x (.var (.int .i64) 6))⟩, ⟨[], (.x (.var (.slice) 0))⟩, ⟨[], (.x (.var (.int .i64) 8))⟩, ⟨[], (.x (.ar .mul .i64 (.var (.int .i64) 8) (.cst (.int .i64 32768))))⟩, ⟨[], (.x (.var (.int .i64) 9))⟩, ⟨[], (.x (.ar .add .i64 (.var (.int .i64) 9) (.cst (.int .i64 1))))⟩, ⟨[], (.x (.ar .mul .i64 (.ar .add .i64 (.var (.int .i64) 9) (.cst (.int .i64 1))) (.cst (.int .i64 32768))))⟩, ⟨[], (.x (.var (.slice) 0))⟩, ⟨[], (.x (.ln (.var (.slice) 0)))⟩, ⟨[], (.x (.mn (.ar .mul .i64 (.ar .add .i64 (.var (.int .i64) 9) (.cst (.int .i64 1))) (.cst (.int .i64 32768))) (.ln (.var (.slice) 0))))⟩, ⟨[], (.x (.sub 1 (.var (.slice) 0) (.ar .mul .i64 (.var (.int .i64) 8) (.cst (.int .i64 32768))) (.mn (.ar .mul .i64 (.ar .add .i64 (.var (.int .i64) 9) (.cst (.int .i64 1))) (.cst (.int .i64 32768))) (.ln (.var (.slice) 0))) .nl))⟩, ⟨[], (.x (.var (.slice) 3))⟩, ⟨[], (.x (.var (.int .i64) 11))⟩, ⟨[], (.x (.var (.slice) 12))⟩, ⟨[], (.x (.ln (.var (.slice) 12)))⟩, ⟨[], (.x (.ix 1 (.var (.slice) 3) (.var (.int .i64) 11)))⟩, ⟨[], .junk⟩, ⟨[], .junk⟩, ⟨[], .junk⟩, ⟨[], .junk⟩, ⟨[], .junk⟩, ⟨[], .junk⟩], loc := [], n := 13, known := [], d := 0 }
def tBk : Tr :=
(.hall 3 [(1, (.cst (.int .i64 0)))]
(.hsto (.var (.addr) 7) [(.var (.int .i64) 6)]
(.load (.var (.addr) 7) [.int .i64]
(.load (.var (.addr) 7) [.int .i64]
(.need (.cm .leq (.cst (.int .i64 0)) (.mn (.ar .mul .i64 (.ar .add .i64 (.var (.int .i64) 9) (.cst (.int .i64 1))) (.cst (.int .i64 32768))) (.ln (.var (.slice) 0))))
(.need (.cm .leq (.mn (.ar .mul .i64 (.ar .add .i64 (.var (.int .i64) 9) (.cst (.int .i64 1))) (.cst (.int .i64 32768))) (.ln (.var (.slice) 0))) (.cp (.var (.slice) 0)))
(.need (.cm .leq (.cst (.int .i64 0)) (.ar .mul .i64 (.var (.int .i64) 8) (.cst (.int .i64 32768))))
(.need (.cm .leq (.ar .mul .i64 (.var (.int .i64) 8) (.cst (.int .i64 32768))) (.mn (.ar .mul .i64 (.ar .add .i64 (.var (.int .i64) 9) (.cst (.int .i64 1))) (.cst (.int .i64 32768))) (.ln (.var (.slice) 0))))
(.hall 22 [(1, (.cst .nilSl))]
(.hsto (.var (.addr) 10) [(.sub 1 (.var (.slice) 0) (.ar .mul .i64 (.var (.int .i64) 8) (.cst (.int .i64 32768))) (.mn (.ar .mul .i64 (.ar .add .i64 (.var (.int .i64) 9) (.cst (.int .i64 1))) (.cst (.int .i64 32768))) (.ln (.var (.slice) 0))) .nl)]
(.load (.var (.addr) 7) [.int .i64]
(.load (.var (.addr) 10) [.slice]
(.need (.nt (.nn (.var (.slice) 3)))
(.need (.cm .leq (.cst (.int .i64 0)) (.var (.int .i64) 11))
(.need (.cm .lss (.var (.int .i64) 11) (.ln (.var (.slice) 3)))
(.hsto (.ix 1 (.var (.slice) 3) (.var (.int .i64) 11)) [(.ln (.var (.slice) 12))]
(.leaf (.norm Qp))))))))))))))))))
theorem sBk : sxs cP [rP 6, rP 7, rP 8] (BU 47 [(0, .slice), (3, .addr), (7, .addr), (8, .slice), (9, .addr), (22, .int .i64), (23, .int .i64)]) = some tBk := by kernel_rfl
def LI : St := { tmps := [⟨[], (.x (.var (.slice) 0))⟩, ⟨[], .junk⟩, ⟨[], .junk⟩, ⟨[], (.x (.var (.addr) 1))⟩, ⟨[], .junk⟩, ⟨[], .junk⟩, ⟨[], .junk⟩, ⟨[], (.x (.var (.addr) 2))⟩, ⟨[], (.x (.var (.slice) 3))⟩, ⟨[], (.x (.var (.addr) 4))⟩, ⟨[], .junk⟩, ⟨[], .junk⟩, ⟨[], .junk⟩, ⟨[], .junk⟩, ⟨[], .junk⟩, ⟨[], .junk⟩, ⟨[], .junk⟩, ⟨[], .junk⟩, ⟨[], .junk⟩, ⟨[], .junk⟩, ⟨[], .junk⟩, ⟨[], .junk⟩, ⟨[], (.x (.var (.int .i64) 5))⟩, ⟨[], (.x (.ar .add .i64 (.var (.int .i64) 6) (.cst (.int .i64 1))))⟩, ⟨[], .junk⟩, ⟨[], .junk⟩, ⟨[], .junk⟩, ⟨[], .junk⟩, ⟨[], .junk⟩, ⟨[], .junk⟩, ⟨[], .junk⟩, ⟨[], .junk⟩, ⟨[], .junk⟩, ⟨[], .junk⟩, ⟨[], .junk⟩, ⟨[], .junk⟩, ⟨[], .junk⟩, ⟨[], .junk⟩, ⟨[], .junk⟩, ⟨[], .junk⟩, ⟨[], .junk⟩, ⟨[], .junk⟩, ⟨[], .junk⟩, ⟨[], (.x (.ar .add .i64 (.var (.int .i64) 6) (.cst (.int .i64 1))))⟩, ⟨[], .junk⟩, ⟨[], .junk⟩, ⟨[], .junk⟩], loc := [], n := 7, known := [], d := 0 }
def t11 : Tr :=
(.leaf (.norm LI))
theorem s11 : sxs cP [rP 11] (BU 47 [(0, .slice), (3, .addr), (7, .addr), (8, .slice), (9, .addr), (22, .int .i64), (23, .int .i64)]) = some t11 := by kernel_rfl
def tZ : Tr :=
(.load (.var (.addr) 0) [.slice]
(.ret (.tup [(false, [(.var (.slice) 2)]), (false, [(.var (.slice) 1)])])))
theorem sZ : sxC cP (rP 13) (BU 47 [(7, .addr), (8, .slice)]) = some tZ := by kernel_rfl
end Go.Proofs.YteaonnfokkfnlaaGreatDoor
end
section
namespace Go.Proofs.YteaonnfokkfnlaaGreatDoor
open Go Go.Eng Go.Conc Go.RowKit Go.Conc.Lib Go.ConcR.Gen
open Go.ConcR (KK wgBlock WgAt stA smA rd wr DC0 Payload)
section
variable {S : Shared} {h : Eng.Heap}
theorem yA {h : Eng.Heap} {b x : Nat} {o : Obj} : upd h b o x = none ↔ x ≠ b ∧ h x = none := by
 unfold upd; by_cases e : x = b <;> simp [e]
theorem y7 {h : Eng.Heap} {b : Nat} {o : Obj} : upd h b o b = some o := by simp [upd]
theorem yu {h : Eng.Heap} {b x : Nat} {o : Obj} (e : x ≠ b) : upd h b o x = h x := by simp [upd, e]
theorem BV {b : Nat} {u v : Value} {T : TypeId} {K : Eng.Heap → Prop} (hb : h b = some (.cells #[u] T)) (hS : ¬ S b) (k : K (upd h b (.cells #[v] T))) : zY S ⟨b, 0, none⟩ 0 [v] h K := by
 have e : zw h (Addr.add ⟨b, 0, none⟩ 0) v = upd h b (.cells #[v] T) := by
  funext x
  by_cases hx : x = b
  ·subst hx; simp [zw, upd, Addr.add, hb]
  ·simp [zw, upd, Addr.add, hx]
 refine ⟨⟨⟨u, by simp [zb, Addr.add, hb]⟩, by simp [yx, Addr.add, hb], by simpa [Addr.add] using hS⟩, ?_⟩
 rw [e]; exact k
theorem Ee {b : Nat} {u u2 v v2 : Value} {T : TypeId} {K : Eng.Heap → Prop} (hb : h b = some (.cells #[u, u2] T)) (hS : ¬ S b) (k : K (upd h b (.cells #[v, v2] T))) : zY S ⟨b, 0, none⟩ 0 [v, v2] h K := by
 have e : zw (zw h (Addr.add ⟨b, 0, none⟩ 0) v) (Addr.add ⟨b, 0, none⟩ 1) v2 = upd h b (.cells #[v, v2] T) := by
  funext x
  by_cases hx : x = b
  ·subst hx; simp [zw, upd, Addr.add, hb]
  ·simp [zw, upd, Addr.add, hx]
 refine ⟨⟨⟨u, by simp [zb, Addr.add, hb]⟩, by simp [yx, Addr.add, hb], by simpa [Addr.add] using hS⟩, ⟨⟨u2, by simp [zw, zb, Addr.add, hb]⟩, by simp [zw, yx, Addr.add, hb], by simpa [Addr.add] using hS⟩, ?_⟩
 rw [e]; exact k
theorem Um {b j : Nat} {cs : Array Value} {v : Value} {T : TypeId} {K : Eng.Heap → Prop} (hb : h b = some (.cells cs T)) (hj : j < cs.size) (hS : ¬ S b) (k : K (upd h b (.cells (cs.setIfInBounds j v) T))) :
  zY S (((some (⟨b, 0, none⟩ : Addr)).getD default).add (((j : Int).toNat) * 1)) 0 [v] h K := by
 have ea : (((some (⟨b, 0, none⟩ : Addr)).getD default).add (((j : Int).toNat) * 1)).add 0 = ⟨b, j, none⟩ := by
  have e0 : ∀ (x : Addr), x.add 0 = x := fun x => by simp [Addr.add]
  rw [e0, Int.toNat_natCast, Nat.mul_one, Option.getD_some, zj, Nat.zero_add]
 refine ⟨⟨⟨cs[j], by rw [ea]; simp [zb, hb, hj]⟩, by rw [ea]; simp [yx, hb], by rw [ea]; exact hS⟩, ?_⟩
 have e : zw h ((((some (⟨b, 0, none⟩ : Addr)).getD default).add (((j : Int).toNat) * 1)).add 0) v = upd h b (.cells (cs.setIfInBounds j v) T) := by
  rw [ea]
  funext x
  by_cases hx : x = b
  ·subst hx; simp [zw, upd, hb]
  ·simp [zw, upd, hx]
 rw [e]; exact k
theorem jr.intro {n : Nat} {is : List Nat} {R : (Nat → Value) → Eng.Heap → Prop} {env : List Value} {Ks : List Kt} (st : St) (h1 : st.loc = []) (h2 : st.dv = false) (h3 : st.tmps.length = n) (h4 : is.all (isX st) = true) (h5 : R (got st env) h) :
  jr n is R (.norm st) env h Ks := ⟨st, rfl, h1, h2, h3, h4, h5⟩
def RA (h : Eng.Heap) (da : Value) (fv : Value) (n : Nat) (f : Nat → Value) (h' : Eng.Heap) : Prop :=
 ∃ fb bC bS sb wg : Nat, f 0 = da ∧ f 3 = .pointer (some ⟨fb, 0, none⟩) ∧ f 6 = .int .i64 n ∧ f 7 = .pointer (some ⟨sb, 0, none⟩) ∧ f 8 = .slice (some ⟨bS, 0, none⟩) n n ∧ f 9 = .pointer (some ⟨wg, 0, none⟩) ∧
  [fb, bC, bS, sb, wg].Nodup ∧ (∀ b ∈ [fb, bC, bS, sb, wg], h b = none) ∧ Eng.Sub h h' ∧
  h' fb = some (.cells #[fv] 134) ∧ h' bC = some (.cells (yd n #[.int .u32 0]) 53) ∧ h' bS = some (.cells (yd n #[.int .i64 0]) 2) ∧
  h' sb = some (.cells #[.slice (some ⟨bC, 0, none⟩) n n] 131) ∧ h' wg = some (wgBlock 184 0 0)
theorem wpA {a : Option Addr} {l c : Nat} {fv : Value} (hfv : qF fv = fv) (hi : Inv S h) (hl : l < 2 ^ 40) {n : Nat} (hn : n = (l + 32767) / 32768) :
  tA.wp Tryz.prog S (jr 47 [0, 3, 6, 7, 8, 9] (RA h (.slice a l c) fv n)) (fun _ _ => True) [.slice a l c, fv] h [] := by
 have ns : ∀ b, h b = none → ¬ S b := fun b hb hS => hi b hS hb
 have e1 : IntKind.i64.wrap ((IntKind.i64.wrap (IntKind.i64.wrap ((l : Int) + 32768) - 1)).tdiv 32768) = (n : Int) := by
  have w1 : IntKind.i64.wrap ((l : Int) + 32768) = (l : Int) + 32768 := by rw [IntKind.wrap_i64]; omega
  have w2 : IntKind.i64.wrap ((l : Int) + 32768 - 1) = (l : Int) + 32767 := by rw [IntKind.wrap_i64]; omega
  rw [w1, w2, Int.tdiv_eq_ediv_of_nonneg (by omega), IntKind.wrap_i64]; omega
 have e2 : IntKind.i64.wrap (n : Int) = (n : Int) := by rw [IntKind.wrap_i64]; omega
 have hb4 : ((4 : Nat) : Int) * (n : Int) ≤ 2 ^ 48 := by omega
 have hb8 : ((8 : Nat) : Int) * (n : Int) ≤ 2 ^ 48 := by omega
 simp only [tA, Tr.wp, Ff, Ex.ev, coerce, toInt_int, zn, zu, zo, zg, arith, Cst.val, yw, List.flatMap_cons, List.flatMap_nil, List.replicate_one, List.getD_cons_zero, List.getD_cons_succ, List.map_cons, List.map_nil, List.cons_append, List.nil_append, List.append_nil, e1, e2, Int.toNat_natCast, Nat.mul_one, hfv]
 have nn : (0 : Int) ≤ (n : Int) := by omega
 have sub5 : ∀ {h' : Eng.Heap}, (∀ x, (∀ b, h b = none → x ≠ b) → h' x = h x) → Eng.Sub h h' := by
  intro h' hx x o ho
  rw [hx x (fun b hb e => by subst e; rw [hb] at ho; cases ho)]
  exact ho
 intro fb g0
 refine ⟨⟨nn, Int.le_refl _, hb4, fun b1 g1 => ⟨⟨nn, Int.le_refl _, hb8, fun b2 g2 b3 g3 => ?_⟩, fun b2 g2 => ⟨⟨nn, Int.le_refl _, hb8, fun b3 g3 => ?_⟩, ?_⟩⟩⟩,
  ⟨⟨nn, Int.le_refl _, hb8, fun b1 g1 => ⟨⟨nn, Int.le_refl _, hb4, fun b2 g2 b3 g3 => ?_⟩, fun b2 g2 => ⟨nn, Int.le_refl _, hb4, fun b3 g3 => ?_⟩⟩⟩,
   fun b1 g1 => ⟨⟨nn, Int.le_refl _, hb4, fun b2 g2 => ⟨⟨nn, Int.le_refl _, hb8, fun b3 g3 => ?_⟩, ?_⟩⟩, ⟨nn, Int.le_refl _, hb8, fun b2 g2 => ⟨nn, Int.le_refl _, hb4, fun b3 g3 => ?_⟩⟩⟩⟩⟩
 have so : ∀ {T : TypeId} {b b' : Nat} {h : Eng.Heap} {o : Obj} {v : Value}, b' ≠ b → (upd h b (.cells #[v] T)) b' = h b' := fun e => yu e
 ·simp only [yA] at g1 g2 g3
  refine BV (b := b3) y7 (ns _ (by first | exact g1.2 | exact g2.2.2 | exact g3.2.2.2)) ?_
  intro b4 g4
  simp only [yA] at g4
  refine Ee y7 (ns _ (by simp only [g4])) ?_
  refine jr.intro P7 rfl rfl rfl rfl ⟨fb, b1, b2, b3, b4, rfl, rfl, ?_, rfl, rfl, rfl, ?_, ?_, ?_, ?_, ?_, ?_, ?_, ?_⟩
  all_goals first
   | (simp only [got, P7, Ex.ev, coerce, toInt_int, zn, zu, zo, arith, Cst.val, List.getD_cons_zero, List.getElem?_cons_zero, List.getElem?_cons_succ]; rw [e1]; done)
   | (simp only [List.nodup_cons, List.mem_cons, List.not_mem_nil, or_false, not_or, not_false_eq_true, List.nodup_nil, and_true]; omega)
   | (intro b hb; simp only [List.mem_cons, List.not_mem_nil, or_false] at hb; rcases hb with rfl | rfl | rfl | rfl | rfl <;> first | exact g0 | exact g1.2 | exact g2.2.2 | exact g3.2.2.2 | exact g4.2.2.2.2.2 | exact g2.2.2.2 | exact g3.2.2.2.2)
   | (refine sub5 fun x hx => ?_; simp only [upd]; repeat rw [if_neg (hx _ (by first | exact g0 | exact g1.2 | exact g2.2.2 | exact g3.2.2.2 | exact g4.2.2.2.2.2 | exact g3.2.2.2.2))])
   | (simp only [upd, wgBlock]; repeat first | rw [if_pos trivial] | rw [if_pos rfl] | rw [if_neg (by omega)])
 ·simp only [yA] at g1 g2 g3
  refine BV (b := b2) ((yu (by omega)).trans y7) (ns _ (by first | exact g1.2 | exact g2.2.2 | exact g3.2.2.2)) ?_
  intro b4 g4
  simp only [yA] at g4
  refine Ee y7 (ns _ (by simp only [g4])) ?_
  refine jr.intro P8 rfl rfl rfl rfl ⟨fb, b1, b3, b2, b4, rfl, rfl, ?_, rfl, rfl, rfl, ?_, ?_, ?_, ?_, ?_, ?_, ?_, ?_⟩
  all_goals first
   | (simp only [got, P8, Ex.ev, coerce, toInt_int, zn, zu, zo, arith, Cst.val, List.getD_cons_zero, List.getElem?_cons_zero, List.getElem?_cons_succ]; rw [e1]; done)
   | (simp only [List.nodup_cons, List.mem_cons, List.not_mem_nil, or_false, not_or, not_false_eq_true, List.nodup_nil, and_true]; omega)
   | (intro b hb; simp only [List.mem_cons, List.not_mem_nil, or_false] at hb; rcases hb with rfl | rfl | rfl | rfl | rfl <;> first | exact g0 | exact g1.2 | exact g2.2.2 | exact g3.2.2.2 | exact g4.2.2.2.2.2 | exact g2.2.2.2 | exact g3.2.2.2.2)
   | (refine sub5 fun x hx => ?_; simp only [upd]; repeat rw [if_neg (hx _ (by first | exact g0 | exact g1.2 | exact g2.2.2 | exact g3.2.2.2 | exact g4.2.2.2.2.2 | exact g3.2.2.2.2))])
   | (simp only [upd, wgBlock]; repeat first | rw [if_pos trivial] | rw [if_pos rfl] | rw [if_neg (by omega)])
 ·simp only [yA] at g1 g2
  refine BV (b := b2) y7 (ns _ (by first | exact g1.2 | exact g2.2.2)) ⟨nn, Int.le_refl _, hb8, fun b3 g3 => ?_⟩
  simp only [yA] at g3
  intro b4 g4
  simp only [yA] at g4
  refine Ee y7 (ns _ (by simp only [g4])) ?_
  refine jr.intro P9 rfl rfl rfl rfl ⟨fb, b1, b3, b2, b4, rfl, rfl, ?_, rfl, rfl, rfl, ?_, ?_, ?_, ?_, ?_, ?_, ?_, ?_⟩
  all_goals first
   | (simp only [got, P9, Ex.ev, coerce, toInt_int, zn, zu, zo, arith, Cst.val, List.getD_cons_zero, List.getElem?_cons_zero, List.getElem?_cons_succ]; rw [e1]; done)
   | (simp only [List.nodup_cons, List.mem_cons, List.not_mem_nil, or_false, not_or, not_false_eq_true, List.nodup_nil, and_true]; omega)
   | (intro b hb; simp only [List.mem_cons, List.not_mem_nil, or_false] at hb; rcases hb with rfl | rfl | rfl | rfl | rfl <;> first | exact g0 | exact g1.2 | exact g2.2.2 | exact g3.2.2.2 | exact g4.2.2.2.2.2 | exact g2.2.2.2 | exact g3.2.2.2.2)
   | (refine sub5 fun x hx => ?_; simp only [upd]; repeat rw [if_neg (hx _ (by first | exact g0 | exact g1.2 | exact g2.2.2 | exact g3.2.2.2 | exact g4.2.2.2.2.2 | exact g3.2.2.2.2))])
   | (simp only [upd, wgBlock]; repeat first | rw [if_pos trivial] | rw [if_pos rfl] | rw [if_neg (by omega)])
 ·simp only [yA] at g1 g2 g3
  refine BV (b := b3) y7 (ns _ (by first | exact g1.2 | exact g2.2.2 | exact g3.2.2.2)) ?_
  intro b4 g4
  simp only [yA] at g4
  refine Ee y7 (ns _ (by simp only [g4])) ?_
  refine jr.intro PC rfl rfl rfl rfl ⟨fb, b2, b1, b3, b4, rfl, rfl, ?_, rfl, rfl, rfl, ?_, ?_, ?_, ?_, ?_, ?_, ?_, ?_⟩
  all_goals first
   | (simp only [got, PC, Ex.ev, coerce, toInt_int, zn, zu, zo, arith, Cst.val, List.getD_cons_zero, List.getElem?_cons_zero, List.getElem?_cons_succ]; rw [e1]; done)
   | (simp only [List.nodup_cons, List.mem_cons, List.not_mem_nil, or_false, not_or, not_false_eq_true, List.nodup_nil, and_true]; omega)
   | (intro b hb; simp only [List.mem_cons, List.not_mem_nil, or_false] at hb; rcases hb with rfl | rfl | rfl | rfl | rfl <;> first | exact g0 | exact g1.2 | exact g2.2.2 | exact g3.2.2.2 | exact g4.2.2.2.2.2 | exact g2.2.2.2 | exact g3.2.2.2.2)
   | (refine sub5 fun x hx => ?_; simp only [upd]; repeat rw [if_neg (hx _ (by first | exact g0 | exact g1.2 | exact g2.2.2 | exact g3.2.2.2 | exact g4.2.2.2.2.2 | exact g3.2.2.2.2))])
   | (simp only [upd, wgBlock]; repeat first | rw [if_pos trivial] | rw [if_pos rfl] | rw [if_neg (by omega)])
 ·simp only [yA] at g1 g2 g3
  refine BV (b := b2) ((yu (by omega)).trans y7) (ns _ (by first | exact g1.2 | exact g2.2.2 | exact g3.2.2.2)) ?_
  intro b4 g4
  simp only [yA] at g4
  refine Ee y7 (ns _ (by simp only [g4])) ?_
  refine jr.intro PD rfl rfl rfl rfl ⟨fb, b3, b1, b2, b4, rfl, rfl, ?_, rfl, rfl, rfl, ?_, ?_, ?_, ?_, ?_, ?_, ?_, ?_⟩
  all_goals first
   | (simp only [got, PD, Ex.ev, coerce, toInt_int, zn, zu, zo, arith, Cst.val, List.getD_cons_zero, List.getElem?_cons_zero, List.getElem?_cons_succ]; rw [e1]; done)
   | (simp only [List.nodup_cons, List.mem_cons, List.not_mem_nil, or_false, not_or, not_false_eq_true, List.nodup_nil, and_true]; omega)
   | (intro b hb; simp only [List.mem_cons, List.not_mem_nil, or_false] at hb; rcases hb with rfl | rfl | rfl | rfl | rfl <;> first | exact g0 | exact g1.2 | exact g2.2.2 | exact g3.2.2.2 | exact g4.2.2.2.2.2 | exact g2.2.2.2 | exact g3.2.2.2.2)
   | (refine sub5 fun x hx => ?_; simp only [upd]; repeat rw [if_neg (hx _ (by first | exact g0 | exact g1.2 | exact g2.2.2 | exact g3.2.2.2 | exact g4.2.2.2.2.2 | exact g3.2.2.2.2))])
   | (simp only [upd, wgBlock]; repeat first | rw [if_pos trivial] | rw [if_pos rfl] | rw [if_neg (by omega)])
 ·simp only [yA] at g1 g2 g3
  refine BV (b := b1) ((yu (by omega)).trans ((yu (by omega)).trans y7)) (ns _ (by first | exact g1.2 | exact g2.2.2 | exact g3.2.2.2)) ?_
  intro b4 g4
  simp only [yA] at g4
  refine Ee y7 (ns _ (by simp only [g4])) ?_
  refine jr.intro PE rfl rfl rfl rfl ⟨fb, b2, b3, b1, b4, rfl, rfl, ?_, rfl, rfl, rfl, ?_, ?_, ?_, ?_, ?_, ?_, ?_, ?_⟩
  all_goals first
   | (simp only [got, PE, Ex.ev, coerce, toInt_int, zn, zu, zo, arith, Cst.val, List.getD_cons_zero, List.getElem?_cons_zero, List.getElem?_cons_succ]; rw [e1]; done)
   | (simp only [List.nodup_cons, List.mem_cons, List.not_mem_nil, or_false, not_or, not_false_eq_true, List.nodup_nil, and_true]; omega)
   | (intro b hb; simp only [List.mem_cons, List.not_mem_nil, or_false] at hb; rcases hb with rfl | rfl | rfl | rfl | rfl <;> first | exact g0 | exact g1.2 | exact g2.2.2 | exact g3.2.2.2 | exact g4.2.2.2.2.2 | exact g2.2.2.2 | exact g3.2.2.2.2)
   | (refine sub5 fun x hx => ?_; simp only [upd]; repeat rw [if_neg (hx _ (by first | exact g0 | exact g1.2 | exact g2.2.2 | exact g3.2.2.2 | exact g4.2.2.2.2.2 | exact g3.2.2.2.2))])
   | (simp only [upd, wgBlock]; repeat first | rw [if_pos trivial] | rw [if_pos rfl] | rw [if_neg (by omega)])
 ·simp only [yA] at g1 g2
  refine BV (b := b1) ((yu (by omega)).trans y7) (ns _ (by first | exact g1.2 | exact g2.2.2)) ⟨nn, Int.le_refl _, hb8, fun b3 g3 => ?_⟩
  simp only [yA] at g3
  intro b4 g4
  simp only [yA] at g4
  refine Ee y7 (ns _ (by simp only [g4])) ?_
  refine jr.intro PH rfl rfl rfl rfl ⟨fb, b2, b3, b1, b4, rfl, rfl, ?_, rfl, rfl, rfl, ?_, ?_, ?_, ?_, ?_, ?_, ?_, ?_⟩
  all_goals first
   | (simp only [got, PH, Ex.ev, coerce, toInt_int, zn, zu, zo, arith, Cst.val, List.getD_cons_zero, List.getElem?_cons_zero, List.getElem?_cons_succ]; rw [e1]; done)
   | (simp only [List.nodup_cons, List.mem_cons, List.not_mem_nil, or_false, not_or, not_false_eq_true, List.nodup_nil, and_true]; omega)
   | (intro b hb; simp only [List.mem_cons, List.not_mem_nil, or_false] at hb; rcases hb with rfl | rfl | rfl | rfl | rfl <;> first | exact g0 | exact g1.2 | exact g2.2.2 | exact g3.2.2.2 | exact g4.2.2.2.2.2 | exact g2.2.2.2 | exact g3.2.2.2.2)
   | (refine sub5 fun x hx => ?_; simp only [upd]; repeat rw [if_neg (hx _ (by first | exact g0 | exact g1.2 | exact g2.2.2 | exact g3.2.2.2 | exact g4.2.2.2.2.2 | exact g3.2.2.2.2))])
   | (simp only [upd, wgBlock]; repeat first | rw [if_pos trivial] | rw [if_pos rfl] | rw [if_neg (by omega)])
 ·simp only [yA] at g1 g2 g3
  refine BV (b := b1) ((yu (by omega)).trans ((yu (by omega)).trans y7)) (ns _ (by first | exact g1.2 | exact g2.2.2 | exact g3.2.2.2)) ?_
  intro b4 g4
  simp only [yA] at g4
  refine Ee y7 (ns _ (by simp only [g4])) ?_
  refine jr.intro PI rfl rfl rfl rfl ⟨fb, b3, b2, b1, b4, rfl, rfl, ?_, rfl, rfl, rfl, ?_, ?_, ?_, ?_, ?_, ?_, ?_, ?_⟩
  all_goals first
   | (simp only [got, PI, Ex.ev, coerce, toInt_int, zn, zu, zo, arith, Cst.val, List.getD_cons_zero, List.getElem?_cons_zero, List.getElem?_cons_succ]; rw [e1]; done)
   | (simp only [List.nodup_cons, List.mem_cons, List.not_mem_nil, or_false, not_or, not_false_eq_true, List.nodup_nil, and_true]; omega)
   | (intro b hb; simp only [List.mem_cons, List.not_mem_nil, or_false] at hb; rcases hb with rfl | rfl | rfl | rfl | rfl <;> first | exact g0 | exact g1.2 | exact g2.2.2 | exact g3.2.2.2 | exact g4.2.2.2.2.2 | exact g2.2.2.2 | exact g3.2.2.2.2)
   | (refine sub5 fun x hx => ?_; simp only [upd]; repeat rw [if_neg (hx _ (by first | exact g0 | exact g1.2 | exact g2.2.2 | exact g3.2.2.2 | exact g4.2.2.2.2.2 | exact g3.2.2.2.2))])
   | (simp only [upd, wgBlock]; repeat first | rw [if_pos trivial] | rw [if_pos rfl] | rw [if_neg (by omega)])
def kD (l i : Nat) : Nat := min ((i + 1) * 32768) l - i * 32768
def partOf (xs : List Int) (i : Nat) : List Int := (xs.drop (i * 32768)).take (kD xs.length i)
theorem qD (xs : List Int) (i : Nat) : (partOf xs i).length = kD xs.length i := by
 unfold partOf kD; rw [List.length_take, List.length_drop]; omega
def szv (n l j : Nat) : Array Value := ((List.range n).map fun i => if i < j then Value.int .i64 (kD l i) else .int .i64 0).toArray
theorem PM (n l j : Nat) : (szv n l j).size = n := by simp [szv]
theorem PN (n l : Nat) : yd n #[.int .i64 0] = szv n l 0 := by
 apply Array.ext
 ·simp [yd, szv]
 ·intro i h1 h2
  simp [yd, szv, Nat.mod_one]
theorem R8 {n l j : Nat} (hj : j < n) : (szv n l j).setIfInBounds j (.int .i64 (kD l j)) = szv n l (j + 1) := by
 apply Array.ext
 ·simp [szv]
 ·intro i h1 h2
  simp only [szv]
  by_cases e : j = i
  ·subst e; simp
  ·have e2 : (i < j + 1) = (i < j) := by apply propext; omega
   simp [e, e2]
def RB (h0 h : Eng.Heap) (xs : List Int) (da : Value) (fb sb bS wg n j : Nat) (f : Nat → Value) (h' : Eng.Heap) : Prop :=
 ∃ (ib pb : Nat) (a' : Option Addr) (c' : Nat), f 0 = da ∧ f 3 = .pointer (some ⟨fb, 0, none⟩) ∧ f 7 = .pointer (some ⟨sb, 0, none⟩) ∧ f 8 = .slice (some ⟨bS, 0, none⟩) n n ∧ f 9 = .pointer (some ⟨wg, 0, none⟩) ∧
  f 10 = .pointer (some ⟨ib, 0, none⟩) ∧ f 11 = .pointer (some ⟨pb, 0, none⟩) ∧ f 22 = .int .i64 n ∧ f 23 = .int .i64 j ∧
  h ib = none ∧ h pb = none ∧ ib ≠ pb ∧ zq h0 .u8 a' (partOf xs j) ∧ h' ib = some (.cells #[.int .i64 j] 3) ∧ h' pb = some (.cells #[.slice a' (partOf xs j).length c'] 22) ∧
  h' bS = some (.cells (szv n xs.length (j + 1)) 2) ∧ ∀ x, x ≠ ib → x ≠ pb → x ≠ bS → h' x = h x
theorem wpB {h0 : Eng.Heap} {a : Option Addr} {c : Nat} {xs : List Int} (hx : zq h0 .u8 a xs) (hc : xs.length ≤ c) (hl : xs.length < 2 ^ 40) (hi : Inv S h) {n j : Nat} (hn : n = (xs.length + 32767) / 32768) (hj : j < n)
  {fb sb bS wg : Nat} (hS : ¬ S bS) (hbS : h bS = some (.cells (szv n xs.length j) 2)) :
  tBk.wp Tryz.prog S (jr 47 [0, 3, 7, 8, 9, 10, 11, 22, 23] (RB h0 h xs (.slice a xs.length c) fb sb bS wg n j)) (fun _ _ => True)
   [.slice a xs.length c, .pointer (some ⟨fb, 0, none⟩), .pointer (some ⟨sb, 0, none⟩), .slice (some ⟨bS, 0, none⟩) n n, .pointer (some ⟨wg, 0, none⟩), .int .i64 n, .int .i64 j] h [] := by
 have ns : ∀ b, h b = none → ¬ S b := fun b hb hS => hi b hS hb
 have w1 : IntKind.i64.wrap ((j : Int) * 32768) = ((j * 32768 : Nat) : Int) := by rw [IntKind.wrap_i64]; omega
 have w2 : IntKind.i64.wrap ((j : Int) + 1) = (j : Int) + 1 := by rw [IntKind.wrap_i64]; omega
 have w3 : IntKind.i64.wrap (((j : Int) + 1) * 32768) = (((j + 1) * 32768 : Nat) : Int) := by rw [IntKind.wrap_i64]; omega
 simp only [tBk, Tr.wp, Ex.ev, coerce, toInt_int, zf, zn, zu, zo, zg, yF, IK, Fq, GQ, ya, arith, Cst.val, yw, zG, zy, List.flatMap_cons, List.flatMap_nil, List.replicate_one, List.getD_cons_zero, List.getD_cons_succ, decide_eq_true_eq, List.map_cons, List.map_nil, List.cons_append, List.nil_append, List.append_nil, and_true]
 intro ib g0
 refine BV y7 (ns _ g0) ?_
 have eM : (if (xs.length : Int) < (((j + 1) * 32768 : Nat) : Int) then (xs.length : Int) else (((j + 1) * 32768 : Nat) : Int)) = ((min ((j + 1) * 32768) xs.length : Nat) : Int) := by split <;> omega
 have cell1 : ∀ {h : Eng.Heap} {b : Nat} {v : Value} {T : TypeId}, h b = some (.cells #[v] T) → zb h (Addr.add ⟨b, 0, none⟩ 0) = some v := fun hb => by simp [zb, Addr.add, hb]
 refine ⟨j, cell1 y7, j, cell1 y7, ?_⟩
 simp only [w1, w2, w3, eM, Int.toNat_natCast]
 obtain ⟨a', es, hp⟩ := Gg hx (lo := j * 32768) (hi := min ((j + 1) * 32768) xs.length) (m := c) (by omega) (by omega) (by omega)
 rw [es]
 have ep : (xs.drop (j * 32768)).take (min ((j + 1) * 32768) xs.length - j * 32768) = partOf xs j := rfl
 rw [ep] at hp ⊢
 refine ⟨by omega, by omega, by omega, by omega, fun pb g1 => ?_⟩
 simp only [yA] at g1
 have hbi : bS ≠ ib := fun e => by subst e; rw [g0] at hbS; cases hbS
 have hbp : bS ≠ pb := fun e => by subst e; rw [g1.2.2] at hbS; cases hbS
 refine BV y7 (ns _ g1.2.2) ?_
 refine ⟨j, cell1 ((yu (Ne.symm g1.1)).trans ((yu (Ne.symm g1.1)).trans y7)), a', _, _, cell1 y7, rfl, by omega, by omega, ?_⟩
 refine Um (cs := szv n xs.length j) (T := 2) ?_ (by rw [PM]; exact hj) hS ?_
 ·rw [yu hbp, yu hbp, yu hbi, yu hbi]; exact hbS
 refine jr.intro Qp rfl rfl rfl rfl ⟨ib, pb, a', c - j * 32768, rfl, rfl, rfl, rfl, rfl, rfl, rfl, rfl, rfl, g0, g1.2.2, Ne.symm g1.1, hp, ?_, ?_, ?_, ?_⟩
 ·rw [yu (Ne.symm hbi), yu (Ne.symm g1.1), yu (Ne.symm g1.1), y7]
 ·rw [yu (Ne.symm hbp), y7]
 ·rw [y7, qD, R8 hj]
 ·intro x h1 h2 h3
  rw [yu h3, yu h2, yu h2, yu h1, yu h1]
end
end Go.Proofs.YteaonnfokkfnlaaGreatDoor
end
section
namespace Go.Proofs.YteaonnfokkfnlaaGreatDoor
open Go Go.Eng Go.Conc Go.RowKit Go.Conc.Lib Go.ConcR.Gen
open Go.ConcR (KK wgBlock WgAt stA smA rd wr DC0 Payload)
def LJ : List (Nat × Sh) := [(0, .slice), (3, .addr), (7, .addr), (8, .slice), (9, .addr), (22, .int .i64), (23, .int .i64)]
def PO (da : Value) (fb sb bS wg n j : Nat) : List Value := [da, .pointer (some ⟨fb, 0, none⟩), .pointer (some ⟨sb, 0, none⟩), .slice (some ⟨bS, 0, none⟩) n n, .pointer (some ⟨wg, 0, none⟩), .int .i64 n, .int .i64 j]
structure AtL (a : Act) (da : Value) (fb sb bS wg n j : Nat) : Prop where
 sz : a.tmps.size = 47
 df : a.defers = []
 s0 : a.tmps.getD 0 undef = da
 s3 : a.tmps.getD 3 undef = .pointer (some ⟨fb, 0, none⟩)
 s7 : a.tmps.getD 7 undef = .pointer (some ⟨sb, 0, none⟩)
 s8 : a.tmps.getD 8 undef = .slice (some ⟨bS, 0, none⟩) n n
 s9 : a.tmps.getD 9 undef = .pointer (some ⟨wg, 0, none⟩)
 s22 : a.tmps.getD 22 undef = .int .i64 n
 s23 : a.tmps.getD 23 undef = .int .i64 j
theorem AtL.EH {a : Act} {x : Option Addr} {l c fb sb bS wg n j : Nat} (A : AtL a (.slice x l c) fb sb bS wg n j) : kY a LJ (PO (.slice x l c) fb sb bS wg n j) :=
 ⟨A.s0, rfl, A.s3, rfl, A.s7, rfl, A.s8, rfl, A.s9, rfl, A.s22, rfl, A.s23, rfl, trivial⟩
theorem F9 (a : Act) (d i : Nat) (v : Value) (hd : d < a.tmps.size) : (a.put (some d) v).tmps.getD i undef = if i = d then v else a.tmps.getD i undef := by
 by_cases e : i = d
 ·subst e; simp [Act.put, Array.getD_eq_getD_getElem?, hd]
 ·simp only [Act.put, Array.getD_eq_getD_getElem?, Array.getElem?_setIfInBounds_ne (Ne.symm e), if_neg e]
theorem PQ (a : Act) (d : Nat) (v : Value) : (a.put (some d) v).tmps.size = a.tmps.size := by simp [Act.put]
theorem AtL.put {a : Act} {da : Value} {fb sb bS wg n j : Nat} (A : AtL a da fb sb bS wg n j) (d : Nat) (v : Value) (hd : d = 41 ∨ d = 42 ∨ d = 44) : AtL (a.put (some d) v) da fb sb bS wg n j := by
 have hs : d < a.tmps.size := by rw [A.sz]; omega
 have g : ∀ i, i ≠ d → (a.put (some d) v).tmps.getD i undef = a.tmps.getD i undef := fun i hi => by rw [F9 a d i v hs, if_neg hi]
 exact ⟨by rw [PQ]; exact A.sz, A.df, (g 0 (by omega)).trans A.s0, (g 3 (by omega)).trans A.s3, (g 7 (by omega)).trans A.s7, (g 8 (by omega)).trans A.s8, (g 9 (by omega)).trans A.s9, (g 22 (by omega)).trans A.s22, (g 23 (by omega)).trans A.s23⟩
def RS (h : Eng.Heap) (da : Value) (fb sb bS wg n j : Nat) (f : Nat → Value) (h' : Eng.Heap) : Prop :=
 f 0 = da ∧ f 3 = .pointer (some ⟨fb, 0, none⟩) ∧ f 7 = .pointer (some ⟨sb, 0, none⟩) ∧ f 8 = .slice (some ⟨bS, 0, none⟩) n n ∧ f 9 = .pointer (some ⟨wg, 0, none⟩) ∧ f 22 = .int .i64 n ∧ f 23 = .int .i64 j ∧ h' = h
noncomputable def xm (i : Nat) : Array Oper := match rP i with | .region _ ops _ => ops | _ => #[]
theorem rP9 : rP 9 = .region 9 (xm 9) false := by kernel_rfl
theorem Un : rP 10 = .region 10 (xm 10) false := by kernel_rfl
theorem Uo : rP 12 = .region 12 (xm 12) false := by kernel_rfl
theorem TN : (xm 9).size = 1 := by kernel_rfl
theorem SK : (xm 10).size = 2 := by kernel_rfl
theorem SL : (xm 12).size = 1 := by kernel_rfl
theorem Iz {ops : Array Oper} {i : Nat} {d : Option Tmp} {p : Op → Bool} (h1 : (ops[i]?.map fun o => (o.dst, o.guard)) = some (d, none)) {q : Op} (h2 : (ops[i]?.map fun o => o.op) = some q) :
  ∃ o, ops[i]? = some o ∧ o.dst = d ∧ o.guard = none ∧ o.op = q := by
 cases h : ops[i]? with
 | none => rw [h] at h1; cases h1
 | some o =>
  rw [h] at h1 h2
  simp only [Option.map_some, Option.some.injEq, Prod.mk.injEq] at h1 h2
  exact ⟨o, rfl, h1.1, h1.2, h2⟩
def LK (o : Option Oper) : Array TypeId := match o with | some o => (match o.op with | .call c => c.argTypes | .go c => c.argTypes | _ => #[]) | none => #[]
theorem c9a : ((xm 9)[0]?.map fun o => (o.dst, o.guard)) = some (some 41, none) := by kernel_rfl
theorem c9b : ((xm 9)[0]?.map fun o => o.op) = some (.call { callee := .value (.func 135), args := #[.tmp 9, .const (.int .i64 1)], argTypes := LK (xm 9)[0]? }) := by kernel_rfl
theorem Uq : ((xm 12)[0]?.map fun o => (o.dst, o.guard)) = some (some 44, none) := by kernel_rfl
theorem Ur : ((xm 12)[0]?.map fun o => o.op) = some (.call { callee := .value (.func 138), args := #[.tmp 9], argTypes := LK (xm 12)[0]? }) := by kernel_rfl
theorem Us : ((xm 10)[0]?.map fun o => (o.dst, o.guard)) = some (some 42, none) := by kernel_rfl
theorem Ut : ((xm 10)[0]?.map fun o => o.op) = some (.makeFunc (.func 136) #[] #[.tmp 9, .tmp 3, .tmp 11, .tmp 7, .tmp 10]) := by kernel_rfl
theorem Uu : ((xm 10)[1]?.map fun o => (o.dst, o.guard)) = some (none, none) := by kernel_rfl
theorem Uv : ((xm 10)[1]?.map fun o => o.op) = some (.go { callee := .value (.tmp 42), args := #[], argTypes := LK (xm 10)[1]? }) := by kernel_rfl
theorem GA {P : Program} {b : Frame} {a : Act} {k : List Item} {cs : List Frame} {ops : Array Oper} {i : Nat} {rest : List Nat} {o : Oper} {f : FuncId} {fn : Func} {c : Code} {args : Array Operand} {ats : Array TypeId}
  (ho : ops[i]? = some o) (hw : Region.wanted o (yielded ops a.tmps) = true) (hk : b.kind ≠ .early) (hop : o.op = .call { callee := .value (.func f), args, argTypes := ats })
  (hf : P.funcs[f]? = some fn) (hname : (fn.name == "runtime.NumGoroutine") = false) (hb : fn.body = some c) (main : Bool) (w : World) :
  stepG P main (gor (b.at a (.inRegion ops (i :: rest) :: k)) cs) w = .go (gor ((base f).at { tmps := args.map a.eval ++ Array.replicate (fn.ntmps - (args.map a.eval).size) undef, defers := [] } [.code c]) (b.at a (.inRegion ops (i :: rest) :: k) :: cs)) w #[] :=
 Jw (goes_call ho hw hk hop hf hname hb ⟨rfl, rfl, rfl⟩)
theorem TO (L : WgLink) : (addFn L).body = some (body_add L) := rfl
theorem SM (L : WgLink) : (waitFn L).body = some (body_wait L) := rfl
theorem TP (L : WgLink) (x y : Value) : #[x, y] ++ Array.replicate ((addFn L).ntmps - (#[x, y] : Array Value).size) undef = #[x, y, undef, undef, undef, undef, undef, undef, undef, undef, undef, undef, undef, undef, undef, undef, undef, undef, undef, undef, undef, undef, undef, undef, undef, undef, undef, undef, undef, undef, undef, undef, undef, undef, undef, undef, undef, undef, undef, undef, undef, undef, undef, undef, undef, undef, undef, undef, undef, undef, undef, undef, undef, undef, undef, undef, undef, undef, undef, undef, undef, undef, undef, undef, undef, undef, undef, undef, undef, undef, undef, undef, undef, undef, undef, undef, undef, undef, undef, undef, undef, undef, undef, undef, undef, undef, undef, undef, undef, undef, undef, undef, undef, undef, undef, undef, undef, undef, undef, undef, undef, undef, undef, undef, undef, undef, undef, undef, undef, undef, undef, undef, undef, undef, undef, undef, undef] := by kernel_rfl
theorem SN (L : WgLink) (x : Value) : #[x] ++ Array.replicate ((waitFn L).ntmps - (#[x] : Array Value).size) undef = #[x, undef, undef, undef, undef, undef, undef, undef, undef, undef, undef, undef, undef, undef, undef, undef, undef, undef, undef, undef, undef, undef, undef, undef, undef, undef, undef, undef, undef, undef, undef, undef, undef, undef, undef, undef, undef, undef, undef, undef, undef, undef, undef, undef, undef, undef, undef, undef, undef, undef, undef, undef, undef, undef, undef, undef, undef, undef, undef, undef, undef, undef, undef, undef, undef, undef, undef, undef, undef, undef, undef, undef, undef, undef, undef, undef, undef, undef, undef, undef, undef, undef, undef, undef] := by kernel_rfl
section
variable {Φ : Ph} {b : Frame} {k : List Item} {cs : List Frame}
theorem Uw (hty : Φ.ty = Tryz.link.tWg) (hCW : Φ.C ≠ Φ.Wg) (hk : b.kind ≠ .early) {a : Act} (h9 : a.tmps.getD 9 undef = .pointer (some ⟨Φ.Wg, 0, none⟩)) {Nx : Frame → List Frame → Prop}
  (hN : Nx (b.at (a.put (some 41) (.tuple #[])) (.inRegion (xm 9) [] :: k)) cs) : wH Tryz.prog Φ Nx (b.at a (.inRegion (xm 9) [0] :: k)) cs := by
 obtain ⟨o, d1, d2, d3, d4⟩ := Iz (p := fun _ => true) c9a c9b
 by_cases hJ : ∃ w, Φ.J w
 ·obtain ⟨w, hw⟩ := hJ
  refine wH.step (fun w => GA d1 (by simp [Region.wanted, d3]) hk d4 Tryz.G2.f_add (nm_add Tryz.link) (TO Tryz.link) true w) ⟨100, ?_⟩
  have e : (#[Operand.tmp 9, .const (.int .i64 1)].map a.eval) = #[.pointer (some ⟨Φ.Wg, 0, none⟩), .int .i64 1] := by simp [Act.eval, h9]
  rw [e, TP]
  have W := @Ry _ Tryz.prog Tryz.link Φ cs b a (xm 9) 0 [] k Tryz.G2 hCW Nx (by rw [d1]; simp only [Option.bind_some, d2]; exact hN) w hw
  exact Sil.of (w := w) W
 ·exact ⟨0, fun w w₁ h => absurd ⟨w₁, h⟩ hJ⟩
theorem SO (hty : Φ.ty = Tryz.link.tWg) (hCW : Φ.C ≠ Φ.Wg) (hk : b.kind ≠ .early) {a : Act} (h9 : a.tmps.getD 9 undef = .pointer (some ⟨Φ.Wg, 0, none⟩)) :
  jS Tryz.prog Φ (Ju Tryz.prog (b.at (a.put (some 44) (.tuple #[])) (.inRegion (xm 12) [] :: k)) cs) (b.at a (.inRegion (xm 12) [0] :: k)) cs := by
 obtain ⟨o, d1, d2, d3, d4⟩ := Iz (p := fun _ => true) Uq Ur
 by_cases hJ : ∃ w, Φ.J w
 ·obtain ⟨w, hw⟩ := hJ
  refine jS.step (fun w => GA d1 (by simp [Region.wanted, d3]) hk d4 Tryz.G2.f_wait (nm_wait Tryz.link) (SM Tryz.link) true w) ?_
  have e : (#[Operand.tmp 9].map a.eval) = #[.pointer (some ⟨Φ.Wg, 0, none⟩)] := by simp [Act.eval, h9]
  rw [e, SN]
  have W := @Pu _ Tryz.prog Tryz.link Φ cs b a (xm 12) 0 [] k Tryz.G2 hCW w hw
  rw [d1] at W
  simp only [Option.bind_some, d2] at W
  exact W
 ·exact ⟨fun _ => True, fun g _ => ⟨0, fun w w₁ h => absurd ⟨w₁, h⟩ hJ⟩, 0, fun w w₁ h => absurd ⟨w₁, h⟩ hJ⟩
end
end Go.Proofs.YteaonnfokkfnlaaGreatDoor
end
section
namespace Go.Proofs.YteaonnfokkfnlaaGreatDoor
open Go Go.Eng Go.Conc Go.RowKit Go.Conc.Lib Go.ConcR.Gen
open Go.ConcR (KK wgBlock WgAt stA smA rd wr DC0 Payload)
section
variable {S : Shared} {Φ : Ph} {b : Frame} {k : List Item} {cs : List Frame}
theorem R9 {i fb pb sb ib : Nat} (hk : b.kind ≠ .early) {a : Act} (h42 : a.tmps.getD 42 undef = .func (.func 136) #[] (ky Φ.Wg fb pb sb ib)) {Nx : Frame → List Frame → Eng.Heap → Prop} {hh h1 hc : Eng.Heap}
  (s1 : Eng.Sub h1 hh) (sc : Eng.Sub hc hh) (hap : ∀ x, ¬ Φ.S x → hc x ≠ none → h1 x = none) (hro : ∀ x, Φ.S x → h1 x = hh x) (hW : Works Tryz.prog Φ i (Iw (Cv Φ.Wg fb pb sb ib)) [] hc)
  (hN : Nx (b.at a (.inRegion (xm 10) [] :: k)) cs h1) : AD Tryz.prog Φ i Nx (b.at a (.inRegion (xm 10) [1] :: k)) cs hh := by
 obtain ⟨o, d1, d2, d3, d4⟩ := Iz (p := fun _ => true) Uu Uv
 refine ⟨h1, hc, s1, sc, hap, hro, fun w hw hJ => ⟨_, _, _, _, ?_, hW, hN⟩⟩
 have hr : (execOp a.eval o).run Tryz.prog w = .ok (.spawn (Cv Φ.Wg fb pb sb ib)) w := by
  unfold execOp
  simp only [d4, resolve, Deferred.ofValue, Act.eval, h42]
  simp [Cv, ky, go_sem]
 have he : (execOp a.eval o).events Tryz.prog w #[] = #[] := by
  unfold execOp
  simp only [d4, resolve, Deferred.ofValue, Act.eval, h42]
  simp [ky, go_sem]
 have st := stepG_spawn (P := Tryz.prog) (main := true) (b := b) (a := a) (k := k) (cs := cs) (w := w) (rest := []) d1 (by simp [Region.wanted, d3]) hk hr rfl
 unfold listed at st
 rw [he, seen_none, d2] at st
 exact st
theorem SP (hk : b.kind ≠ .early) {a : Act} {fb pb sb ib wg : Nat} {rest : List Nat} {Post : Frame → List Frame → Eng.Heap → Prop} {h : Eng.Heap}
  (h9 : a.tmps.getD 9 undef = .pointer (some ⟨wg, 0, none⟩)) (h3 : a.tmps.getD 3 undef = .pointer (some ⟨fb, 0, none⟩)) (h11 : a.tmps.getD 11 undef = .pointer (some ⟨pb, 0, none⟩)) (h7 : a.tmps.getD 7 undef = .pointer (some ⟨sb, 0, none⟩)) (h10 : a.tmps.getD 10 undef = .pointer (some ⟨ib, 0, none⟩))
  (K : Eng.Safe Tryz.prog S Post (b.at (a.put (some 42) (.func (.func 136) #[] (ky wg fb pb sb ib))) (.inRegion (xm 10) rest :: k)) cs h) : Eng.Safe Tryz.prog S Post (b.at a (.inRegion (xm 10) (0 :: rest) :: k)) cs h := by
 obtain ⟨o, d1, d2, d3, d4⟩ := Iz (p := fun _ => true) Us Ut
 refine jj (.func (.func 136) #[] (ky wg fb pb sb ib)) d1 (by simp [Region.wanted, d3]) hk (fun w => ?_) (fun w => ?_) (by rw [d2]; exact K)
 ·unfold execOp
  simp [d4, Act.eval, h9, h3, h11, h7, h10, ky, go_sem]
 ·unfold execOp
  simp [d4, Act.eval, h9, h3, h11, h7, h10, go_sem]
theorem go5 {h : Eng.Heap} {x : Option Addr} {l c fb sb bS wg n j : Nat} {a : Act} {c0 : Code} (A : AtL a (.slice x l c) fb sb bS wg n j) (hi : Inv S h) :
  Eng.Safe Tryz.prog S (Eng.Reach S b 47 (.code c0 :: k) cs [0, 3, 7, 8, 9, 22, 23, 24] (fun f h' => RS h (.slice x l c) fb sb bS wg n j f h' ∧ f 24 = .bool (decide ((j : Int) < n)))) (b.at a (.code (.seq (rP 5) c0) :: k)) cs h := by
 refine CQ (rs := [rP 5]) (ps := LJ) Cw Cx s5 A.EH A.sz A.df hi ?_
 simp only [t5, Tr.wp]
 exact jr.intro PK rfl rfl rfl rfl ⟨⟨rfl, rfl, rfl, rfl, rfl, rfl, rfl, rfl⟩, by simp only [got, PK, PO, Ex.ev, coerce, toInt_int, ya, List.getD_cons_zero, List.getD_cons_succ, List.getElem?_cons_zero, List.getElem?_cons_succ]⟩
theorem Ux {h : Eng.Heap} {x : Option Addr} {l c fb sb bS wg n j : Nat} {a : Act} (A : AtL a (.slice x l c) fb sb bS wg n j) (hi : Inv S h) (hj : j < 2 ^ 40) :
  Eng.Safe Tryz.prog S (Eng.Reach S b 47 k cs [0, 3, 7, 8, 9, 22, 23] (RS h (.slice x l c) fb sb bS wg n (j + 1))) (b.at a (.code (rP 11) :: k)) cs h := by
 refine S8 (ps := LJ) Cw Cx s11 A.EH A.sz A.df hi ?_
 simp only [t11, Tr.wp]
 have w2 : IntKind.i64.wrap ((j : Int) + 1) = ((j + 1 : Nat) : Int) := by rw [IntKind.wrap_i64]; omega
 exact jr.intro LI rfl rfl rfl rfl ⟨rfl, rfl, rfl, rfl, rfl, rfl, by simp only [got, LI, PO, Ex.ev, coerce, toInt_int, arith, Cst.val, List.getD_cons_zero, List.getD_cons_succ, List.getElem?_cons_zero, List.getElem?_cons_succ, w2], rfl⟩
theorem AtL.reach {x : Value} {fb sb bS wg n j : Nat} {a : Act} {f : Nat → Value} {h h' : Eng.Heap} {is : List Nat} (hs : a.tmps.size = 47) (hd : a.defers = []) (hf : ∀ i ∈ is, a.tmps.getD i undef = f i)
  (hi : [0, 3, 7, 8, 9, 22, 23].all (fun i => is.contains i) = true) (R : RS h x fb sb bS wg n j f h') : AtL a x fb sb bS wg n j := by
 obtain ⟨r0, r3, r7, r8, r9, r22, r23, _⟩ := R
 have g : ∀ i, i ∈ ([0, 3, 7, 8, 9, 22, 23] : List Nat) → a.tmps.getD i undef = f i := fun i h => hf i (by simpa using List.all_eq_true.1 hi i h)
 exact ⟨hs, hd, (g 0 (by simp)).trans r0, (g 3 (by simp)).trans r3, (g 7 (by simp)).trans r7, (g 8 (by simp)).trans r8, (g 9 (by simp)).trans r9, (g 22 (by simp)).trans r22, (g 23 (by simp)).trans r23⟩
end
end Go.Proofs.YteaonnfokkfnlaaGreatDoor
end
section
namespace Go.Proofs.YteaonnfokkfnlaaGreatDoor
open Go Go.Eng Go.Conc Go.RowKit Go.Conc.Lib Go.ConcR.Gen
open Go.ConcR (KK wgBlock WgAt stA smA rd wr DC0 Payload)
section
variable {Φ : Ph} {b : Frame} {cs : List Frame}
theorem PS {h h' : Eng.Heap} {k : IntKind} {a : Option Addr} {xs : List Int} (H : zq h k a xs) (s : Eng.Sub h h') : zq h' k a xs := fun i x hx => by
 obtain ⟨ad, h1, h2⟩ := H i x hx
 refine ⟨ad, h1, ?_⟩
 unfold zb at h2 ⊢
 cases e : h (ad.add i).block with
 | none => rw [e] at h2; cases h2
 | some o => rw [e] at h2; rw [s _ _ e]; exact h2
theorem SQ {H h0 : Eng.Heap} {n : Nat} (hty : Φ.ty = Tryz.link.tWg) (hCW : Φ.C ≠ Φ.Wg) (hnb : ∀ fr cs h Q, ¬ Φ.S.big fr cs h Q) (hΦn : Φ.n = n) {x : Option Addr} {c : Nat} {xs : List Int} (hx : zq h0 .u8 x xs) (hc : xs.length ≤ c)
  (hl : xs.length < 2 ^ 40) (hn : n = (xs.length + 32767) / 32768) {fb sb bS : Nat} {g : FuncId} {F : List Int → Int} (hSd : ∀ y, Φ.S y → H y ≠ none) (h0S : ∀ y o, h0 y = some o → Φ.S y ∧ H y = some o) (hSb : ¬ Φ.S bS)
  (hfS : Φ.S fb) (hsS : Φ.S sb) (hfb : H fb = some (.cells #[.func (.func g) #[] #[]] 134)) (hsb : H sb = some (.cells #[.slice (some ⟨Φ.C, 0, none⟩) n n] 131))
  (hval : ∀ i, i < n → Φ.val i = .int .u32 (F (partOf xs i)))
  (hsum : ∀ (h' : Eng.Heap) (a' : Option Addr) (c' : Nat) (ys : List Int), Inv Φ.S h' → zq h' .u8 a' ys → ys.length ≤ 32768 → (∀ y ∈ ys, y ∈ xs) → zc Tryz.prog Φ.S g #[.slice a' ys.length c'] h' (fun v h'' => v = .int .u32 (F ys) ∧ Eng.Sub h' h''))
  (hk : b.kind ≠ .early) {Q : Frame → List Frame → Eng.Heap → Prop}
  (hQ : ∀ a hh, AtL a (.slice x xs.length c) fb sb bS Φ.Wg n n → (∀ y, Φ.S y → hh y = H y) → hh bS = some (.cells (szv n xs.length n) 2) →
   ∀ fr' cs', Ju Tryz.prog (b.at (a.put (some 44) (.tuple #[])) [.inRegion (xm 12) [], .code (rP 13)]) cs fr' cs' → Q fr' cs' hh) :
  ∀ r j, j + r = n → ∀ a hh, AtL a (.slice x xs.length c) fb sb bS Φ.Wg n j → (∀ y, Φ.S y → hh y = H y) → hh bS = some (.cells (szv n xs.length j) 2) →
   Sp Tryz.prog Φ Q r (b.at a [.code Iy, .inLoop Iy, .inBlock 0, .code (.seq (rP 12) (rP 13))]) cs hh := by
 have inv : ∀ {hh : Eng.Heap}, (∀ y, Φ.S y → hh y = H y) → Inv Φ.S hh := fun hro y hy => by rw [hro y hy]; exact hSd y hy
 have agr : ∀ {h' H' : Eng.Heap}, Eng.Sub h' H' → Inv Φ.S h' → ∀ y, Φ.S y → H' y = h' y := by
  intro h' H' s hi y hy
  cases e : h' y with
  | none => exact absurd e (hi y hy)
  | some o => exact s y o e
 intro r
 induction r with
 | zero =>
  intro j hj a hh A hro hbS
  have hjn : j = n := by omega
  subst hjn
  unfold Sp
  refine (go5 (c0 := _) A (inv hro)).bind ?_
  rintro _ _ H' ⟨rfl, a', f, h', rfl, hsz, hdf, hf, ⟨R, f24⟩, hsub, hinv⟩
  have A' := AtL.reach hsz hdf hf rfl R
  obtain ⟨_, _, _, _, _, _, _, rfl⟩ := R
  have e24 : a'.eval (.tmp 24) = .bool false := by
   show a'.tmps.getD 24 undef = _
   rw [hf 24 (by simp), f24]; simp
  refine .seq (.cond (t := false) e24 ?_)
  simp only [Bool.false_eq_true, if_false]
  refine .exit (k' := [.code (.seq (rP 12) (rP 13))]) (by simp [exitTo]) (.seq ?_)
  rw [Uo]
  refine .region ?_
  rw [SL]
  have hro' : ∀ y, Φ.S y → H' y = H y := fun y hy => (agr hsub hinv y hy).trans (hro y hy)
  refine .done (jS.mono (fun fr' cs' hB => ?_) (SO hty hCW hk A'.s9))
  exact hQ a' H' A' hro' (hsub _ _ hbS) fr' cs' hB
 | succ r ih =>
  intro j hj a hh A hro hbS
  have hjn : j < n := by omega
  unfold Sp
  refine (go5 (c0 := _) A (inv hro)).bind ?_
  rintro _ _ H1 ⟨rfl, a1, f1, h1, rfl, hsz1, hdf1, hf1, ⟨R1, f24⟩, hsub1, hinv1⟩
  have A1 := AtL.reach hsz1 hdf1 hf1 rfl R1
  obtain ⟨_, _, _, _, _, _, _, rfl⟩ := R1
  have e24 : a1.eval (.tmp 24) = .bool true := by
   show a1.tmps.getD 24 undef = _
   rw [hf1 24 (by simp), f24]
   simp only [Value.bool.injEq, decide_eq_true_eq]
   omega
  have hro1 : ∀ y, Φ.S y → H1 y = H y := fun y hy => (agr hsub1 hinv1 y hy).trans (hro y hy)
  have hbS1 := hsub1 _ _ hbS
  refine .seq (.cond (t := true) e24 ?_)
  simp only [if_true]
  refine .skip (.seq (.block ?_))
  refine (CQ (rs := [rP 6, rP 7, rP 8]) (ps := LJ) Cw Cx sBk A1.EH A1.sz A1.df (inv hro1) (wpB (S := Φ.S) (h := H1) (h0 := h0) (n := n) (j := j) (fb := fb) (sb := sb) (wg := Φ.Wg) hx hc hl (inv hro1) hn hjn hSb hbS1)).bind ?_
  rintro _ _ H2 ⟨rfl, a2, f2, h2, rfl, hsz2, hdf2, hf2, ⟨ib, pb, xa, xc, r0, r3, r7, r8, r9, r10, r11, r22, r23, nib, npb, hne, hpi, cib, cpb, cbS, crest⟩, hsub2, hinv2⟩
  have A2 : AtL a2 (.slice x xs.length c) fb sb bS Φ.Wg n j := ⟨hsz2, hdf2, (hf2 0 (by simp)).trans r0, (hf2 3 (by simp)).trans r3, (hf2 7 (by simp)).trans r7, (hf2 8 (by simp)).trans r8, (hf2 9 (by simp)).trans r9, (hf2 22 (by simp)).trans r22, (hf2 23 (by simp)).trans r23⟩
  have t10 := (hf2 10 (by simp)).trans r10
  have t11 := (hf2 11 (by simp)).trans r11
  have sne : ∀ y, Φ.S y → y ≠ ib ∧ y ≠ pb ∧ y ≠ bS := fun y hy =>
   ⟨fun e => by subst e; exact inv hro1 y hy nib, fun e => by subst e; exact inv hro1 y hy npb, fun e => by subst e; exact hSb hy⟩
  have hro2 : ∀ y, Φ.S y → H2 y = H y := fun y hy => by
   obtain ⟨e1, e2, e3⟩ := sne y hy
   rw [agr hsub2 hinv2 y hy, crest y e1 e2 e3, hro1 y hy]
  have hib2 := hsub2 _ _ cib
  have hpb2 := hsub2 _ _ cpb
  have hbS2 := hsub2 _ _ cbS
  have bne : bS ≠ ib ∧ bS ≠ pb := ⟨fun e => (by rw [e, nib] at hbS1; cases hbS1), fun e => (by rw [e, npb] at hbS1; cases hbS1)⟩
  refine .seq ?_
  rw [rP9]
  refine .region ?_
  rw [TN]
  refine .done (Uw hty hCW hk A2.s9 ?_)
  have A3 := A2.put 41 (.tuple #[]) (.inl rfl)
  have hs2 : 41 < a2.tmps.size := by rw [hsz2]; omega
  have g3 : ∀ i, i ≠ 41 → (a2.put (some 41) (.tuple #[])).tmps.getD i undef = a2.tmps.getD i undef := fun i hi => by rw [F9 _ _ _ _ hs2, if_neg hi]
  have u10 := (g3 10 (by omega)).trans t10
  have u11 := (g3 11 (by omega)).trans t11
  generalize a2.put (some 41) (.tuple #[]) = a3 at A3 u10 u11
  refine .Ab ?_
  rw [Un]
  refine .region ?_
  rw [SK]
  refine SP hk A3.s9 A3.s3 u11 A3.s7 u10 (.done ?_)
  have A4 := A3.put 42 (.func (.func 136) #[] (ky Φ.Wg fb pb sb ib)) (.inr (.inl rfl))
  have h42 : (a3.put (some 42) (.func (.func 136) #[] (ky Φ.Wg fb pb sb ib))).tmps.getD 42 undef = .func (.func 136) #[] (ky Φ.Wg fb pb sb ib) := by
   rw [F9 _ _ _ _ (by rw [A3.sz]; omega), if_pos rfl]
  generalize a3.put (some 42) (.func (.func 136) #[] (ky Φ.Wg fb pb sb ib)) = a4 at A4 h42
  have ej : Φ.n - (r + 1) = j := by rw [hΦn]; omega
  rw [ej]
  classical
  let hcw : Eng.Heap := fun y => if Φ.S y ∨ y = ib ∨ y = pb then H2 y else none
  let hm : Eng.Heap := fun y => if y = ib ∨ y = pb then none else H2 y
  have hcS : ∀ y, Φ.S y → hcw y = H y := fun y hy => by show (if _ then _ else _) = _; rw [if_pos (.inl hy)]; exact hro2 y hy
  have sub0 : Eng.Sub h0 hcw := fun y o ho => by
   obtain ⟨e1, e2⟩ := h0S y o ho
   rw [hcS y e1]; exact e2
  have c1 : ∀ {y : Nat} {v : Value} {T : TypeId}, hcw y = some (.cells #[v] T) → zb hcw ⟨y, 0, none⟩ = some v := fun e => by simp [zb, e]
  refine R9 (ib := ib) (pb := pb) (fb := fb) (sb := sb) (h1 := hm) (hc := hcw) hk h42 (fun y o ho => ?_) (fun y o ho => ?_) (fun y hS hy => ?_) (fun y hy => ?_) ?_ ?_
  ·simp only [hm] at ho
   split at ho
   ·cases ho
   ·exact ho
  ·simp only [hcw] at ho
   split at ho
   ·exact ho
   ·cases ho
  ·simp only [hcw] at hy
   split at hy
   ·rename_i hor
    show (if _ then _ else _) = _
    rw [if_pos (hor.resolve_left hS)]
   ·exact absurd rfl hy
  ·show (if _ then _ else _) = _
   obtain ⟨e1, e2, _⟩ := sne y hy
   rw [if_neg (by simp [e1, e2])]
  ·refine TM hnb hty hCW (by rw [hΦn]; exact hjn) (hval j hjn) (fun y hy => ?_) (c1 ((hcS fb hfS).trans hfb)) (c1 (T := 22) ?_) ?_ (c1 (T := 3) ?_) (hsum hcw xa xc _ (fun y hy => ?_) (PS hpi sub0) (by rw [qD]; unfold kD; omega) (fun y hy => List.mem_of_mem_drop (List.mem_of_mem_take (by unfold partOf at hy; exact hy))))
   ·rw [hcS y hy]; exact hSd y hy
   ·show (if _ then _ else _) = _
    rw [if_pos (.inr (.inr rfl))]; exact hpb2
   ·rw [hΦn]; exact c1 ((hcS sb hsS).trans hsb)
   ·show (if _ then _ else _) = _
    rw [if_pos (.inr (.inl rfl))]; exact hib2
   ·rw [hcS y hy]; exact hSd y hy
  ·refine Sp.pre (.Ab (.inBlock ?_))
   have hrom : ∀ y, Φ.S y → hm y = H y := fun y hy => by
    obtain ⟨e1, e2, _⟩ := sne y hy
    show (if _ then _ else _) = _
    rw [if_neg (by simp [e1, e2])]; exact hro2 y hy
   have hbm : hm bS = some (.cells (szv n xs.length (j + 1)) 2) := by
    show (if _ then _ else _) = _
    rw [if_neg (by simp [bne.1, bne.2])]; exact hbS2
   refine (Ux A4 (inv hrom) (by omega)).bind ?_
   rintro _ _ H5 ⟨rfl, a5, f5, h5, rfl, hsz5, hdf5, hf5, R5, hsub5, hinv5⟩
   have A5 := AtL.reach hsz5 hdf5 hf5 rfl R5
   obtain ⟨_, _, _, _, _, _, _, rfl⟩ := R5
   refine .inLoop (.done ?_)
   exact ih (j + 1) (by omega) a5 H5 A5 (fun y hy => (agr hsub5 hinv5 y hy).trans (hrom y hy)) (hsub5 _ _ hbm)
end
end Go.Proofs.YteaonnfokkfnlaaGreatDoor
end
section
namespace Go.Proofs.YteaonnfokkfnlaaGreatDoor
open Go Go.Eng Go.Conc Go.RowKit Go.Conc.Lib Go.ConcR.Gen
open Go.ConcR (KK wgBlock WgAt stA smA rd wr DC0 Payload)
theorem LL : Tryz.f97.body = some Ix := by kernel_rfl
theorem SR : Tryz.f97.ntmps = 47 := by kernel_rfl
theorem Uy : Tryz.f97.results.toList = cP.results := by kernel_rfl
def LM (F : List Int → Int) (xs : List Int) (n : Nat) : Array Value := ((List.range n).map fun i => Value.int .u32 (F (partOf xs i))).toArray
theorem Uz (v0 v1 : Value) (m : Nat) : (#[v0, v1] ++ Array.replicate m undef).getD 0 undef = v0 := by
 rw [Array.getD_eq_getD_getElem?, Array.getElem?_append_left (by simp)]; rfl
theorem U0 (v0 v1 : Value) (m : Nat) : (#[v0, v1] ++ Array.replicate m undef).getD 1 undef = v1 := by
 rw [Array.getD_eq_getD_getElem?, Array.getElem?_append_left (by simp)]; rfl
def phP (H : Eng.Heap) (wg bC bS n : Nat) (F : List Int → Int) (xs : List Int) : Ph :=
 { ty := 184, Wg := wg, C := bC, ety := 53, n := n, S := ⟨fun y => H y ≠ none ∧ y ≠ wg ∧ y ≠ bC ∧ y ≠ bS, fun _ _ _ _ => False⟩, val := fun i => .int .u32 (F (partOf xs i)) }
theorem Hq {s : Nat → Prop} {h : Eng.Heap} (hi : Inv (x5 Tryz.prog s) h) {x : Option Addr} {c : Nat} {xs : List Int} (hx : zq h .u8 x xs) (hc : xs.length ≤ c) (hl : xs.length < 2 ^ 40) {g : FuncId} {F : List Int → Int}
  (hsum : ∀ (S' : Shared) (h' : Eng.Heap) (a' : Option Addr) (c' : Nat) (ys : List Int), Inv S' h' → zq h' .u8 a' ys → ys.length ≤ 32768 → (∀ y ∈ ys, y ∈ xs) → zc Tryz.prog S' g #[.slice a' ys.length c'] h' (fun v h'' => v = .int .u32 (F ys) ∧ Eng.Sub h' h'')) {n : Nat} (hn : n = (xs.length + 32767) / 32768) :
  zc Tryz.prog (x5 Tryz.prog s) yB #[.slice x xs.length c, .func (.func g) #[] #[]] h (fun v h' => ∃ bC bS, v = .tuple #[.slice (some ⟨bC, 0, none⟩) n n, .slice (some ⟨bS, 0, none⟩) n n] ∧
   h' bC = some (.cells (LM F xs n) 53) ∧ h' bS = some (.cells (szv n xs.length n) 2) ∧ Eng.Sub h h') := by
 refine .inl ⟨fun vs w => Mw Tryz.func97 (by kernel_rfl) (by kernel_rfl) vs w, fun cs => ?_⟩
 have hent : Frame.enter Tryz.prog yB #[.slice x xs.length c, .func (.func g) #[] #[]] .normal = (Frame.enter Tryz.prog yB #[.slice x xs.length c, .func (.func g) #[] #[]] .normal).at
   { tmps := #[.slice x xs.length c, .func (.func g) #[] #[]] ++ Array.replicate (Tryz.f97.ntmps - (#[.slice x xs.length c, .func (.func g) #[] #[]] : Array Value).size) undef, defers := [] } [.code Ix] := by
  simp [Frame.enter, Frame.at, yB, Tryz.func97, LL]
 have zp : (Frame.enter Tryz.prog yB #[.slice x xs.length c, .func (.func g) #[] #[]] .normal).kind = .normal := rfl
 have hfn : (Frame.enter Tryz.prog yB #[.slice x xs.length c, .func (.func g) #[] #[]] .normal).fn = yB := rfl
 rw [hent]
 generalize Frame.enter Tryz.prog yB #[.slice x xs.length c, .func (.func g) #[] #[]] .normal = b at zp hfn
 rw [Pz, SR]
 refine (CQ (rs := [rP 0, rP 1, rP 2, rP 3]) (ps := [(0, .slice), (1, .fnv)]) (env := [.slice x xs.length c, .func (.func g) #[] #[]]) Cw Cx sA ⟨Uz _ _ _, rfl, U0 _ _ _, rfl, trivial⟩ (by simp) rfl hi (wpA rfl hi hl hn)).bind ?_
 rintro _ cs H ⟨rfl, a, f, h', rfl, hsz, hdf, hf, ⟨fb, bC, bS, sb, wg, r0, r3, r6, r7, r8, r9, hnd, hnone, hsubh, cfb, cbC, cbS, csb, cwg⟩, hsub, hinv⟩
 have sH : Eng.Sub h H := fun y o ho => hsub y o (hsubh y o ho)
 have iH : Inv (x5 Tryz.prog s) H := fun y hy => by
  cases e : h y with
  | none => exact absurd e (hi y hy)
  | some o => rw [sH y o e]; simp
 replace cfb := hsub _ _ cfb
 replace cbC := hsub _ _ cbC
 replace cbS := hsub _ _ cbS
 replace csb := hsub _ _ csb
 replace cwg := hsub _ _ cwg
 simp only [List.nodup_cons, List.mem_cons, List.not_mem_nil, or_false, not_or, not_false_eq_true, List.nodup_nil, and_true] at hnd
 have hne : ∀ y, h y ≠ none → y ≠ wg ∧ y ≠ bC ∧ y ≠ bS := fun y hy => ⟨fun e => hy (hnone y (by simp [e])), fun e => hy (hnone y (by simp [e])), fun e => hy (hnone y (by simp [e]))⟩
 have q : ∀ i, i ∈ ([0, 3, 6, 7, 8, 9] : List Nat) → a.tmps.getD i undef = f i := hf
 refine .seq ?_
 refine (CQ (rs := [rP 4]) (ps := [(0, .slice), (3, .addr), (7, .addr), (8, .slice), (9, .addr), (6, .int .i64)])
  (env := [.slice x xs.length c, .pointer (some ⟨fb, 0, none⟩), .pointer (some ⟨sb, 0, none⟩), .slice (some ⟨bS, 0, none⟩) n n, .pointer (some ⟨wg, 0, none⟩), .int .i64 n]) (is := [0, 3, 7, 8, 9, 22, 23]) (R := RS H (.slice x xs.length c) fb sb bS wg n 0) (c := .block 0 (.loop Iy)) Cw Cx s4
  ⟨(q 0 (by simp)).trans r0, rfl, (q 3 (by simp)).trans r3, rfl, (q 7 (by simp)).trans r7, rfl, (q 8 (by simp)).trans r8, rfl, (q 9 (by simp)).trans r9, rfl, (q 6 (by simp)).trans r6, rfl, trivial⟩ hsz hdf iH (by
   simp only [t4, Tr.wp]
   exact jr.intro SJ rfl rfl rfl rfl ⟨rfl, rfl, rfl, rfl, rfl, rfl, rfl, rfl⟩)).bind ?_
 rintro _ cs H' ⟨rfl, a1, f1, h1, rfl, hsz1, hdf1, hf1, R1, hsub1, hinv1⟩
 have A1 := AtL.reach hsz1 hdf1 hf1 rfl R1
 obtain ⟨_, _, _, _, _, _, _, rfl⟩ := R1
 replace cfb := hsub1 _ _ cfb
 replace cbC := hsub1 _ _ cbC
 replace cbS := hsub1 _ _ cbS
 replace csb := hsub1 _ _ csb
 replace cwg := hsub1 _ _ cwg
 replace sH : Eng.Sub h H' := fun y o ho => hsub1 y o (sH y o ho)
 clear iH hinv1 hsub1 hsub hf q hinv hsubh
 refine .block (.loop ?_)
 have hk : b.kind ≠ .early := by rw [zp]; decide
 let Φ := phP H' wg bC bS n F xs
 have hS : ∀ y, Φ.S y ↔ (H' y ≠ none ∧ y ≠ wg ∧ y ≠ bC ∧ y ≠ bS) := fun y => Iff.rfl
 have rest_eq : ∀ y, Φ.S y → Φ.rest H' y = H' y := fun y hy => by
  unfold Ph.rest
  rw [if_neg]
  rintro (e | e)
  ·exact hy.2.1 e
  ·exact hy.2.2.1 e
 refine .big H' (fun _ => none) (fun fr' cs' h'' => ∃ a2, AtL a2 (.slice x xs.length c) fb sb bS wg n n ∧ Ju Tryz.prog (b.at (a2.put (some 44) (.tuple #[])) [.inRegion (xm 12) [], .code (rP 13)]) cs fr' cs' ∧
   h'' bC = some (.cells (LM F xs n) 53) ∧ h'' bS = some (.cells (szv n xs.length n) 2) ∧ ∀ y, Φ.S y → h'' y = H' y) (xe _).symm (fun y hy => absurd rfl hy) ?_ ?_
 ·refine ⟨Φ, yd n #[.int .u32 0], ⟨fun _ _ _ _ h => h, ?_, ?_, cwg, cbC, by simp [yd, Φ, phP], fun y hy => ?_, fun y hy => ?_⟩, ?_⟩
  ·show n < _
   omega
  ·show bC ≠ wg
   omega
  ·have e1 := hi y hy
   refine ⟨?_, hne y e1⟩
   cases e : h y with
   | none => exact absurd e e1
   | some o => rw [sH y o e]; simp
  ·rw [rest_eq y hy]; exact hy.1
  ·refine SQ (Φ := Φ) (H := H') (h0 := h) (n := n) (g := g) (F := F) rfl (show bC ≠ wg by omega) (fun _ _ _ _ h => h) rfl hx hc hl hn (fun y hy => hy.1) (fun y o ho => ⟨⟨by rw [sH y o ho]; simp, hne y (by rw [ho]; simp)⟩, sH y o ho⟩)
    (fun hy => hy.2.2.2 rfl) ⟨by rw [cfb]; simp, by omega, by omega, by omega⟩ ⟨by rw [csb]; simp, by omega, by omega, by omega⟩ cfb csb (fun i _ => rfl) (fun h' a' c' ys => hsum Φ.S h' a' c' ys) hk ?_ n 0 (by omega) a1 _ A1 rest_eq ?_
   ·intro a2 hh A2 hro hbS fr' cs' hB
    refine ⟨a2, A2, hB, ?_, ?_, fun y hy => ?_⟩
    ·exact y7
    ·exact (yu (show bS ≠ bC by omega)).trans hbS
    ·exact (yu hy.2.2.1).trans (hro y hy)
   ·unfold Ph.rest
    rw [if_neg (by rintro (e | e); exact absurd (show bS = wg from e) (by omega); exact absurd (show bS = bC from e) (by omega)), cbS, PN]
 ·rintro fr' cs' h2 ⟨a2, A2, hB, e1, e2, e3⟩ _ _
  rw [xe]
  refine hB _ _ _ (.Ab ?_)
  have A3 := A2.put 44 (.tuple #[]) (.inr (.inr rfl))
  have i2 : Inv (x5 Tryz.prog s) h2 := fun y hy => by
   have x1 := hi y hy
   cases e : h y with
   | none => exact absurd e x1
   | some o =>
    have x2 := sH y o e
    rw [e3 y ⟨by rw [x2]; simp, hne y x1⟩, x2]; simp
  have s2 : Eng.Sub h h2 := fun y o ho => by
   have x2 := sH y o ho
   rw [e3 y ⟨by rw [x2]; simp, hne y (by rw [ho]; simp)⟩]; exact x2
  have csb2 : h2 sb = some (.cells #[.slice (some ⟨bC, 0, none⟩) n n] 131) := by
   rw [e3 sb ⟨by rw [csb]; simp, by omega, by omega, by omega⟩]; exact csb
  have ha : Ok (x5 Tryz.prog s) h2 (fun _ => none) := ⟨fun b hb => absurd rfl hb, i2⟩
  rw [← xe h2]
  refine Mv (cfg := cP) (f := yB) (Λ := jf) (Ks := []) Cw Cx zp hfn Tryz.func97 Uy (rP 13) (BU 47 [(7, .addr), (8, .slice)]) tZ [.pointer (some ⟨sb, 0, none⟩), .slice (some ⟨bS, 0, none⟩) n n] [] _ _ h2 [] sZ BJ
   (Rel.of ⟨A3.s7, rfl, A3.s8, rfl, trivial⟩ A3.sz A3.df) ha rfl ?_ ⟨?_, ?_⟩
  ·simp only [tZ, Tr.wp, Ex.ev, coerce, zn, zu, zo, zg, SV.den, zG, zy, List.getD_cons_zero, List.getD_cons_succ, List.map_cons, List.map_nil, List.cons_append, List.nil_append, and_true, if_false, Bool.false_eq_true]
   refine ⟨some ⟨bC, 0, none⟩, n, n, by simp [zb, Addr.add, csb2], bC, bS, ?_, e1, e2, s2⟩
   rfl
  ·intro _ _ _ _ _ _ _ h; exact h.elim
  ·intro _ _ _ _ _ _ _ _ h; exact h.elim
end Go.Proofs.YteaonnfokkfnlaaGreatDoor
end
section
namespace Go.Proofs.YteaonnfokkfnlaaGreatDoor
open Go Go.Eng Go.IntWalk
variable {S : Shared} {h : Eng.Heap}
theorem FA (hi : Eng.Inv S h) (p q n : Int) (hn : 0 ≤ n ∧ n ≤ 1000000) :
  zc Tryz.prog S qI #[.int .u32 p, .int .u32 q, .int .i64 n] h (fun v h' => v = .int .u32 (G0 p q n) ∧ h' = h) := by
 refine DJ (vs := [.int .u32 p, .int .u32 q, .int .i64 n]) ⟨rfl, rfl, rfl, trivial⟩ hi ?_
 simp only [Bb, Tr.wp, Ex.ev, coerce, toInt_int, zf, B0, ya, arith, Cst.val, SV.den, List.getD_cons_zero, List.getD_cons_succ, decide_eq_true_eq, and_true]
 refine ⟨fun c => ?_, fun _ => rfl⟩
 simp only [Bool.or_eq_true, decide_eq_true_eq] at c
 omega
theorem ND (xs : List Int) {n j : Nat} (hn : n = (xs.length + 32767) / 32768) (hj : j < n) : xs.take (min ((j + 1) * 32768) xs.length) = xs.take (min (j * 32768) xs.length) ++ partOf xs j := by
 have e1 : min (j * 32768) xs.length = j * 32768 := by omega
 have h1 : j * 32768 ≤ min ((j + 1) * 32768) xs.length := by omega
 have e2 : min ((j + 1) * 32768) xs.length = j * 32768 + kD xs.length j := (Nat.add_sub_cancel' h1).symm
 rw [e1, e2, List.take_add]
 simp only [partOf]
theorem RD {xs : List Int} (hb : okB xs) (j : Nat) : okB (partOf xs j) := fun x hx => by
 unfold partOf at hx
 have h1 := List.mem_of_mem_take hx
 have h2 := List.mem_of_mem_drop h1
 exact hb x h2
theorem j3 {s : Nat → Prop} (hi : Eng.Inv (x5 Tryz.prog s) h) (c0 : Int) (hc0 : 0 ≤ c0 ∧ c0 < 4294967296) (a : Option Addr) (c : Nat) (xs : List Int) (hb : okB xs) (hx : zq h .u8 a xs) (hc : xs.length ≤ c) (hl : xs.length < 2 ^ 40) :
  zc Tryz.prog (x5 Tryz.prog s) yP #[.int .u32 c0, .slice a xs.length c] h (fun v h' => v = .int .u32 (zK c0 xs) ∧ Eng.Sub h h') := by
 refine CJ (vs := [.int .u32 c0, .slice a xs.length c]) ⟨rfl, rfl, trivial⟩ hi ?_
 simp only [Ai, Tr.wp, zX, Ex.ev, coerce, toInt_int, zf, zn, zu, zo, zg, yF, ya, arith, Cst.val, SV.den, z6, yl, zU, zt, zk, zG, ym, zy, List.flatMap_cons, List.flatMap_nil, List.getD_cons_zero, List.getD_cons_succ, List.getElem?_cons_zero, List.getElem?_cons_succ, decide_eq_true_eq, decide_eq_false_iff_not, List.map_cons, List.map_nil, List.cons_append, List.nil_append, List.append_nil, List.length_cons, List.length_nil, Nat.zero_add, and_true, if_true, if_false, Bool.false_eq_true]
 refine ⟨fun hle => ?_, fun hgt => ?_⟩
 ·refine (Bo hi c0 a c xs hx (by omega)).mono ?_
  rintro _ h' ⟨rfl, rfl⟩
  exact ⟨_, rfl, rfl, fun _ _ h => h⟩
 ·refine (Bo hi c0 none 0 [] (fun i x hx => by simp at hx) (by simp)).mono ?_
  rintro _ h' ⟨rfl, rfl⟩
  refine ⟨_, rfl, ?_⟩
  obtain ⟨n, hn⟩ : ∃ n, n = (xs.length + 32767) / 32768 := ⟨_, rfl⟩
  refine (Hq (g := 98) (F := zK 1) hi hx hc hl (fun S' h' a' c' ys hi' hx' hl' _ => Nt hi' a' c' ys hx' (by omega)) hn).mono ?_
  rintro _ h1 ⟨bC, bS, rfl, e1, e2, s1⟩
  have i1 : Eng.Inv (x5 Tryz.prog s) h1 := fun y hy => by
   cases e : h' y with
   | none => exact absurd e (hi y hy)
   | some o => rw [s1 y o e]; simp
  have ok0 := KE hc0
  refine ⟨_, _, _, _, _, _, rfl, fun us h2 => ∃ j : Nat, us = [.int .u32 (zK c0 (xs.take (min (j * 32768) xs.length))), .int .i64 j] ∧ j ≤ n ∧ h2 = h1, fun us _ => n - (toInt (us.getD 1 undef)).toNat, ⟨0, by simp, by omega, rfl⟩, ?_⟩
  rintro x y h2 ⟨j, hx1, hj, rfl⟩
  simp only [List.cons.injEq, Value.int.injEq, true_and, and_true] at hx1
  obtain ⟨rfl, rfl⟩ := hx1
  refine ⟨fun hlt => ?_, fun hge => ?_⟩
  ·have hjn : j < n := by omega
   have w2 : IntKind.i64.wrap ((j : Int) + 1) = ((j + 1 : Nat) : Int) := by rw [i64_in _ (by omega)]; omega
   have c1 : zb h2 (((((some (⟨bC, 0, none⟩ : Addr)).getD default).add ((j : Int).toNat * 1))).add 0) = some (.int .u32 (zK 1 (partOf xs j))) := by
    simp [zj, zb, e1, LM, hjn]
   have c2 : zb h2 (((((some (⟨bS, 0, none⟩ : Addr)).getD default).add ((j : Int).toNat * 1))).add 0) = some (.int .i64 (kD xs.length j)) := by
    simp [zj, zb, e2, szv, hjn]
   refine ⟨rfl, by omega, by omega, _, c1, rfl, by omega, by omega, _, c2, ?_⟩
   have hpl : kD xs.length j ≤ 1000000 := by unfold kD; omega
   refine (FA i1 _ _ _ ⟨by omega, by omega⟩).mono ?_
   rintro _ h3 ⟨rfl, rfl⟩
   refine ⟨_, rfl, ⟨j + 1, ?_, by omega, rfl⟩, ?_⟩
   ·have okt : okB (xs.take (min (j * 32768) xs.length)) := fun z hz => hb z (List.mem_of_mem_take hz)
    have J := LA (EB ok0 okt) (RD hb j) (by rw [qD]; exact hpl)
    rw [qD] at J
    rw [w2, ND xs hn hjn]
    simp only [List.cons.injEq, Value.int.injEq, true_and, and_true]
    unfold zK at J ⊢
    rw [J, List.foldl_append]
   ·simp only [w2, List.getD_cons_succ, List.getD_cons_zero, toInt_int, Int.toNat_natCast]; omega
  ·obtain rfl : j = n := by omega
   refine ⟨?_, s1⟩
   rw [show min (j * 32768) xs.length = xs.length by omega, List.take_length]
end Go.Proofs.YteaonnfokkfnlaaGreatDoor
end
section
namespace Go.Proofs.YteaonnfokkfnlaaGreatDoor
open Go Go.Eng Go.IntWalk
section
variable {S : Shared} {h h0 : Eng.Heap}
structure ErrZ (h : Eng.Heap) : Prop where
 el : ErrL h
 e4 : zb h ⟨2, 0, none⟩ = some (.int .i64 4)
 e5 : zb h ⟨1, 0, none⟩ = some (.int .i64 5)
theorem ErrZ.sub {h' : Eng.Heap} (H : ErrZ h) (s : Eng.Sub h h') : ErrZ h' := ⟨H.el.sub s, xX s H.e4, xX s H.e5⟩
theorem SS {x b : Int} (hx : 0 ≤ x ∧ x < 16777216) (hb : 0 ≤ b ∧ b < 256) : Go.bits .or .u32 (x * 256) b = x * 256 + b := by
 obtain ⟨n, rfl⟩ := Int.eq_ofNat_of_zero_le hx.1
 obtain ⟨m, rfl⟩ := Int.eq_ofNat_of_zero_le hb.1
 have e : ((n : Int) * 256) = ((n * 256 : Nat) : Int) := by omega
 have h1 : (BitVec.ofInt 32 ((n * 256 : Nat) : Int)).toNat = n * 256 := by rw [BitVec.ofInt_natCast, BitVec.toNat_ofNat]; exact Nat.mod_eq_of_lt (by omega)
 have h2 : (BitVec.ofInt 32 (m : Int)).toNat = m := by rw [BitVec.ofInt_natCast, BitVec.toNat_ofNat]; exact Nat.mod_eq_of_lt (by omega)
 have e2 := Nat.two_pow_add_eq_or_of_lt (i := 8) (b := m) (by omega) n
 rw [e]
 show IntKind.u32.wrap ((BitVec.ofInt 32 ((n * 256 : Nat) : Int) ||| BitVec.ofInt 32 (m : Int)).toNat : Int) = _
 have e3 : n * 256 = 2 ^ 8 * n := by omega
 rw [BitVec.toNat_or, h1, h2, e3, ← e2, IntKind.wrap_u32]
 omega
section
variable {bm : Nat} {a : Option Addr} {c : Nat} {bs : List Int} {m : MC} {T : TypeId}
theorem LN (hi : Eng.Inv S h0) (G : Errs h0) (hx : zq h0 .u8 a bs) (L : bs.length ≤ 1048576) (p : Nat) (hp : p ≤ 8 * bs.length) (n : Nat) (hn : n ≤ 4) (M : MAt h0 h bm a c bs p m T) :
  zc Tryz.prog S xN #[.pointer (some ⟨bm, 0, none⟩), .int .i64 n] h (fun v h' => ∃ p' : Nat, p' ≤ 8 * bs.length ∧
   v = .tuple #[.int .u32 (if (hig bs n ⟨p, 0⟩ 0).1.k = 0 then (hig bs n ⟨p, 0⟩ 0).2 else 0), zP (hig bs n ⟨p, 0⟩ 0).1.k] ∧ ((hig bs n ⟨p, 0⟩ 0).1.k = 0 → (hig bs n ⟨p, 0⟩ 0).1 = ⟨p', 0⟩) ∧ h' = upd h bm (z5 a c bs p' m T)) := by
 refine Dk (vs := [.pointer (some ⟨bm, 0, none⟩), .int .i64 n]) ⟨rfl, rfl, trivial⟩ (hi.sub M.sb) ?_
 simp only [Ay, Tr.wp, zX, Ex.ev, coerce, toInt_int, zf, zg, zB, yD, ya, arith, Cst.val, SV.den, z6, yl, zU, zt, zk, zG, ym, List.flatMap_cons, List.flatMap_nil, List.getD_cons_zero, List.getD_cons_succ, List.getElem?_cons_zero, decide_eq_true_eq, decide_eq_false_iff_not, List.map_cons, List.map_nil, List.cons_append, List.nil_append, List.append_nil, List.length_cons, List.length_nil, Nat.zero_add, Nat.add_zero, if_true, if_false, Bool.false_eq_true, zj]
 refine ⟨fun us h' => ∃ (j p' : Nat) (x : Int), us = [.int .u32 x, .int .i64 j] ∧ j ≤ n ∧ p' ≤ 8 * bs.length ∧ 0 ≤ x ∧ x < 256 ^ j ∧ hig bs (n - j) ⟨p', 0⟩ x = hig bs n ⟨p, 0⟩ 0 ∧ h' = upd h bm (z5 a c bs p' m T), fun us _ => n - (toInt (us.getD 1 undef)).toNat,
  ⟨0, p, 0, rfl, by omega, hp, by omega, by simp, by simp, (kQ M.hb).symm⟩, ?_⟩
 rintro x y h' ⟨j, p', x', hx1, hj, hp', g0, g1, e, rfl⟩
 simp only [List.cons.injEq, Value.int.injEq, true_and, and_true] at hx1
 obtain ⟨rfl, rfl⟩ := hx1
 refine ⟨fun hlt => ?_, fun hge => ?_⟩
 ·have hjn : j < n := by omega
  refine ⟨by simp, ?_⟩
  refine (Fz hi G hx L p' hp' 8 (by omega) (M.keep rfl)).mono ?_
  rintro _ h2 ⟨rfl, rfl⟩
  rw [yR]
  have nm := yJ (bs := bs) (n := 8) (r := ⟨(p' : Int), 0⟩)
  have e8 : (2 : Int) ^ 8 = 256 := by decide
  rw [e8] at nm
  have est : hig bs n ⟨p, 0⟩ 0 = hig bs (n - (j + 1)) (tk bs 8 ⟨p', 0⟩).1 (256 * x + (tk bs 8 ⟨p', 0⟩).2) := by
   rw [← e, show n - j = n - (j + 1) + 1 by omega]; rfl
  have okt : okR bs (tk bs 8 ⟨(p' : Int), 0⟩).1 := jF fun _ => ⟨by simp only; omega, by simp only; omega⟩
  have hpos : ∃ q : Nat, q ≤ 8 * bs.length ∧ (tk bs 8 ⟨(p' : Int), 0⟩).1.i = q := by
   unfold tk
   rw [if_pos rfl]
   split
   ·exact ⟨p', hp', rfl⟩
   ·rename_i h; simp only at h; exact ⟨p' + 8, by omega, by simp only; omega⟩
  obtain ⟨q, hq, eq⟩ := hpos
  refine ⟨_, zP (tk bs 8 ⟨p', 0⟩).1.k, za, by rw [za], fun hz => ?_, fun hz => ?_⟩
  ·rw [za, zx] at hz
   have hk : (tk bs 8 ⟨(p' : Int), 0⟩).1.k ≠ 0 := by simpa using hz
   have eb : (hig bs n ⟨p, 0⟩ 0).1 = (tk bs 8 ⟨p', 0⟩).1 := by rw [est, Cu hk]
   rw [eb]
   exact ⟨q, hq, by rw [if_neg hk, za], fun h => absurd h hk, by rw [eq]⟩
  ·rw [za, zx] at hz
   have hk : (tk bs 8 ⟨(p' : Int), 0⟩).1.k = 0 := by simpa using hz
   have hp3 : (256 : Int) ^ j ≤ 256 ^ 3 := by
    have : ((256 ^ j : Nat) : Int) ≤ ((256 ^ 3 : Nat) : Int) := by exact_mod_cast Nat.pow_le_pow_right (by decide) (show j ≤ 3 by omega)
    simpa using this
   have e3 : (256 : Int) ^ 3 = 16777216 := by decide
   have ws : IntKind.u32.wrap (x * 2 ^ min (Int.toNat 8) IntKind.u32.bits) = x * 256 := by
    rw [show (2 : Int) ^ min (Int.toNat 8) IntKind.u32.bits = 256 from rfl, IntKind.wrap_u32]; omega
   have wb : IntKind.u32.wrap (tk bs 8 ⟨(p' : Int), 0⟩).2 = (tk bs 8 ⟨(p' : Int), 0⟩).2 := by rw [IntKind.wrap_u32]; omega
   have w2 : IntKind.i64.wrap ((j : Int) + 1) = ((j + 1 : Nat) : Int) := by rw [i64_in _ (by omega)]; omega
   rw [ws, wb, SS (by omega) nm, w2, eq]
   have er : (tk bs 8 ⟨(p' : Int), 0⟩).1 = ⟨(q : Int), 0⟩ := by
    generalize (tk bs 8 ⟨(p' : Int), 0⟩).1 = X at hk eq
    obtain ⟨i, kk⟩ := X
    simp only at hk eq
    rw [hk, eq]
   rw [er, Int.mul_comm 256 x] at est
   refine ⟨⟨j + 1, q, _, rfl, by omega, hq, by omega, by rw [Int.pow_succ]; omega, est.symm, rfl⟩, by simp only [List.getD_cons_succ, List.getD_cons_zero, toInt_int]; omega⟩
 ·obtain rfl : j = n := by omega
  rw [Nat.sub_self] at e
  have eh : hig bs j ⟨p, 0⟩ 0 = (⟨p', 0⟩, x) := e.symm
  rw [eh]
  exact ⟨p', hp', by simp [zP], fun _ => rfl, rfl⟩
end
end
section
variable {S : Shared} {h h0 : Eng.Heap} {k : KC} {F : Nat} {Fin : Rd × List Int}
theorem PT (hi : Eng.Inv S h0) (G : ErrL h0) (hro : k.room ≤ 200000) (hdl : k.dl ≤ 40000) (hsz : 1 ≤ k.sz ∧ k.sz ≤ 32768) (hx : zq h0 .u8 k.a k.bs) (L : k.bs.length ≤ 1048576) (hFl : 8 * k.bs.length + 1 ≤ F) {n0 : Nat} (H0 : wY h0 k F Fin (fnV k yi) h n0) :
  zc Tryz.prog S kg #[.pointer (some ⟨k.bm, 0, none⟩)] h (Jk h0 k Fin) := by
 refine BQ (vs := [.pointer (some ⟨k.bm, 0, none⟩)]) ⟨rfl, trivial⟩ (hi.sub (by obtain ⟨_, _, hb, _, _, _, s, H, _⟩ := H0; exact s.trans H.sb)) ?_
 simp only [w7, Tr.wp, zX, Ex.ev, coerce, zf, zg, zB, yD, SV.den, z6, yl, zU, zt, zk, zG, List.flatMap_cons, List.flatMap_nil, List.getD_cons_zero, List.getD_cons_succ, List.map_cons, List.map_nil, List.cons_append, List.nil_append, List.append_nil, Nat.add_zero, if_false, Bool.false_eq_true, zj]
 refine ⟨by simp, by simp, ?_⟩
 refine zc.mono (TE hi G hro hdl hsz hx L hFl H0) ?_
 rintro _ h3 ⟨hb, last, l, d, rfl, sb, H3, ok3⟩
 exact ⟨_, za, by rw [za], hb, last, l, d, by rw [za], sb, H3, ok3⟩
end
section
variable {s : Nat → Prop} {h : Eng.Heap}
def PF (h0 : Eng.Heap) (bm : Nat) (a : Option Addr) (c : Nat) (bs : List Int) (T : TypeId) (x : ku) (v : Value) (h' : Eng.Heap) : Prop :=
 ∃ (K : Int) (p : Nat) (m : MC) (xs : List Int) (ao : Option Addr) (co : Nat), v = zP K ∧ h' bm = some (z5 a c bs p m T) ∧ m.out = .slice ao xs.length co ∧ Part .u8 h' (.slice ao xs.length co) xs ∧ Eng.New h0 (.slice ao xs.length co) ∧ Eng.Sub h0 h' ∧ p ≤ 8 * bs.length ∧
  (K ≠ 0 → x = (K, xs, 0, ())) ∧ (K = 0 → x = (1, xs, ((p / 8 : Nat) : Int), ()))
theorem Qq {h1 : Eng.Heap} (hi : Eng.Inv (x5 Tryz.prog s) h) (G : ErrZ h) {bm : Nat} {a : Option Addr} {c : Nat} {bs : List Int} {T : TypeId} (hx : zq h .u8 a bs) (L : bs.length ≤ 65536) (p : Nat) (hp : p ≤ 8 * bs.length) (hb : h bm = none) (sb : Eng.Sub h h1)
  (hm : h1 bm = some (z5 a c bs p ⟨.pointer none, .slice none 0 0, 100000, false, .pointer none, .pointer none⟩ T)) {x : Int} (hx0 : 0 ≤ x) (hx1 : x < 65536) (hx7 : x / 4096 ≤ 7) {au : Option Addr} {cu : Nat} {us : List Int} (hu : zq h1 .u8 au us) (hcu : us.length ≤ cu) (hul : us.length ≤ 1048576) (hub : okB us) (Ks : List Kt) (e1 e3 : Value) :
  ziE.wp Tryz.prog (x5 Tryz.prog s) jf (PF h bm a c bs T (zA bs (zS x) us ⟨p, 0⟩)) [.pointer (some ⟨bm, 0, none⟩), e1, .int .u32 x, e3, .slice au us.length cu] h1 Ks := by
 simp only [ziE, Tr.wp, zX, Ex.ev, coerce, toInt_int, zf, zn, zu, zo, zg, zB, yD, ya, arith, Cst.val, SV.den, z6, yl, zU, zt, zk, zG, zy, zY, List.flatMap_cons, List.flatMap_nil, List.getD_cons_zero, List.getD_cons_succ, decide_eq_true_eq, List.map_cons, List.map_nil, List.cons_append, List.nil_append, List.append_nil, List.length_cons, List.length_nil, Nat.zero_add, Nat.add_zero, and_true, if_true, if_false, Bool.false_eq_true, zj]
 have eS : zS x = 2 ^ (x / 4096 + 8).toNat := by unfold zS; rw [if_pos hx7]
 have hS1 : 1 ≤ zS x := by rw [eS]; exact Nat.one_le_two_pow
 have hS2 := Ql hx0
 have ws : Int.fdiv x (2 ^ min (Int.toNat 8) IntKind.u32.bits) = x / 256 := by rw [show (2 : Int) ^ min (Int.toNat 8) IntKind.u32.bits = 256 from rfl, Int.fdiv_eq_ediv_of_nonneg _ (by omega)]
 have wq : IntKind.u32.wrap ((x / 256).tdiv 16) = x / 4096 := by rw [Int.tdiv_eq_ediv_of_nonneg (by omega), IntKind.wrap_u32]; omega
 have wa : IntKind.u32.wrap (x / 4096 + 8) = x / 4096 + 8 := by rw [IntKind.wrap_u32]; omega
 have wz : IntKind.i64.wrap (1 * 2 ^ min (x / 4096 + 8).toNat IntKind.i64.bits) = ((zS x : Nat) : Int) := by
  have : IntKind.i64.bits = 64 := rfl
  rw [eS, Int.one_mul, show min (x / 4096 + 8).toNat IntKind.i64.bits = (x / 4096 + 8).toNat by rw [this]; omega, y9]
  exact i64_in _ (by omega)
 rw [ws, wq, wa, wz]
 refine ⟨by omega, ?_⟩
 refine zc.mono (Pa (sz := zS x) (hi.sub sb) au cu us hcu (by omega) hu hS1 hS2) ?_
 rintro _ h2 ⟨bw, TW, rfl, RW⟩
 obtain ⟨dd, at_, nn, hbw, R, s2, hnw⟩ := RW
 have ne : bm ≠ bw := fun e => by rw [← e, hm] at hnw; cases hnw
 have hm2 := s2 _ _ hm
 have hsb : ¬ (x5 Tryz.prog s) bm := fun hs => hi bm hs hb
 obtain ⟨_, _, g2, _⟩ := y8 hm2
 refine ⟨_, rfl, by simp, jR hm2 hsb g2, ?_⟩
 obtain ⟨k, hk⟩ : ∃ k : KC, k = ⟨a, c, bs, (zM (zS x) us).length, 100000, zS x, T, TW, bm, bw, []⟩ := ⟨_, rfl⟩
 obtain ⟨h3, hh3⟩ : ∃ h3, h3 = upd h2 bm (z5 a c bs p ⟨.pointer (some ⟨bw, 0, none⟩), .slice none 0 0, 100000, false, .pointer none, .pointer none⟩ T) := ⟨_, rfl⟩
 have es : zw h2 ⟨bm, 2, none⟩ (.pointer (some ⟨bw, 0, none⟩)) = h3 := by rw [hh3, hset_cells' hm2]; rfl
 rw [es]
 have sb2 := sb.trans s2
 have s3 : Eng.Sub h h3 := by rw [hh3]; exact xd sb2 hb
 have hnw0 : h bw = none := yg sb hnw
 obtain ⟨f1, f2, f3⟩ := Pm (bs := bs) (us := us) (r := ⟨(p : Int), 0⟩) hS2
 have okr : okR bs ⟨(p : Int), 0⟩ := fun _ => ⟨by simp only; omega, by simp only; omega⟩
 have H0 : IM h h3 k ⟨(p : Int), 0⟩ (zM (zS x) us) false (.pointer none) (.pointer none) := by
  subst hk
  have ed : (zM (zS x) us).drop (zM (zS x) us).length = [] := List.drop_length
  refine ⟨⟨p, none, 0, hp, fun _ => rfl, ?_, ?_, ?_⟩, ⟨dd, at_, nn, ?_, by rw [Gi]; exact R, s3, hnw0⟩, hb, ne, s3, ⟨Nat.le_refl _, Nat.le_add_right _ _, by simp⟩⟩
  ·rw [hh3, upd_same]; simp only [yQ, KC.otl, ed, Nat.sub_self]; rfl
  ·simp only [KC.otl, ed, List.append_nil]; exact Part.nil
  ·intro z hz; simp only [KC.otl, ed] at hz; cases hz
  ·rw [hh3, upd_ne (Ne.symm ne)]; exact hbw
 have RA : wY h k (8 * bs.length + 1) (zE bs (zS x) us ⟨(p : Int), 0⟩) (fnV k yi) h3 (mz k ⟨(p : Int), 0⟩ + 0) := by
  refine ⟨⟨(p : Int), 0⟩, zM (zS x) us, h, false, _, _, fun _ _ e => e, H0, rfl, by subst hk; exact okr, 8 * bs.length + 1, by subst hk; simp only; omega, .inl ⟨rfl, rfl, ?_⟩⟩
  subst hk; rfl
 have K := PT (S := x5 Tryz.prog s) hi G.el (by subst hk; simp) (by subst hk; simp only; omega) (by subst hk; simp only; omega) (by subst hk; exact hx) (by subst hk; simp only; omega) (by subst hk; exact Nat.le_refl _) RA
 have ebm : k.bm = bm := by rw [hk]
 rw [ebm] at K
 refine zc.mono K ?_
 clear K
 rintro _ h4 ⟨hb4, last, l, d, rfl, sb4, H4, ok4⟩
 have ebs : k.bs = bs := by rw [hk]
 have ekc : ∀ p4 m4, z5 k.a k.c k.bs p4 m4 k.T = z5 a c bs p4 m4 T := fun p4 m4 => by rw [hk]
 have eotl : k.otl (zE bs (zS x) us ⟨(p : Int), 0⟩).2 = zO bs (zS x) us ⟨(p : Int), 0⟩ := by rw [hk]; rfl
 have hO : (zO bs (zS x) us ⟨(p : Int), 0⟩).length ≤ 100000 := by unfold zO; rw [List.length_drop]; omega
 have hOb := S0 (bs := bs) (sz := zS x) (r := ⟨(p : Int), 0⟩) hub
 generalize hE : zE bs (zS x) us ⟨(p : Int), 0⟩ = X at H4 ok4 eotl
 obtain ⟨xs, hxs⟩ : ∃ xs, xs = zO bs (zS x) us ⟨(p : Int), 0⟩ := ⟨_, rfl⟩
 rw [← hxs] at eotl hO hOb
 refine ⟨_, za, by rw [za], fun hz => ?_, fun hz => ?_⟩
 ·rw [za, zx] at hz
  have hk1 : X.1.k ≠ 0 := by simpa using hz
  obtain ⟨p4, ao, co, hp4, hr4, hbm4, P4, N4⟩ := H4.mt
  rw [ebm, ekc] at hbm4
  rw [eotl] at hbm4 P4 N4
  have eA := Rs (bs := bs) (us := us) (sz := zS x) (r := ⟨(p : Int), 0⟩) (by rw [hE]; exact hk1)
  rw [hE, ← hxs] at eA
  rw [za]
  exact ⟨X.1.k, p4, _, xs, ao, co, rfl, hbm4, rfl, P4, fun z hz => yg sb4 (IM.xj N4 hz).2.2, sb4.trans H4.sb, by rw [ebs] at hp4; exact hp4, fun _ => eA, fun h => absurd h hk1⟩
 ·rw [za, zx] at hz
  have hk1 : X.1.k = 0 := by simpa using hz
  have hib := hi.sub sb4
  have H4' := H4
  rw [show h4 = h4 from rfl] at H4'
  have KA := K8 hib (by rw [ebs]; omega) H4 hk1
  rw [ebm] at KA
  refine ⟨by simp, zc.mono KA ?_⟩
  rintro _ h5 ⟨rfl, H5⟩
  have oka : okR bs (alg X.1) := Nf (by rw [ebs] at ok4; exact ok4)
  obtain ⟨p5, ao, co, hp5, hr5, hbm5, P5, N5⟩ := H5.mt
  rw [ebm, ekc] at hbm5
  rw [eotl] at hbm5 P5 N5
  rw [ebs] at hp5
  have hka : (alg X.1).k = 0 := by unfold alg; rw [if_pos hk1]
  have ea : alg X.1 = ⟨(p5 : Int), 0⟩ := by
   have := hr5 hka
   generalize alg X.1 = Y at hka this
   obtain ⟨i, kk⟩ := Y
   simp only at hka this
   rw [hka, this]
  have hnb4 : hb4 bm = none := ebm ▸ H5.nm
  have KB := LN hib ((G.sub sb4).el.es) (hx.sub sb4) (by omega) p5 hp5 4 (by omega) ⟨hbm5, hnb4, H5.sb⟩
  refine ⟨rfl, zc.mono KB ?_⟩
  rintro _ h6 ⟨p6, hp6, rfl, hr6, rfl⟩
  have eT : hig bs 4 ⟨(p5 : Int), 0⟩ 0 = zT bs (zS x) us ⟨(p : Int), 0⟩ := by unfold zT; rw [hE, ea]
  rw [eT] at hr6 ⊢
  have s56 : Eng.Sub h (upd h5 bm (z5 a c bs p6 (yQ k X.2 (.slice ao xs.length co) last l d) T)) := xd (sb4.trans H5.sb) hb
  have hm6 : upd h5 bm (z5 a c bs p6 (yQ k X.2 (.slice ao xs.length co) last l d) T) bm = some (z5 a c bs p6 (yQ k X.2 (.slice ao xs.length co) last l d) T) := upd_same
  have P6 : Part .u8 (upd h5 bm (z5 a c bs p6 (yQ k X.2 (.slice ao xs.length co) last l d) T)) (.slice ao xs.length co) xs := P5.keep fun z hz => upd_ne (ebm ▸ (IM.xj N5 hz).1)
  have N6 : Eng.New h (.slice ao xs.length co) := fun z hz => yg sb4 (IM.xj N5 hz).2.2
  generalize upd h5 bm (z5 a c bs p6 (yQ k X.2 (.slice ao xs.length co) last l d) T) = h6 at s56 hm6 P6
  refine ⟨_, _, za, by rw [za], fun hz => ?_, fun hz => ?_⟩
  ·rw [za, zx] at hz
   have hkT : (zT bs (zS x) us ⟨(p : Int), 0⟩).1.k ≠ 0 := by simpa using hz
   have eA := Rt (bs := bs) (us := us) (sz := zS x) (r := ⟨(p : Int), 0⟩) hkT
   rw [← hxs] at eA
   rw [za]
   exact ⟨_, p6, _, xs, ao, co, rfl, hm6, rfl, P6, N6, s56, hp6, fun _ => eA, fun h => absurd h hkT⟩
  ·rw [za, zx] at hz
   have hkT : (zT bs (zS x) us ⟨(p : Int), 0⟩).1.k = 0 := by simpa using hz
   obtain ⟨_, _, _, u3, _⟩ := y8 hm6
   obtain ⟨_, _, eo, hco, go⟩ := P6.ints
   cases eo
   refine ⟨by simp, _, _, _, u3, ?_⟩
   refine zc.mono (j3 (hi.sub s56) 1 ⟨by omega, by omega⟩ ao co xs hOb go hco (by omega)) ?_
   rintro _ h7 ⟨rfl, s7⟩
   rw [if_pos hkT]
   refine ⟨_, rfl, fun hne => ?_, fun heq => ?_⟩
   ·have hne : (zT bs (zS x) us ⟨(p : Int), 0⟩).2 ≠ zK 1 xs := by simpa using hne
    have eA := S1 (bs := bs) (us := us) (sz := zS x) (r := ⟨(p : Int), 0⟩) hkT (by rw [← hxs]; exact hne)
    rw [← hxs] at eA
    exact ⟨4, (G.sub (s56.trans s7)).e4, 4, p6, _, xs, ao, co, rfl, s7 _ _ hm6, rfl, P6.sub s7, N6, s56.trans s7, hp6, fun _ => eA, fun h => by cases h⟩
   ·have heq : (zT bs (zS x) us ⟨(p : Int), 0⟩).2 = zK 1 xs := by simpa using heq
    have eA := KL (bs := bs) (us := us) (sz := zS x) (r := ⟨(p : Int), 0⟩) hkT (by rw [← hxs]; exact heq)
    rw [← hxs, hr6 hkT] at eA
    exact ⟨0, p6, _, xs, ao, co, rfl, s7 _ _ hm6, rfl, P6.sub s7, N6, s56.trans s7, hp6, fun h => absurd rfl h, fun _ => by rw [eA]; rfl⟩
end
end Go.Proofs.YteaonnfokkfnlaaGreatDoor
end
section
namespace Go.Proofs.YteaonnfokkfnlaaGreatDoor
open Go Go.Eng Go.ChangeShapes Go.WideShapes Go.ChangeAt Go.RowKit Go.Conc
theorem TQ : Tryz.prog.globalNamed "loop.example/s02972/impl.errSum" = some 2 := by kernel_rfl
theorem SU : Tryz.prog.globalNamed "loop.example/s02972/impl.errDict" = some 1 := by kernel_rfl
theorem SW : (Tryz.prog.globals[(2 : Nat)]?).map (·.type) = some tCl := by kernel_rfl
theorem RE : (Tryz.prog.globals[(1 : Nat)]?).map (·.type) = some tCl := by kernel_rfl
noncomputable def GB (os : Os) : World :=
 let w0 := MU os
 let put (g : Nat) (v : Value) (hp : Array Obj) : Array Obj := hp.modify g fun
   | .cells _ t frozen => .cells #[v] t frozen
   | o => o
 { w0 with heap := put 2 (.int .i64 4) (put 1 (.int .i64 5) w0.heap) }
section
variable {H : Type} {enc : TypeId × Value → H}
theorem Cy {a : Assume} {C : Checked} {os : Os} {f : FuncId} {fn : Func} {s : ChangeSpec} {conds : List PathCond} {apart fresh handsOn again : Bool} {X : World → Array Value → Prop}
  (hX : ∀ (w w' : World) (args : Array Value), w.heap = w'.heap → X w args → X w' args)
  (own : ownKnob C.prog.godebug = none) (started : os.Started) (hfn : C.prog.funcs[f]? = some fn)
  (witness : ∃ (w : World) (tape : Tape) (i : Input), w.os = os ∧ (w.forCall tape i).Shaped C.prog ∧ i.vars = [] ∧ Input.okWide C.prog (w.forCall tape i) .any w.heap.size f i ∧
   ((s.pre enc C.prog fn conds apart (w.forCall tape i).memory i.args ∧ X (w.forCall tape i).memory i.args) ∧ sizedMet enc C.prog fn (OpenSpec.ofChange s) apart (w.forCall tape i).memory i.args) ∧ a.holds C.prog (lone (Frame.enter C.prog f i.args .normal) [] (w.forCall tape i)))
  (runs : ∀ (W : World) (base : Nat) (args : Array Value) (ds gs : List (DataW H)) (before : List MemPlace),
   (∀ (j : Nat) t v, fn.params[j]? = some t → args[j]? = some v → Value.okWide C.prog W .any base t v) →
   DataW.Whole enc C.prog fn.params.toList s.vars apart W args.toList ds gs before →
   conds.all (PathCond.test C.prog ⟨fn.params.toList, ds, s.plain.varTypes C.prog, gs⟩) = true →
   (DataW.weightsEach C.prog (fn.params.toList ++ s.plain.varTypes C.prog) (ds ++ gs)).all (· ≤ reachBytes) = true → X W args →
   a.holds C.prog (lone (Frame.enter C.prog f args .normal) [] W) →
   ∃ M last o w' t', runNT C.prog (M + 1) (solo (G (Frame.enter C.prog f args .normal) []) W) #[] = (.ended o w', t') ∧ runN C.prog M (solo (G (Frame.enter C.prog f args .normal) []) W) = .next last ∧
    step C.prog last = .ended o w' ∧ Conc.Good C.prog (fun v W' => s.post enc C.prog fn apart fresh handsOn again W args v W') last o w' t') :
  ReturnsInLeavingWide a C os f .any (fun w args => (s.pre enc C.prog fn conds apart w args ∧ X w args) ∧ sizedMet enc C.prog fn (OpenSpec.ofChange s) apart w args) (s.post enc C.prog fn apart fresh handsOn again) := by
 refine returnsInLeavingWide_of_good own started witness ?_
 intro w tape i _ _ _ hok hpre hholds
 obtain ⟨_, _, _, fn', hfn', _, _, _, _, hval⟩ := hok
 have e : fn' = fn := Option.some.inj (hfn'.symm.trans hfn)
 subst e
 obtain ⟨⟨⟨ds, gs, before, hw, hc⟩, hx⟩, hz⟩ := hpre
 have hw' := DataW.Whole.of_heap (w' := w.forCall tape i) (by rfl) hw
 obtain ⟨M, last, o, w', t', h1, h2, h3, h4⟩ := runs (w.forCall tape i) w.heap.size i.args ds gs before hval hw' hc (hz.weights hw) (hX _ _ _ (by rfl) hx) hholds
 exact ⟨M, last, o, w', t', h1, h2, h3, h4.mono fun v hp => ChangeSpec.post_blind hp⟩
end
theorem GC (Lk : Looks) {p : Pinned} {s : OpenSpec} {c : OpenClaim} (kinds : List LaidKind) (tests : Bool) (har : Bool × String) (lk : Bool)
  (hc : c.holds p s) (hw : c.wfByText s = true) (htie : c.laidByTextAt Lk p kinds tests)
  (hst : c.start = .entering) (hnb : c.noBlocks = false ∧ c.again = false) (hm : p.checked.prog.mainIs = some (har.1, har.2.toList)) (hn : (!har.1 && har.2.isEmpty && !lk) = false)
  (hl : ∀ f fn, p.checked.prog.funcNamed c.func = some f → p.checked.prog.funcs[f]? = some fn → lk = p.checked.prog.looks [] ∧ ∀ (j : Nat) t, fn.params[j]? = some t → p.checked.prog.wantsStandIn t = false)
  (hg : true = c.goesBy p.checked.prog) :
  Claim7.holds p (.plain s) { stood := { row := c, standIns := [], harness := har, looks := lk }, kinds := [], alts := [], laidByText := true, laidKinds := kinds, laidTests := tests, laidLooks := Lk, goes := true } := by
 have h6 : ∀ r : OpenClaim, Claim7.isSixth { stood := { row := r, standIns := [], harness := har, looks := lk }, kinds := [] } = false := fun r => by simpa [Claim7.isSixth] using hn
 refine ⟨?_, fun D hD => (by cases hD), htie, (fun h => by cases h), hg⟩
 exact Claim7.tied_new_at Lk kinds tests (Claim7.new_of_sixth hc har lk hst hnb hm (h6 c) hl) hw
end Go.Proofs.YteaonnfokkfnlaaGreatDoor
end
section
namespace Go.Proofs.YteaonnfokkfnlaaGreatDoor
open Go Go.Eng Go.IntWalk
theorem Jx (x : Int) (a : Nat) : ∀ b : Nat, tl x (a + b) = 2 ^ b * tl x a + tl (x / 2 ^ a) b
 | 0 => by simp [tl]
 | b + 1 => by
  have hd : x / 2 ^ a / 2 ^ b = x / 2 ^ (a + b) := by rw [Int.ediv_ediv_of_nonneg (Int.le_of_lt (Int.pow_pos (by decide))), ← Int.pow_add]
  rw [← Nat.add_assoc, tl, Jx x a b, tl, hd, Int.pow_succ]
  have e : (2 : Int) ^ b * 2 * tl x a = 2 * (2 ^ b * tl x a) := by rw [Int.mul_comm (2 ^ b) 2, Int.mul_assoc]
  rw [e]; omega
theorem SX (x : Int) (a b : Nat) : tl x (a + b) % 2 ^ b = tl (x / 2 ^ a) b := by
 have h := Lv (x := x / 2 ^ a) (n := b)
 rw [Jx, Int.add_comm, Int.add_mul_emod_self_left]
 exact Int.emod_eq_of_lt h.1 h.2
theorem RF (z : Int) (n : Nat) : z % 2 ^ (n + 1) = z % 2 ^ n + 2 ^ n * (z / 2 ^ n % 2) := by
 have hp : (0 : Int) < 2 ^ n := Int.pow_pos (by decide)
 have hd : z / (2 ^ n * 2) = z / 2 ^ n / 2 := (Int.ediv_ediv_of_nonneg (Int.le_of_lt hp)).symm
 rw [Int.pow_succ, Int.emod_def z (2 ^ n * 2), hd, Int.emod_def z (2 ^ n), Int.emod_def (z / 2 ^ n) 2, Int.mul_sub, Int.mul_assoc]
 omega
theorem Jy {xs : List Int} {M : Nat} (hM : 1 ≤ M) : ∀ {d : Nat}, 2 ^ d * (2 * (cst xs M + ((xs.count (M : Int) : Nat) : Int))) ≤ cst xs (M + 1 + d)
 | 0 => by simp only [cst, Int.pow_zero, Int.one_mul, if_neg (show ¬ M = 0 by omega)]; omega
 | d + 1 => by
  have ih := Jy (xs := xs) hM (d := d)
  rw [← Nat.add_assoc, cst, if_neg (by omega), Int.pow_succ]
  have e : (2 : Int) ^ d * 2 * (2 * (cst xs M + ((xs.count (M : Int) : Nat) : Int))) = 2 * (2 ^ d * (2 * (cst xs M + ((xs.count (M : Int) : Nat) : Int)))) := by rw [Int.mul_comm (2 ^ d) 2, Int.mul_assoc]
  rw [e]
  have : (0 : Int) ≤ ((xs.count ((M + 1 + d : Nat) : Int) : Nat) : Int) := Int.natCast_nonneg _
  omega
theorem FB {xs : List Int} (h : ¬ (zp xs = 0 ∨ zp xs = 2)) {j l v : Nat} (hl : 0 < l) (hj : (zr xs)[j]? = some (l, v)) :
  ∃ hj : j < xs.length, xs[j] = (l : Int) ∧ l ≤ 15 ∧ v < 2 ^ l ∧ (v : Int) = tl (cst xs l + (((xs.take j).count (l : Int) : Nat) : Int)) l := by
 obtain ⟨hlen, hok⟩ := jA h
 have hj1 : j < xs.length := by have := (List.getElem?_eq_some_iff.1 hj).1; rwa [xh] at this
 have hg := kC (xs := xs) hj1
 have hb := hok _ (List.getElem_mem hj1)
 obtain ⟨k, hk⟩ := Int.eq_ofNat_of_zero_le hb.1
 obtain ⟨l', b', e, hn, h15, hlt⟩ := jP hok hg
 rw [hj] at hn
 simp only [Option.some.injEq, Prod.mk.injEq] at hn
 obtain ⟨rfl, rfl⟩ := hn
 by_cases h1 : 1 ≤ xs[j]
 ·rw [if_pos h1, Al hj1 hk] at e
  simp only [Prod.mk.injEq] at e
  have e1 : k = l := by exact_mod_cast e.1
  subst e1
  exact ⟨hj1, hk, h15, hlt, e.2.symm⟩
 ·rw [if_neg h1] at e
  simp only [Prod.mk.injEq] at e
  omega
def LO (cs : List (Nat × Nat)) : Prop := ∀ s t L v M w : Nat, s ≠ t → cs[s]? = some (L, v) → cs[t]? = some (M, w) → 0 < M → M ≤ L → v % 2 ^ M ≠ w
theorem JR {xs : List Int} (h : ¬ (zp xs = 0 ∨ zp xs = 2)) : LO (zr xs) := by
 intro s t L v M w hst hs ht hM hML heq
 have hk := Qd h
 obtain ⟨hj1, e1, L15, hv, ev⟩ := FB h (by omega) hs
 obtain ⟨hj2, e2, M15, hw, ew⟩ := FB h hM ht
 by_cases hlt : M = L
 ·subst hlt
  rw [Nat.mod_eq_of_lt hv] at heq
  subst heq
  exact hst (Gw h s t M v hM hs ht)
 ·obtain ⟨d, rfl⟩ : ∃ d, L = M + 1 + d := ⟨L - (M + 1), by omega⟩
  have c1 := kA hj1 e1
  have c2 := kA hj2 e2
  have r1 := Fy (xs := xs) hk (l := M + 1 + d) (by omega) L15
  have r2 := Fy (xs := xs) hk (l := M) (by omega) M15
  have hc := jA h
  have n1 := (qR (xs := xs) hc.1 (l := M + 1 + d) (by omega)).1
  have n2 := (qR (xs := xs) hc.1 (l := M) (by omega)).1
  have st := Jy (xs := xs) (M := M) hM (d := d)
  generalize hK : cst xs (M + 1 + d) + (((xs.take s).count ((M + 1 + d : Nat) : Int) : Nat) : Int) = K at ev
  generalize hJ : cst xs M + (((xs.take t).count (M : Int) : Nat) : Int) = J at ew
  have hq : (v : Int) % 2 ^ M = (w : Int) := by rw [y9]; exact_mod_cast congrArg Nat.cast heq
  rw [ev, ew, show M + 1 + d = (1 + d) + M by omega, SX] at hq
  have hp : (0 : Int) < 2 ^ (1 + d) := Int.pow_pos (by decide)
  have hp2 : (2 : Int) ^ (1 + d) = 2 * 2 ^ d := by rw [Nat.add_comm, Int.pow_succ]; omega
  have hpM : (0 : Int) < 2 ^ M := Int.pow_pos (by decide)
  have hKn : 0 ≤ K := by omega
  have hi := IV (Int.ediv_nonneg hKn (Int.le_of_lt hp)) (by omega) hq
  have hJlt : J < 2 ^ M := by omega
  have hKlt : K / 2 ^ (1 + d) < 2 ^ M := by
   refine Int.ediv_lt_of_lt_mul hp ?_
   rw [← Int.pow_add, show M + (1 + d) = M + 1 + d by omega]; omega
  rw [Int.emod_eq_of_lt (Int.ediv_nonneg hKn (Int.le_of_lt hp)) hKlt, Int.emod_eq_of_lt (by omega) hJlt] at hi
  have hge : J + 1 ≤ K / 2 ^ (1 + d) := by
   rw [Int.le_ediv_iff_mul_le hp, hp2]
   have e3 : (J + 1) * (2 * 2 ^ d) ≤ (cst xs M + ((xs.count (M : Int) : Nat) : Int)) * (2 * 2 ^ d) := Int.mul_le_mul_of_nonneg_right (by omega) (by omega)
   have e4 : (cst xs M + ((xs.count (M : Int) : Nat) : Int)) * (2 * 2 ^ d) = 2 ^ d * (2 * (cst xs M + ((xs.count (M : Int) : Nat) : Int))) := by
    generalize cst xs M + ((xs.count (M : Int) : Nat) : Int) = q
    rw [Int.mul_comm q, Int.mul_comm 2 (2 ^ d), Int.mul_assoc]
   omega
  omega
theorem SY {cs : List (Nat × Nat)} (U : LO cs) {s L v l : Nat} (h : cs[s]? = some (L, v)) (hl : l < L) : Ym cs cs.length l (v % 2 ^ l) = 0 := by
 refine Kl fun t ht hc h0 => ?_
 have hst : s ≠ t := fun e => by
  subst e; rw [h] at hc
  simp only [Option.some.injEq, Prod.mk.injEq] at hc
  omega
 exact U s t L v l (v % 2 ^ l) hst h hc h0 (by omega) rfl
theorem SZ {cs : List (Nat × Nat)} {s L v l : Nat} (h : cs[s]? = some (L, v)) (hl : l < L) : Ec cs l (v % 2 ^ l) := ⟨(L, v), List.mem_of_getElem? h, hl, rfl⟩
theorem HU {cs : List (Nat × Nat)} (U : uniq cs) (F : LO cs) {s L v b : Nat} (h : cs[s]? = some (L, v)) (h0 : 0 < L) (hb : b % 2 ^ L = v) : ∀ (f l : Nat), l ≤ L → L < f + l → nxt cs b f l = (1, (s : Int), (L : Int))
 | 0, l, h1, h2 => by omega
 | f + 1, l, h1, h2 => by
  unfold nxt
  by_cases hl : l = L
  ·subst hl
   rw [hb, Tl U h h0 (List.getElem?_eq_some_iff.1 h).1]
   simp
  ·have e : b % 2 ^ l = v % 2 ^ l := by rw [← hb, GZ h1]
   rw [e, SY F h (by omega), if_neg (by simp), if_pos (SZ h (by omega)), HU U F h h0 hb f (l + 1) (by omega) (by omega)]
end Go.Proofs.YteaonnfokkfnlaaGreatDoor
end
section
namespace Go.Proofs.YteaonnfokkfnlaaGreatDoor
open Go Go.Eng Go.IntWalk
def AtB (B : List Int) (p : Nat) (s : List Int) : Prop := p + s.length ≤ 8 * B.length ∧ ∀ j x, s[j]? = some x → xg B (p + j) = x
section
variable {B : List Int} {p : Nat} {s t : List Int}
theorem AtB.left (H : AtB B p (s ++ t)) : AtB B p s :=
 ⟨by have := H.1; rw [List.length_append] at this; omega, fun j x hj => H.2 j x (by rw [List.getElem?_append_left (List.getElem?_eq_some_iff.1 hj).1]; exact hj)⟩
theorem AtB.right (H : AtB B p (s ++ t)) : AtB B (p + s.length) t :=
 ⟨by have := H.1; rw [List.length_append] at this; omega, fun j x hj => by
  have := H.2 (s.length + j) x (by rw [List.getElem?_append_right (by omega), Nat.add_sub_cancel_left]; exact hj)
  rw [← Nat.add_assoc] at this; exact this⟩
theorem LP {x : Int} {n j : Nat} (h : j < n) : (bitsOf x n)[j]? = some (x / 2 ^ j % 2) := by simp [bitsOf, h]
theorem CR {x : Int} : ∀ {n : Nat}, (∀ j, j < n → xg B (p + j) = x / 2 ^ j % 2) → yy B p n = x % 2 ^ n
 | 0, _ => by simp [yy, Int.emod_one]
 | n + 1, H => by
  rw [yy, CR (n := n) fun j hj => H j (by omega), H n (by omega), RF, Int.mul_comm (2 ^ n)]
theorem AtB.num {x : Int} {n : Nat} (H : AtB B p (bitsOf x n)) : yy B p n = x % 2 ^ n :=
 CR fun j hj => H.2 j _ (LP hj)
theorem HV {a : Nat} : ∀ {d : Nat}, yy B p (a + d) = yy B p a + 2 ^ a * yy B (p + a) d
 | 0 => by simp [yy]
 | d + 1 => by
  rw [← Nat.add_assoc, yy, HV (d := d), yy, Int.mul_add, Int.pow_add, Nat.add_assoc, Int.add_assoc]
  congr 2
  ac_rfl
theorem NF {a d : Nat} : yy B p (a + d) % 2 ^ a = yy B p a := by
 have := AQ (xs := B) (a := p) (n := a)
 rw [HV, Int.add_mul_emod_self_left]
 exact Int.emod_eq_of_lt this.1 this.2
theorem HW {n : Nat} (h : p + n ≤ 8 * B.length) : tk B n ⟨(p : Int), 0⟩ = (⟨((p + n : Nat) : Int), 0⟩, yy B p n) := by
 unfold tk
 rw [if_pos rfl, if_neg (by simp only; omega)]
 simp only [Int.toNat_natCast]
 push_cast; rfl
theorem AtB.tk {x : Int} {n : Nat} (H : AtB B p (bitsOf x n)) (h0 : 0 ≤ x) (h1 : x < 2 ^ n) : tk B n ⟨(p : Int), 0⟩ = (⟨((p + n : Nat) : Int), 0⟩, x) := by
 have := H.1
 rw [xi] at this
 rw [HW this, H.num, Int.emod_eq_of_lt h0 h1]
theorem AtB.sy {xs : List Int} (hg : ¬ (zp xs = 0 ∨ zp xs = 2)) {s l b : Nat} (hc : (zr xs)[s]? = some (l, b)) (h0 : 0 < l) (H : AtB B p (bitsOf b l)) : sy B (zr xs) ⟨(p : Int), 0⟩ = (⟨((p + l : Nat) : Int), 0⟩, (s : Int)) := by
 obtain ⟨_, _, h15, hlt, _⟩ := FB hg h0 hc
 have hp := H.1
 rw [xi] at hp
 have hL : l ≤ look B p := by unfold look; omega
 obtain ⟨d, hd⟩ : ∃ d, look B p = l + d := ⟨look B p - l, by omega⟩
 have hn : yy B p (look B p) % 2 ^ l = (b : Int) := by
  rw [hd, NF, H.num]
  refine Int.emod_eq_of_lt (by omega) ?_
  rw [y9]; exact_mod_cast hlt
 have hb : (yy B p (look B p)).toNat % 2 ^ l = b := by
  obtain ⟨m, hm⟩ := Int.eq_ofNat_of_zero_le (AQ (xs := B) (a := p) (n := look B p)).1
  rw [hm] at hn ⊢
  rw [y9] at hn
  rw [Int.toNat_natCast]
  exact_mod_cast hn
 have e : nxB B (zr xs) p = (1, (s : Int), (l : Int)) := by
  unfold nxB
  exact HU (Gw hg) (JR hg) hc h0 hb (look B p + 1) 0 (by omega) (by omega)
 unfold Go.Proofs.YteaonnfokkfnlaaGreatDoor.sy
 rw [if_pos rfl]
 simp only [Int.toNat_natCast, e]
 simp
end
theorem KM {c : Nat} (h : c < 288) : ∃ l b : Nat, (zr yk)[c]? = some (l, b) ∧ 0 < l ∧ l ≤ 15 ∧ b < 2 ^ l ∧ yL c = bitsOf b l ∧ (l : Int) = (if c < 144 then 8 else if c < 256 then 9 else if c < 280 then 7 else 8) := by
 have hok := (jA qS).2
 have hj : c < yk.length := by rw [jB]; exact h
 have hg := kC (xs := yk) hj
 obtain ⟨l, b, e, hn, h1, h2⟩ := jP hok hg
 have hv : yk[c] = (if c < 144 then 8 else if c < 256 then 9 else if c < 280 then 7 else 8) := by
  have := Ja h
  rw [List.getElem?_eq_getElem hj] at this
  exact Option.some.inj this
 have hpos : 1 ≤ yk[c] := by rw [hv]; split <;> (try split) <;> (try split) <;> omega
 obtain ⟨m, hm⟩ := Int.eq_ofNat_of_zero_le (show 0 ≤ yk[c] by omega)
 rw [if_pos hpos, Al hj hm] at e
 have el : (l : Int) = yk[c] := by rw [hm]; exact (Prod.mk.inj e).1.symm
 obtain ⟨l', b', g1, _, _, g4⟩ := A8 h
 rw [if_pos hpos, Al hj hm, e] at hg
 rw [hg] at g1
 simp only [Option.some.injEq, Prod.mk.injEq] at g1
 have q1 : l = l' := by exact_mod_cast g1.1
 have q2 : b = b' := by exact_mod_cast g1.2
 subst q1; subst q2
 exact ⟨l, b, hn, by omega, h1, h2, g4, by rw [el, hv]⟩
section
variable {B : List Int} {p : Nat} {dl room sz : Nat}
theorem Qr {c : Nat} (h : c < 288) (H : AtB B p (yL c)) : sy B (zr yk) ⟨(p : Int), 0⟩ = (⟨((p + (yL c).length : Nat) : Int), 0⟩, (c : Int)) := by
 obtain ⟨l, b, h1, h2, _, _, h5, _⟩ := KM h
 rw [h5] at H ⊢
 rw [xi]
 exact H.sy qS h1 h2
theorem NG {r : Rd} {al d : List Int} (hk : r.k = 0) (h : al.length - dl + d.length ≤ room) : tell dl room r al d = (r, al ++ d) := by
 unfold tell; rw [if_pos hk, if_neg (by omega)]
theorem PU {cd : List (Nat × Nat)} (xs : List Int) : ∀ (f p : Nat) (al : List Int), (∀ x ∈ xs, 0 ≤ x ∧ x ≤ 255) → xs.length + 1 ≤ f → dl ≤ al.length → al.length - dl + xs.length ≤ room → AtB B p (xs.flatMap (fun c => yL c.toNat) ++ yL 256) →
  syF B (zr yk) cd dl room sz f ⟨(p : Int), 0⟩ al = (⟨((p + (xs.flatMap (fun c => yL c.toNat) ++ yL 256).length : Nat) : Int), 0⟩, al ++ xs) := by
 obtain ⟨E, hE⟩ : ∃ E, E = yL 256 := ⟨_, rfl⟩
 have endS : ∀ {p : Nat}, AtB B p E → sy B (zr yk) ⟨(p : Int), 0⟩ = (⟨((p + E.length : Nat) : Int), 0⟩, ((256 : Nat) : Int)) := fun H => by rw [hE] at H ⊢; exact Qr (by omega) H
 rw [← hE]
 induction xs with
 | nil =>
  intro f p al hw hf hd hr H
  obtain ⟨f, rfl⟩ : ∃ f', f = f' + 1 := ⟨f - 1, by simp at hf; omega⟩
  rw [List.flatMap_nil, List.nil_append] at H ⊢
  rw [syF, if_pos rfl, endS H, if_pos (.inr rfl), List.append_nil]
 | cons x xs ih =>
  intro f p al hw hf hd hr H
  have hx := hw x (List.mem_cons_self ..)
  obtain ⟨c, rfl⟩ := Int.eq_ofNat_of_zero_le hx.1
  rw [List.length_cons] at hf hr
  obtain ⟨f, rfl⟩ : ∃ f', f = f' + 1 := ⟨f - 1, by omega⟩
  rw [List.flatMap_cons, List.append_assoc, Int.toNat_natCast] at H ⊢
  have e1 := Qr (c := c) (by omega) H.left
  have e2 : sy1 B cd dl room sz ⟨((p + (yL c).length : Nat) : Int), 0⟩ al (c : Int) = (⟨((p + (yL c).length : Nat) : Int), 0⟩, al ++ [(c : Int)]) := by
   unfold sy1; rw [if_pos (by omega)]
   exact NG rfl (by rw [List.length_singleton]; omega)
  rw [syF, if_pos rfl, e1, if_neg (by simp only; omega)]
  simp only [e2]
  rw [ih f (p + (yL c).length) (al ++ [(c : Int)]) (fun y hy => hw y (List.mem_cons_of_mem _ hy)) (by omega) (by rw [List.length_append]; omega) (by rw [List.length_append, List.length_singleton]; omega) H.right]
  rw [@List.length_append _ (yL c), Nat.add_assoc, List.append_assoc]; rfl
theorem RG {xs : List Int} : xp xs = bitsOf 1 1 ++ (bitsOf 1 2 ++ (xs.flatMap (fun c => yL c.toNat) ++ yL 256)) := by
 have e1 : bitsOf 1 1 = [1] := by decide
 have e2 : bitsOf 1 2 = [1, 0] := by decide
 rw [e1, e2]; unfold xp; rw [List.append_assoc]; rfl
theorem NH {F f : Nat} {al : List Int} {rest : List Int} {R : Rd × List Int} (H : AtB B p (bitsOf 1 1 ++ (bitsOf 1 2 ++ rest))) (hR : syF B (zr yk) (zr kH) dl room sz F ⟨((p + 3 : Nat) : Int), 0⟩ al = R) :
  blF B dl room sz F (f + 1) ⟨(p : Int), 0⟩ al = R := by
 have H1 := H.left
 have H2 := H.right.left
 rw [xi] at H2
 have e1 : bk1 B ⟨(p : Int), 0⟩ = (⟨((p + 1 : Nat) : Int), 0⟩, 1) := H1.tk (by decide) (by decide)
 have e2 : bk2 B ⟨(p : Int), 0⟩ = (⟨((p + 3 : Nat) : Int), 0⟩, 1) := by
  unfold bk2; rw [e1]; exact H2.tk (by decide) (by decide)
 have e3 : bk3 B ⟨(p : Int), 0⟩ = ⟨((p + 3 : Nat) : Int), 0⟩ := by
  unfold bk3; rw [e2]; unfold bd; rw [if_neg (by simp)]
 rw [blF, if_pos rfl, e1, if_pos (by simp)]
 unfold blk
 rw [e3, if_neg (by simp), e2, if_neg (by simp), if_pos rfl]
 exact hR
theorem NI {F f : Nat} {al xs : List Int} (hw : ∀ x ∈ xs, 0 ≤ x ∧ x ≤ 255) (hF : xs.length + 1 ≤ F) (hd : dl ≤ al.length) (hr : al.length - dl + xs.length ≤ room) (H : AtB B p (xp xs)) :
  blF B dl room sz F (f + 1) ⟨(p : Int), 0⟩ al = (⟨((p + (xp xs).length : Nat) : Int), 0⟩, al ++ xs) := by
 rw [RG] at H ⊢
 refine NH H ?_
 have H3 := H.right.right
 rw [xi, xi, Nat.add_assoc] at H3
 rw [PU xs F (p + 3) al hw hF hd hr H3]
 rw [@List.length_append _ (bitsOf 1 1), @List.length_append _ (bitsOf 1 2), xi, xi]
 congr 2
 push_cast; omega
end
theorem RH {v b : Int} {i m : Nat} (h : m < i) : (v + b * 2 ^ i).fdiv (2 ^ m) % 2 = v.fdiv (2 ^ m) % 2 := by
 have hp : (0 : Int) < 2 ^ m := Int.pow_pos (by decide)
 obtain ⟨d, rfl⟩ : ∃ d, i = m + 1 + d := ⟨i - (m + 1), by omega⟩
 rw [Int.fdiv_eq_ediv_of_nonneg _ (Int.le_of_lt hp), Int.fdiv_eq_ediv_of_nonneg _ (Int.le_of_lt hp)]
 have e : b * 2 ^ (m + 1 + d) = 2 ^ m * (2 * (b * 2 ^ d)) := by
  rw [Int.pow_add, Int.pow_succ]
  generalize (2 : Int) ^ m = q
  generalize (2 : Int) ^ d = w
  ac_rfl
 rw [e, Int.add_mul_ediv_left _ _ (Int.ne_of_gt hp), Int.add_mul_emod_self_left]
theorem RI {v b : Int} {i : Nat} (h0 : 0 ≤ v) (h1 : v < 2 ^ i) (hb : 0 ≤ b ∧ b ≤ 1) : (v + b * 2 ^ i).fdiv (2 ^ i) % 2 = b := by
 have hp : (0 : Int) < 2 ^ i := Int.pow_pos (by decide)
 rw [Int.fdiv_eq_ediv_of_nonneg _ (Int.le_of_lt hp), Int.mul_comm b, Int.add_mul_ediv_left _ _ (Int.ne_of_gt hp), Int.ediv_eq_zero_of_lt h0 h1]
 omega
theorem Jz {bs : List Int} (hb : ∀ b ∈ bs, 0 ≤ b ∧ b ≤ 1) : ∀ {k j : Nat}, j < k → xg (pk bs k) j = bs.getD j 0
 | 0, j, h => by omega
 | k + 1, j, h => by
  have hbit : 0 ≤ bs.getD k 0 ∧ bs.getD k 0 ≤ 1 := by
   rw [List.getD_eq_getElem?_getD]
   cases hg : bs[k]? with
   | none => simp
   | some x => exact hb x (List.mem_of_getElem? hg)
  have hl := wE (bs := bs) (k := k)
  have hlen : k / 8 < (if k % 8 = 0 then pk bs k ++ [0] else pk bs k).length := by
   split
   ·rw [List.length_append, hl, List.length_singleton]; omega
   ·omega
  have hpb := F0 hb (k := k)
  have zw : (pk bs (k + 1)).getD (k / 8) 0 = x8 (pk bs k) k + bs.getD k 0 * 2 ^ (k % 8) := by
   rw [pk]; unfold qf
   rw [List.getD_eq_getElem?_getD, List.getElem?_set_self hlen]
   rfl
  unfold xg
  by_cases hj : j / 8 = k / 8
  ·rw [hj, zw]
   by_cases hjk : j = k
   ·rw [hjk]; exact RI hpb.1 hpb.2 hbit
   ·have hk0 : k % 8 ≠ 0 := by omega
    rw [RH (by omega)]
    have ih := Jz hb (k := k) (j := j) (by omega)
    unfold xg at ih
    rw [hj] at ih
    have ep : x8 (pk bs k) k = (pk bs k).getD (k / 8) 0 := by unfold x8; rw [if_neg hk0]
    rw [ep]; exact ih
  ·have ih := Jz hb (k := k) (j := j) (by omega)
   unfold xg at ih
   rw [← ih]
   congr 2
   rw [pk]; unfold qf
   rw [List.getD_eq_getElem?_getD, List.getElem?_set_ne (by omega)]
   rw [List.getD_eq_getElem?_getD]
   split
   ·rw [List.getElem?_append_left (by omega)]
   ·rfl
theorem LQ {A C : List Int} {i : Nat} (h : i / 8 < A.length) : xg (A ++ C) i = xg A i := by
 unfold xg; rw [List.getD_eq_getElem?_getD, List.getD_eq_getElem?_getD, List.getElem?_append_left h]
theorem JS {A C : List Int} {i : Nat} : xg (A ++ C) (8 * A.length + i) = xg C i := by
 unfold xg
 rw [show (8 * A.length + i) / 8 = A.length + i / 8 by omega, show (8 * A.length + i) % 8 = i % 8 by omega, List.getD_eq_getElem?_getD, List.getD_eq_getElem?_getD, List.getElem?_append_right (by omega), Nat.add_sub_cancel_left]
theorem TR {s : List Int} (hb : ∀ b ∈ s, 0 ≤ b ∧ b ≤ 1) (A C : List Int) : AtB (A ++ (pk s s.length ++ C)) (8 * A.length) s := by
 have hl := wE (bs := s) (k := s.length)
 refine ⟨by simp only [List.length_append]; omega, fun j x hj => ?_⟩
 have hlt := (List.getElem?_eq_some_iff.1 hj).1
 rw [JS, LQ (by omega), Jz hb hlt, List.getD_eq_getElem?_getD, hj]; rfl
section
variable {B : List Int} {q : Nat}
theorem LR {x : Int} (h : B[q]? = some x) (hx : 0 ≤ x ∧ x ≤ 255) : yy B (8 * q) 8 = x := by
  have e : yy B (8 * q) 8 = x % 2 ^ 8 := by
    refine CR fun j hj => ?_
    unfold xg
    rw [show (8 * q + j) / 8 = q by omega, show (8 * q + j) % 8 = j by omega, List.getD_eq_getElem?_getD, h, Option.getD_some, Int.fdiv_eq_ediv_of_nonneg _ (Int.le_of_lt (Int.pow_pos (by decide)))]
  rw [e]
  exact Int.emod_eq_of_lt hx.1 (by have : (2 : Int) ^ 8 = 256 := by decide
                                   omega)
theorem AG {x : Int} (h : B[q]? = some x) (hx : 0 ≤ x ∧ x ≤ 255) : tk B 8 ⟨((8 * q : Nat) : Int), 0⟩ = (⟨((8 * (q + 1) : Nat) : Int), 0⟩, x) := by
 have := (List.getElem?_eq_some_iff.1 h).1
 rw [HW (by omega), LR h hx]
 rfl
end
def AtY (B : List Int) (q : Nat) (ys : List Int) : Prop := ∀ j x, ys[j]? = some x → B[q + j]? = some x
section
variable {B : List Int} {q : Nat} {ys zs : List Int}
theorem AtY.mk {A C : List Int} : AtY (A ++ (ys ++ C)) A.length ys := fun j x hj => by
 rw [List.getElem?_append_right (by omega), Nat.add_sub_cancel_left, List.getElem?_append_left (List.getElem?_eq_some_iff.1 hj).1]; exact hj
theorem AtY.le (H : AtY B q ys) (h0 : ys ≠ []) : q + ys.length ≤ B.length := by
 have hp : 0 < ys.length := List.length_pos_iff.2 h0
 have := (List.getElem?_eq_some_iff.1 (H (ys.length - 1) _ (List.getElem?_eq_getElem (by omega)))).1
 omega
end
end Go.Proofs.YteaonnfokkfnlaaGreatDoor
end
section
namespace Go.Proofs.YteaonnfokkfnlaaGreatDoor
open Go Go.Eng Go.IntWalk
variable {S : Shared} {h h0 : Eng.Heap}
def le (x n : Nat) : List Int := (List.range n).map fun i => ((x / 256 ^ i % 256 : Nat) : Int)
def be (x n : Nat) : List Int := (le x n).reverse
theorem Td {x n : Nat} : (le x n).length = n := by simp [le]
theorem jk {x n : Nat} : (be x n).length = n := by simp [be, Td]
theorem be2 {x : Nat} : be x 2 = [((x / 256 % 256 : Nat) : Int), ((x % 256 : Nat) : Int)] := by
 simp [be, le, List.range_succ]
theorem be4 {x : Nat} : be x 4 = [((x / 16777216 % 256 : Nat) : Int), ((x / 65536 % 256 : Nat) : Int), ((x / 256 % 256 : Nat) : Int), ((x % 256 : Nat) : Int)] := by
 simp [be, le, List.range_succ]
end Go.Proofs.YteaonnfokkfnlaaGreatDoor
end
section
namespace Go.Proofs.YteaonnfokkfnlaaGreatDoor
open Go Go.Eng Go.IntWalk
variable {S : Shared} {h h0 : Eng.Heap}
theorem EI (x k : Nat) (hk : k ≤ 32) : Int.fdiv (x : Int) (2 ^ (min (k : Int).toNat IntKind.u32.bits)) = ((x / 2 ^ k : Nat) : Int) := by
 have e : min (k : Int).toNat IntKind.u32.bits = k := by show min (k : Int).toNat 32 = k; omega
 rw [e, Int.fdiv_eq_ediv_of_nonneg _ (by exact_mod_cast Nat.zero_le _)]; push_cast; rfl
theorem Fa (hi : Eng.Inv S h0) (hs : Eng.Sub h0 h) {a : Option Addr} {c : Nat} {xs : List Int} (P : Part .u8 h (.slice a xs.length c) xs) (N : Eng.New h0 (.slice a xs.length c)) (x : Nat) (hx : x < 4294967296) (hl : xs.length ≤ 3000000) :
  zc Tryz.prog S jg #[.slice a xs.length c, .int .u32 x] h (fun v h' => Part .u8 h' v (xs ++ be x 4) ∧ Eng.New h0 v ∧ Eng.Sub h0 h') := by
 refine DK (vs := [.slice a xs.length c, .int .u32 x]) ⟨rfl, rfl, trivial⟩ (hi.sub hs) ?_
 simp only [Bc, Tr.wp, Ex.ev, coerce, toInt_int, zn, zu, zo, arith, Cst.val, SV.den, List.getD_cons_zero, List.getD_cons_succ, List.map_cons, List.map_nil, List.cons_append, List.nil_append]
 intro b hb
 have e1 : IntKind.u8.wrap (Int.fdiv (x : Int) (2 ^ (min (Int.toNat 24) IntKind.u32.bits))) = ((x / 16777216 % 256 : Nat) : Int) := by rw [show Int.toNat 24 = ((24 : Nat) : Int).toNat from rfl, EI x 24 (by omega), IntKind.wrap_u8]; omega
 have e2 : IntKind.u8.wrap (Int.fdiv (x : Int) (2 ^ (min (Int.toNat 16) IntKind.u32.bits))) = ((x / 65536 % 256 : Nat) : Int) := by rw [show Int.toNat 16 = ((16 : Nat) : Int).toNat from rfl, EI x 16 (by omega), IntKind.wrap_u8]; omega
 have e3 : IntKind.u8.wrap (Int.fdiv (x : Int) (2 ^ (min (Int.toNat 8) IntKind.u32.bits))) = ((x / 256 % 256 : Nat) : Int) := by rw [show Int.toNat 8 = ((8 : Nat) : Int).toNat from rfl, EI x 8 (by omega), IntKind.wrap_u8]; omega
 have e4 : IntKind.u8.wrap (x : Int) = ((x % 256 : Nat) : Int) := by rw [IntKind.wrap_u8]; omega
 rw [e1, e2, e3, e4]
 have s3 : Eng.Sub h (upd h b (.cells (ints .u8 (be x 4)) 5)) := Sub.zL hb
 have e : (#[Value.int .u8 ((x / 16777216 % 256 : Nat) : Int), Value.int .u8 ((x / 65536 % 256 : Nat) : Int), Value.int .u8 ((x / 256 % 256 : Nat) : Int), Value.int .u8 ((x % 256 : Nat) : Int)] : Array Value) = ints .u8 (be x 4) := by rw [be4]; rfl
 rw [e]
 refine xo hi (hs.trans s3) (P.sub s3) N (a := some ⟨b, 0, none⟩) (c := 4) (ys := be x 4) zq.new (by rw [jk]; omega) fun v' h3 o n3 s4 _ _ => ?_
 obtain ⟨a4, c4, rfl, _, _⟩ := o.ints
 exact ⟨o, n3, s4⟩
def Aa (n : Nat) (d : Bool) : Nat := let x := 256 * (16 * n + 8) + if d then 32 else 0; x + (31 - x % 31) % 31
def y6 (xs : List Int) (info : Int) (ds : List Int) : List Int :=
 if info < 0 ∨ info > 7 ∨ xs.length > 100000 then []
 else be (Aa info.toNat (decide (0 < ds.length))) 2 ++ (if 0 < ds.length then be (zK 1 ds).toNat 4 else []) ++ yj xs ++ be (zK 1 xs).toNat 4
def zi0 (n : Int) (d : Bool) : Int := if d = true then Go.bits .or .u32 (IntKind.u32.wrap (IntKind.u32.wrap (IntKind.i64.wrap (IntKind.i64.wrap (16 * n) + 8)) * 2 ^ min (Int.toNat 8) IntKind.u32.bits)) 32
 else IntKind.u32.wrap (IntKind.u32.wrap (IntKind.i64.wrap (IntKind.i64.wrap (16 * n) + 8)) * 2 ^ min (Int.toNat 8) IntKind.u32.bits)
theorem PV : ∀ n : Fin 8, ∀ d : Bool, Aa n.1 d < 65536 := by decide +kernel
theorem RJ : ∀ n : Fin 8, ∀ d : Bool, IntKind.u32.wrap (zi0 (n.1 : Int) d + (IntKind.u32.wrap (31 - (zi0 (n.1 : Int) d).tmod 31)).tmod 31) = ((Aa n.1 d : Nat) : Int) := by decide +kernel
theorem ifd {m : Nat} {x y : Int} : (if (m : Int) > 0 then x else y) = if decide (0 < m) = true then x else y := by
 by_cases h : 0 < m
 ·rw [if_pos (show (m : Int) > 0 by omega), if_pos (by simpa using h)]
 ·rw [if_neg (show ¬ (m : Int) > 0 by omega), if_neg (by simpa using h)]
theorem BD (c : Int) (xs : List Int) : zK c xs = ((zK c xs).toNat : Int) ∧ (zK c xs).toNat < 4294967296 := by
 unfold zK BB w32
 rw [IntKind.wrap_u32]; omega
theorem RK {xs : List Int} (hw : ∀ x ∈ xs, 0 ≤ x ∧ x ≤ 255) : (yj xs).length ≤ 300000 := by
 unfold yj
 split
 ·simp
 ·rename_i hle
  rw [wE]
  have h1 := Jc hw
  have h2 := DT (c := 256) (by omega)
  have h3 : (xp xs).length ≤ 3 + 15 * xs.length + 15 := by unfold xp; simp only [List.length_append, List.length_cons, List.length_nil]; omega
  omega
theorem J0 {s0 : Nat → Prop} (hi : Eng.Inv (x5 Tryz.prog s0) h) {xs pre : List Int} {a a0 : Option Addr} {c l0 c0 : Nat} {h' : Eng.Heap} (s : Eng.Sub h h') (O : tB.O h (.slice a xs.length c) xs) (hw : ∀ x ∈ xs, 0 ≤ x ∧ x ≤ 255) (L : BS xs)
  (P : Part .u8 h' (.slice a0 l0 c0) pre) (N : Eng.New h (.slice a0 l0 c0)) (hl : pre.length ≤ 1000) {Q : Value → Eng.Heap → Prop}
  (hQ : ∀ v h', Part .u8 h' v (pre ++ yj xs ++ be (zK 1 xs).toNat 4) → Eng.New h v → Eng.Sub h h' → Q v h') :
  zc Tryz.prog (x5 Tryz.prog s0) jz #[.slice a xs.length c] h' fun v_1 h' => ∃ (a_6 : Option Addr) (l c_2 : Nat), v_1 = .slice a_6 l c_2 ∧ appW (x5 Tryz.prog s0) 5 1 1 [.int .u8 0] (.slice a0 l0 c0) (.slice a_6 l c_2) h' fun v h' =>
   zc Tryz.prog (x5 Tryz.prog s0) yP #[.int .u32 1, .slice a xs.length c] h' fun v_2 h' => ∃ x, v_2 = .int .u32 x ∧ zc Tryz.prog (x5 Tryz.prog s0) jg #[.slice (slA v) (slL v) (slC v), .int .u32 x] h' fun v_3 h' =>
    ∃ (a : Option Addr) (l c : Nat), v_3 = .slice a l c ∧ Q (.slice a l c) h' := by
 obtain ⟨_, c', e, hc, hx⟩ := Part.ints O
 cases e
 have fl := RK hw
 refine (DV (hi.sub s) (O.sub s) hw L).mono ?_
 rintro v1 h1 ⟨O1, N1, s1⟩
 obtain ⟨a1, c1, rfl, _, g1⟩ := Part.ints O1
 have el0 : l0 = pre.length := by obtain ⟨a', c', e, _, _⟩ := P.ints; cases e; rfl
 subst el0
 refine ⟨_, _, _, rfl, ?_⟩
 refine xo hi (s.trans s1) (P.sub s1) N g1 (by omega) fun v2 h2 o2 n2 s2 _ _ => ?_
 obtain ⟨a2, c2, rfl, _, _⟩ := o2.ints
 refine (j3 (hi.sub s2) 1 ⟨by omega, by omega⟩ _ _ xs (fun x hx => by have := hw x hx; omega) (hx.sub s2) hc (by have : xs.length ≤ 1048576 := L; omega)).mono ?_
 rintro _ h3 ⟨rfl, s3⟩
 refine ⟨_, rfl, ?_⟩
 obtain ⟨ea, la⟩ := BD 1 xs
 rw [ea]
 simp only [zo, zn, zu]
 refine (Fa hi (s2.trans s3) (o2.sub s3) n2 (zK 1 xs).toNat la (by rw [List.length_append]; omega)).mono ?_
 rintro v4 h4 ⟨O4, N4, s4⟩
 obtain ⟨a4, c4, rfl, _, g4⟩ := Part.ints O4
 exact ⟨_, _, _, rfl, hQ _ _ O4 N4 s4⟩
theorem EL {s0 : Nat → Prop} (hi : Eng.Inv (x5 Tryz.prog s0) h) {v u : Value} {xs ds : List Int} (O : tB.O h v xs) (hw : ∀ x ∈ xs, 0 ≤ x ∧ x ≤ 255) (L : BS xs) (n : Int) (wn : (Lit.int .i64 n).wf = true) (O2 : tB.O h u ds) (hw2 : ∀ x ∈ ds, 0 ≤ x ∧ x ≤ 255) (L2 : BS ds) :
  zc Tryz.prog (x5 Tryz.prog s0) qj #[v, .int .i64 n, u] h (fun v h' => tB.O h' v (y6 xs n ds) ∧ tB.New h v ∧ Eng.Sub h h') := by
 obtain ⟨a, c, rfl, hc, hx⟩ := Part.ints O
 obtain ⟨a2, c2, rfl, hc2, hx2⟩ := Part.ints O2
 refine Dl (vs := [.slice a xs.length c, .int .i64 n, .slice a2 ds.length c2]) ⟨rfl, rfl, rfl, trivial⟩ hi ?_
 simp only [Az, Tr.wp, zX, Ex.ev, coerce, toInt_int, zf, zn, zu, zo, B0, IK, ya, arith, Cst.val, SV.den, z6, yl, zU, zt, zk, zG, List.flatMap_cons, List.flatMap_nil, List.getD_cons_zero, List.getD_cons_succ, List.getElem?_cons_zero, List.getElem?_cons_succ, decide_eq_true_eq, decide_eq_false_iff_not, List.map_cons, List.map_nil, List.cons_append, List.nil_append, List.append_nil, if_false, Bool.false_eq_true]
 have hL2 : ds.length ≤ 1048576 := L2
 refine ⟨fun hbad b hb => ?_, fun hok b hb => ?_⟩
 ·have e : y6 xs n ds = [] := if_pos (by simp only [Bool.or_eq_true, decide_eq_true_eq] at hbad; omega)
  rw [e]
  exact ⟨(Own.made (k := .u8) (h := h) (b := b) (T := 5) []).part, New.of hb, Sub.zL hb⟩
 simp only [Bool.or_eq_false_iff, decide_eq_false_iff_not, Bool.or_eq_true, decide_eq_true_eq] at hok
 obtain ⟨m, rfl⟩ := Int.eq_ofNat_of_zero_le (show 0 ≤ n by omega)
 have hm : m < 8 := by omega
 have e : y6 xs (m : Int) ds = be (Aa m (decide (0 < ds.length))) 2 ++ (if 0 < ds.length then be (zK 1 ds).toNat 4 else []) ++ yj xs ++ be (zK 1 xs).toNat 4 := if_neg (by omega)
 rw [e]
 have hd := RJ ⟨m, hm⟩ (decide (0 < ds.length))
 have hdl := PV ⟨m, hm⟩ (decide (0 < ds.length))
 simp only [zi0] at hd hdl
 rw [ifd, hd]
 generalize Aa m (decide (0 < ds.length)) = z at hdl ⊢
 have e1 : IntKind.u8.wrap (Int.fdiv (z : Int) (2 ^ (min (Int.toNat 8) IntKind.u32.bits))) = ((z / 256 % 256 : Nat) : Int) := by rw [show Int.toNat 8 = ((8 : Nat) : Int).toNat from rfl, EI z 8 (by omega), IntKind.wrap_u8]; omega
 have e2 : IntKind.u8.wrap (z : Int) = ((z % 256 : Nat) : Int) := by rw [IntKind.wrap_u8]; omega
 rw [e1, e2]
 have eh : (#[Value.int .u8 ((z / 256 % 256 : Nat) : Int), Value.int .u8 ((z % 256 : Nat) : Int)] : Array Value) = ints .u8 (be z 2) := by rw [be2]; rfl
 rw [eh]
 have s0' : Eng.Sub h (upd h b (.cells (ints .u8 (be z 2)) 5)) := Sub.zL hb
 have P0 : Part .u8 (upd h b (.cells (ints .u8 (be z 2)) 5)) (.slice (some ⟨b, 0, none⟩) 2 2) (be z 2) := by
  have := (Own.made (k := .u8) (h := h) (b := b) (T := 5) (be z 2)).part
  rw [jk] at this; exact this
 have N0 : Eng.New h (.slice (some ⟨b, 0, none⟩) 2 2) := New.of hb
 refine ⟨fun hgt => ?_, fun hle _ => ?_⟩
 ·rw [if_pos (by omega)]
  refine (j3 (hi.sub s0') 1 ⟨by omega, by omega⟩ _ _ ds (fun x hx => by have := hw2 x hx; omega) (hx2.sub s0') hc2 (by omega)).mono ?_
  rintro _ h3 ⟨rfl, s3⟩
  refine ⟨_, rfl, ?_⟩
  obtain ⟨ea, la⟩ := BD 1 ds
  rw [ea]
  have P1 := P0.sub s3
  rw [show (2 : Nat) = (be z 2).length from jk.symm] at P1 N0
  have := Fa hi (s0'.trans s3) (a := some ⟨b, 0, none⟩) (c := 2) (xs := be z 2) (by rw [jk] at P1 ⊢; exact P1) (by rw [jk] at N0 ⊢; exact N0) (zK 1 ds).toNat la (by rw [jk]; omega)
  rw [jk] at this
  refine this.mono ?_
  rintro v4 h4 ⟨O4, N4, s4⟩
  obtain ⟨a4, c4, rfl, _, g4⟩ := Part.ints O4
  refine ⟨_, _, _, rfl, fun _ => ?_⟩
  exact J0 (Q := fun v h'' => tB.O h'' v (be z 2 ++ be (zK 1 ds).toNat 4 ++ yj xs ++ be (zK 1 xs).toNat 4) ∧ tB.New h v ∧ Eng.Sub h h'') hi s4 O hw L O4 N4 (by rw [List.length_append, jk, jk]; omega) fun v h' p n s => ⟨p, n, s⟩
 ·rw [if_neg (by omega), List.append_nil]
  exact J0 (Q := fun v h'' => tB.O h'' v (be z 2 ++ yj xs ++ be (zK 1 xs).toNat 4) ∧ tB.New h v ∧ Eng.Sub h h'') hi s0' O hw L P0 N0 (by rw [jk]; omega) fun v h' p n s => ⟨p, n, s⟩
end Go.Proofs.YteaonnfokkfnlaaGreatDoor
end
section
namespace Go.Proofs.YteaonnfokkfnlaaGreatDoor
open Go Go.Eng Go.IntWalk
section
variable {B : List Int} {q : Nat}
theorem RL {x : Nat} (hx : x < 65536) (H : AtY B q (be x 2)) : hig B 2 ⟨((8 * q : Nat) : Int), 0⟩ 0 = (⟨((8 * (q + 2) : Nat) : Int), 0⟩, (x : Int)) := by
 rw [be2] at H
 have g0 := AG (H 0 _ rfl) (by omega)
 have g1 := AG (q := q + 1) (H 1 _ rfl) (by omega)
 rw [Nat.add_zero] at g0
 unfold hig; rw [g0]; unfold hig; simp only; rw [g1]; unfold hig
 simp only
 rw [show q + 1 + 1 = q + 2 from rfl]
 congr 1
 omega
theorem J1 {x : Nat} (hx : x < 4294967296) (H : AtY B q (be x 4)) : hig B 4 ⟨((8 * q : Nat) : Int), 0⟩ 0 = (⟨((8 * (q + 4) : Nat) : Int), 0⟩, (x : Int)) := by
 rw [be4] at H
 have g0 := AG (H 0 _ rfl) (by omega)
 have g1 := AG (q := q + 1) (H 1 _ rfl) (by omega)
 have g2 := AG (q := q + 1 + 1) (H 2 _ rfl) (by omega)
 have g3 := AG (q := q + 1 + 1 + 1) (H 3 _ rfl) (by omega)
 rw [Nat.add_zero] at g0
 unfold hig; rw [g0]; unfold hig; simp only; rw [g1]; unfold hig; simp only; rw [g2]; unfold hig; simp only; rw [g3]; unfold hig
 simp only
 rw [show q + 1 + 1 + 1 + 1 = q + 4 from rfl]
 congr 1
 omega
end
theorem PW : ∀ n : Fin 8, ∀ d : Bool, Aa n.1 d < 65536 ∧ zW ((Aa n.1 d : Nat) : Int) = false ∧ ((Aa n.1 d : Nat) : Int) / 4096 ≤ 7 ∧ (((Aa n.1 d : Nat) : Int) / 32 % 2 = if d = true then 1 else 0) := by decide +kernel
theorem LU {ds : List Int} (H : okB ds) : zK 1 (ds ++ [1]) ≠ zK 1 ds := by
 unfold zK
 have o := EB (KE (c := 1) ⟨by omega, by omega⟩) H
 rw [List.foldl_append]
 generalize ds.foldl kB (DX 1) = p at o
 simp only [List.foldl_cons, List.foldl_nil]
 obtain ⟨e, o2⟩ := HM o (x := 1) (by omega)
 rw [Bp o2, Bp o, e]
 obtain ⟨h1, h2, h3, h4⟩ := o
 simp only
 omega
theorem fix_len' {xs : List Int} (hl : xs.length ≤ 29) (hw : ∀ y ∈ xs, 0 ≤ y ∧ y ≤ 255) : (yj xs).length = ((xp xs).length + 7) / 8 ∧ (xp xs).length ≤ 500 ∧ xs.length ≤ (xp xs).length := by
 have e : yj xs = pk (xp xs) (xp xs).length := if_neg (by omega)
 have h6 := Kq hw (Nat.le_refl _)
 have hs : (xp xs).length ≤ 3 + 15 * xs.length + 15 := by
  rw [← Kp, List.length_append]
  have := DT (c := 256) (by omega)
  omega
 refine ⟨by rw [e]; exact wE, by omega, ?_⟩
 have : ∀ zs : List Int, (∀ z ∈ zs, 0 ≤ z ∧ z ≤ 255) → zs.length ≤ (zs.flatMap fun c => yL c.toNat).length := by
  intro zs
  induction zs with
  | nil => intro _; simp
  | cons z r ih =>
   intro hz
   have h1 := hz z (List.mem_cons_self ..)
   obtain ⟨l, b, _, h2, _, _, h5, _⟩ := KM (c := z.toNat) (by omega)
   have h3 := ih fun y hy => hz y (List.mem_cons_of_mem _ hy)
   rw [List.flatMap_cons, List.length_append, h5, xi, List.length_cons]; omega
 have := this xs hw
 unfold xp
 simp only [List.length_append]; omega
theorem NJ {xs ds : List Int} {n : Int} (h0 : 0 ≤ n) (h7 : n ≤ 7) (hl : xs.length ≤ 29) (hw : ∀ y ∈ xs, 0 ≤ y ∧ y ≤ 255) (hd : okB ds) (us : List Int) :
  (y6 xs n ds).length ≤ 600 ∧
  (ds.length = 0 ∨ us = ds → kv (y6 xs n ds) us = (1, xs, ((y6 xs n ds).length : Int), ())) ∧
  (ds.length ≠ 0 → us.length = 0 ∨ zK 1 us ≠ zK 1 ds → kv (y6 xs n ds) us = (5, [], 0, ())) := by
 obtain ⟨m, rfl⟩ := Int.eq_ofNat_of_zero_le h0
 obtain ⟨B, hB⟩ : ∃ B, B = y6 xs (m : Int) ds := ⟨_, rfl⟩
 obtain ⟨fx, hfx⟩ : ∃ fx, fx = yj xs := ⟨_, rfl⟩
 obtain ⟨did, hdid⟩ : ∃ did, did = (if 0 < ds.length then be (zK 1 ds).toNat 4 else []) := ⟨_, rfl⟩
 obtain ⟨f1, f2, f3⟩ := fix_len' hl hw
 obtain ⟨z1, z2, z3, z4⟩ := PW ⟨m, by omega⟩ (decide (0 < ds.length))
 simp only at z1 z2 z3 z4
 obtain ⟨zh, hzh⟩ : ∃ zh, zh = Aa m (decide (0 < ds.length)) := ⟨_, rfl⟩
 rw [← hzh] at z1 z2 z3 z4
 have eB : B = be zh 2 ++ did ++ fx ++ be (zK 1 xs).toNat 4 := by
  rw [hB, hdid, hfx, hzh]
  unfold y6
  rw [if_neg (by omega), Int.toNat_natCast]
 have ldid : did.length = if 0 < ds.length then 4 else 0 := by rw [hdid]; split <;> simp [jk]
 have lB : B.length = 2 + did.length + fx.length + 4 := by rw [eB]; simp only [List.length_append, jk]
 rw [← hfx] at f1
 have lB2 : B.length ≤ 600 := by rw [lB, ldid]; split <;> omega
 rw [← hB]
 refine ⟨lB2, ?_⟩
 obtain ⟨az1, az2⟩ := BD 1 xs
 obtain ⟨ad1, ad2⟩ := BD 1 ds
 have A1 : AtY B 0 (be zh 2) := by
  have := AtY.mk (A := []) (ys := be zh 2) (C := did ++ fx ++ be (zK 1 xs).toNat 4)
  rw [List.nil_append] at this
  rw [eB]; simpa [List.append_assoc] using this
 have eH : zH B = (⟨((8 * 2 : Nat) : Int), 0⟩, (zh : Int)) := RL (q := 0) z1 A1
 have eR : zR B = ⟨((8 * 2 : Nat) : Int), 0⟩ := by unfold zR; rw [eH]; simp only; rw [z2]; rfl
 have eAns : ∀ us, kv B us = zA B (zS (zH B).2) (zD B us).2 (zD B us).1 := fun us => if_neg (by omega)
 have tail : ∀ vs : List Int, zA B (zS zh) vs ⟨((8 * (2 + did.length) : Nat) : Int), 0⟩ = (1, xs, (B.length : Int), ()) := by
  intro vs
  have hS := Ql (x := (zh : Int)) (by omega)
  have A2 : AtB B (8 * (2 + did.length)) (xp xs) := by
   have := TR (s := xp xs) QV (be zh 2 ++ did) (be (zK 1 xs).toNat 4)
   rw [show pk (xp xs) (xp xs).length = fx by rw [hfx]; exact (if_neg (by omega)).symm] at this
   rw [List.length_append, jk] at this
   rw [eB]; simpa [List.append_assoc] using this
  have hL : (zM (zS zh) vs).length ≤ 32768 := by rw [xY]; omega
  have eE : zE B (zS zh) vs ⟨((8 * (2 + did.length) : Nat) : Int), 0⟩ = (⟨((8 * (2 + did.length) + (xp xs).length : Nat) : Int), 0⟩, zM (zS zh) vs ++ xs) := by
   unfold zE
   exact NI hw (by omega) (Nat.le_refl _) (by omega) A2
  have eO : zO B (zS zh) vs ⟨((8 * (2 + did.length) : Nat) : Int), 0⟩ = xs := by unfold zO; rw [eE]; exact List.drop_left
  have A3 : AtY B (2 + did.length + fx.length) (be (zK 1 xs).toNat 4) := by
   have := AtY.mk (A := be zh 2 ++ did ++ fx) (ys := be (zK 1 xs).toNat 4) (C := [])
   rw [List.append_nil] at this
   simp only [List.length_append, jk] at this
   rw [eB]; exact this
  have eT : zT B (zS zh) vs ⟨((8 * (2 + did.length) : Nat) : Int), 0⟩ = (⟨((8 * (2 + did.length + fx.length + 4) : Nat) : Int), 0⟩, zK 1 xs) := by
   unfold zT; rw [eE]
   have ea : alg ⟨((8 * (2 + did.length) + (xp xs).length : Nat) : Int), 0⟩ = ⟨((8 * (2 + did.length + fx.length) : Nat) : Int), 0⟩ := by
    unfold alg; rw [if_pos rfl]; congr 1; simp only; omega
   simp only
   rw [ea, J1 az2 A3, ← az1]
  rw [KL (by rw [eT]) (by rw [eT, eO]), eO, eT, lB]
  congr 3
  simp only; omega
 by_cases hd0 : 0 < ds.length
 ·rw [decide_eq_true hd0] at z4
  have z4 : ((zh : Int) / 32 % 2 = 1) := by rw [z4]; rfl
  have ed : did = be (zK 1 ds).toNat 4 := by rw [hdid, if_pos hd0]
  have ld4 : did.length = 4 := by rw [ldid, if_pos hd0]
  have A4 : AtY B 2 (be (zK 1 ds).toNat 4) := by
   have := AtY.mk (A := be zh 2) (ys := be (zK 1 ds).toNat 4) (C := fx ++ be (zK 1 xs).toNat 4)
   rw [jk] at this
   rw [eB, ed]; simpa [List.append_assoc] using this
  have eI : zId B = (⟨((8 * (2 + 4) : Nat) : Int), 0⟩, zK 1 ds) := by unfold zId; rw [eR, J1 ad2 A4, ← ad1]
  have eD : ∀ us, zD B us = (bdK 5 (decide (us.length = 0) || (zK 1 us != zK 1 ds)) ⟨((8 * (2 + 4) : Nat) : Int), 0⟩, us) := fun us => by
   unfold zD; rw [eH, if_pos z4, eI]
  refine ⟨fun h => ?_, fun _ h => ?_⟩
  ·have h : us = ds := by
    rcases h with h | h
    ·omega
    ·exact h
   subst h
   rw [eAns, eD, eH]
   have e0 : bdK 5 (decide (us.length = 0) || (zK 1 us != zK 1 us)) ⟨((8 * (2 + 4) : Nat) : Int), 0⟩ = ⟨((8 * (2 + did.length) : Nat) : Int), 0⟩ := by
    unfold bdK; rw [if_neg (by simp; intro e; rw [e] at hd0; simp at hd0), ld4]
   rw [e0]; exact tail us
  ·rw [eAns, eD, eH]
   have e0 : bdK 5 (decide (us.length = 0) || (zK 1 us != zK 1 ds)) ⟨((8 * (2 + 4) : Nat) : Int), 0⟩ = ⟨((8 * (2 + 4) : Nat) : Int), 5⟩ := by
    unfold bdK; rw [if_pos ⟨rfl, by rcases h with h | h <;> simp [h]⟩]
   rw [e0]
   exact Nv (show (5 : Int) ≠ 0 by decide)
 ·rw [decide_eq_false hd0] at z4
  have z4 : ¬ ((zh : Int) / 32 % 2 = 1) := by rw [z4]; decide
  have ld0 : did.length = 0 := by rw [ldid, if_neg hd0]
  have eD : ∀ us, zD B us = (⟨((8 * 2 : Nat) : Int), 0⟩, []) := fun us => by unfold zD; rw [eH, if_neg z4, eR]
  refine ⟨fun _ => ?_, fun h => absurd (Nat.pos_of_ne_zero h) hd0⟩
  rw [eAns, eD, eH]
  have := tail []
  rw [ld0] at this
  exact this
end Go.Proofs.YteaonnfokkfnlaaGreatDoor
end
section
namespace Go.Proofs.YteaonnfokkfnlaaGreatDoor
open Go Go.Eng Go.IntWalk
variable {s : Nat → Prop} {h : Eng.Heap}
theorem TS {x : Int} (hx : 0 ≤ x ∧ x < 65536) : (Go.bits .and .u32 x 32 == 0) = decide (x / 32 % 2 ≠ 1) := by
 obtain ⟨n, rfl⟩ := Int.eq_ofNat_of_zero_le hx.1
 have h1 : (BitVec.ofInt 32 (n : Int)).toNat = n := by rw [BitVec.ofInt_natCast, BitVec.toNat_ofNat]; exact Nat.mod_eq_of_lt (by omega)
 have h2 : (BitVec.ofInt 32 (32 : Int)).toNat = 32 := by decide
 have hb : n &&& 32 = (n.testBit 5).toNat * 32 := by
  apply Nat.eq_of_testBit_eq
  intro i
  rw [Nat.testBit_and, show (32 : Nat) = 2 ^ 5 from rfl, Nat.testBit_two_pow]
  by_cases hi : 5 = i
  ·subst hi
   cases h : n.testBit 5 with
   | false => simp [h]
   | true => simp [h]; decide
  ·cases h : n.testBit 5
   ·simp [hi]
   ·simp only [Bool.toNat_true, Nat.one_mul]; rw [Nat.testBit_two_pow]; simp [hi]
 have ht : n.testBit 5 = decide (n / 32 % 2 = 1) := by rw [Nat.testBit_eq_decide_div_mod_eq]
 have hand : Go.bits .and .u32 (n : Int) 32 = (((n.testBit 5).toNat * 32 : Nat) : Int) := by
  show IntKind.u32.wrap ((BitVec.ofInt 32 (n : Int) &&& BitVec.ofInt 32 (32 : Int)).toNat : Int) = _
  rw [BitVec.toNat_and, h1, h2, hb, IntKind.wrap_u32]
  cases n.testBit 5 <;> simp
 rw [hand, ht]
 by_cases hc : n / 32 % 2 = 1
 ·have : ((n : Int) / 32 % 2 = 1) := by omega
  simp [hc, this]
 ·have : ¬ ((n : Int) / 32 % 2 = 1) := by omega
  simp [hc, this]
theorem KN {bs ds : List Int} (h : (zR bs).k ≠ 0) : (zD bs ds).1 = zR bs := by
 have e : (zId bs).1 = zR bs := Cu h
 unfold zD; split
 ·simp only; rw [e, Ct h]
 ·rfl
theorem RM {h1 : Eng.Heap} (hi : Eng.Inv (x5 Tryz.prog s) h) (G : ErrZ h) {bm : Nat} {a : Option Addr} {c : Nat} {bs : List Int} {T : TypeId} (hx : zq h .u8 a bs) (L : bs.length ≤ 65536) (hb : h bm = none) (sb : Eng.Sub h h1)
  (hm : h1 bm = some (z5 a c bs ((0 : Nat) : Int) ⟨.pointer none, .slice none 0 0, 100000, false, .pointer none, .pointer none⟩ T)) {ad : Option Addr} {cd : Nat} {ds : List Int} (hd : zq h .u8 ad ds) (hcd : ds.length ≤ cd) (hdl : ds.length ≤ 1048576) (hdb : okB ds) :
  zc Tryz.prog (x5 Tryz.prog s) kU #[.pointer (some ⟨bm, 0, none⟩), .slice ad ds.length cd] h1 (PF h bm a c bs T (kv bs ds)) := by
 refine CK (vs := [.pointer (some ⟨bm, 0, none⟩), .slice ad ds.length cd]) ⟨rfl, rfl, trivial⟩ (hi.sub sb) ?_
 simp only [Aj, Tr.wp, zX, Ex.ev, coerce, toInt_int, zf, zn, zu, zo, zg, zB, B0, ya, arith, Cst.val, SV.den, z6, yl, zU, zt, zk, zG, zy, List.flatMap_cons, List.flatMap_nil, List.getD_cons_zero, List.getD_cons_succ, List.getElem?_cons_zero, List.getElem?_cons_succ, List.map_cons, List.map_nil, List.cons_append, List.nil_append, List.append_nil, List.length_cons, List.length_nil, Nat.zero_add, Nat.add_zero, and_true, if_true, if_false, Bool.false_eq_true, zj]
 have eAns : kv bs ds = zA bs (zS (zH bs).2) (zD bs ds).2 (zD bs ds).1 := if_neg (by omega)
 have hn := S2 (bs := bs)
 refine zc.mono (LN hi G.el.es hx (by omega) 0 (by omega) 2 (by omega) ⟨hm, hb, sb⟩) ?_
 rintro _ h2 ⟨p2, hp2, rfl, hr2, rfl⟩
 have eH : hig bs 2 ⟨((0 : Nat) : Int), 0⟩ 0 = zH bs := rfl
 rw [eH] at hr2 ⊢
 have ret : ∀ (hh : Eng.Heap) (p' : Nat) (K : Int), p' ≤ 8 * bs.length → hh bm = some (z5 a c bs p' ⟨.pointer none, .slice none 0 0, 100000, false, .pointer none, .pointer none⟩ T) → Eng.Sub h hh → K ≠ 0 → (zD bs ds).1.k = K → PF h bm a c bs T (kv bs ds) (zP K) hh := by
  intro hh p' K q1 q2 q3 q4 q5
  refine ⟨K, p', _, [], none, 0, rfl, q2, rfl, Part.nil, fun z hz => (by cases hz), q3, q1, fun _ => ?_, fun h => absurd h q4⟩
  rw [eAns, Nv (by rw [q5]; exact q4), q5]
 have hm2 : ∀ q : Nat, upd h1 bm (z5 a c bs q ⟨.pointer none, .slice none 0 0, 100000, false, .pointer none, .pointer none⟩ T) bm = some (z5 a c bs q ⟨.pointer none, .slice none 0 0, 100000, false, .pointer none, .pointer none⟩ T) := fun q => upd_same
 have s2 : ∀ q : Nat, Eng.Sub h (upd h1 bm (z5 a c bs q ⟨.pointer none, .slice none 0 0, 100000, false, .pointer none, .pointer none⟩ T)) := fun q => xd sb hb
 refine ⟨_, _, za, by rw [za], fun hz => ?_, fun hz => ?_⟩
 ·rw [za, zx] at hz
  have hk : (zH bs).1.k ≠ 0 := by simpa using hz
  have eR : zR bs = (zH bs).1 := Ap hk
  rw [za]
  exact ret _ p2 _ hp2 (hm2 p2) (s2 p2) hk (by rw [KN (by rw [eR]; exact hk), eR])
 ·rw [za, zx] at hz
  have hk : (zH bs).1.k = 0 := by simpa using hz
  rw [if_pos hk]
  have e2 := hr2 hk
  have ws : Int.fdiv (zH bs).2 (2 ^ min (Int.toNat 8) IntKind.u32.bits) = (zH bs).2 / 256 := by rw [show (2 : Int) ^ min (Int.toNat 8) IntKind.u32.bits = 256 from rfl, Int.fdiv_eq_ediv_of_nonneg _ (by omega)]
  have t31 : (zH bs).2.tmod 31 = (zH bs).2 % 31 := Int.tmod_eq_emod_of_nonneg hn.1
  have t16 : ((zH bs).2 / 256).tmod 16 = (zH bs).2 / 256 % 16 := Int.tmod_eq_emod_of_nonneg (by omega)
  have wq : IntKind.u32.wrap (((zH bs).2 / 256).tdiv 16) = (zH bs).2 / 4096 := by
   rw [Int.tdiv_eq_ediv_of_nonneg (by omega), Int.ediv_ediv_of_nonneg (by omega), IntKind.wrap_u32]
   show (zH bs).2 / 4096 % 4294967296 = (zH bs).2 / 4096
   clear t31 t16
   omega
  have eW : (decide ((decide (((zH bs).2 % 31 != 0) = true) || (zH bs).2 / 256 % 16 != 8) = true) || decide ((zH bs).2 / 4096 > 7)) = zW (zH bs).2 := by
   unfold zW; simp only [Bool.decide_eq_true]
  rw [ws, t31, t16, wq]
  simp only [eW]
  refine ⟨fun hw => ?_, fun hw => ?_⟩
  ·have eR : zR bs = ⟨(zH bs).1.i, 3⟩ := by unfold zR bd; rw [if_pos ⟨hk, hw⟩]
   refine ⟨3, (G.sub (s2 p2)).el.es.e3, ?_⟩
   exact ret _ p2 3 hp2 (hm2 p2) (s2 p2) (by decide) (by rw [KN (by rw [eR]; show (3 : Int) ≠ 0; decide), eR])
  ·have hw : zW (zH bs).2 = false := by simpa using hw
   have h7 : (zH bs).2 / 4096 ≤ 7 := by
    unfold zW at hw
    simp only [Bool.or_eq_false_iff, decide_eq_false_iff_not] at hw
    omega
   have eR : zR bs = ⟨(p2 : Int), 0⟩ := by unfold zR bd; rw [if_neg (fun e => by rw [hw] at e; cases e.2), e2]
   rw [TS hn]
   refine ⟨fun hf => ?_, fun hf => ?_⟩
   ·have hf : ¬ (zH bs).2 / 32 % 2 = 1 := by simpa using hf
    have eD : zD bs ds = (⟨(p2 : Int), 0⟩, []) := by unfold zD; rw [if_neg hf, eR]
    intro _
    rw [eAns, eD]
    have K := Qq (s := s) (us := []) (au := none) (cu := 0) hi G hx L p2 hp2 hb (s2 p2) (hm2 p2) hn.1 hn.2 h7 (fun i x hx => by simp at hx) (Nat.le_refl _) (by simp) Hi
    exact K _ _ _
   ·have hf : (zH bs).2 / 32 % 2 = 1 := by simpa using hf
    have eD2 : (zD bs ds).2 = ds := by unfold zD; rw [if_pos hf]
    have eD1 : (zD bs ds).1 = bdK 5 (decide (ds.length = 0) || (zK 1 ds != (zId bs).2)) (zId bs).1 := by unfold zD; rw [if_pos hf]
    refine zc.mono (LN hi G.el.es hx (by omega) p2 hp2 4 (by omega) ⟨hm2 p2, hb, s2 p2⟩) ?_
    rintro _ h3 ⟨p3, hp3, rfl, hr3, rfl⟩
    have eI : hig bs 4 ⟨(p2 : Int), 0⟩ 0 = zId bs := by unfold zId; rw [eR]
    rw [eI] at hr3 ⊢
    rw [yR]
    refine ⟨_, _, za, by rw [za], fun hz => ?_, fun hz => ?_⟩
    ·rw [za, zx] at hz
     have hkI : (zId bs).1.k ≠ 0 := by simpa using hz
     rw [za]
     exact ret _ p3 _ hp3 (hm2 p3) (s2 p3) hkI (by rw [eD1, Ct hkI])
    ·rw [za, zx] at hz
     have hkI : (zId bs).1.k = 0 := by simpa using hz
     rw [if_pos hkI]
     have e3 := hr3 hkI
     have bad : ∀ hh, hh bm = some (z5 a c bs p3 ⟨.pointer none, .slice none 0 0, 100000, false, .pointer none, .pointer none⟩ T) → Eng.Sub h hh → (decide (ds.length = 0) || (zK 1 ds != (zId bs).2)) = true → PF h bm a c bs T (kv bs ds) (zP 5) hh := fun hh q2 q3 q4 =>
      ret hh p3 5 hp3 q2 q3 (by decide) (by rw [eD1]; unfold bdK; rw [if_pos ⟨hkI, q4⟩])
     refine ⟨fun hl => ?_, fun hl => ?_⟩
     ·have hl : ds.length ≠ 0 := by simpa using hl
      refine zc.mono (j3 (hi.sub (s2 p3)) 1 ⟨by omega, by omega⟩ ad cd ds hdb (hd.sub (s2 p3)) hcd (by omega)) ?_
      rintro _ h4 ⟨rfl, s4⟩
      refine ⟨_, rfl, fun _ => ⟨fun hne => ?_, fun heq => ?_⟩⟩
      ·have hne : zK 1 ds ≠ (zId bs).2 := by simpa using hne
       refine ⟨5, (G.sub ((s2 p3).trans s4)).e5, ?_⟩
       exact bad h4 (s4 _ _ (hm2 p3)) ((s2 p3).trans s4) (by simp [hne])
      ·have heq : zK 1 ds = (zId bs).2 := by simpa using heq
       have eD : (zD bs ds).1 = ⟨(p3 : Int), 0⟩ := by
        rw [eD1]; unfold bdK; rw [if_neg (fun e => by have := e.2; simp [heq] at this; exact hl (by simp [this])), e3]
       intro _
       rw [eAns, eD, eD2]
       have K := Qq (s := s) (us := ds) (au := ad) (cu := cd) hi G hx L p3 hp3 hb ((s2 p3).trans s4) (s4 _ _ (hm2 p3)) hn.1 hn.2 h7 (hd.sub ((s2 p3).trans s4)) hcd hdl hdb
       exact K _ _ _
     ·have hl : ds.length = 0 := by simpa using hl
      refine fun _ => ⟨fun _ => ?_, fun h => by simp at h⟩
      refine ⟨5, (G.sub (s2 p3)).e5, ?_⟩
      exact bad _ (hm2 p3) (s2 p3) (by simp [hl])
theorem g_impl_Zlib' (hi : Eng.Inv (x5 Tryz.prog s) h) (G : ErrZ h) (E : CL h) {v u : Value} {bs ds : List Int} (O : tB.O h v bs) (L : BS bs) (O2 : tB.O h u ds) (L2 : BS ds) (hdb : okB ds) :
  zc Tryz.prog (x5 Tryz.prog s) qn #[v, u] h (PZ h (kv bs ds)) := by
 obtain ⟨a, c, rfl, hc, hx⟩ := Part.ints O
 obtain ⟨a2, c2, rfl, hc2, hx2⟩ := Part.ints O2
 have hL : bs.length ≤ 1048576 := L
 have hL2 : ds.length ≤ 1048576 := L2
 refine Ii (vs := [.slice a bs.length c, .slice a2 ds.length c2]) ⟨rfl, rfl, trivial⟩ hi ?_
 simp only [EX, Tr.wp, zX, Ex.ev, coerce, toInt_int, zf, zn, zu, zo, zg, ya, arith, Cst.val, SV.den, z6, yl, zU, zt, zk, yw, zG, zy, List.flatMap_cons, List.flatMap_nil, List.replicate_one, List.getD_cons_zero, List.getD_cons_succ, decide_eq_true_eq, decide_eq_false_iff_not, List.map_cons, List.map_nil, List.cons_append, List.nil_append, List.append_nil, Nat.zero_add, Nat.add_zero, and_true, if_false, Bool.false_eq_true, zj]
 refine ⟨fun hgt => ?_, fun hle => ?_⟩
 ·have e : kv bs ds = (7, [], 0, ()) := if_pos (by omega)
  rw [e]; exact Ro (fun _ _ e => e)
 intro bm hbm
 have K := RM (s := s) (T := 74) hi G hx (by omega) hbm (Sub.zL (o := z5 a c bs ((0 : Nat) : Int) ⟨.pointer none, .slice none 0 0, 100000, false, .pointer none, .pointer none⟩ 74) hbm) upd_same hx2 hc2 hL2 hdb
 refine zc.mono K ?_
 rintro _ h3 ⟨KK, p, m, xs, ao, co, rfl, hb3, eo, P3, N3, s3, hp, hbad, hgood⟩
 obtain ⟨_, g1, _, g3, _⟩ := y8 hb3
 rw [eo] at g3
 refine ⟨_, za, by rw [za], fun hz => ?_, fun hz => ?_⟩
 ·rw [za, zx] at hz
  have hk1 : KK ≠ 0 := by simpa using hz
  rw [hbad hk1, za, QS hk1]
  refine ⟨_, _, _, g3, ?_⟩
  refine zc.mono (MN (hi.sub s3) (E.sub s3)) ?_
  rintro _ h4 ⟨rfl, s4⟩
  refine ⟨_, rfl, fun pp hpp => ?_, Qk (P3.sub s4) N3 (s3.trans s4)⟩
  obtain rfl := List.mem_singleton.1 hpp
  simp only [Ex.ev, coerce, zn, zu, zo, zg, List.getD_cons_zero, List.getD_cons_succ, Nat.zero_add, Nat.add_zero, zj, zg]
  exact xX s4 g3
 ·rw [za, zx] at hz
  have hk1 : KK = 0 := by simpa using hz
  rw [hgood hk1]
  refine ⟨_, _, _, g3, _, g1, ?_⟩
  have w : IntKind.i64.wrap ((p : Int).tdiv 8) = ((p / 8 : Nat) : Int) := by rw [Int.tdiv_eq_ediv_of_nonneg (by omega), i64_in _ (by omega)]; omega
  rw [w]
  exact Qk P3 N3 s3
end Go.Proofs.YteaonnfokkfnlaaGreatDoor
end
