import Derived.Conc.WgGenN3
import Derived.Conc.WgWords
import Derived.Test.YtmnialmphlbmaaaEng4
set_option linter.unusedVariables false
set_option linter.unusedSimpArgs false
/- The library's sync.WaitGroup, walked beside others: Add(1), Done, Wait. -/
set_option linter.unusedSimpArgs false
set_option linter.unusedVariables false
set_option linter.unusedSectionVars false
namespace Go.Eng
open Go Go.Conc Go.RowKit Go.Conc.Lib Go.ConcR.Gen Go.ConcN.Gen
open Go.ConcN hiding upd upd_same upd_ne AtD4 AtD3 AtD2 AtD1 AtK1 AtR0 AtAcq AtKe AtW4 AtW3 AtW2 AtW1 AtKd WSit AtA1
open Go.ConcR (KK wgBlock WgAt stA smA rd wr DC0 Payload)

section
variable [Payload] {P : Program} {L : WgLink} {Φ : Ph} {cs : List Frame} {qt : Nat}

theorem jl {w w₁ : World} (_ : Φ.J w) (h : Φ.J w₁) : Φ.J w₁ := h
theorem J.cell0 {w : World} (h : Φ.J w) : ∃ v, w.cell? ⟨Φ.Wg, 0, none⟩ = some v := WgLive.cell0 h.1
theorem J.cell1 {w : World} (h : Φ.J w) : ∃ v, w.cell? ⟨Φ.Wg, 1, none⟩ = some v := WgLive.cell1 h.1

variable {b₀ : Frame} {a₀ : Act} {ops₀ : Array Oper} {i₀ : Nat} {rest₀ : List Nat} {k₀ : List Item}

/-- The group's block has turned; the rest of what is known stands. -/
theorem J.setSt (hCW : Φ.C ≠ Φ.Wg) {w : World} (h : Φ.J w) {st sm : Int} (hw : WgAt Φ.ty Φ.Wg w st sm) (v : Int) : Φ.J (w.setCell (stA Φ.Wg) (.int .u64 v)) := by
  obtain ⟨cs, h1, h2⟩ := h.2
  exact ⟨⟨v, sm, hw.setSt v⟩, cs, ((aside_setCell w (stA Φ.Wg) _).block _ hCW).trans h1, h2⟩
theorem J.setSm (hCW : Φ.C ≠ Φ.Wg) {w : World} (h : Φ.J w) {st sm : Int} (hw : WgAt Φ.ty Φ.Wg w st sm) (v : Int) : Φ.J (w.setCell (smA Φ.Wg) (.int .u32 v)) := by
  obtain ⟨cs, h1, h2⟩ := h.2
  exact ⟨⟨st, v, hw.setSm v⟩, cs, ((aside_setCell w (smA Φ.Wg) _).block _ hCW).trans h1, h2⟩

set_option maxRecDepth 100000 in
set_option maxHeartbeats 8000000 in
theorem walkAdd (H : WgLib P L) (hCW : Φ.C ≠ Φ.Wg) {Nx : Frame → List Frame → Prop} (hN : Nx (b₀.at (a₀.put ((ops₀[i₀]?).bind (·.dst)) (.tuple #[])) (.inRegion ops₀ rest₀ :: k₀)) cs) (w : World) (hK : Φ.J w) :
    Goes P true (fun _ w₁ => Φ.J w₁) DC0 (AtAd P Φ Nx) 100
      (G ((base L.add).at ⟨#[.pointer (some ⟨Φ.Wg, 0, none⟩), .int .i64 1, undef, undef, undef, undef, undef, undef, undef, undef, undef, undef, undef, undef, undef, undef, undef, undef, undef, undef, undef, undef, undef, undef, undef, undef, undef, undef, undef, undef, undef, undef, undef, undef, undef, undef, undef, undef, undef, undef, undef, undef, undef, undef, undef, undef, undef, undef, undef, undef, undef, undef, undef, undef, undef, undef, undef, undef, undef, undef, undef, undef, undef, undef, undef, undef, undef, undef, undef, undef, undef, undef, undef, undef, undef, undef, undef, undef, undef, undef, undef, undef, undef, undef, undef, undef, undef, undef, undef, undef, undef, undef, undef, undef, undef, undef, undef, undef, undef, undef, undef, undef, undef, undef, undef, undef, undef, undef, undef, undef, undef, undef, undef, undef, undef, undef, undef], []⟩ [.code (body_add L)]) (b₀.at a₀ (.inRegion ops₀ (i₀ :: rest₀) :: k₀) :: cs)) w := by
  lib_facts
  simp only [body_add, addFn, Option.getD_some]
  u_c stepG_seq jl hK
  u_cond true jl hK
  u_c stepG_seq jl hK
  u_c stepG_seq jl hK
  u_reg jl hK
  u_op jl hK
  u_op jl hK
  u_c stepG_region_end jl hK
  u_cond false jl hK
  u_c stepG_skip jl hK
  u_c stepG_seq jl hK
  u_reg jl hK
  refine Goes.stop (fun w₁ h₁ => ?_)
  replace hK := jl hK h₁
  clear h₁
  refine ⟨rfl, _, stepG_mark0 .disable (by simp) rfl rfl (by k_ne) rfl H.f_disable (x_disable_n L) (x_disable_b L) (x_disable_x L) (x_disable_f L), 100, Sil.of (w := w₁) ?_⟩
  walk_nrm
  u_c stepG_region_end jl hK
  u_reg jl hK
  u_defer jl hK
  u_c stepG_region_end jl hK
  u_c stepG_seq jl hK
  u_reg jl hK
  u_op jl hK
  u_c stepG_region_end jl hK
  u_c stepG_seq jl hK
  u_c stepG_seq jl hK
  u_reg jl hK
  u_bub jl hK
  u_c stepG_region_end jl hK
  u_cond false jl hK
  u_c stepG_skip jl hK
  u_c stepG_seq jl hK
  u_reg jl hK
  u_op jl hK
  u_op jl hK
  u_op jl hK
  u_op jl hK
  u_op jl hK
  u_op jl hK
  u_call H.f_uAdd (nm_uAdd L) uAddFn jl hK
  u_c stepG_seq jl hK
  u_reg jl hK
  u_op jl hK
  u_c stepG_region_end jl hK
  u_c stepG_seq jl hK
  u_reg jl hK
  u_op jl hK
  u_op jl hK
  u_op jl hK
  u_op jl hK
  refine Goes.stop (fun w₁ h₁ => ?_)
  replace hK := jl hK h₁
  clear h₁
  refine ⟨rfl, fun v hv hw => ?_⟩
  have e0 : IntKind.u64.wrap ((v : Int) * KK + 4294967296) = ((v : Int) + 1) * KK := by rw [IntKind.wrap_u64]; simp only [KK]; omega
  refine ⟨_, (stepG_add_atomic rfl rfl (by k_ne) rfl H.f_addU64 (x_addU64_n L) (x_addU64_b L) (x_addU64_x L) .u64 (x_addU64_f L) rfl rfl hw.cellSt (hw.thaw 0)).trans (by rw [e0]; rfl), fun hv0 => ⟨200, ?_⟩, fun hv0 => ⟨200, ?_⟩⟩
  · subst hv0
    replace hK := J.setSt hCW hK hw ((((0 : Nat) : Int) + 1) * KK)
    refine Sil.of (w := w₁.setCell (stA Φ.Wg) (.int .u64 ((((0 : Nat) : Int) + 1) * KK))) ?_
    generalize w₁.setCell (stA Φ.Wg) (.int .u64 ((((0 : Nat) : Int) + 1) * KK)) = w₂ at hK
    clear hw
    have z : (((0 : Nat) : Int) + 1) * KK = 4294967296 := by simp [KK]
    rw [z]
    walk_nrm
    u_op jl hK
    u_c stepG_region_end jl hK
    u_c stepG_ret' jl hK
    u_leave1 H.f_uAdd jl hK
    u_op jl hK
    u_c stepG_region_end jl hK
    u_c stepG_seq jl hK
    u_c stepG_seq jl hK
    u_reg jl hK
    u_op jl hK
    u_op jl hK
    u_op jl hK
    u_op jl hK
    u_skip jl hK
    u_skip jl hK
    u_op jl hK
    u_c stepG_region_end jl hK
    u_cond false jl hK
    u_c stepG_skip jl hK
    u_c stepG_seq jl hK
    u_reg jl hK
    u_op jl hK
    u_op jl hK
    u_op jl hK
    u_op jl hK
    u_c stepG_region_end jl hK
    u_c stepG_seq jl hK
    u_reg jl hK
    u_op jl hK
    u_op jl hK
    u_op jl hK
    u_op jl hK
    u_c stepG_region_end jl hK
    u_c stepG_seq jl hK
    u_c stepG_seq jl hK
    u_reg jl hK
    u_op jl hK
    u_op jl hK
    u_op jl hK
    u_op jl hK
    u_op jl hK
    u_op jl hK
    u_op jl hK
    u_op jl hK
    u_op jl hK
    u_op jl hK
    u_c stepG_region_end jl hK
    u_cond true jl hK
    u_reg jl hK
    u_op jl hK
    u_op jl hK
    u_op jl hK
    u_conv H.underlying_tPU32 H.room_tU32 (J.cell1 hK).choose_spec jl hK
    refine Goes.stop (fun w₁ h₁ => ?_)
    replace hK := jl hK h₁
    clear h₁
    refine ⟨rfl, _, stepG_markAt .read (by simp) rfl rfl (by k_ne) rfl H.f_raceRead (x_raceRead_n L) (x_raceRead_b L) (x_raceRead_x L) (x_raceRead_f L) (ad := ⟨Φ.Wg, 1, none⟩) (by simp [Act.eval]), 200, Sil.of (w := w₁) ?_⟩
    walk_nrm
    u_c stepG_region_end jl hK
    u_c stepG_seq jl hK
    u_c stepG_seq jl hK
    u_reg jl hK
    u_op jl hK
    u_op jl hK
    u_c stepG_region_end jl hK
    u_cond false jl hK
    u_c stepG_skip jl hK
    u_c stepG_seq jl hK
    u_c stepG_seq jl hK
    u_reg jl hK
    u_op jl hK
    u_op jl hK
    u_op jl hK
    u_skip jl hK
    u_skip jl hK
    u_op jl hK
    u_op jl hK
    u_skip jl hK
    u_skip jl hK
    u_skip jl hK
    u_skip jl hK
    u_op jl hK
    u_c stepG_region_end jl hK
    u_cond false jl hK
    u_c stepG_skip jl hK
    u_c stepG_seq jl hK
    u_c stepG_seq jl hK
    u_reg jl hK
    u_op jl hK
    u_op jl hK
    u_op jl hK
    u_skip jl hK
    u_skip jl hK
    u_op jl hK
    u_c stepG_region_end jl hK
    u_cond true jl hK
    u_c stepG_ret' jl hK
    refine Goes.stop (fun w₁ h₁ => ?_)
    replace hK := jl hK h₁
    clear h₁
    refine ⟨rfl, _, stepG_unwind_entry (v := .tuple #[]) (evs := #[Go.ConcR.mk .enable]) rfl H.f_enable (x_enable_n L) (x_enable_b L) (x_enable_x L) (x_enable_f L) (by simp [Extern.Race.none_]) (by simp [Go.ConcR.mk]) (by simp [Go.ConcR.mk]), 10, Sil.of (w := w₁) ?_⟩
    u_leave0 H.f_add jl hK
    exact Goes.stop fun _ _ => ⟨_, _, rfl, hN⟩
  · replace hK := J.setSt hCW hK hw (((v : Int) + 1) * KK)
    refine Sil.of (w := w₁.setCell (stA Φ.Wg) (.int .u64 (((v : Int) + 1) * KK))) ?_
    generalize w₁.setCell (stA Φ.Wg) (.int .u64 (((v : Int) + 1) * KK)) = w₂ at hK
    clear hw e0
    obtain ⟨V, hV⟩ : ∃ V : Int, (v : Int) + 1 = V := ⟨_, rfl⟩
    obtain ⟨S, hS⟩ : ∃ S : Int, V * KK = S := ⟨_, rfl⟩
    have a1 : S / 4294967296 = V := by rw [← hS]; simp only [KK]; omega
    have b1 : bits .and .u64 S 2147483648 = 0 := by rw [← hS, ← hV]; have := st_flag (v + 1) 0 (by omega) (by omega); simpa [KK] using this
    have b2 : bits .and .u64 S 2147483647 = 0 := by rw [← hS, ← hV]; have := st_waiters (v + 1) 0 (by omega) (by omega); simpa [KK] using this
    have c1 : IntKind.i32.wrap V = V := by rw [IntKind.wrap_i32]; omega
    have q3 : decide (V < 0) = false := decide_eq_false (by omega)
    have q4 : decide (0 < V) = true := decide_eq_true (by omega)
    have q5 : (V == 1) = false := by simp; omega
    have q6 : decide (V = 1) = false := decide_eq_false (by omega)
    rw [hV, hS]
    walk_nrm
    u_op jl hK
    u_c stepG_region_end jl hK
    u_c stepG_ret' jl hK
    u_leave1 H.f_uAdd jl hK
    u_op jl hK
    u_c stepG_region_end jl hK
    u_c stepG_seq jl hK
    u_c stepG_seq jl hK
    u_reg jl hK
    u_op jl hK
    u_op jl hK
    u_op jl hK
    u_op jl hK
    u_skip jl hK
    u_skip jl hK
    u_op jl hK
    u_c stepG_region_end jl hK
    u_cnd false jl hK
    u_c stepG_skip jl hK
    u_c stepG_seq jl hK
    u_reg jl hK
    u_op jl hK
    u_op jl hK
    u_op jl hK
    u_op jl hK
    u_c stepG_region_end jl hK
    u_c stepG_seq jl hK
    u_reg jl hK
    u_op jl hK
    u_op jl hK
    u_op jl hK
    u_op jl hK
    u_c stepG_region_end jl hK
    u_c stepG_seq jl hK
    u_c stepG_seq jl hK
    u_reg jl hK
    u_op jl hK
    u_op jl hK
    u_op jl hK
    u_op jl hK
    u_op jl hK
    u_op jl hK
    u_op jl hK
    u_op jl hK
    u_op jl hK
    u_op jl hK
    u_c stepG_region_end jl hK
    u_cnd false jl hK
    u_c stepG_skip jl hK
    u_c stepG_seq jl hK
    u_c stepG_seq jl hK
    u_reg jl hK
    u_op jl hK
    u_op jl hK
    u_c stepG_region_end jl hK
    u_cnd false jl hK
    u_c stepG_skip jl hK
    u_c stepG_seq jl hK
    u_c stepG_seq jl hK
    u_reg jl hK
    u_op jl hK
    u_op jl hK
    u_op jl hK
    u_skip jl hK
    u_skip jl hK
    u_op jl hK
    u_op jl hK
    u_skip jl hK
    u_skip jl hK
    u_skip jl hK
    u_skip jl hK
    u_op jl hK
    u_c stepG_region_end jl hK
    u_cnd false jl hK
    u_c stepG_skip jl hK
    u_c stepG_seq jl hK
    u_c stepG_seq jl hK
    u_reg jl hK
    u_op jl hK
    u_op jl hK
    u_op jl hK
    u_skip jl hK
    u_skip jl hK
    u_op jl hK
    u_c stepG_region_end jl hK
    u_cnd true jl hK
    u_c stepG_ret' jl hK
    refine Goes.stop (fun w₁ h₁ => ?_)
    replace hK := jl hK h₁
    clear h₁
    refine ⟨rfl, _, stepG_unwind_entry (v := .tuple #[]) (evs := #[Go.ConcR.mk .enable]) rfl H.f_enable (x_enable_n L) (x_enable_b L) (x_enable_x L) (x_enable_f L) (by simp [Extern.Race.none_]) (by simp [Go.ConcR.mk]) (by simp [Go.ConcR.mk]), 10, Sil.of (w := w₁) ?_⟩
    u_leave0 H.f_add jl hK
    exact Goes.stop fun _ _ => ⟨_, _, rfl, hN⟩
end
end Go.Eng
/- The library's sync.WaitGroup, walked beside others: Add(1), Done, Wait. -/
set_option linter.unusedSimpArgs false
set_option linter.unusedVariables false
set_option linter.unusedSectionVars false
namespace Go.Eng
open Go Go.Conc Go.RowKit Go.Conc.Lib Go.ConcR.Gen Go.ConcN.Gen
open Go.ConcN hiding upd upd_same upd_ne AtD4 AtD3 AtD2 AtD1 AtK1 AtR0 AtAcq AtKe AtW4 AtW3 AtW2 AtW1 AtKd WSit AtA1
open Go.ConcR (KK wgBlock WgAt stA smA rd wr DC0 Payload)

section
variable [Payload] {P : Program} {L : WgLink} {Φ : Ph} {cs : List Frame} {qt : Nat}


variable {b₀ : Frame} {a₀ : Act} {ops₀ : Array Oper} {i₀ : Nat} {rest₀ : List Nat} {k₀ : List Item}


set_option maxRecDepth 100000 in
set_option maxHeartbeats 8000000 in
theorem walkNeg (H : WgLib P L) (hCW : Φ.C ≠ Φ.Wg) (hT : QuitsD P qt 0 (G (b₀.at (a₀.put ((ops₀[i₀]?).bind (·.dst)) (.tuple #[])) (.inRegion ops₀ rest₀ :: k₀)) cs)) (w : World) (hK : Φ.J w) :
    Goes P false (fun _ w₁ => Φ.J w₁) DC0 (AtR0 P Φ) 100
      (G ((base L.add).at ⟨#[.pointer (some ⟨Φ.Wg, 0, none⟩), .int .i64 (-1), undef, undef, undef, undef, undef, undef, undef, undef, undef, undef, undef, undef, undef, undef, undef, undef, undef, undef, undef, undef, undef, undef, undef, undef, undef, undef, undef, undef, undef, undef, undef, undef, undef, undef, undef, undef, undef, undef, undef, undef, undef, undef, undef, undef, undef, undef, undef, undef, undef, undef, undef, undef, undef, undef, undef, undef, undef, undef, undef, undef, undef, undef, undef, undef, undef, undef, undef, undef, undef, undef, undef, undef, undef, undef, undef, undef, undef, undef, undef, undef, undef, undef, undef, undef, undef, undef, undef, undef, undef, undef, undef, undef, undef, undef, undef, undef, undef, undef, undef, undef, undef, undef, undef, undef, undef, undef, undef, undef, undef, undef, undef, undef, undef, undef, undef], []⟩ [.code (body_add L)]) (b₀.at a₀ (.inRegion ops₀ (i₀ :: rest₀) :: k₀) :: cs)) w := by
  lib_facts
  simp only [body_add, addFn, Option.getD_some]
  u_c stepG_seq jl hK
  u_cond true jl hK
  u_c stepG_seq jl hK
  u_c stepG_seq jl hK
  u_reg jl hK
  u_op jl hK
  u_op jl hK
  u_c stepG_region_end jl hK
  u_cond true jl hK
  u_reg jl hK
  u_op jl hK
  u_conv H.underlying_tWgP H.room_tWg (J.cell0 hK).choose_spec jl hK
  refine Goes.stop (fun w₁ h₁ => ?_)
  replace hK := jl hK h₁
  clear h₁
  refine ⟨rfl, _, stepG_markAt .releaseMerge (by simp) rfl rfl (by k_ne) rfl H.f_relMerge (x_relMerge_n L) (x_relMerge_b L) (x_relMerge_x L) (x_relMerge_f L) (by simp [Act.eval, stA]), 100, Sil.of (w := w₁) ?_⟩
  walk_nrm
  u_c stepG_region_end jl hK
  u_c stepG_seq jl hK
  u_reg jl hK
  refine Goes.stop (fun w₁ h₁ => ?_)
  replace hK := jl hK h₁
  clear h₁
  refine ⟨rfl, _, stepG_mark0 .disable (by simp) rfl rfl (by k_ne) rfl H.f_disable (x_disable_n L) (x_disable_b L) (x_disable_x L) (x_disable_f L), 100, Sil.of (w := w₁) ?_⟩
  walk_nrm
  u_c stepG_region_end jl hK
  u_reg jl hK
  u_defer jl hK
  u_c stepG_region_end jl hK
  u_c stepG_seq jl hK
  u_reg jl hK
  u_op jl hK
  u_c stepG_region_end jl hK
  u_c stepG_seq jl hK
  u_c stepG_seq jl hK
  u_reg jl hK
  u_bub jl hK
  u_c stepG_region_end jl hK
  u_cond false jl hK
  u_c stepG_skip jl hK
  u_c stepG_seq jl hK
  u_reg jl hK
  u_op jl hK
  u_op jl hK
  u_op jl hK
  u_op jl hK
  u_op jl hK
  u_op jl hK
  u_call H.f_uAdd (nm_uAdd L) uAddFn jl hK
  u_c stepG_seq jl hK
  u_reg jl hK
  u_op jl hK
  u_c stepG_region_end jl hK
  u_c stepG_seq jl hK
  u_reg jl hK
  u_op jl hK
  u_op jl hK
  u_op jl hK
  u_op jl hK
  refine Goes.stop (fun w₁ h₁ => ?_)
  replace hK := jl hK h₁
  clear h₁
  refine ⟨rfl, fun v wt hwt hv hw => ?_⟩
  have e0 : IntKind.u64.wrap (((v : Int) + 1) * KK + wt + 18446744069414584320) = (v : Int) * KK + wt := by rw [IntKind.wrap_u64]; simp only [KK]; omega
  refine ⟨_, (stepG_add_atomic rfl rfl (by k_ne) rfl H.f_addU64 (x_addU64_n L) (x_addU64_b L) (x_addU64_x L) .u64 (x_addU64_f L) rfl rfl hw.cellSt (hw.thaw 0)).trans (by rw [e0]; rfl), fun hl => ?_, fun hl => ?_⟩
  · obtain ⟨rfl, rfl⟩ := hl
    have z : ((0 : Nat) : Int) * KK + ((1 : Nat) : Int) = 1 := by simp
    replace hK := J.setSt hCW hK hw (((0 : Nat) : Int) * KK + ((1 : Nat) : Int))
    refine ⟨200, Sil.of (w := w₁.setCell (stA Φ.Wg) (.int .u64 (((0 : Nat) : Int) * KK + ((1 : Nat) : Int)))) ?_⟩
    generalize w₁.setCell (stA Φ.Wg) (.int .u64 (((0 : Nat) : Int) * KK + ((1 : Nat) : Int))) = w₂ at hK
    clear hw e0
    rw [z]
    walk_nrm
    u_op jl hK
    u_c stepG_region_end jl hK
    u_c stepG_ret' jl hK
    u_leave1 H.f_uAdd jl hK
    u_op jl hK
    u_c stepG_region_end jl hK
    u_c stepG_seq jl hK
    u_c stepG_seq jl hK
    u_reg jl hK
    u_op jl hK
    u_op jl hK
    u_op jl hK
    u_op jl hK
    u_skip jl hK
    u_skip jl hK
    u_op jl hK
    u_c stepG_region_end jl hK
    u_cond false jl hK
    u_c stepG_skip jl hK
    u_c stepG_seq jl hK
    u_reg jl hK
    u_op jl hK
    u_op jl hK
    u_op jl hK
    u_op jl hK
    u_c stepG_region_end jl hK
    u_c stepG_seq jl hK
    u_reg jl hK
    u_op jl hK
    u_op jl hK
    u_op jl hK
    u_op jl hK
    u_c stepG_region_end jl hK
    u_c stepG_seq jl hK
    u_c stepG_seq jl hK
    u_reg jl hK
    u_op jl hK
    u_op jl hK
    u_op jl hK
    u_op jl hK
    u_op jl hK
    u_skip jl hK
    u_skip jl hK
    u_skip jl hK
    u_skip jl hK
    u_op jl hK
    u_c stepG_region_end jl hK
    u_cond false jl hK
    u_c stepG_skip jl hK
    u_c stepG_seq jl hK
    u_c stepG_seq jl hK
    u_reg jl hK
    u_op jl hK
    u_op jl hK
    u_c stepG_region_end jl hK
    u_cond false jl hK
    u_c stepG_skip jl hK
    u_c stepG_seq jl hK
    u_c stepG_seq jl hK
    u_reg jl hK
    u_op jl hK
    u_op jl hK
    u_op jl hK
    u_op jl hK
    u_op jl hK
    u_op jl hK
    u_op jl hK
    u_skip jl hK
    u_skip jl hK
    u_skip jl hK
    u_skip jl hK
    u_op jl hK
    u_c stepG_region_end jl hK
    u_cond false jl hK
    u_c stepG_skip jl hK
    u_c stepG_seq jl hK
    u_c stepG_seq jl hK
    u_reg jl hK
    u_op jl hK
    u_op jl hK
    u_op jl hK
    u_op jl hK
    u_op jl hK
    u_op jl hK
    u_c stepG_region_end jl hK
    u_cond false jl hK
    u_c stepG_skip jl hK
    u_c stepG_seq jl hK
    u_c stepG_seq jl hK
    u_reg jl hK
    u_op jl hK
    u_op jl hK
    u_op jl hK
    u_call H.f_uLoad (nm_uLoad L) uLoadFn jl hK
    u_c stepG_seq jl hK
    u_reg jl hK
    u_op jl hK
    u_c stepG_region_end jl hK
    u_c stepG_seq jl hK
    u_reg jl hK
    u_op jl hK
    u_op jl hK
    u_op jl hK
    refine Goes.stop (fun w₁ h₁ => ?_)
    replace hK := jl hK h₁
    clear h₁
    refine ⟨rfl, fun hw => ⟨_, stepG_load_atomic rfl rfl (by k_ne) rfl H.f_loadU64 (x_loadU64_n L) (x_loadU64_b L) (x_loadU64_x L) .u64 (x_loadU64_f L) rfl hw.cellSt, 200, Sil.of (w := w₁) ?_⟩⟩
    clear hw
    walk_nrm
    u_op jl hK
    u_c stepG_region_end jl hK
    u_c stepG_ret' jl hK
    u_leave1 H.f_uLoad jl hK
    u_op jl hK
    u_op jl hK
    u_c stepG_region_end jl hK
    u_cond false jl hK
    u_c stepG_skip jl hK
    u_c stepG_seq jl hK
    u_reg jl hK
    u_op jl hK
    u_op jl hK
    u_op jl hK
    u_call H.f_uStore (nm_uStore L) uStoreFn jl hK
    u_reg jl hK
    u_op jl hK
    u_op jl hK
    u_op jl hK
    u_op jl hK
    refine Goes.stop (fun w₁ h₁ => ?_)
    replace hK := jl hK h₁
    clear h₁
    refine ⟨rfl, fun hw => ⟨_, stepG_store_atomic rfl rfl (by k_ne) rfl H.f_storeU64 (x_storeU64_n L) (x_storeU64_b L) (x_storeU64_x L) (x_storeU64_f L) rfl rfl hw.cellSt (hw.thaw 0), 200, Sil.of (w := w₁.setCell (stA Φ.Wg) (.int .u64 0)) ?_⟩⟩
    replace hK := J.setSt hCW hK hw 0
    generalize w₁.setCell (stA Φ.Wg) (.int .u64 0) = w₂ at hK
    clear hw
    walk_nrm
    u_c stepG_region_end jl hK
    u_c stepG_end jl hK
    u_leave0 H.f_uStore jl hK
    u_c stepG_region_end jl hK
    u_c stepG_seq jl hK
    u_c stepG_seq jl hK
    u_reg jl hK
    u_op jl hK
    u_c stepG_region_end jl hK
    u_cond false jl hK
    u_c stepG_skip jl hK
    u_c stepG_block jl hK
    u_c stepG_loop jl hK
    u_c stepG_seq jl hK
    u_c stepG_seq jl hK
    u_reg jl hK
    u_op jl hK
    u_op jl hK
    u_c stepG_region_end jl hK
    u_cond true jl hK
    u_c stepG_skip jl hK
    u_c stepG_seq jl hK
    u_c stepG_block jl hK
    u_reg jl hK
    u_op jl hK
    u_op jl hK
    u_op jl hK
    refine Goes.stop (fun w₁ h₁ => ?_)
    replace hK := jl hK h₁
    clear h₁
    refine ⟨rfl, mayWake_entry rfl rfl H.f_semrelease (x_semrelease_b L), fun hw => ⟨_, (stepG_semrelease rfl rfl (by k_ne) rfl H.f_semrelease (x_semrelease_n L) (x_semrelease_b L) (x_semrelease_x L) (x_semrelease_f L) (by simp [Act.eval, smA]) hw.cellSm (hw.thaw 1)).trans (by rfl), qt + 19, ?_⟩⟩
    clear hw
    have q3 : True := trivial
    have q4 : True := trivial
    have q5 : True := trivial
    have c1 : True := trivial
    have c3 : IntKind.u32.wrap 0 = 0 := by decide
    have c4 : IntKind.u32.wrap 1 = 1 := by decide
    walk_nrm
    q_c stepG_region_end
    q_c stepG_inBlock
    q_reg
    (apply QuitsD.value; (case ho => rfl); (case hw => rfl); (case hk => k_ne); (case hr => intro w; go_simp; (try simp only [q3, q4, q5, c1, c3, c4]); first | rfl | (w_num; rfl)); (case he => intro w; simp [go_sem, *]); walk_nrm)
    (apply QuitsD.value; (case ho => rfl); (case hw => rfl); (case hk => k_ne); (case hr => intro w; go_simp; (try simp only [q3, q4, q5, c1, c3, c4]); first | rfl | (w_num; rfl)); (case he => intro w; simp [go_sem, *]); walk_nrm)
    (apply QuitsD.value; (case ho => rfl); (case hw => rfl); (case hk => k_ne); (case hr => intro w; go_simp; (try simp only [q3, q4, q5, c1, c3, c4]); first | rfl | (w_num; rfl)); (case he => intro w; simp [go_sem, *]); walk_nrm)
    q_c stepG_region_end
    q_c stepG_inLoop
    q_c stepG_seq
    q_c stepG_seq
    q_reg
    (apply QuitsD.value; (case ho => rfl); (case hw => rfl); (case hk => k_ne); (case hr => intro w; go_simp; (try simp only [q3, q4, q5, c1, c3, c4]); first | rfl | (w_num; rfl)); (case he => intro w; simp [go_sem, *]); walk_nrm)
    (apply QuitsD.value; (case ho => rfl); (case hw => rfl); (case hk => k_ne); (case hr => intro w; go_simp; (try simp only [q3, q4, q5, c1, c3, c4]); first | rfl | (w_num; rfl)); (case he => intro w; simp [go_sem, *]); walk_nrm)
    q_c stepG_region_end
    q_cond false
    q_exit
    q_c stepG_end
    q_enable
    q_leave0 H.f_add
    exact hT
  · refine ⟨qt + 89, ?_⟩
    clear e0 hw hK
    obtain ⟨S, hS⟩ : ∃ S : Int, (v : Int) * KK + wt = S := ⟨_, rfl⟩
    have a1 : S / 4294967296 = (v : Int) := by rw [← hS]; simp only [KK]; omega
    have b1 : bits .and .u64 S 2147483648 = 0 := by rw [← hS]; have := st_flag v wt (by omega) (by omega); simpa [KK] using this
    have b2 : bits .and .u64 S 2147483647 = (wt : Int) := by rw [← hS]; have := st_waiters v wt (by omega) (by omega); simpa [KK] using this
    have c1 : IntKind.i32.wrap (v : Int) = (v : Int) := by rw [IntKind.wrap_i32]; omega
    have c2 : IntKind.u32.wrap (wt : Int) = (wt : Int) := by rw [IntKind.wrap_u32]; omega
    have q3 : decide ((v : Int) < 0) = false := decide_eq_false (by omega)
    rw [hS]
    have c3 : IntKind.u32.wrap 0 = 0 := by decide
    have c4 : IntKind.u32.wrap 1 = 1 := by decide
    have hcase : wt = 0 ∨ wt = 1 := by omega
    rcases hcase with rfl | rfl
    · replace b2 : bits .and .u64 S 2147483647 = 0 := b2
      clear c2
      rcases Nat.eq_zero_or_pos v with rfl | hvp
      · have z : S = 0 := by rw [← hS]; simp
        subst z
        have q4 : True := trivial
        have q5 : True := trivial
        simp only [Int.natCast_zero] at c1 q3 a1 b1 b2
        walk_nrm
        (apply QuitsD.value; (case ho => rfl); (case hw => rfl); (case hk => k_ne); (case hr => intro w; go_simp; (try simp only [q3, q4, q5, c1, c3, c4]); first | rfl | (w_num; rfl)); (case he => intro w; simp [go_sem, *]); walk_nrm)
        q_c stepG_region_end
        q_c stepG_ret'
        q_leave1 H.f_uAdd
        (apply QuitsD.value; (case ho => rfl); (case hw => rfl); (case hk => k_ne); (case hr => intro w; go_simp; (try simp only [q3, q4, q5, c1, c3, c4]); first | rfl | (w_num; rfl)); (case he => intro w; simp [go_sem, *]); walk_nrm)
        q_c stepG_region_end
        q_c stepG_seq
        q_c stepG_seq
        q_reg
        (apply QuitsD.value; (case ho => rfl); (case hw => rfl); (case hk => k_ne); (case hr => intro w; go_simp; (try simp only [q3, q4, q5, c1, c3, c4]); first | rfl | (w_num; rfl)); (case he => intro w; simp [go_sem, *]); walk_nrm)
        (apply QuitsD.value; (case ho => rfl); (case hw => rfl); (case hk => k_ne); (case hr => intro w; go_simp; (try simp only [q3, q4, q5, c1, c3, c4]); first | rfl | (w_num; rfl)); (case he => intro w; simp [go_sem, *]); walk_nrm)
        (apply QuitsD.value; (case ho => rfl); (case hw => rfl); (case hk => k_ne); (case hr => intro w; go_simp; (try simp only [q3, q4, q5, c1, c3, c4]); first | rfl | (w_num; rfl)); (case he => intro w; simp [go_sem, *]); walk_nrm)
        (apply QuitsD.value; (case ho => rfl); (case hw => rfl); (case hk => k_ne); (case hr => intro w; go_simp; (try simp only [q3, q4, q5, c1, c3, c4]); first | rfl | (w_num; rfl)); (case he => intro w; simp [go_sem, *]); walk_nrm)
        q_skip
        q_skip
        (apply QuitsD.value; (case ho => rfl); (case hw => rfl); (case hk => k_ne); (case hr => intro w; go_simp; (try simp only [q3, q4, q5, c1, c3, c4]); first | rfl | (w_num; rfl)); (case he => intro w; simp [go_sem, *]); walk_nrm)
        q_c stepG_region_end
        q_cond false
        q_c stepG_skip
        q_c stepG_seq
        q_reg
        (apply QuitsD.value; (case ho => rfl); (case hw => rfl); (case hk => k_ne); (case hr => intro w; go_simp; (try simp only [q3, q4, q5, c1, c3, c4]); first | rfl | (w_num; rfl)); (case he => intro w; simp [go_sem, *]); walk_nrm)
        (apply QuitsD.value; (case ho => rfl); (case hw => rfl); (case hk => k_ne); (case hr => intro w; go_simp; (try simp only [q3, q4, q5, c1, c3, c4]); first | rfl | (w_num; rfl)); (case he => intro w; simp [go_sem, *]); walk_nrm)
        (apply QuitsD.value; (case ho => rfl); (case hw => rfl); (case hk => k_ne); (case hr => intro w; go_simp; (try simp only [q3, q4, q5, c1, c3, c4]); first | rfl | (w_num; rfl)); (case he => intro w; simp [go_sem, *]); walk_nrm)
        (apply QuitsD.value; (case ho => rfl); (case hw => rfl); (case hk => k_ne); (case hr => intro w; go_simp; (try simp only [q3, q4, q5, c1, c3, c4]); first | rfl | (w_num; rfl)); (case he => intro w; simp [go_sem, *]); walk_nrm)
        q_c stepG_region_end
        q_c stepG_seq
        q_reg
        (apply QuitsD.value; (case ho => rfl); (case hw => rfl); (case hk => k_ne); (case hr => intro w; go_simp; (try simp only [q3, q4, q5, c1, c3, c4]); first | rfl | (w_num; rfl)); (case he => intro w; simp [go_sem, *]); walk_nrm)
        (apply QuitsD.value; (case ho => rfl); (case hw => rfl); (case hk => k_ne); (case hr => intro w; go_simp; (try simp only [q3, q4, q5, c1, c3, c4]); first | rfl | (w_num; rfl)); (case he => intro w; simp [go_sem, *]); walk_nrm)
        (apply QuitsD.value; (case ho => rfl); (case hw => rfl); (case hk => k_ne); (case hr => intro w; go_simp; (try simp only [q3, q4, q5, c1, c3, c4]); first | rfl | (w_num; rfl)); (case he => intro w; simp [go_sem, *]); walk_nrm)
        (apply QuitsD.value; (case ho => rfl); (case hw => rfl); (case hk => k_ne); (case hr => intro w; go_simp; (try simp only [q3, q4, q5, c1, c3, c4]); first | rfl | (w_num; rfl)); (case he => intro w; simp [go_sem, *]); walk_nrm)
        q_c stepG_region_end
        q_c stepG_seq
        q_c stepG_seq
        q_reg
        (apply QuitsD.value; (case ho => rfl); (case hw => rfl); (case hk => k_ne); (case hr => intro w; go_simp; (try simp only [q3, q4, q5, c1, c3, c4]); first | rfl | (w_num; rfl)); (case he => intro w; simp [go_sem, *]); walk_nrm)
        (apply QuitsD.value; (case ho => rfl); (case hw => rfl); (case hk => k_ne); (case hr => intro w; go_simp; (try simp only [q3, q4, q5, c1, c3, c4]); first | rfl | (w_num; rfl)); (case he => intro w; simp [go_sem, *]); walk_nrm)
        (apply QuitsD.value; (case ho => rfl); (case hw => rfl); (case hk => k_ne); (case hr => intro w; go_simp; (try simp only [q3, q4, q5, c1, c3, c4]); first | rfl | (w_num; rfl)); (case he => intro w; simp [go_sem, *]); walk_nrm)
        (apply QuitsD.value; (case ho => rfl); (case hw => rfl); (case hk => k_ne); (case hr => intro w; go_simp; (try simp only [q3, q4, q5, c1, c3, c4]); first | rfl | (w_num; rfl)); (case he => intro w; simp [go_sem, *]); walk_nrm)
        (apply QuitsD.value; (case ho => rfl); (case hw => rfl); (case hk => k_ne); (case hr => intro w; go_simp; (try simp only [q3, q4, q5, c1, c3, c4]); first | rfl | (w_num; rfl)); (case he => intro w; simp [go_sem, *]); walk_nrm)
        q_skip
        q_skip
        q_skip
        q_skip
        (apply QuitsD.value; (case ho => rfl); (case hw => rfl); (case hk => k_ne); (case hr => intro w; go_simp; (try simp only [q3, q4, q5, c1, c3, c4]); first | rfl | (w_num; rfl)); (case he => intro w; simp [go_sem, *]); walk_nrm)
        q_c stepG_region_end
        q_cond false
        q_c stepG_skip
        q_c stepG_seq
        q_c stepG_seq
        q_reg
        (apply QuitsD.value; (case ho => rfl); (case hw => rfl); (case hk => k_ne); (case hr => intro w; go_simp; (try simp only [q3, q4, q5, c1, c3, c4]); first | rfl | (w_num; rfl)); (case he => intro w; simp [go_sem, *]); walk_nrm)
        (apply QuitsD.value; (case ho => rfl); (case hw => rfl); (case hk => k_ne); (case hr => intro w; go_simp; (try simp only [q3, q4, q5, c1, c3, c4]); first | rfl | (w_num; rfl)); (case he => intro w; simp [go_sem, *]); walk_nrm)
        q_c stepG_region_end
        q_cond false
        q_c stepG_skip
        q_c stepG_seq
        q_c stepG_seq
        q_reg
        (apply QuitsD.value; (case ho => rfl); (case hw => rfl); (case hk => k_ne); (case hr => intro w; go_simp; (try simp only [q3, q4, q5, c1, c3, c4]); first | rfl | (w_num; rfl)); (case he => intro w; simp [go_sem, *]); walk_nrm)
        (apply QuitsD.value; (case ho => rfl); (case hw => rfl); (case hk => k_ne); (case hr => intro w; go_simp; (try simp only [q3, q4, q5, c1, c3, c4]); first | rfl | (w_num; rfl)); (case he => intro w; simp [go_sem, *]); walk_nrm)
        (apply QuitsD.value; (case ho => rfl); (case hw => rfl); (case hk => k_ne); (case hr => intro w; go_simp; (try simp only [q3, q4, q5, c1, c3, c4]); first | rfl | (w_num; rfl)); (case he => intro w; simp [go_sem, *]); walk_nrm)
        q_skip
        q_skip
        (apply QuitsD.value; (case ho => rfl); (case hw => rfl); (case hk => k_ne); (case hr => intro w; go_simp; (try simp only [q3, q4, q5, c1, c3, c4]); first | rfl | (w_num; rfl)); (case he => intro w; simp [go_sem, *]); walk_nrm)
        (apply QuitsD.value; (case ho => rfl); (case hw => rfl); (case hk => k_ne); (case hr => intro w; go_simp; (try simp only [q3, q4, q5, c1, c3, c4]); first | rfl | (w_num; rfl)); (case he => intro w; simp [go_sem, *]); walk_nrm)
        q_skip
        q_skip
        q_skip
        q_skip
        (apply QuitsD.value; (case ho => rfl); (case hw => rfl); (case hk => k_ne); (case hr => intro w; go_simp; (try simp only [q3, q4, q5, c1, c3, c4]); first | rfl | (w_num; rfl)); (case he => intro w; simp [go_sem, *]); walk_nrm)
        q_c stepG_region_end
        q_cond false
        q_c stepG_skip
        q_c stepG_seq
        q_c stepG_seq
        q_reg
        (apply QuitsD.value; (case ho => rfl); (case hw => rfl); (case hk => k_ne); (case hr => intro w; go_simp; (try simp only [q3, q4, q5, c1, c3, c4]); first | rfl | (w_num; rfl)); (case he => intro w; simp [go_sem, *]); walk_nrm)
        (apply QuitsD.value; (case ho => rfl); (case hw => rfl); (case hk => k_ne); (case hr => intro w; go_simp; (try simp only [q3, q4, q5, c1, c3, c4]); first | rfl | (w_num; rfl)); (case he => intro w; simp [go_sem, *]); walk_nrm)
        (apply QuitsD.value; (case ho => rfl); (case hw => rfl); (case hk => k_ne); (case hr => intro w; go_simp; (try simp only [q3, q4, q5, c1, c3, c4]); first | rfl | (w_num; rfl)); (case he => intro w; simp [go_sem, *]); walk_nrm)
        (apply QuitsD.value; (case ho => rfl); (case hw => rfl); (case hk => k_ne); (case hr => intro w; go_simp; (try simp only [q3, q4, q5, c1, c3, c4]); first | rfl | (w_num; rfl)); (case he => intro w; simp [go_sem, *]); walk_nrm)
        (apply QuitsD.value; (case ho => rfl); (case hw => rfl); (case hk => k_ne); (case hr => intro w; go_simp; (try simp only [q3, q4, q5, c1, c3, c4]); first | rfl | (w_num; rfl)); (case he => intro w; simp [go_sem, *]); walk_nrm)
        (apply QuitsD.value; (case ho => rfl); (case hw => rfl); (case hk => k_ne); (case hr => intro w; go_simp; (try simp only [q3, q4, q5, c1, c3, c4]); first | rfl | (w_num; rfl)); (case he => intro w; simp [go_sem, *]); walk_nrm)
        q_c stepG_region_end
        q_cond true
        q_c stepG_ret'
        q_enable
        q_leave0 H.f_add
        exact hT
      · have q4 : decide (0 < (v : Int)) = true := decide_eq_true (by omega)
        have q5 : ((v : Int) == 0) = false := by simp; omega
        walk_nrm
        (apply QuitsD.value; (case ho => rfl); (case hw => rfl); (case hk => k_ne); (case hr => intro w; go_simp; (try simp only [q3, q4, q5, c1, c3, c4]); first | rfl | (w_num; rfl)); (case he => intro w; simp [go_sem, *]); walk_nrm)
        q_c stepG_region_end
        q_c stepG_ret'
        q_leave1 H.f_uAdd
        (apply QuitsD.value; (case ho => rfl); (case hw => rfl); (case hk => k_ne); (case hr => intro w; go_simp; (try simp only [q3, q4, q5, c1, c3, c4]); first | rfl | (w_num; rfl)); (case he => intro w; simp [go_sem, *]); walk_nrm)
        q_c stepG_region_end
        q_c stepG_seq
        q_c stepG_seq
        q_reg
        (apply QuitsD.value; (case ho => rfl); (case hw => rfl); (case hk => k_ne); (case hr => intro w; go_simp; (try simp only [q3, q4, q5, c1, c3, c4]); first | rfl | (w_num; rfl)); (case he => intro w; simp [go_sem, *]); walk_nrm)
        (apply QuitsD.value; (case ho => rfl); (case hw => rfl); (case hk => k_ne); (case hr => intro w; go_simp; (try simp only [q3, q4, q5, c1, c3, c4]); first | rfl | (w_num; rfl)); (case he => intro w; simp [go_sem, *]); walk_nrm)
        (apply QuitsD.value; (case ho => rfl); (case hw => rfl); (case hk => k_ne); (case hr => intro w; go_simp; (try simp only [q3, q4, q5, c1, c3, c4]); first | rfl | (w_num; rfl)); (case he => intro w; simp [go_sem, *]); walk_nrm)
        (apply QuitsD.value; (case ho => rfl); (case hw => rfl); (case hk => k_ne); (case hr => intro w; go_simp; (try simp only [q3, q4, q5, c1, c3, c4]); first | rfl | (w_num; rfl)); (case he => intro w; simp [go_sem, *]); walk_nrm)
        q_skip
        q_skip
        (apply QuitsD.value; (case ho => rfl); (case hw => rfl); (case hk => k_ne); (case hr => intro w; go_simp; (try simp only [q3, q4, q5, c1, c3, c4]); first | rfl | (w_num; rfl)); (case he => intro w; simp [go_sem, *]); walk_nrm)
        q_c stepG_region_end
        q_cond false
        q_c stepG_skip
        q_c stepG_seq
        q_reg
        (apply QuitsD.value; (case ho => rfl); (case hw => rfl); (case hk => k_ne); (case hr => intro w; go_simp; (try simp only [q3, q4, q5, c1, c3, c4]); first | rfl | (w_num; rfl)); (case he => intro w; simp [go_sem, *]); walk_nrm)
        (apply QuitsD.value; (case ho => rfl); (case hw => rfl); (case hk => k_ne); (case hr => intro w; go_simp; (try simp only [q3, q4, q5, c1, c3, c4]); first | rfl | (w_num; rfl)); (case he => intro w; simp [go_sem, *]); walk_nrm)
        (apply QuitsD.value; (case ho => rfl); (case hw => rfl); (case hk => k_ne); (case hr => intro w; go_simp; (try simp only [q3, q4, q5, c1, c3, c4]); first | rfl | (w_num; rfl)); (case he => intro w; simp [go_sem, *]); walk_nrm)
        (apply QuitsD.value; (case ho => rfl); (case hw => rfl); (case hk => k_ne); (case hr => intro w; go_simp; (try simp only [q3, q4, q5, c1, c3, c4]); first | rfl | (w_num; rfl)); (case he => intro w; simp [go_sem, *]); walk_nrm)
        q_c stepG_region_end
        q_c stepG_seq
        q_reg
        (apply QuitsD.value; (case ho => rfl); (case hw => rfl); (case hk => k_ne); (case hr => intro w; go_simp; (try simp only [q3, q4, q5, c1, c3, c4]); first | rfl | (w_num; rfl)); (case he => intro w; simp [go_sem, *]); walk_nrm)
        (apply QuitsD.value; (case ho => rfl); (case hw => rfl); (case hk => k_ne); (case hr => intro w; go_simp; (try simp only [q3, q4, q5, c1, c3, c4]); first | rfl | (w_num; rfl)); (case he => intro w; simp [go_sem, *]); walk_nrm)
        (apply QuitsD.value; (case ho => rfl); (case hw => rfl); (case hk => k_ne); (case hr => intro w; go_simp; (try simp only [q3, q4, q5, c1, c3, c4]); first | rfl | (w_num; rfl)); (case he => intro w; simp [go_sem, *]); walk_nrm)
        (apply QuitsD.value; (case ho => rfl); (case hw => rfl); (case hk => k_ne); (case hr => intro w; go_simp; (try simp only [q3, q4, q5, c1, c3, c4]); first | rfl | (w_num; rfl)); (case he => intro w; simp [go_sem, *]); walk_nrm)
        q_c stepG_region_end
        q_c stepG_seq
        q_c stepG_seq
        q_reg
        (apply QuitsD.value; (case ho => rfl); (case hw => rfl); (case hk => k_ne); (case hr => intro w; go_simp; (try simp only [q3, q4, q5, c1, c3, c4]); first | rfl | (w_num; rfl)); (case he => intro w; simp [go_sem, *]); walk_nrm)
        (apply QuitsD.value; (case ho => rfl); (case hw => rfl); (case hk => k_ne); (case hr => intro w; go_simp; (try simp only [q3, q4, q5, c1, c3, c4]); first | rfl | (w_num; rfl)); (case he => intro w; simp [go_sem, *]); walk_nrm)
        (apply QuitsD.value; (case ho => rfl); (case hw => rfl); (case hk => k_ne); (case hr => intro w; go_simp; (try simp only [q3, q4, q5, c1, c3, c4]); first | rfl | (w_num; rfl)); (case he => intro w; simp [go_sem, *]); walk_nrm)
        (apply QuitsD.value; (case ho => rfl); (case hw => rfl); (case hk => k_ne); (case hr => intro w; go_simp; (try simp only [q3, q4, q5, c1, c3, c4]); first | rfl | (w_num; rfl)); (case he => intro w; simp [go_sem, *]); walk_nrm)
        (apply QuitsD.value; (case ho => rfl); (case hw => rfl); (case hk => k_ne); (case hr => intro w; go_simp; (try simp only [q3, q4, q5, c1, c3, c4]); first | rfl | (w_num; rfl)); (case he => intro w; simp [go_sem, *]); walk_nrm)
        q_skip
        q_skip
        q_skip
        q_skip
        (apply QuitsD.value; (case ho => rfl); (case hw => rfl); (case hk => k_ne); (case hr => intro w; go_simp; (try simp only [q3, q4, q5, c1, c3, c4]); first | rfl | (w_num; rfl)); (case he => intro w; simp [go_sem, *]); walk_nrm)
        q_c stepG_region_end
        q_cond false
        q_c stepG_skip
        q_c stepG_seq
        q_c stepG_seq
        q_reg
        (apply QuitsD.value; (case ho => rfl); (case hw => rfl); (case hk => k_ne); (case hr => intro w; go_simp; (try simp only [q3, q4, q5, c1, c3, c4]); first | rfl | (w_num; rfl)); (case he => intro w; simp [go_sem, *]); walk_nrm)
        (apply QuitsD.value; (case ho => rfl); (case hw => rfl); (case hk => k_ne); (case hr => intro w; go_simp; (try simp only [q3, q4, q5, c1, c3, c4]); first | rfl | (w_num; rfl)); (case he => intro w; simp [go_sem, *]); walk_nrm)
        q_c stepG_region_end
        q_cond false
        q_c stepG_skip
        q_c stepG_seq
        q_c stepG_seq
        q_reg
        (apply QuitsD.value; (case ho => rfl); (case hw => rfl); (case hk => k_ne); (case hr => intro w; go_simp; (try simp only [q3, q4, q5, c1, c3, c4]); first | rfl | (w_num; rfl)); (case he => intro w; simp [go_sem, *]); walk_nrm)
        (apply QuitsD.value; (case ho => rfl); (case hw => rfl); (case hk => k_ne); (case hr => intro w; go_simp; (try simp only [q3, q4, q5, c1, c3, c4]); first | rfl | (w_num; rfl)); (case he => intro w; simp [go_sem, *]); walk_nrm)
        (apply QuitsD.value; (case ho => rfl); (case hw => rfl); (case hk => k_ne); (case hr => intro w; go_simp; (try simp only [q3, q4, q5, c1, c3, c4]); first | rfl | (w_num; rfl)); (case he => intro w; simp [go_sem, *]); walk_nrm)
        q_skip
        q_skip
        (apply QuitsD.value; (case ho => rfl); (case hw => rfl); (case hk => k_ne); (case hr => intro w; go_simp; (try simp only [q3, q4, q5, c1, c3, c4]); first | rfl | (w_num; rfl)); (case he => intro w; simp [go_sem, *]); walk_nrm)
        (apply QuitsD.value; (case ho => rfl); (case hw => rfl); (case hk => k_ne); (case hr => intro w; go_simp; (try simp only [q3, q4, q5, c1, c3, c4]); first | rfl | (w_num; rfl)); (case he => intro w; simp [go_sem, *]); walk_nrm)
        q_skip
        q_skip
        q_skip
        q_skip
        (apply QuitsD.value; (case ho => rfl); (case hw => rfl); (case hk => k_ne); (case hr => intro w; go_simp; (try simp only [q3, q4, q5, c1, c3, c4]); first | rfl | (w_num; rfl)); (case he => intro w; simp [go_sem, *]); walk_nrm)
        q_c stepG_region_end
        q_cond false
        q_c stepG_skip
        q_c stepG_seq
        q_c stepG_seq
        q_reg
        (apply QuitsD.value; (case ho => rfl); (case hw => rfl); (case hk => k_ne); (case hr => intro w; go_simp; (try simp only [q3, q4, q5, c1, c3, c4]); first | rfl | (w_num; rfl)); (case he => intro w; simp [go_sem, *]); walk_nrm)
        (apply QuitsD.value; (case ho => rfl); (case hw => rfl); (case hk => k_ne); (case hr => intro w; go_simp; (try simp only [q3, q4, q5, c1, c3, c4]); first | rfl | (w_num; rfl)); (case he => intro w; simp [go_sem, *]); walk_nrm)
        (apply QuitsD.value; (case ho => rfl); (case hw => rfl); (case hk => k_ne); (case hr => intro w; go_simp; (try simp only [q3, q4, q5, c1, c3, c4]); first | rfl | (w_num; rfl)); (case he => intro w; simp [go_sem, *]); walk_nrm)
        q_skip
        q_skip
        (apply QuitsD.value; (case ho => rfl); (case hw => rfl); (case hk => k_ne); (case hr => intro w; go_simp; (try simp only [q3, q4, q5, c1, c3, c4]); first | rfl | (w_num; rfl)); (case he => intro w; simp [go_sem, *]); walk_nrm)
        q_c stepG_region_end
        q_cond true
        q_c stepG_ret'
        q_enable
        q_leave0 H.f_add
        exact hT
    · replace b2 : bits .and .u64 S 2147483647 = 1 := b2
      clear c2
      have hvp : 0 < v := by omega
      have q4 : decide (0 < (v : Int)) = true := decide_eq_true (by omega)
      have q5 : ((v : Int) == 0) = false := by simp; omega
      walk_nrm
      (apply QuitsD.value; (case ho => rfl); (case hw => rfl); (case hk => k_ne); (case hr => intro w; go_simp; (try simp only [q3, q4, q5, c1, c3, c4]); first | rfl | (w_num; rfl)); (case he => intro w; simp [go_sem, *]); walk_nrm)
      q_c stepG_region_end
      q_c stepG_ret'
      q_leave1 H.f_uAdd
      (apply QuitsD.value; (case ho => rfl); (case hw => rfl); (case hk => k_ne); (case hr => intro w; go_simp; (try simp only [q3, q4, q5, c1, c3, c4]); first | rfl | (w_num; rfl)); (case he => intro w; simp [go_sem, *]); walk_nrm)
      q_c stepG_region_end
      q_c stepG_seq
      q_c stepG_seq
      q_reg
      (apply QuitsD.value; (case ho => rfl); (case hw => rfl); (case hk => k_ne); (case hr => intro w; go_simp; (try simp only [q3, q4, q5, c1, c3, c4]); first | rfl | (w_num; rfl)); (case he => intro w; simp [go_sem, *]); walk_nrm)
      (apply QuitsD.value; (case ho => rfl); (case hw => rfl); (case hk => k_ne); (case hr => intro w; go_simp; (try simp only [q3, q4, q5, c1, c3, c4]); first | rfl | (w_num; rfl)); (case he => intro w; simp [go_sem, *]); walk_nrm)
      (apply QuitsD.value; (case ho => rfl); (case hw => rfl); (case hk => k_ne); (case hr => intro w; go_simp; (try simp only [q3, q4, q5, c1, c3, c4]); first | rfl | (w_num; rfl)); (case he => intro w; simp [go_sem, *]); walk_nrm)
      (apply QuitsD.value; (case ho => rfl); (case hw => rfl); (case hk => k_ne); (case hr => intro w; go_simp; (try simp only [q3, q4, q5, c1, c3, c4]); first | rfl | (w_num; rfl)); (case he => intro w; simp [go_sem, *]); walk_nrm)
      q_skip
      q_skip
      (apply QuitsD.value; (case ho => rfl); (case hw => rfl); (case hk => k_ne); (case hr => intro w; go_simp; (try simp only [q3, q4, q5, c1, c3, c4]); first | rfl | (w_num; rfl)); (case he => intro w; simp [go_sem, *]); walk_nrm)
      q_c stepG_region_end
      q_cond false
      q_c stepG_skip
      q_c stepG_seq
      q_reg
      (apply QuitsD.value; (case ho => rfl); (case hw => rfl); (case hk => k_ne); (case hr => intro w; go_simp; (try simp only [q3, q4, q5, c1, c3, c4]); first | rfl | (w_num; rfl)); (case he => intro w; simp [go_sem, *]); walk_nrm)
      (apply QuitsD.value; (case ho => rfl); (case hw => rfl); (case hk => k_ne); (case hr => intro w; go_simp; (try simp only [q3, q4, q5, c1, c3, c4]); first | rfl | (w_num; rfl)); (case he => intro w; simp [go_sem, *]); walk_nrm)
      (apply QuitsD.value; (case ho => rfl); (case hw => rfl); (case hk => k_ne); (case hr => intro w; go_simp; (try simp only [q3, q4, q5, c1, c3, c4]); first | rfl | (w_num; rfl)); (case he => intro w; simp [go_sem, *]); walk_nrm)
      (apply QuitsD.value; (case ho => rfl); (case hw => rfl); (case hk => k_ne); (case hr => intro w; go_simp; (try simp only [q3, q4, q5, c1, c3, c4]); first | rfl | (w_num; rfl)); (case he => intro w; simp [go_sem, *]); walk_nrm)
      q_c stepG_region_end
      q_c stepG_seq
      q_reg
      (apply QuitsD.value; (case ho => rfl); (case hw => rfl); (case hk => k_ne); (case hr => intro w; go_simp; (try simp only [q3, q4, q5, c1, c3, c4]); first | rfl | (w_num; rfl)); (case he => intro w; simp [go_sem, *]); walk_nrm)
      (apply QuitsD.value; (case ho => rfl); (case hw => rfl); (case hk => k_ne); (case hr => intro w; go_simp; (try simp only [q3, q4, q5, c1, c3, c4]); first | rfl | (w_num; rfl)); (case he => intro w; simp [go_sem, *]); walk_nrm)
      (apply QuitsD.value; (case ho => rfl); (case hw => rfl); (case hk => k_ne); (case hr => intro w; go_simp; (try simp only [q3, q4, q5, c1, c3, c4]); first | rfl | (w_num; rfl)); (case he => intro w; simp [go_sem, *]); walk_nrm)
      (apply QuitsD.value; (case ho => rfl); (case hw => rfl); (case hk => k_ne); (case hr => intro w; go_simp; (try simp only [q3, q4, q5, c1, c3, c4]); first | rfl | (w_num; rfl)); (case he => intro w; simp [go_sem, *]); walk_nrm)
      q_c stepG_region_end
      q_c stepG_seq
      q_c stepG_seq
      q_reg
      (apply QuitsD.value; (case ho => rfl); (case hw => rfl); (case hk => k_ne); (case hr => intro w; go_simp; (try simp only [q3, q4, q5, c1, c3, c4]); first | rfl | (w_num; rfl)); (case he => intro w; simp [go_sem, *]); walk_nrm)
      (apply QuitsD.value; (case ho => rfl); (case hw => rfl); (case hk => k_ne); (case hr => intro w; go_simp; (try simp only [q3, q4, q5, c1, c3, c4]); first | rfl | (w_num; rfl)); (case he => intro w; simp [go_sem, *]); walk_nrm)
      (apply QuitsD.value; (case ho => rfl); (case hw => rfl); (case hk => k_ne); (case hr => intro w; go_simp; (try simp only [q3, q4, q5, c1, c3, c4]); first | rfl | (w_num; rfl)); (case he => intro w; simp [go_sem, *]); walk_nrm)
      (apply QuitsD.value; (case ho => rfl); (case hw => rfl); (case hk => k_ne); (case hr => intro w; go_simp; (try simp only [q3, q4, q5, c1, c3, c4]); first | rfl | (w_num; rfl)); (case he => intro w; simp [go_sem, *]); walk_nrm)
      (apply QuitsD.value; (case ho => rfl); (case hw => rfl); (case hk => k_ne); (case hr => intro w; go_simp; (try simp only [q3, q4, q5, c1, c3, c4]); first | rfl | (w_num; rfl)); (case he => intro w; simp [go_sem, *]); walk_nrm)
      q_skip
      q_skip
      q_skip
      q_skip
      (apply QuitsD.value; (case ho => rfl); (case hw => rfl); (case hk => k_ne); (case hr => intro w; go_simp; (try simp only [q3, q4, q5, c1, c3, c4]); first | rfl | (w_num; rfl)); (case he => intro w; simp [go_sem, *]); walk_nrm)
      q_c stepG_region_end
      q_cond false
      q_c stepG_skip
      q_c stepG_seq
      q_c stepG_seq
      q_reg
      (apply QuitsD.value; (case ho => rfl); (case hw => rfl); (case hk => k_ne); (case hr => intro w; go_simp; (try simp only [q3, q4, q5, c1, c3, c4]); first | rfl | (w_num; rfl)); (case he => intro w; simp [go_sem, *]); walk_nrm)
      (apply QuitsD.value; (case ho => rfl); (case hw => rfl); (case hk => k_ne); (case hr => intro w; go_simp; (try simp only [q3, q4, q5, c1, c3, c4]); first | rfl | (w_num; rfl)); (case he => intro w; simp [go_sem, *]); walk_nrm)
      q_c stepG_region_end
      q_cond false
      q_c stepG_skip
      q_c stepG_seq
      q_c stepG_seq
      q_reg
      (apply QuitsD.value; (case ho => rfl); (case hw => rfl); (case hk => k_ne); (case hr => intro w; go_simp; (try simp only [q3, q4, q5, c1, c3, c4]); first | rfl | (w_num; rfl)); (case he => intro w; simp [go_sem, *]); walk_nrm)
      (apply QuitsD.value; (case ho => rfl); (case hw => rfl); (case hk => k_ne); (case hr => intro w; go_simp; (try simp only [q3, q4, q5, c1, c3, c4]); first | rfl | (w_num; rfl)); (case he => intro w; simp [go_sem, *]); walk_nrm)
      (apply QuitsD.value; (case ho => rfl); (case hw => rfl); (case hk => k_ne); (case hr => intro w; go_simp; (try simp only [q3, q4, q5, c1, c3, c4]); first | rfl | (w_num; rfl)); (case he => intro w; simp [go_sem, *]); walk_nrm)
      (apply QuitsD.value; (case ho => rfl); (case hw => rfl); (case hk => k_ne); (case hr => intro w; go_simp; (try simp only [q3, q4, q5, c1, c3, c4]); first | rfl | (w_num; rfl)); (case he => intro w; simp [go_sem, *]); walk_nrm)
      (apply QuitsD.value; (case ho => rfl); (case hw => rfl); (case hk => k_ne); (case hr => intro w; go_simp; (try simp only [q3, q4, q5, c1, c3, c4]); first | rfl | (w_num; rfl)); (case he => intro w; simp [go_sem, *]); walk_nrm)
      (apply QuitsD.value; (case ho => rfl); (case hw => rfl); (case hk => k_ne); (case hr => intro w; go_simp; (try simp only [q3, q4, q5, c1, c3, c4]); first | rfl | (w_num; rfl)); (case he => intro w; simp [go_sem, *]); walk_nrm)
      (apply QuitsD.value; (case ho => rfl); (case hw => rfl); (case hk => k_ne); (case hr => intro w; go_simp; (try simp only [q3, q4, q5, c1, c3, c4]); first | rfl | (w_num; rfl)); (case he => intro w; simp [go_sem, *]); walk_nrm)
      q_skip
      q_skip
      q_skip
      q_skip
      (apply QuitsD.value; (case ho => rfl); (case hw => rfl); (case hk => k_ne); (case hr => intro w; go_simp; (try simp only [q3, q4, q5, c1, c3, c4]); first | rfl | (w_num; rfl)); (case he => intro w; simp [go_sem, *]); walk_nrm)
      q_c stepG_region_end
      q_cond false
      q_c stepG_skip
      q_c stepG_seq
      q_c stepG_seq
      q_reg
      (apply QuitsD.value; (case ho => rfl); (case hw => rfl); (case hk => k_ne); (case hr => intro w; go_simp; (try simp only [q3, q4, q5, c1, c3, c4]); first | rfl | (w_num; rfl)); (case he => intro w; simp [go_sem, *]); walk_nrm)
      (apply QuitsD.value; (case ho => rfl); (case hw => rfl); (case hk => k_ne); (case hr => intro w; go_simp; (try simp only [q3, q4, q5, c1, c3, c4]); first | rfl | (w_num; rfl)); (case he => intro w; simp [go_sem, *]); walk_nrm)
      (apply QuitsD.value; (case ho => rfl); (case hw => rfl); (case hk => k_ne); (case hr => intro w; go_simp; (try simp only [q3, q4, q5, c1, c3, c4]); first | rfl | (w_num; rfl)); (case he => intro w; simp [go_sem, *]); walk_nrm)
      q_skip
      q_skip
      (apply QuitsD.value; (case ho => rfl); (case hw => rfl); (case hk => k_ne); (case hr => intro w; go_simp; (try simp only [q3, q4, q5, c1, c3, c4]); first | rfl | (w_num; rfl)); (case he => intro w; simp [go_sem, *]); walk_nrm)
      q_c stepG_region_end
      q_cond true
      q_c stepG_ret'
      q_enable
      q_leave0 H.f_add
      exact hT
end
end Go.Eng
/- The library's sync.WaitGroup, walked beside others: Done, Wait. -/
set_option linter.unusedSimpArgs false
set_option linter.unusedVariables false
set_option linter.unusedSectionVars false
namespace Go.Eng
open Go Go.Conc Go.RowKit Go.Conc.Lib Go.ConcR.Gen Go.ConcN.Gen
open Go.ConcN hiding upd upd_same upd_ne AtD4 AtD3 AtD2 AtD1 AtK1 AtR0 AtAcq AtKe AtW4 AtW3 AtW2 AtW1 AtKd WSit AtA1
open Go.ConcR (KK wgBlock WgAt stA smA rd wr DC0 Payload)

section
variable [Payload] {P : Program} {L : WgLink} {Φ : Ph} {cs : List Frame} {qt : Nat}

theorem gor_eq (fr : Frame) (cs : List Frame) : gor fr cs = G fr cs := rfl

set_option maxRecDepth 100000 in
set_option maxHeartbeats 8000000 in
theorem walkDone (H : WgLib P L) (hCW : Φ.C ≠ Φ.Wg) {c : Frame} (hcm : c.mode = .returning) (hT : QuitsD P qt 0 (G c cs)) (w : World) (hK : Φ.J w) :
    Goes P false (fun _ w₁ => Φ.J w₁) DC0 (AtR0 P Φ) 103 (G ((baseD L.done).at ⟨#[.pointer (some ⟨Φ.Wg, 0, none⟩), undef, undef, undef], []⟩ [.code (body_done L)]) (c :: cs)) w := by
  lib_facts
  have hA := @walkNeg _ P L Φ
  simp only [body_done, body_add, doneFn, addFn, Option.getD_some] at hA ⊢
  u_reg jl hK
  u_op jl hK
  u_in jl hK
  refine goes_call rfl rfl (by k_ne) rfl H.f_add (nm_add L) rfl ⟨by u_nil, ?_⟩
  walk_nrmf addFn
  refine hA (qt := qt + 3) H hCW ?_ _ hK
  q_c stepG_region_end
  q_c stepG_end
  exact QuitsD.leaveD rfl rfl H.f_done rfl hcm hT

variable {b₀ : Frame} {a₀ : Act} {ops₀ : Array Oper} {i₀ : Nat} {rest₀ : List Nat} {k₀ : List Item}

/-- Behind Wait's last said mark: nothing but the way back to the caller. -/
def Back (P : Program) (fr₁ : Frame) (cs₁ : List Frame) (fr : Frame) (cs : List Frame) : Prop :=
  ∀ (S : Shared) (Post : Frame → List Frame → Heap → Prop) (h : Heap), Safe P S Post fr₁ cs₁ h → Safe P S Post fr cs h

section
variable {S : Shared} {Post : Frame → List Frame → Heap → Prop} {h : Heap} {b : Frame} {a : Act} {k : List Item}
theorem sf_value {ops : Array Oper} {i : Nat} {rest : List Nat} {o : Oper} (v : Value) (ho : ops[i]? = some o) (hw : Region.wanted o (yielded ops a.tmps) = true) (hk : b.kind ≠ .early)
    (hr : ∀ w, (execOp a.eval o).run P w = .ok (.value v) w) (he : ∀ w, (execOp a.eval o).events P w #[] = #[])
    (K : Safe P S Post (b.at (a.put o.dst v) (.inRegion ops rest :: k)) cs h) : Safe P S Post (b.at a (.inRegion ops (i :: rest) :: k)) cs h :=
  .silent (fun w m => by show stepG P m (G _ _) w = _; rw [stepG_value ho hw hk (hr w)]; unfold listed; rw [he w, seen_none]; rfl) K
theorem sf_unwanted {ops : Array Oper} {i : Nat} {rest : List Nat} {o : Oper} (ho : ops[i]? = some o) (hw : Region.wanted o (yielded ops a.tmps) = false)
    (K : Safe P S Post (b.at (a.put o.dst undef) (.inRegion ops rest :: k)) cs h) : Safe P S Post (b.at a (.inRegion ops (i :: rest) :: k)) cs h :=
  .silent (fun _ _ => stepG_unwanted ho hw) K
theorem sf_leave0 {fn : Func} {b₀ : Frame} {a₀ : Act} {ops : Array Oper} {i : Nat} {rest : List Nat} {todo : List Item} (hn : b.kind = .normal) (hd : a.defers = []) (hf : P.funcs[b.fn]? = some fn) (hr : fn.results = #[])
    (K : Safe P S Post (b₀.at (a₀.put ((ops[i]?).bind (·.dst)) (.tuple #[])) (.inRegion ops rest :: k)) cs h) : Safe P S Post { b.at a todo with mode := .returning } (b₀.at a₀ (.inRegion ops (i :: rest) :: k) :: cs) h :=
  .silent (fun w m => by show stepG P m (G _ _) w = _; rw [stepG_leave hn hd hf (results_none hr _ P w) (events_results_none hr _ _), Frame.finish_at]; rfl) K
end

def AnchW (L : WgLink) (Wg : Nat) (c : Frame) (cs : List Frame) (g : Goroutine) : Prop :=
  ∃ T : Array Value, g = G ((base L.wait).at ⟨T, []⟩ [.code (L7 L), .inLoop (L7 L), .inBlock 0]) (c :: cs) ∧ T.size = 84 ∧ T[0]? = some (.pointer (some ⟨Wg, 0, none⟩))

set_option maxRecDepth 100000 in
set_option maxHeartbeats 8000000 in
theorem walkRound (H : WgLib P L) (hCW : Φ.C ≠ Φ.Wg) (g : Goroutine) (h : AnchW L Φ.Wg (b₀.at a₀ (.inRegion ops₀ (i₀ :: rest₀) :: k₀)) cs g) (w : World) (hK : Φ.J w) :
    Goes P true (fun _ w₁ => Φ.J w₁) DC0 (AtW1 P Φ (Back P (b₀.at (a₀.put ((ops₀[i₀]?).bind (·.dst)) (.tuple #[])) (.inRegion ops₀ rest₀ :: k₀)) cs) (AnchW L Φ.Wg (b₀.at a₀ (.inRegion ops₀ (i₀ :: rest₀) :: k₀)) cs)) 100 g w := by
  lib_facts
  obtain ⟨T, rfl, hT84, t0⟩ := h
  obtain ⟨v0, v1, v2, v3, v4, v5, v6, v7, v8, v9, v10, v11, v12, v13, v14, v15, v16, v17, v18, v19, v20, v21, v22, v23, v24, v25, v26, v27, v28, v29, v30, v31, v32, v33, v34, v35, v36, v37, v38, v39, v40, v41, v42, v43, v44, v45, v46, v47, v48, v49, v50, v51, v52, v53, v54, v55, v56, v57, v58, v59, v60, v61, v62, v63, v64, v65, v66, v67, v68, v69, v70, v71, v72, v73, v74, v75, v76, v77, v78, v79, v80, v81, v82, v83, rfl⟩ := array84 T hT84
  simp only [List.getElem?_toArray, List.getElem?_cons_zero, Option.some.injEq] at t0
  subst t0
  simp only [L7, body_wait, waitFn, Option.getD_some]
  u_c stepG_block jl hK
  u_c stepG_seq jl hK
  u_reg jl hK
  u_op jl hK
  u_op jl hK
  u_op jl hK
  u_call H.f_uLoad (nm_uLoad L) uLoadFn jl hK
  u_c stepG_seq jl hK
  u_reg jl hK
  u_op jl hK
  u_c stepG_region_end jl hK
  u_c stepG_seq jl hK
  u_reg jl hK
  u_op jl hK
  u_op jl hK
  u_op jl hK
  refine Goes.stop (fun w₁ h₁ => ?_)
  replace hK := jl hK h₁
  clear h₁
  refine ⟨rfl, fun v hv hw => ?_⟩
  rcases Nat.eq_zero_or_pos v with rfl | hvp
  · replace hw : WgAt Φ.ty Φ.Wg w₁ 0 0 := by simpa using hw
    refine ⟨_, stepG_load_atomic (v := 0) rfl rfl (by k_ne) rfl H.f_loadU64 (x_loadU64_n L) (x_loadU64_b L) (x_loadU64_x L) .u64 (x_loadU64_f L) rfl hw.cellSt, fun _ => ⟨100, Sil.of (w := w₁) ?_⟩, fun h => absurd rfl h⟩
    clear hw
    walk_nrm
    u_op jl hK
    u_c stepG_region_end jl hK
    u_c stepG_ret' jl hK
    u_leave1 H.f_uLoad jl hK
    u_op jl hK
    u_c stepG_region_end jl hK
    u_c stepG_seq jl hK
    u_reg jl hK
    u_op jl hK
    u_op jl hK
    u_op jl hK
    u_op jl hK
    u_c stepG_region_end jl hK
    u_c stepG_seq jl hK
    u_reg jl hK
    u_op jl hK
    u_op jl hK
    u_op jl hK
    u_op jl hK
    u_c stepG_region_end jl hK
    u_c stepG_seq jl hK
    u_c stepG_seq jl hK
    u_reg jl hK
    u_op jl hK
    u_op jl hK
    u_c stepG_region_end jl hK
    u_cond true jl hK
    u_c stepG_seq jl hK
    u_cond true jl hK
    u_c stepG_seq jl hK
    u_reg jl hK
    refine Goes.stop (fun w₁ h₁ => ?_)
    replace hK := jl hK h₁
    clear h₁
    refine ⟨rfl, _, stepG_mark0 .enable (by simp) rfl rfl (by k_ne) rfl H.f_enable (x_enable_n L) (x_enable_b L) (x_enable_x L) (x_enable_f L), 100, Sil.of (w := w₁) ?_⟩
    walk_nrm
    u_c stepG_region_end jl hK
    u_reg jl hK
    u_op jl hK
    u_conv H.underlying_tWgP H.room_tWg (J.cell0 hK).choose_spec jl hK
    refine Goes.stop (fun w₁ h₁ => ?_)
    replace hK := jl hK h₁
    clear h₁
    refine ⟨rfl, _, _, stepG_markAt .acquire (by simp) rfl rfl (by k_ne) rfl H.f_acquire (x_acquire_n L) (x_acquire_b L) (x_acquire_x L) (x_acquire_f L) (by simp [Act.eval, stA]), fun S Post hh K => ?_⟩
    clear hK
    walk_nrm
    refine Safe.silent (fun _ _ => stepG_region_end) ?_
    refine Safe.silent (fun _ _ => stepG_seq) ?_
    refine Safe.silent (fun _ _ => stepG_seq) ?_
    (refine Safe.silent (fun _ _ => stepG_region) ?_; simp only [List.size_toArray, List.length_cons, List.length_nil, Nat.reduceAdd, Nat.zero_add, List.range, List.range.loop])
    (apply sf_value; (case ho => rfl); (case hw => rfl); (case hk => k_ne); (case hr => intro w; go_simp; (try simp only [q3, q4, q5, q6, a1, b1, b2, c1, c3, c4]); first | rfl | (w_num; rfl)); (case he => intro w; simp [go_sem, *]); walk_nrm)
    (apply sf_value; (case ho => rfl); (case hw => rfl); (case hk => k_ne); (case hr => intro w; go_simp; (try simp only [q3, q4, q5, q6, a1, b1, b2, c1, c3, c4]); first | rfl | (w_num; rfl)); (case he => intro w; simp [go_sem, *]); walk_nrm)
    (apply sf_value; (case ho => rfl); (case hw => rfl); (case hk => k_ne); (case hr => intro w; go_simp; (try simp only [q3, q4, q5, q6, a1, b1, b2, c1, c3, c4]); first | rfl | (w_num; rfl)); (case he => intro w; simp [go_sem, *]); walk_nrm)
    (apply sf_value; (case ho => rfl); (case hw => rfl); (case hk => k_ne); (case hr => intro w; go_simp; (try simp only [q3, q4, q5, q6, a1, b1, b2, c1, c3, c4]); first | rfl | (w_num; rfl)); (case he => intro w; simp [go_sem, *]); walk_nrm)
    (apply sf_value; (case ho => rfl); (case hw => rfl); (case hk => k_ne); (case hr => intro w; go_simp; (try simp only [q3, q4, q5, q6, a1, b1, b2, c1, c3, c4]); first | rfl | (w_num; rfl)); (case he => intro w; simp [go_sem, *]); walk_nrm)
    (apply sf_value; (case ho => rfl); (case hw => rfl); (case hk => k_ne); (case hr => intro w; go_simp; (try simp only [q3, q4, q5, q6, a1, b1, b2, c1, c3, c4]); first | rfl | (w_num; rfl)); (case he => intro w; simp [go_sem, *]); walk_nrm)
    (apply sf_value; (case ho => rfl); (case hw => rfl); (case hk => k_ne); (case hr => intro w; go_simp; (try simp only [q3, q4, q5, q6, a1, b1, b2, c1, c3, c4]); first | rfl | (w_num; rfl)); (case he => intro w; simp [go_sem, *]); walk_nrm)
    (apply sf_value; (case ho => rfl); (case hw => rfl); (case hk => k_ne); (case hr => intro w; go_simp; (try simp only [q3, q4, q5, q6, a1, b1, b2, c1, c3, c4]); first | rfl | (w_num; rfl)); (case he => intro w; simp [go_sem, *]); walk_nrm)
    (refine sf_unwanted rfl rfl ?_; walk_nrm)
    (refine sf_unwanted rfl rfl ?_; walk_nrm)
    (apply sf_value; (case ho => rfl); (case hw => rfl); (case hk => k_ne); (case hr => intro w; go_simp; (try simp only [q3, q4, q5, q6, a1, b1, b2, c1, c3, c4]); first | rfl | (w_num; rfl)); (case he => intro w; simp [go_sem, *]); walk_nrm)
    refine Safe.silent (fun _ _ => stepG_region_end) ?_
    (refine Safe.silent (fun _ _ => stepG_cond (t := false) rfl) ?_; simp only [if_true, if_false, Bool.false_eq_true, ↓reduceIte])
    refine Safe.silent (fun _ _ => stepG_skip) ?_
    refine Safe.silent (fun _ _ => stepG_ret') ?_
    refine sf_leave0 rfl rfl H.f_wait rfl ?_
    exact K
  · obtain ⟨S, hS⟩ : ∃ S : Int, (v : Int) * KK = S := ⟨_, rfl⟩
    have a1 : S / 4294967296 = (v : Int) := by rw [← hS]; simp only [KK]; omega
    have b1 : bits .and .u64 S 2147483648 = 0 := by rw [← hS]; have := st_flag v 0 (by omega) (by omega); simpa [KK] using this
    have b2 : bits .and .u64 S 2147483647 = 0 := by rw [← hS]; have := st_waiters v 0 (by omega) (by omega); simpa [KK] using this
    have c1 : IntKind.i32.wrap (v : Int) = (v : Int) := by rw [IntKind.wrap_i32]; omega
    have w1 : IntKind.u64.wrap (S + 1) = S + 1 := by rw [IntKind.wrap_u64, ← hS]; simp only [KK]; omega
    have q3 : decide ((v : Int) < 0) = false := decide_eq_false (by omega)
    have q4 : decide (0 < (v : Int)) = true := decide_eq_true (by omega)
    have q5 : ((v : Int) == 0) = false := by simp; omega
    have q6 : decide ((v : Int) = 0) = false := decide_eq_false (by omega)
    rw [hS] at hw
    refine ⟨_, stepG_load_atomic (v := S) rfl rfl (by k_ne) rfl H.f_loadU64 (x_loadU64_n L) (x_loadU64_b L) (x_loadU64_x L) .u64 (x_loadU64_f L) rfl hw.cellSt, fun h0 => absurd h0 (by omega), fun _ => ⟨200, Sil.of (w := w₁) ?_⟩⟩
    clear hw
    walk_nrm
    u_op jl hK
    u_c stepG_region_end jl hK
    u_c stepG_ret' jl hK
    u_leave1 H.f_uLoad jl hK
    u_op jl hK
    u_c stepG_region_end jl hK
    u_c stepG_seq jl hK
    u_reg jl hK
    u_op jl hK
    u_op jl hK
    u_op jl hK
    u_op jl hK
    u_c stepG_region_end jl hK
    u_c stepG_seq jl hK
    u_reg jl hK
    u_op jl hK
    u_op jl hK
    u_op jl hK
    u_op jl hK
    u_c stepG_region_end jl hK
    u_c stepG_seq jl hK
    u_c stepG_seq jl hK
    u_reg jl hK
    u_op jl hK
    u_op jl hK
    u_c stepG_region_end jl hK
    u_cnd false jl hK
    u_c stepG_skip jl hK
    u_c stepG_seq jl hK
    u_reg jl hK
    u_op jl hK
    u_op jl hK
    u_op jl hK
    u_op jl hK
    u_op jl hK
    u_op jl hK
    u_call H.f_uCas (nm_uCas L) uCasFn jl hK
    u_c stepG_seq jl hK
    u_reg jl hK
    u_op jl hK
    u_c stepG_region_end jl hK
    u_c stepG_seq jl hK
    u_reg jl hK
    u_op jl hK
    u_op jl hK
    u_op jl hK
    u_op jl hK
    u_op jl hK
    refine Goes.stop (fun w₁ h₁ => ?_)
    replace hK := jl hK h₁
    clear h₁
    refine ⟨rfl, fun v' hv' hw => ⟨fun e => ?_, fun e => ?_⟩⟩
    · subst e
      rw [hS] at hw ⊢
      refine ⟨_, (stepG_cas_hit (v := S) (n := S + 1) rfl rfl (by k_ne) rfl H.f_casU64 (x_casU64_n L) (x_casU64_b L) (x_casU64_x L) .u64 (x_casU64_f L) rfl rfl rfl hw.cellSt (hw.thaw 0)).trans (by rfl), 200, Sil.of (w := w₁.setCell (stA Φ.Wg) (.int .u64 (S + 1))) ?_⟩
      replace hK := J.setSt hCW hK hw (S + 1)
      generalize w₁.setCell (stA Φ.Wg) (.int .u64 (S + 1)) = w₂ at hK
      clear hw
      walk_nrm
      u_op jl hK
      u_c stepG_region_end jl hK
      u_c stepG_ret' jl hK
      u_leave1 H.f_uCas jl hK
      u_c stepG_region_end jl hK
      u_cond true jl hK
      u_c stepG_seq jl hK
      u_c stepG_seq jl hK
      u_reg jl hK
      u_op jl hK
      u_op jl hK
      u_op jl hK
      u_op jl hK
      u_c stepG_region_end jl hK
      u_cond true jl hK
      u_reg jl hK
      u_op jl hK
      u_op jl hK
      u_op jl hK
      u_conv H.underlying_tPU32 H.room_tU32 (J.cell1 hK).choose_spec jl hK
      refine Goes.stop (fun w₁ h₁ => ?_)
      replace hK := jl hK h₁
      clear h₁
      refine ⟨rfl, _, stepG_markAt .write (by simp) rfl rfl (by k_ne) rfl H.f_raceWrite (x_raceWrite_n L) (x_raceWrite_b L) (x_raceWrite_x L) (x_raceWrite_f L) (ad := ⟨Φ.Wg, 1, none⟩) (by simp [Act.eval]), 200, Sil.of (w := w₁) ?_⟩
      walk_nrm
      u_c stepG_region_end jl hK
      u_c stepG_seq jl hK
      u_reg jl hK
      u_op jl hK
      u_c stepG_region_end jl hK
      u_c stepG_seq jl hK
      u_c stepG_seq jl hK
      u_reg jl hK
      u_op jl hK
      u_op jl hK
      u_op jl hK
      u_op jl hK
      u_skip jl hK
      u_op jl hK
      u_c stepG_region_end jl hK
      u_cond false jl hK
      u_c stepG_skip jl hK
      u_c stepG_seq jl hK
      u_reg jl hK
      u_op jl hK
      u_op jl hK
      u_op jl hK
      u_op jl hK
      refine Goes.stop (fun w₁ h₁ => ?_)
      replace hK := jl hK h₁
      clear h₁
      refine ⟨rfl, rfl, fun ⟨st, hw⟩ => stepG_semacquire_wait rfl rfl rfl H.f_semacquire (x_semacquire_n L) (x_semacquire_b L) (x_semacquire_x L) (x_semacquire_f L) (by simp [Act.eval, smA]) hw.cellSm, fun hf => ?_⟩
      refine ⟨_, (stepG_semacquire (n := 1) rfl rfl (by k_ne) rfl H.f_semacquire (x_semacquire_n L) (x_semacquire_b L) (x_semacquire_x L) (x_semacquire_f L) (by simp [Act.eval, smA]) hf.cellSm (by k_ne) (hf.thaw 1)).trans (by rfl), 200, Sil.of (w := w₁.setCell (smA Φ.Wg) (.int .u32 0)) ?_⟩
      replace hK := J.setSm hCW hK hf 0
      generalize w₁.setCell (smA Φ.Wg) (.int .u32 0) = w₂ at hK
      clear hf
      walk_nrm
      u_c stepG_region_end jl hK
      u_c stepG_seq jl hK
      u_reg jl hK
      u_op jl hK
      u_op jl hK
      u_op jl hK
      u_call H.f_uLoad (nm_uLoad L) uLoadFn jl hK
      u_c stepG_seq jl hK
      u_reg jl hK
      u_op jl hK
      u_c stepG_region_end jl hK
      u_c stepG_seq jl hK
      u_reg jl hK
      u_op jl hK
      u_op jl hK
      u_op jl hK
      refine Goes.stop (fun w₁ h₁ => ?_)
      replace hK := jl hK h₁
      clear h₁
      refine ⟨rfl, fun hw => ⟨_, stepG_load_atomic (v := 0) rfl rfl (by k_ne) rfl H.f_loadU64 (x_loadU64_n L) (x_loadU64_b L) (x_loadU64_x L) .u64 (x_loadU64_f L) rfl hw.cellSt, 200, Sil.of (w := w₁) ?_⟩⟩
      clear hw
      walk_nrm
      u_op jl hK
      u_c stepG_region_end jl hK
      u_c stepG_ret' jl hK
      u_leave1 H.f_uLoad jl hK
      u_op jl hK
      u_op jl hK
      u_c stepG_region_end jl hK
      u_c stepG_seq jl hK
      u_cond true jl hK
      u_c stepG_seq jl hK
      u_reg jl hK
      refine Goes.stop (fun w₁ h₁ => ?_)
      replace hK := jl hK h₁
      clear h₁
      refine ⟨rfl, _, stepG_mark0 .enable (by simp) rfl rfl (by k_ne) rfl H.f_enable (x_enable_n L) (x_enable_b L) (x_enable_x L) (x_enable_f L), 100, Sil.of (w := w₁) ?_⟩
      walk_nrm
      u_c stepG_region_end jl hK
      u_reg jl hK
      u_op jl hK
      u_conv H.underlying_tWgP H.room_tWg (J.cell0 hK).choose_spec jl hK
      refine Goes.stop (fun w₁ h₁ => ?_)
      replace hK := jl hK h₁
      clear h₁
      refine ⟨rfl, _, _, stepG_markAt .acquire (by simp) rfl rfl (by k_ne) rfl H.f_acquire (x_acquire_n L) (x_acquire_b L) (x_acquire_x L) (x_acquire_f L) (by simp [Act.eval, stA]), fun S Post hh K => ?_⟩
      clear hK
      walk_nrm
      refine Safe.silent (fun _ _ => stepG_region_end) ?_
      refine Safe.silent (fun _ _ => stepG_seq) ?_
      refine Safe.silent (fun _ _ => stepG_seq) ?_
      (refine Safe.silent (fun _ _ => stepG_region) ?_; simp only [List.size_toArray, List.length_cons, List.length_nil, Nat.reduceAdd, Nat.zero_add, List.range, List.range.loop])
      (apply sf_value; (case ho => rfl); (case hw => rfl); (case hk => k_ne); (case hr => intro w; go_simp; (try simp only [q3, q4, q5, q6, a1, b1, b2, c1, c3, c4]); first | rfl | (w_num; rfl)); (case he => intro w; simp [go_sem, *]); walk_nrm)
      refine Safe.silent (fun _ _ => stepG_region_end) ?_
      (refine Safe.silent (fun _ _ => stepG_cond (t := false) rfl) ?_; simp only [if_true, if_false, Bool.false_eq_true, ↓reduceIte])
      refine Safe.silent (fun _ _ => stepG_skip) ?_
      refine Safe.silent (fun _ _ => stepG_ret') ?_
      refine sf_leave0 rfl rfl H.f_wait rfl ?_
      exact K
    · refine ⟨_, stepG_cas_miss (v := (v' : Int) * KK) (old := S) (n := S + 1) rfl rfl (by k_ne) rfl H.f_casU64 (x_casU64_n L) (x_casU64_b L) (x_casU64_x L) .u64 (x_casU64_f L) rfl rfl rfl hw.cellSt (hw.thaw 0) (by rw [← hS]; simp only [KK]; omega), 100, Sil.of (w := w₁) ?_⟩
      clear hw
      walk_nrm
      u_op jl hK
      u_c stepG_region_end jl hK
      u_c stepG_ret' jl hK
      u_leave1 H.f_uCas jl hK
      u_c stepG_region_end jl hK
      u_cond false jl hK
      u_c stepG_skip jl hK
      u_c stepG_inBlock jl hK
      u_c stepG_inLoop jl hK
      exact Goes.stop fun _ _ => ⟨_, rfl, by simp, by simp⟩

set_option maxRecDepth 100000 in
set_option maxHeartbeats 8000000 in
theorem walkWait (H : WgLib P L) (hCW : Φ.C ≠ Φ.Wg) (w : World) (hK : Φ.J w) :
    WaitOp P Φ (Back P (b₀.at (a₀.put ((ops₀[i₀]?).bind (·.dst)) (.tuple #[])) (.inRegion ops₀ rest₀ :: k₀)) cs)
      ((base L.wait).at ⟨#[.pointer (some ⟨Φ.Wg, 0, none⟩), undef, undef, undef, undef, undef, undef, undef, undef, undef, undef, undef, undef, undef, undef, undef, undef, undef, undef, undef, undef, undef, undef, undef, undef, undef, undef, undef, undef, undef, undef, undef, undef, undef, undef, undef, undef, undef, undef, undef, undef, undef, undef, undef, undef, undef, undef, undef, undef, undef, undef, undef, undef, undef, undef, undef, undef, undef, undef, undef, undef, undef, undef, undef, undef, undef, undef, undef, undef, undef, undef, undef, undef, undef, undef, undef, undef, undef, undef, undef, undef, undef, undef, undef], []⟩ [.code (body_wait L)]) (b₀.at a₀ (.inRegion ops₀ (i₀ :: rest₀) :: k₀) :: cs) := by
  refine ⟨AnchW L Φ.Wg (b₀.at a₀ (.inRegion ops₀ (i₀ :: rest₀) :: k₀)) cs, fun g hg => ⟨100, Sil.of (walkRound H hCW g hg w hK)⟩, 100, Sil.of (w := w) ?_⟩
  lib_facts
  simp only [gor_eq]
  simp only [body_wait, waitFn, Option.getD_some]
  u_c stepG_seq jl hK
  u_cond true jl hK
  u_reg jl hK
  refine Goes.stop (fun w₁ h₁ => ?_)
  replace hK := jl hK h₁
  clear h₁
  refine ⟨rfl, _, stepG_mark0 .disable (by simp) rfl rfl (by k_ne) rfl H.f_disable (x_disable_n L) (x_disable_b L) (x_disable_x L) (x_disable_f L), 3, Sil.of (w := w₁) ?_⟩
  walk_nrm
  u_c stepG_region_end jl hK
  u_c stepG_block jl hK
  u_c stepG_loop jl hK
  exact Goes.stop (fun w₂ h₂ => ⟨_, rfl, by simp, by simp⟩)
end
end Go.Eng
/- The last operation of a drawn region, apart; what was put off stays. -/
namespace Go.Eng
open Go

section
variable {P : Program} {S : Shared} {ops : Array Oper} {Q : Act → Heap → Heap → Prop}

/-- The first operations of a list, the others to come. -/
theorem seqW_app {Post : Frame → List Frame → Heap → Prop} {b : Frame} {k : List Item} {cs : List Frame} (hp : Up S Post) (r : List Nat) :
    ∀ (l : List Nat) (a : Act) (L h : Heap), Ok S h L → seqW P S ops Q l a L h → (∀ a' L' h', Ok S h' L' → Q a' L' h' → Safe P S Post (b.at a' (.inRegion ops r :: k)) cs (plus h' L')) →
      Safe P S Post (b.at a (.inRegion ops (l ++ r) :: k)) cs (plus h L) := by
  intro l
  induction l with
  | nil => intro a L h ha H K; exact K a L h ha H
  | cons i rest ih =>
    intro a L h ha H K
    simp only [seqW, opAt] at H
    cases ho : ops[i]? with
    | none =>
      simp only [ho] at H
      refine .opSkip (by simp [ho]) ?_
      simp only [ho, Option.bind_none, Act.put]
      exact ih a L h ha H K
    | some o =>
      simp only [ho] at H
      by_cases hw : Region.wanted o (yielded ops a.tmps) = true
      · simp only [hw, if_true] at H
        cases H with
        | step H => exact .op ho hw fun w hh => wpE_mono _ (H w hh) fun n w' ⟨v, L', h', h1, h2, h3, _, _, h5⟩ => ⟨v, plus h' L', h1, h3, ih _ L' h' h2 h5 K⟩
        | call f args R hx hc H => exact .opCall hp ho hw hx hc ha.apart fun v h' hr hi hap => ih _ L h' ⟨hap, hi⟩ (H v h' hr ⟨hap, hi⟩).2 K
      · simp only [hw, if_false, Bool.false_eq_true] at H
        refine .opSkip (by simp [ho]; simpa using hw) ?_
        simp only [ho, Option.bind_some]
        exact ih _ L h ha H K

theorem put_defers (a : Act) (d : Option Tmp) (v : Value) : (a.put d v).defers = a.defers := by cases d <;> rfl

/-- What is put off stays put off. -/
theorem seqW_defers : ∀ (l : List Nat) (a : Act) (L h : Heap), seqW P S ops Q l a L h → seqW P S ops (fun a' L' h' => a'.defers = a.defers ∧ Q a' L' h') l a L h := by
  have mono : ∀ (l : List Nat) (a : Act) (L h : Heap) {Q Q' : Act → Heap → Heap → Prop}, (∀ a L h, Q a L h → Q' a L h) → seqW P S ops Q l a L h → seqW P S ops Q' l a L h := by
    intro l
    induction l with
    | nil => intro a L h Q Q' hk H; exact hk _ _ _ H
    | cons i rest ih =>
      intro a L h Q Q' hk H
      simp only [seqW, opAt] at H ⊢
      cases ho : ops[i]? with
      | none => simp only [ho] at H ⊢; exact ih _ _ _ hk H
      | some o =>
        simp only [ho] at H ⊢
        by_cases hw : Region.wanted o (yielded ops a.tmps) = true
        · simp only [hw, if_true] at H ⊢
          exact H.mono fun v L' h' _ _ ⟨h1, h2⟩ => ⟨h1, ih _ _ _ hk h2⟩
        · simp only [hw, if_false, Bool.false_eq_true] at H ⊢
          exact ih _ _ _ hk H
  intro l
  induction l with
  | nil => intro a L h H; exact ⟨rfl, H⟩
  | cons i rest ih =>
    intro a L h H
    simp only [seqW, opAt] at H ⊢
    cases ho : ops[i]? with
    | none => simp only [ho] at H ⊢; exact ih _ _ _ H
    | some o =>
      simp only [ho] at H ⊢
      by_cases hw : Region.wanted o (yielded ops a.tmps) = true
      · simp only [hw, if_true] at H ⊢
        exact H.mono fun v L' h' _ _ ⟨h1, h2⟩ => ⟨h1, mono _ _ _ _ (fun a' L' h' ⟨e, hq⟩ => ⟨e.trans (put_defers ..), hq⟩) (ih _ _ _ h2)⟩
      · simp only [hw, if_false, Bool.false_eq_true] at H ⊢
        exact mono _ _ _ _ (fun a' L' h' ⟨e, hq⟩ => ⟨e.trans (put_defers ..), hq⟩) (ih _ _ _ H)

/-! ### The last one -/

theorem ready_last {z : Nat} (hn : ops.size = z + 1) (h3 : ∀ i o, ops[i]? = some o → ∀ e ∈ o.after, Region.binds .any e = true → e.on < i)
    (h2 : ∀ o, ops[z]? = some o → ∀ i < z, ∃ e ∈ o.after, Region.binds .any e = true ∧ e.on = i) {listed : Array Bool} (hs : listed.size = z + 1) (hz : listed.getD z true = false)
    (hu : ∃ i < z, listed.getD i true = false) : Region.ready .any ops listed = Region.ready .any ops (listed.setIfInBounds z true) ∧ Region.ready .any ops listed ≠ [] := by
  have gd : ∀ i : Nat, i ≠ z → ∀ d, (listed.setIfInBounds z true).getD i d = listed.getD i d := fun i hi d => by
    simp only [Array.getD_eq_getD_getElem?, Array.getElem?_setIfInBounds_ne (Ne.symm hi)]
  have gz : ∀ d, (listed.setIfInBounds z true).getD z d = true := fun d => by
    simp [Array.getD_eq_getD_getElem?, Array.getElem?_setIfInBounds, hs]
  have dd : ∀ i < z, listed.getD i true = listed.getD i false := fun i hi => by
    simp [Array.getD_eq_getD_getElem?, Array.getElem?_eq_getElem (show i < listed.size by omega)]
  constructor
  · unfold Region.ready
    refine List.filter_congr fun i hi => ?_
    rw [List.mem_range, hn] at hi
    by_cases e : i = z
    · subst e
      rw [gz, hz]
      obtain ⟨j, hj, hju⟩ := hu
      cases ho : ops[i]? with
      | none => simp
      | some o =>
        obtain ⟨ed, he, hb, hon⟩ := h2 o ho j hj
        have : (o.after.all fun e => !Region.binds .any e || listed.getD e.on false) = false := by
          rw [Bool.eq_false_iff]
          intro hall
          have h4 := Array.all_eq_true'.1 hall ed he
          rw [hb, hon, ← dd j hj, hju] at h4
          cases h4
        simp only [Option.map_some, Option.getD_some, this, Bool.not_true, Bool.false_and, Bool.and_false]
    · rw [gd i e]
      congr 1
      cases ho : ops[i]? with
      | none => simp
      | some o =>
        simp only [Option.map_some, Option.getD_some]
        rw [Bool.eq_iff_iff, Array.all_eq_true', Array.all_eq_true']
        refine forall_congr' fun ed => forall_congr' fun hed => ?_
        cases hb : Region.binds .any ed with
        | false => simp
        | true =>
          have := h3 i o ho ed hed hb
          rw [gd ed.on (by omega)]
  · intro hnil
    have all : ∀ n i, i < n → i < z → listed.getD i true = true := by
      intro n
      induction n with
      | zero => intro i h; omega
      | succ n ih =>
        intro i hin hiz
        cases hl : listed.getD i true with
        | true => rfl
        | false =>
          have hi : i < ops.size := by omega
          have : i ∈ Region.ready .any ops listed := mem_ready.2 ⟨hl, ops[i], Array.getElem?_eq_getElem hi, fun ed hed hb => by
            have h5 := h3 i _ (Array.getElem?_eq_getElem hi) ed hed hb
            rw [← dd ed.on (by omega)]
            exact ih ed.on (by omega) (by omega)⟩
          rw [hnil] at this
          cases this
    obtain ⟨j, hj, hju⟩ := hu
    rw [all (j + 1) j (by omega) hj] at hju
    cases hju

theorem linearise_last {z : Nat} (hn : ops.size = z + 1) (h3 : ∀ i o, ops[i]? = some o → ∀ e ∈ o.after, Region.binds .any e = true → e.on < i)
    (h2 : ∀ o, ops[z]? = some o → ∀ i < z, ∃ e ∈ o.after, Region.binds .any e = true ∧ e.on = i) : ∀ (fuel t : Nat) (listed : Array Bool), listed.size = z + 1 → listed.getD z true = false →
      ((List.range z).filter fun i => !listed.getD i true).length = fuel →
      ∃ t', Region.linearise.go .any ops (fuel + 1) t listed [] = Region.linearise.go .any ops fuel t (listed.setIfInBounds z true) [] ++ [z] ∧ t' = t := by
  intro fuel
  induction fuel with
  | zero =>
    intro t listed hs hz hc
    refine ⟨t, ?_, rfl⟩
    have hall : ∀ i < z, listed.getD i true = true := fun i hi => by
      cases h : listed.getD i true with
      | true => rfl
      | false =>
        have : i ∈ (List.range z).filter fun i => !listed.getD i true := List.mem_filter.2 ⟨List.mem_range.2 hi, by simp [h]⟩
        rw [List.length_eq_zero_iff.1 hc] at this
        cases this
    have hr : Region.ready .any ops listed = [z] := by
      unfold Region.ready
      rw [hn, List.range_succ, List.filter_append]
      have e1 : (List.range z).filter (fun i => !listed.getD i true && ((ops[i]?).map (·.after.all fun e => !Region.binds .any e || listed.getD e.on false)).getD false) = [] := by
        rw [List.filter_eq_nil_iff]
        intro i hi
        rw [hall i (List.mem_range.1 hi)]
        simp
      rw [e1, List.nil_append]
      have hzl : z < ops.size := by omega
      have e2 : ((ops[z]?).map (·.after.all fun e => !Region.binds .any e || listed.getD e.on false)).getD false = true := by
        rw [Array.getElem?_eq_getElem hzl]
        simp only [Option.map_some, Option.getD_some]
        rw [Array.all_eq_true']
        intro ed hed
        cases hb : Region.binds .any ed with
        | false => simp
        | true =>
          have h5 := h3 z _ (Array.getElem?_eq_getElem hzl) ed hed hb
          have h6 := hall ed.on h5
          simp [Array.getD_eq_getD_getElem?, Array.getElem?_eq_getElem (show ed.on < listed.size by omega)] at h6 ⊢
          exact h6
      exact List.filter_eq_self.2 fun i hi => by cases List.mem_singleton.1 hi; rw [hz, e2]; rfl
    simp only [Region.linearise.go]
    change (match (Region.ready .any ops listed)[t % (Region.ready .any ops listed).length]? with
      | some i => Region.linearise.go .any ops 0 (t / (Region.ready .any ops listed).length) (listed.setIfInBounds i true) [i]
      | none => [].reverse) = _
    rw [hr]
    simp [Nat.mod_one, Region.linearise.go]
  | succ fuel ih =>
    intro t listed hs hz hc
    refine ⟨t, ?_, rfl⟩
    have hu : ∃ i < z, listed.getD i true = false := by
      cases hl : (List.range z).filter fun i => !listed.getD i true with
      | nil => rw [hl] at hc; cases hc
      | cons i r =>
        have : i ∈ (List.range z).filter fun i => !listed.getD i true := by rw [hl]; exact List.mem_cons_self
        obtain ⟨h4, h5⟩ := List.mem_filter.1 this
        exact ⟨i, List.mem_range.1 h4, by simpa using h5⟩
    obtain ⟨he, hne⟩ := ready_last hn h3 h2 hs hz hu
    have A : ∀ (f t : Nat) (l : Array Bool), Region.linearise.go .any ops (f + 1) t l [] = (match (Region.ready .any ops l)[t % (Region.ready .any ops l).length]? with
      | some i => Region.linearise.go .any ops f (t / (Region.ready .any ops l).length) (l.setIfInBounds i true) [i]
      | none => []) := fun f t l => by simp only [Region.linearise.go]; rfl
    rw [A, A, ← he]
    have hlt : t % (Region.ready .any ops listed).length < (Region.ready .any ops listed).length := Nat.mod_lt _ (by
      cases hr : Region.ready .any ops listed with
      | nil => exact absurd hr hne
      | cons x xs => simp)
    rw [List.getElem?_eq_getElem hlt]
    simp only []
    have hmem := List.getElem_mem hlt
    generalize (Region.ready .any ops listed)[t % (Region.ready .any ops listed).length] = i at hmem
    have hi1 := (mem_ready.1 hmem).1
    have hiz : i ≠ z := fun e => by
      subst e
      rw [he] at hmem
      have := (mem_ready.1 hmem).1
      simp [Array.getD_eq_getD_getElem?, Array.getElem?_setIfInBounds, hs] at this
    have hilt : i < z := by
      rcases Nat.lt_or_ge i listed.size with h | h
      · omega
      · simp [Array.getD_eq_getD_getElem?, Array.getElem?_eq_none h] at hi1
    rw [linearise_go_acc, linearise_go_acc _ _ _ _ _ [i]]
    have gi : ∀ j : Nat, (listed.setIfInBounds i true).getD j true = (if j = i then true else listed.getD j true) := fun j => by
      by_cases e : j = i
      · subst e
        simp only [if_true, Array.getD_eq_getD_getElem?, Array.getElem?_setIfInBounds]
        split <;> simp
      · simp only [if_neg e, Array.getD_eq_getD_getElem?, Array.getElem?_setIfInBounds_ne (Ne.symm e)]
    obtain ⟨_, h6, _⟩ := ih (t / (Region.ready .any ops listed).length) (listed.setIfInBounds i true) (by simp [hs]) (by rw [gi, if_neg (Ne.symm hiz)]; exact hz) (by
      have key : ∀ l : List Nat, l.Nodup → i ∈ l → (l.filter fun j => !(listed.setIfInBounds i true).getD j true).length + 1 = (l.filter fun j => !listed.getD j true).length := by
        intro l
        induction l with
        | nil => intro _ h; cases h
        | cons x xs ihl =>
          intro hnd hm
          obtain ⟨hx, hnd⟩ := List.nodup_cons.1 hnd
          rw [List.filter_cons, List.filter_cons]
          rcases List.mem_cons.1 hm with rfl | hm
          · have e5 : (xs.filter fun j => !(listed.setIfInBounds i true).getD j true) = xs.filter fun j => !listed.getD j true :=
              List.filter_congr fun j hj => by rw [gi, if_neg (fun e => hx (by rw [← e]; exact hj))]
            rw [gi, if_pos rfl, hi1, e5]; simp
          · have hxi : x ≠ i := fun e => hx (by rw [e]; exact hm)
            rw [gi, if_neg hxi]
            have := ihl hnd hm
            cases listed.getD x true <;> simp only [Bool.not_true, Bool.not_false, Bool.false_eq_true, if_true, if_false, List.length_cons, ↓reduceIte] <;> omega
      have := key (List.range z) List.nodup_range (List.mem_range.2 hilt)
      omega)
    rw [h6, Array.setIfInBounds_comm _ _ hiz]
    simp
end
end Go.Eng
namespace Go.Eng
open Go
/-- Does the last operation wait for every other, and each for none behind it? -/
def lastOk (ops : Array Oper) (z : Nat) : Bool :=
  ops.size == z + 1 && ((List.range (z + 1)).all fun i => match ops[i]? with | some o => o.after.all (fun e => !Region.binds .any e || decide (e.on < i)) | none => true) &&
    (match ops[z]? with | some o => (List.range z).all fun i => o.after.any fun e => Region.binds .any e && e.on == i | none => true)

theorem linearise_last' {ops : Array Oper} {z : Nat} (h : lastOk ops z = true) (t : Nat) :
    Region.linearise.go .any ops (z + 1) t (Array.replicate (z + 1) false) [] = Region.linearise.go .any ops z t ((Array.replicate (z + 1) false).setIfInBounds z true) [] ++ [z] := by
  unfold lastOk at h
  simp only [Bool.and_eq_true, beq_iff_eq] at h
  obtain ⟨⟨h1, h2⟩, h3⟩ := h
  refine (linearise_last h1 (fun i o ho e he hb => ?_) (fun o ho i hi => ?_) z t _ (by simp) (by simp [Array.getD_eq_getD_getElem?]) ?_).choose_spec.1
  · have hlt : i < z + 1 := by
      rcases Nat.lt_or_ge i ops.size with h | h
      · omega
      · rw [Array.getElem?_eq_none h] at ho; cases ho
    have h4 := List.all_eq_true.1 h2 i (List.mem_range.2 hlt)
    rw [ho] at h4
    have h5 := Array.all_eq_true'.1 h4 e he
    rw [hb] at h5
    simpa using h5
  · rw [ho] at h3
    have h4 := List.all_eq_true.1 h3 i (List.mem_range.2 hi)
    obtain ⟨e, he, h5⟩ := Array.any_eq_true'.1 h4
    simp only [Bool.and_eq_true, beq_iff_eq] at h5
    exact ⟨e, he, h5.1, h5.2⟩
  · have : (List.range z).filter (fun i => !(Array.replicate (z + 1) false).getD i true) = List.range z := List.filter_eq_self.2 fun i hi => by
      have := List.mem_range.1 hi
      simp [Array.getD_eq_getD_getElem?, Array.getElem?_replicate, show i < z + 1 by omega]
    rw [this, List.length_range]
end Go.Eng
namespace Go.Eng
open Go
/-! ### A state to begin with -/
def gvOf (l : List (Option (Sh × Nat))) : List GV := l.map fun | some (s, j) => ⟨[], .x (.var s j)⟩ | none => ⟨[], .junk⟩

theorem good_var {env : List Value} {nums : List Nat} {s : Sh} {j : Nat} {u : Value} (h : env[j]? = some u) (hc : coerce s u = u) : Good env nums (.var s j) u := fun xs ys => by
  have hlt : j < env.length := (List.getElem?_eq_some_iff.1 h).1
  simp only [Ex.ev, List.getD_eq_getElem?_getD, List.getElem?_append_left hlt, h, Option.getD_some, hc]

theorem Rel.init {l : List (Option (Sh × Nat))} {env : List Value} {a : Act} {n d : Nat} {dv : Bool} (hn : n = env.length) (hl : l.length = a.tmps.size) (hd : dv = false → a.defers = [])
    (hv : ∀ (i : Nat) s j, l[i]? = some (some (s, j)) → ∃ u, env[j]? = some u ∧ a.tmps.getD i undef = u ∧ coerce s u = u) :
    Rel { tmps := gvOf l, loc := [], n := n, known := [], d := d, dv := dv } env [] a (fun _ => none) := by
  have key : ∀ (i : Nat) gv, (gvOf l)[i]? = some gv → gv = ⟨[], .junk⟩ ∨ ∃ s j, l[i]? = some (some (s, j)) ∧ gv = ⟨[], .x (.var s j)⟩ := by
    intro i gv h
    unfold gvOf at h
    rw [List.getElem?_map] at h
    obtain ⟨x, h1, rfl⟩ := Option.map_eq_some_iff.1 h
    cases x with
    | none => exact .inl rfl
    | some p => exact .inr ⟨p.1, p.2, h1, rfl⟩
  refine ⟨hn, rfl, by simp [gvOf, hl], hd, ?_, ?_, ?_, by simp, by simp, by simp⟩
  · intro i g v h e he
    rcases key i _ h with h | ⟨s, j, _, h⟩ <;> cases h <;> cases he
  · intro i g v h _
    rcases key i _ h with h | ⟨s, j, h1, h⟩
    · cases h; trivial
    · cases h
      obtain ⟨u, h2, h3, h4⟩ := hv i s j h1
      rw [h3]
      exact good_var h2 h4
  · rintro i g v h ⟨e, he, _⟩
    rcases key i _ h with h | ⟨s, j, _, h⟩ <;> cases h <;> cases he
end Go.Eng
/- Pieces of a function's code: regions, one behind another, from a state of one's own making to what is asked for. -/
namespace Go.Eng
open Go

def sxs (cfg : Cfg) : List Code → St → Option Tr
  | [], st => some (.leaf (.norm st))
  | r :: rs, st => match r with
    | .region _ ops draw => (match sxR cfg ops draw st with | some t => bindN t (sxs cfg rs) | none => none)
    | _ => none

def nest : List Code → Code → Code
  | [], c => c
  | r :: rs, c => .seq r (nest rs c)

section
variable {P : Program} {S : Shared} {cfg : Cfg} {Λ : Hand} {Q : Value → Heap → Prop} {Ks : List Kt} {Post : Frame → List Frame → Heap → Prop} {b : Frame} {k : List Item} {cs : List Frame} {c : Code}

theorem sxs_ok (hT : TabOk P cfg.tab) (hm : P.follows .mixedOrders = true) (hp : Up S Post) (hΛ : Λ.Mono) : ∀ (rs : List Code) (st : St) (t : Tr) (env : List Value) (nums : List Nat) (a : Act) (L h : Heap),
    sxs cfg rs st = some t → t.wp P S Λ Q env h Ks → Rel st env nums a L → Ok S h L →
    (∀ st' vs ms a' L' h', Λ (.norm st') (env ++ vs) h' Ks → Rel st' (env ++ vs) (nums ++ ms) a' L' → Ok S h' L' → Safe P S Post (b.at a' (.code c :: k)) cs (plus h' L')) →
    Safe P S Post (b.at a (.code (nest rs c) :: k)) cs (plus h L) := by
  intro rs
  induction rs with
  | nil =>
    intro st t env nums a L h ht hw H ha hf
    simp only [sxs] at ht
    cases ht
    exact hf st [] [] a L h (by simpa [Tr.wp] using hw) (by simpa using H) ha
  | cons r rs ih =>
    intro st t env nums a L h ht hw H ha hf
    simp only [sxs] at ht
    split at ht
    · rename_i id ops draw
      split at ht
      · rename_i t1 ht1
        have hw1 := Tr.wp_bind hΛ t1 t ht env h Ks hw
        refine .seq (sxR_ok hT hm hp ht1 hw1 H ha ?_)
        rintro st' vs ms a' L' h' ⟨u, hu, huw⟩ H' ha' _
        refine ih st' u _ _ a' L' h' hu huw H' ha' fun st2 vs2 ms2 a2 L2 h2 h3 h4 h5 => ?_
        rw [List.append_assoc] at h3 h4
        rw [List.append_assoc] at h4
        exact hf st2 _ _ a2 L2 h2 h3 h4 h5
      · cases ht
    · cases ht

/-- What a state tells of a slot. -/
def got (st : St) (env : List Value) (i : Nat) : Value := match st.tmps[i]? with | some ⟨[], .x e⟩ => e.ev env [] | _ => undef
def isX (st : St) (i : Nat) : Bool := match st.tmps[i]? with | some ⟨[], .x _⟩ => true | _ => false

/-- The end of a piece. -/
def endP (n : Nat) (is : List Nat) (R : (Nat → Value) → Heap → Prop) : Hand := fun l env h _ => ∃ st, l = .norm st ∧ st.loc = [] ∧ st.dv = false ∧ st.tmps.length = n ∧ is.all (isX st) = true ∧ R (got st env) h

theorem endP.mono {n : Nat} {is : List Nat} {R : (Nat → Value) → Heap → Prop} : (endP n is R).Mono := fun _ _ _ _ _ _ h => h

/-- Where a piece has come. -/
def Reach (S : Shared) (b : Frame) (n : Nat) (k : List Item) (cs : List Frame) (is : List Nat) (R : (Nat → Value) → Heap → Prop) (fr : Frame) (cs' : List Frame) (H : Heap) : Prop :=
  cs' = cs ∧ ∃ a f h', fr = b.at a k ∧ a.tmps.size = n ∧ a.defers = [] ∧ (∀ i ∈ is, a.tmps.getD i undef = f i) ∧ R f h' ∧ Sub h' H ∧ Inv S h'

theorem Reach.up {n : Nat} {is : List Nat} {R : (Nat → Value) → Heap → Prop} : Up S (Reach S b n k cs is R) :=
  fun _ _ _ _ ⟨h1, a, f, h', h2, h3, h4, h5, h6, h7, h8⟩ hs _ => ⟨h1, a, f, h', h2, h3, h4, h5, h6, h7.trans hs, h8⟩

def lOf (n : Nat) (ps : List (Nat × Sh)) : List (Option (Sh × Nat)) := (List.range n).map fun i => (ps.zipIdx.find? fun p => p.1.1 == i).map fun p => (p.1.2, p.2)
def stOf (n : Nat) (ps : List (Nat × Sh)) : St := { tmps := gvOf (lOf n ps), loc := [], n := ps.length, known := [], d := 0, dv := false }

/-- The state's slots, as they stand. -/
def slotsAre (a : Act) : List (Nat × Sh) → List Value → Prop
  | [], [] => True
  | p :: ps, u :: us => a.tmps.getD p.1 undef = u ∧ coerce p.2 u = u ∧ slotsAre a ps us
  | _, _ => False

theorem slotsAre.get {a : Act} : ∀ {ps : List (Nat × Sh)} {us : List Value}, slotsAre a ps us → ps.length = us.length ∧ ∀ (j : Nat) (p : Nat × Sh), ps[j]? = some p → ∃ u, us[j]? = some u ∧ a.tmps.getD p.1 undef = u ∧ coerce p.2 u = u
  | [], [], _ => ⟨rfl, fun j p h => by simp at h⟩
  | p :: ps, u :: us, ⟨h1, h2, h3⟩ => by
    obtain ⟨e, ih⟩ := slotsAre.get h3
    refine ⟨by simp [e], fun j q h => ?_⟩
    cases j with
    | zero => simp at h; subst h; exact ⟨u, rfl, h1, h2⟩
    | succ j => exact ih j q (by simpa using h)
  | [], _ :: _, h => h.elim
  | _ :: _, [], h => h.elim

theorem Rel.of {n : Nat} {ps : List (Nat × Sh)} {env : List Value} {a : Act} (hs : slotsAre a ps env) (hn : a.tmps.size = n) (hd : a.defers = []) : Rel (stOf n ps) env [] a (fun _ => none) := by
  obtain ⟨e, hg⟩ := hs.get
  refine Rel.init e (by simp [lOf, hn]) (fun _ => hd) fun i s j h => ?_
  unfold lOf at h
  rw [List.getElem?_map] at h
  obtain ⟨i', h1, h2⟩ := Option.map_eq_some_iff.1 h
  have hii : i' = i := by
    have := (List.getElem?_eq_some_iff.1 h1).2
    simpa using this.symm
  subst hii
  obtain ⟨⟨p, j'⟩, h3, h4⟩ := Option.map_eq_some_iff.1 h2
  simp only [Prod.mk.injEq] at h4
  obtain ⟨rfl, rfl⟩ := h4
  have h5 := List.find?_some h3
  have h6 := List.mem_zipIdx_iff_getElem?.1 (List.mem_of_find?_eq_some h3)
  simp only [beq_iff_eq] at h5 h6
  obtain ⟨u, k1, k2, k3⟩ := hg _ _ h6
  exact ⟨u, k1, by rw [← h5]; exact k2, k3⟩

theorem piece_ok (hT : TabOk P cfg.tab) (hm : P.follows .mixedOrders = true) {rs : List Code} {n : Nat} {ps : List (Nat × Sh)} {t : Tr} {env : List Value} {a : Act} {h : Heap} {is : List Nat} {R : (Nat → Value) → Heap → Prop}
    (ht : sxs cfg rs (stOf n ps) = some t) (hs : slotsAre a ps env) (hn : a.tmps.size = n) (hd : a.defers = []) (hi : Inv S h) (hw : t.wp P S (endP n is R) (fun _ _ => True) env h []) :
    Safe P S (Reach S b n (.code c :: k) cs is R) (b.at a (.code (nest rs c) :: k)) cs h := by
  have ha : Ok S h (fun _ => none) := ⟨fun b hb => absurd rfl hb, hi⟩
  rw [← plus_none_right h]
  refine sxs_ok (Q := fun _ _ => True) (Ks := []) hT hm Reach.up endP.mono rs _ t env [] a _ h ht hw (Rel.of hs hn hd) ha ?_
  rintro st' vs ms a' L' h' ⟨st, e, hl, hdv, hsz, his, hR⟩ H' ha'
  cases e
  have hms : ms = [] := by
    have := H'.m
    rw [hl] at this
    simpa using this.symm
  subst hms
  refine .done ⟨rfl, a', _, h', rfl, ?_, H'.df hdv, fun i hi => ?_, hR, fun x o hx => by simp [plus, hx], ha'.inv⟩
  · rw [← H'.sz]; exact hsz
  · have hx := List.all_eq_true.1 his i hi
    unfold isX at hx
    unfold got
    split at hx
    · rename_i e he
      have := Good.at (H'.vl i [] _ he (by simp))
      simpa using this.symm
    · cases hx

theorem reg_ok (hT : TabOk P cfg.tab) (hm : P.follows .mixedOrders = true) {r : Code} {n : Nat} {ps : List (Nat × Sh)} {t : Tr} {env : List Value} {a : Act} {h : Heap} {is : List Nat} {R : (Nat → Value) → Heap → Prop}
    (ht : sxs cfg [r] (stOf n ps) = some t) (hs : slotsAre a ps env) (hn : a.tmps.size = n) (hd : a.defers = []) (hi : Inv S h) (hw : t.wp P S (endP n is R) (fun _ _ => True) env h []) :
    Safe P S (Reach S b n k cs is R) (b.at a (.code r :: k)) cs h := by
  have ha : Ok S h (fun _ => none) := ⟨fun b hb => absurd rfl hb, hi⟩
  rw [← plus_none_right h]
  simp only [sxs] at ht
  split at ht
  · rename_i id ops draw
    split at ht
    · rename_i t1 ht1
      have hw1 := Tr.wp_bind endP.mono t1 t ht env h [] hw
      refine sxR_ok (Ks := []) hT hm Reach.up ht1 hw1 (Rel.of hs hn hd) ha ?_
      rintro st' vs ms a' L' h' ⟨u, hu, huw⟩ H' ha' _
      cases hu
      obtain ⟨st, e, hl, hdv, hsz, his, hR⟩ := huw
      cases e
      have hms : ms = [] := by
        have := H'.m
        rw [hl] at this
        simpa using this.symm
      subst hms
      refine .done ⟨rfl, a', _, h', rfl, by rw [← H'.sz]; exact hsz, H'.df hdv, fun i hi => ?_, hR, fun x o hx => by simp [plus, hx], ha'.inv⟩
      have hx := List.all_eq_true.1 his i hi
      unfold isX at hx
      unfold got
      split at hx
      · rename_i e he
        have := Good.at (H'.vl i [] _ he (by simp))
        simpa using this.symm
      · cases hx
    · cases ht
  · cases ht

theorem Reach.slots {n : Nat} {is : List Nat} {R : (Nat → Value) → Heap → Prop} {fr : Frame} {cs' : List Frame} {H : Heap} (X : Reach S b n k cs is R fr cs' H) :
    cs' = cs ∧ ∃ a f h', fr = b.at a k ∧ a.tmps.size = n ∧ a.defers = [] ∧ (∀ i ∈ is, a.tmps.getD i undef = f i) ∧ R f h' ∧ Sub h' H ∧ Inv S h' := X
end

section
open Go.Conc Go.ConcR
variable {P : Program} {Φ : Ph} {cs cs' : List Frame} {fr fr' : Frame}
theorem Sil.step {main : Bool} {J : World → Prop} {Stop : Goroutine → World → Prop} {n : Nat} {g g' : Goroutine} (hr : g.status = .running) (hs : ∀ w, stepG P main g w = .go g' w #[]) (H : Sil P main J Stop n g') : Sil P main J Stop (n + 1) g :=
  fun w => Goes.step hr fun w₁ h₁ => by
    rw [hs w₁]
    exact ⟨⟨rfl, rfl⟩, H w₁⟩
theorem AddOp.step {Nx : Frame → List Frame → Prop} (hs : ∀ w, stepG P true (gor fr cs) w = .go (gor fr' cs') w #[]) (H : AddOp P Φ Nx fr' cs') : AddOp P Φ Nx fr cs :=
  let ⟨m, h⟩ := H
  ⟨m + 1, Sil.step rfl hs h⟩
theorem WaitOp.step {Nx : Frame → List Frame → Prop} (hs : ∀ w, stepG P true (gor fr cs) w = .go (gor fr' cs') w #[]) (H : WaitOp P Φ Nx fr' cs') : WaitOp P Φ Nx fr cs :=
  let ⟨Anch, h1, m, h⟩ := H
  ⟨Anch, h1, m + 1, Sil.step rfl hs h⟩
theorem step_of_goes {s : GStep} {g : Goroutine} {w : World} {es : Array Event} (h : s.goes (fun g' w' es' => g' = g ∧ w' = w ∧ es' = es)) : s = .go g w es := by
  cases s <;> simp only [GStep.goes] at h
  obtain ⟨rfl, rfl, rfl⟩ := h; rfl
theorem Sp.pre {Q : Frame → List Frame → Heap → Prop} {r : Nat} {h : Heap} (H : Safe P Φ.S (fun fr cs h => Sp P Φ Q r fr cs h) fr cs h) : Sp P Φ Q r fr cs h := by
  cases r with
  | zero => exact H.bind fun _ _ _ x => x
  | succ r => exact H.bind fun _ _ _ x => x
end
end Go.Eng
