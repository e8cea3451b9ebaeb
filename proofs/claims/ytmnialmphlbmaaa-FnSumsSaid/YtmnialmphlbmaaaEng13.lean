import Derived.Conc.WgGenN3
import Derived.Conc.WgWords
import Derived.Test.YtmnialmphlbmaaaEng12
set_option linter.unusedVariables false
set_option linter.unusedSimpArgs false
/- The library's sync.WaitGroup, walked beside others: Add(1), Done, Wait. -/
set_option linter.unusedSimpArgs false
set_option linter.unusedVariables false
set_option linter.unusedSectionVars false
namespace Go.Eng
open Go Go.Conc Go.RowKit Go.Conc.Lib Go.ConcR.Gen Go.ConcN.Gen
open Go.ConcN hiding upd upd_same upd_ne AtD4 AtD3 AtD2 AtD1 AtK1 AtR0 AtAcq AtKe AtW4 AtW3 AtW2 AtW1 AtKd WSit AtA1
open Go.ConcR (KK wgBlock WgAt stA smA rd wr DC0 Payload)

section
variable [Payload] {P : Program} {L : WgLink} {Φ : Ph} {cs : List Frame} {qt : Nat}

theorem jl {w w₁ : World} (_ : Φ.J w) (h : Φ.J w₁) : Φ.J w₁ := h
theorem J.cell0 {w : World} (h : Φ.J w) : ∃ v, w.cell? ⟨Φ.Wg, 0, none⟩ = some v := WgLive.cell0 h.1
theorem J.cell1 {w : World} (h : Φ.J w) : ∃ v, w.cell? ⟨Φ.Wg, 1, none⟩ = some v := WgLive.cell1 h.1

variable {b₀ : Frame} {a₀ : Act} {ops₀ : Array Oper} {i₀ : Nat} {rest₀ : List Nat} {k₀ : List Item}

/-- The group's block has turned; the rest of what is known stands. -/
theorem J.setSt (hCW : Φ.C ≠ Φ.Wg) {w : World} (h : Φ.J w) {st sm : Int} (hw : WgAt Φ.ty Φ.Wg w st sm) (v : Int) : Φ.J (w.setCell (stA Φ.Wg) (.int .u64 v)) := by
  obtain ⟨cs, h1, h2⟩ := h.2
  exact ⟨⟨v, sm, hw.setSt v⟩, cs, ((aside_setCell w (stA Φ.Wg) _).block _ hCW).trans h1, h2⟩
theorem J.setSm (hCW : Φ.C ≠ Φ.Wg) {w : World} (h : Φ.J w) {st sm : Int} (hw : WgAt Φ.ty Φ.Wg w st sm) (v : Int) : Φ.J (w.setCell (smA Φ.Wg) (.int .u32 v)) := by
  obtain ⟨cs, h1, h2⟩ := h.2
  exact ⟨⟨st, v, hw.setSm v⟩, cs, ((aside_setCell w (smA Φ.Wg) _).block _ hCW).trans h1, h2⟩

set_option maxRecDepth 100000 in
set_option maxHeartbeats 8000000 in
theorem walkAdd (H : WgLib P L) (hCW : Φ.C ≠ Φ.Wg) {Nx : Frame → List Frame → Prop} (hN : Nx (b₀.at (a₀.put ((ops₀[i₀]?).bind (·.dst)) (.tuple #[])) (.inRegion ops₀ rest₀ :: k₀)) cs) (w : World) (hK : Φ.J w) :
    Goes P true (fun _ w₁ => Φ.J w₁) DC0 (AtAd P Φ Nx) 100
      (G ((base L.add).at ⟨#[.pointer (some ⟨Φ.Wg, 0, none⟩), .int .i64 1, undef, undef, undef, undef, undef, undef, undef, undef, undef, undef, undef, undef, undef, undef, undef, undef, undef, undef, undef, undef, undef, undef, undef, undef, undef, undef, undef, undef, undef, undef, undef, undef, undef, undef, undef, undef, undef, undef, undef, undef, undef, undef, undef, undef, undef, undef, undef, undef, undef, undef, undef, undef, undef, undef, undef, undef, undef, undef, undef, undef, undef, undef, undef, undef, undef, undef, undef, undef, undef, undef, undef, undef, undef, undef, undef, undef, undef, undef, undef, undef, undef, undef, undef, undef, undef, undef, undef, undef, undef, undef, undef, undef, undef, undef, undef, undef, undef, undef, undef, undef, undef, undef, undef, undef, undef, undef, undef, undef, undef, undef, undef, undef, undef, undef, undef], []⟩ [.code (body_add L)]) (b₀.at a₀ (.inRegion ops₀ (i₀ :: rest₀) :: k₀) :: cs)) w := by
  lib_facts
  simp only [body_add, addFn, Option.getD_some]
  u_c stepG_seq jl hK
  u_cond true jl hK
  u_c stepG_seq jl hK
  u_c stepG_seq jl hK
  u_reg jl hK
  u_op jl hK
  u_op jl hK
  u_c stepG_region_end jl hK
  u_cond false jl hK
  u_c stepG_skip jl hK
  u_c stepG_seq jl hK
  u_reg jl hK
  refine Goes.stop (fun w₁ h₁ => ?_)
  replace hK := jl hK h₁
  clear h₁
  refine ⟨rfl, _, stepG_mark0 .disable (by simp) rfl rfl (by k_ne) rfl H.f_disable (x_disable_n L) (x_disable_b L) (x_disable_x L) (x_disable_f L), 100, Sil.of (w := w₁) ?_⟩
  walk_nrm
  u_c stepG_region_end jl hK
  u_reg jl hK
  u_defer jl hK
  u_c stepG_region_end jl hK
  u_c stepG_seq jl hK
  u_reg jl hK
  u_op jl hK
  u_c stepG_region_end jl hK
  u_c stepG_seq jl hK
  u_c stepG_seq jl hK
  u_reg jl hK
  u_bub jl hK
  u_c stepG_region_end jl hK
  u_cond false jl hK
  u_c stepG_skip jl hK
  u_c stepG_seq jl hK
  u_reg jl hK
  u_op jl hK
  u_op jl hK
  u_op jl hK
  u_op jl hK
  u_op jl hK
  u_op jl hK
  u_call H.f_uAdd (nm_uAdd L) uAddFn jl hK
  u_c stepG_seq jl hK
  u_reg jl hK
  u_op jl hK
  u_c stepG_region_end jl hK
  u_c stepG_seq jl hK
  u_reg jl hK
  u_op jl hK
  u_op jl hK
  u_op jl hK
  u_op jl hK
  refine Goes.stop (fun w₁ h₁ => ?_)
  replace hK := jl hK h₁
  clear h₁
  refine ⟨rfl, fun v hv hw => ?_⟩
  have e0 : IntKind.u64.wrap ((v : Int) * KK + 4294967296) = ((v : Int) + 1) * KK := by rw [IntKind.wrap_u64]; simp only [KK]; omega
  refine ⟨_, (stepG_add_atomic rfl rfl (by k_ne) rfl H.f_addU64 (x_addU64_n L) (x_addU64_b L) (x_addU64_x L) .u64 (x_addU64_f L) rfl rfl hw.cellSt (hw.thaw 0)).trans (by rw [e0]; rfl), fun hv0 => ⟨200, ?_⟩, fun hv0 => ⟨200, ?_⟩⟩
  · subst hv0
    replace hK := J.setSt hCW hK hw ((((0 : Nat) : Int) + 1) * KK)
    refine Sil.of (w := w₁.setCell (stA Φ.Wg) (.int .u64 ((((0 : Nat) : Int) + 1) * KK))) ?_
    generalize w₁.setCell (stA Φ.Wg) (.int .u64 ((((0 : Nat) : Int) + 1) * KK)) = w₂ at hK
    clear hw
    have z : (((0 : Nat) : Int) + 1) * KK = 4294967296 := by simp [KK]
    rw [z]
    walk_nrm
    u_op jl hK
    u_c stepG_region_end jl hK
    u_c stepG_ret' jl hK
    u_leave1 H.f_uAdd jl hK
    u_op jl hK
    u_c stepG_region_end jl hK
    u_c stepG_seq jl hK
    u_c stepG_seq jl hK
    u_reg jl hK
    u_op jl hK
    u_op jl hK
    u_op jl hK
    u_op jl hK
    u_skip jl hK
    u_skip jl hK
    u_op jl hK
    u_c stepG_region_end jl hK
    u_cond false jl hK
    u_c stepG_skip jl hK
    u_c stepG_seq jl hK
    u_reg jl hK
    u_op jl hK
    u_op jl hK
    u_op jl hK
    u_op jl hK
    u_c stepG_region_end jl hK
    u_c stepG_seq jl hK
    u_reg jl hK
    u_op jl hK
    u_op jl hK
    u_op jl hK
    u_op jl hK
    u_c stepG_region_end jl hK
    u_c stepG_seq jl hK
    u_c stepG_seq jl hK
    u_reg jl hK
    u_op jl hK
    u_op jl hK
    u_op jl hK
    u_op jl hK
    u_op jl hK
    u_op jl hK
    u_op jl hK
    u_op jl hK
    u_op jl hK
    u_op jl hK
    u_c stepG_region_end jl hK
    u_cond true jl hK
    u_reg jl hK
    u_op jl hK
    u_op jl hK
    u_op jl hK
    u_conv H.underlying_tPU32 H.room_tU32 (J.cell1 hK).choose_spec jl hK
    refine Goes.stop (fun w₁ h₁ => ?_)
    replace hK := jl hK h₁
    clear h₁
    refine ⟨rfl, _, stepG_markAt .read (by simp) rfl rfl (by k_ne) rfl H.f_raceRead (x_raceRead_n L) (x_raceRead_b L) (x_raceRead_x L) (x_raceRead_f L) (ad := ⟨Φ.Wg, 1, none⟩) (by simp [Act.eval]), 200, Sil.of (w := w₁) ?_⟩
    walk_nrm
    u_c stepG_region_end jl hK
    u_c stepG_seq jl hK
    u_c stepG_seq jl hK
    u_reg jl hK
    u_op jl hK
    u_op jl hK
    u_c stepG_region_end jl hK
    u_cond false jl hK
    u_c stepG_skip jl hK
    u_c stepG_seq jl hK
    u_c stepG_seq jl hK
    u_reg jl hK
    u_op jl hK
    u_op jl hK
    u_op jl hK
    u_skip jl hK
    u_skip jl hK
    u_op jl hK
    u_op jl hK
    u_skip jl hK
    u_skip jl hK
    u_skip jl hK
    u_skip jl hK
    u_op jl hK
    u_c stepG_region_end jl hK
    u_cond false jl hK
    u_c stepG_skip jl hK
    u_c stepG_seq jl hK
    u_c stepG_seq jl hK
    u_reg jl hK
    u_op jl hK
    u_op jl hK
    u_op jl hK
    u_skip jl hK
    u_skip jl hK
    u_op jl hK
    u_c stepG_region_end jl hK
    u_cond true jl hK
    u_c stepG_ret' jl hK
    refine Goes.stop (fun w₁ h₁ => ?_)
    replace hK := jl hK h₁
    clear h₁
    refine ⟨rfl, _, stepG_unwind_entry (v := .tuple #[]) (evs := #[Go.ConcR.mk .enable]) rfl H.f_enable (x_enable_n L) (x_enable_b L) (x_enable_x L) (x_enable_f L) (by simp [Extern.Race.none_]) (by simp [Go.ConcR.mk]) (by simp [Go.ConcR.mk]), 10, Sil.of (w := w₁) ?_⟩
    u_leave0 H.f_add jl hK
    exact Goes.stop fun _ _ => ⟨_, _, rfl, hN⟩
  · replace hK := J.setSt hCW hK hw (((v : Int) + 1) * KK)
    refine Sil.of (w := w₁.setCell (stA Φ.Wg) (.int .u64 (((v : Int) + 1) * KK))) ?_
    generalize w₁.setCell (stA Φ.Wg) (.int .u64 (((v : Int) + 1) * KK)) = w₂ at hK
    clear hw e0
    obtain ⟨V, hV⟩ : ∃ V : Int, (v : Int) + 1 = V := ⟨_, rfl⟩
    obtain ⟨S, hS⟩ : ∃ S : Int, V * KK = S := ⟨_, rfl⟩
    have a1 : S / 4294967296 = V := by rw [← hS]; simp only [KK]; omega
    have b1 : bits .and .u64 S 2147483648 = 0 := by rw [← hS, ← hV]; have := st_flag (v + 1) 0 (by omega) (by omega); simpa [KK] using this
    have b2 : bits .and .u64 S 2147483647 = 0 := by rw [← hS, ← hV]; have := st_waiters (v + 1) 0 (by omega) (by omega); simpa [KK] using this
    have c1 : IntKind.i32.wrap V = V := by rw [IntKind.wrap_i32]; omega
    have q3 : decide (V < 0) = false := decide_eq_false (by omega)
    have q4 : decide (0 < V) = true := decide_eq_true (by omega)
    have q5 : (V == 1) = false := by simp; omega
    have q6 : decide (V = 1) = false := decide_eq_false (by omega)
    rw [hV, hS]
    walk_nrm
    u_op jl hK
    u_c stepG_region_end jl hK
    u_c stepG_ret' jl hK
    u_leave1 H.f_uAdd jl hK
    u_op jl hK
    u_c stepG_region_end jl hK
    u_c stepG_seq jl hK
    u_c stepG_seq jl hK
    u_reg jl hK
    u_op jl hK
    u_op jl hK
    u_op jl hK
    u_op jl hK
    u_skip jl hK
    u_skip jl hK
    u_op jl hK
    u_c stepG_region_end jl hK
    u_cnd false jl hK
    u_c stepG_skip jl hK
    u_c stepG_seq jl hK
    u_reg jl hK
    u_op jl hK
    u_op jl hK
    u_op jl hK
    u_op jl hK
    u_c stepG_region_end jl hK
    u_c stepG_seq jl hK
    u_reg jl hK
    u_op jl hK
    u_op jl hK
    u_op jl hK
    u_op jl hK
    u_c stepG_region_end jl hK
    u_c stepG_seq jl hK
    u_c stepG_seq jl hK
    u_reg jl hK
    u_op jl hK
    u_op jl hK
    u_op jl hK
    u_op jl hK
    u_op jl hK
    u_op jl hK
    u_op jl hK
    u_op jl hK
    u_op jl hK
    u_op jl hK
    u_c stepG_region_end jl hK
    u_cnd false jl hK
    u_c stepG_skip jl hK
    u_c stepG_seq jl hK
    u_c stepG_seq jl hK
    u_reg jl hK
    u_op jl hK
    u_op jl hK
    u_c stepG_region_end jl hK
    u_cnd false jl hK
    u_c stepG_skip jl hK
    u_c stepG_seq jl hK
    u_c stepG_seq jl hK
    u_reg jl hK
    u_op jl hK
    u_op jl hK
    u_op jl hK
    u_skip jl hK
    u_skip jl hK
    u_op jl hK
    u_op jl hK
    u_skip jl hK
    u_skip jl hK
    u_skip jl hK
    u_skip jl hK
    u_op jl hK
    u_c stepG_region_end jl hK
    u_cnd false jl hK
    u_c stepG_skip jl hK
    u_c stepG_seq jl hK
    u_c stepG_seq jl hK
    u_reg jl hK
    u_op jl hK
    u_op jl hK
    u_op jl hK
    u_skip jl hK
    u_skip jl hK
    u_op jl hK
    u_c stepG_region_end jl hK
    u_cnd true jl hK
    u_c stepG_ret' jl hK
    refine Goes.stop (fun w₁ h₁ => ?_)
    replace hK := jl hK h₁
    clear h₁
    refine ⟨rfl, _, stepG_unwind_entry (v := .tuple #[]) (evs := #[Go.ConcR.mk .enable]) rfl H.f_enable (x_enable_n L) (x_enable_b L) (x_enable_x L) (x_enable_f L) (by simp [Extern.Race.none_]) (by simp [Go.ConcR.mk]) (by simp [Go.ConcR.mk]), 10, Sil.of (w := w₁) ?_⟩
    u_leave0 H.f_add jl hK
    exact Goes.stop fun _ _ => ⟨_, _, rfl, hN⟩
end
end Go.Eng
