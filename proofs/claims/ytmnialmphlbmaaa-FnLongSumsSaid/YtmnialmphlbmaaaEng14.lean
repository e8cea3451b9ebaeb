import Derived.Conc.WgGenN3
import Derived.Conc.WgWords
import Derived.Test.YtmnialmphlbmaaaEng13
set_option linter.unusedVariables false
set_option linter.unusedSimpArgs false
/- The library's sync.WaitGroup, walked beside others: Add(1), Done, Wait. -/
set_option linter.unusedSimpArgs false
set_option linter.unusedVariables false
set_option linter.unusedSectionVars false
namespace Go.Eng
open Go Go.Conc Go.RowKit Go.Conc.Lib Go.ConcR.Gen Go.ConcN.Gen
open Go.ConcN hiding upd upd_same upd_ne AtD4 AtD3 AtD2 AtD1 AtK1 AtR0 AtAcq AtKe AtW4 AtW3 AtW2 AtW1 AtKd WSit AtA1
open Go.ConcR (KK wgBlock WgAt stA smA rd wr DC0 Payload)

section
variable [Payload] {P : Program} {L : WgLink} {Φ : Ph} {cs : List Frame} {qt : Nat}


variable {b₀ : Frame} {a₀ : Act} {ops₀ : Array Oper} {i₀ : Nat} {rest₀ : List Nat} {k₀ : List Item}


set_option maxRecDepth 100000 in
set_option maxHeartbeats 8000000 in
theorem walkNeg (H : WgLib P L) (hCW : Φ.C ≠ Φ.Wg) (hT : QuitsD P qt 0 (G (b₀.at (a₀.put ((ops₀[i₀]?).bind (·.dst)) (.tuple #[])) (.inRegion ops₀ rest₀ :: k₀)) cs)) (w : World) (hK : Φ.J w) :
    Goes P false (fun _ w₁ => Φ.J w₁) DC0 (AtR0 P Φ) 100
      (G ((base L.add).at ⟨#[.pointer (some ⟨Φ.Wg, 0, none⟩), .int .i64 (-1), undef, undef, undef, undef, undef, undef, undef, undef, undef, undef, undef, undef, undef, undef, undef, undef, undef, undef, undef, undef, undef, undef, undef, undef, undef, undef, undef, undef, undef, undef, undef, undef, undef, undef, undef, undef, undef, undef, undef, undef, undef, undef, undef, undef, undef, undef, undef, undef, undef, undef, undef, undef, undef, undef, undef, undef, undef, undef, undef, undef, undef, undef, undef, undef, undef, undef, undef, undef, undef, undef, undef, undef, undef, undef, undef, undef, undef, undef, undef, undef, undef, undef, undef, undef, undef, undef, undef, undef, undef, undef, undef, undef, undef, undef, undef, undef, undef, undef, undef, undef, undef, undef, undef, undef, undef, undef, undef, undef, undef, undef, undef, undef, undef, undef, undef], []⟩ [.code (body_add L)]) (b₀.at a₀ (.inRegion ops₀ (i₀ :: rest₀) :: k₀) :: cs)) w := by
  lib_facts
  simp only [body_add, addFn, Option.getD_some]
  u_c stepG_seq jl hK
  u_cond true jl hK
  u_c stepG_seq jl hK
  u_c stepG_seq jl hK
  u_reg jl hK
  u_op jl hK
  u_op jl hK
  u_c stepG_region_end jl hK
  u_cond true jl hK
  u_reg jl hK
  u_op jl hK
  u_conv H.underlying_tWgP H.room_tWg (J.cell0 hK).choose_spec jl hK
  refine Goes.stop (fun w₁ h₁ => ?_)
  replace hK := jl hK h₁
  clear h₁
  refine ⟨rfl, _, stepG_markAt .releaseMerge (by simp) rfl rfl (by k_ne) rfl H.f_relMerge (x_relMerge_n L) (x_relMerge_b L) (x_relMerge_x L) (x_relMerge_f L) (by simp [Act.eval, stA]), 100, Sil.of (w := w₁) ?_⟩
  walk_nrm
  u_c stepG_region_end jl hK
  u_c stepG_seq jl hK
  u_reg jl hK
  refine Goes.stop (fun w₁ h₁ => ?_)
  replace hK := jl hK h₁
  clear h₁
  refine ⟨rfl, _, stepG_mark0 .disable (by simp) rfl rfl (by k_ne) rfl H.f_disable (x_disable_n L) (x_disable_b L) (x_disable_x L) (x_disable_f L), 100, Sil.of (w := w₁) ?_⟩
  walk_nrm
  u_c stepG_region_end jl hK
  u_reg jl hK
  u_defer jl hK
  u_c stepG_region_end jl hK
  u_c stepG_seq jl hK
  u_reg jl hK
  u_op jl hK
  u_c stepG_region_end jl hK
  u_c stepG_seq jl hK
  u_c stepG_seq jl hK
  u_reg jl hK
  u_bub jl hK
  u_c stepG_region_end jl hK
  u_cond false jl hK
  u_c stepG_skip jl hK
  u_c stepG_seq jl hK
  u_reg jl hK
  u_op jl hK
  u_op jl hK
  u_op jl hK
  u_op jl hK
  u_op jl hK
  u_op jl hK
  u_call H.f_uAdd (nm_uAdd L) uAddFn jl hK
  u_c stepG_seq jl hK
  u_reg jl hK
  u_op jl hK
  u_c stepG_region_end jl hK
  u_c stepG_seq jl hK
  u_reg jl hK
  u_op jl hK
  u_op jl hK
  u_op jl hK
  u_op jl hK
  refine Goes.stop (fun w₁ h₁ => ?_)
  replace hK := jl hK h₁
  clear h₁
  refine ⟨rfl, fun v wt hwt hv hw => ?_⟩
  have e0 : IntKind.u64.wrap (((v : Int) + 1) * KK + wt + 18446744069414584320) = (v : Int) * KK + wt := by rw [IntKind.wrap_u64]; simp only [KK]; omega
  refine ⟨_, (stepG_add_atomic rfl rfl (by k_ne) rfl H.f_addU64 (x_addU64_n L) (x_addU64_b L) (x_addU64_x L) .u64 (x_addU64_f L) rfl rfl hw.cellSt (hw.thaw 0)).trans (by rw [e0]; rfl), fun hl => ?_, fun hl => ?_⟩
  · obtain ⟨rfl, rfl⟩ := hl
    have z : ((0 : Nat) : Int) * KK + ((1 : Nat) : Int) = 1 := by simp
    replace hK := J.setSt hCW hK hw (((0 : Nat) : Int) * KK + ((1 : Nat) : Int))
    refine ⟨200, Sil.of (w := w₁.setCell (stA Φ.Wg) (.int .u64 (((0 : Nat) : Int) * KK + ((1 : Nat) : Int)))) ?_⟩
    generalize w₁.setCell (stA Φ.Wg) (.int .u64 (((0 : Nat) : Int) * KK + ((1 : Nat) : Int))) = w₂ at hK
    clear hw e0
    rw [z]
    walk_nrm
    u_op jl hK
    u_c stepG_region_end jl hK
    u_c stepG_ret' jl hK
    u_leave1 H.f_uAdd jl hK
    u_op jl hK
    u_c stepG_region_end jl hK
    u_c stepG_seq jl hK
    u_c stepG_seq jl hK
    u_reg jl hK
    u_op jl hK
    u_op jl hK
    u_op jl hK
    u_op jl hK
    u_skip jl hK
    u_skip jl hK
    u_op jl hK
    u_c stepG_region_end jl hK
    u_cond false jl hK
    u_c stepG_skip jl hK
    u_c stepG_seq jl hK
    u_reg jl hK
    u_op jl hK
    u_op jl hK
    u_op jl hK
    u_op jl hK
    u_c stepG_region_end jl hK
    u_c stepG_seq jl hK
    u_reg jl hK
    u_op jl hK
    u_op jl hK
    u_op jl hK
    u_op jl hK
    u_c stepG_region_end jl hK
    u_c stepG_seq jl hK
    u_c stepG_seq jl hK
    u_reg jl hK
    u_op jl hK
    u_op jl hK
    u_op jl hK
    u_op jl hK
    u_op jl hK
    u_skip jl hK
    u_skip jl hK
    u_skip jl hK
    u_skip jl hK
    u_op jl hK
    u_c stepG_region_end jl hK
    u_cond false jl hK
    u_c stepG_skip jl hK
    u_c stepG_seq jl hK
    u_c stepG_seq jl hK
    u_reg jl hK
    u_op jl hK
    u_op jl hK
    u_c stepG_region_end jl hK
    u_cond false jl hK
    u_c stepG_skip jl hK
    u_c stepG_seq jl hK
    u_c stepG_seq jl hK
    u_reg jl hK
    u_op jl hK
    u_op jl hK
    u_op jl hK
    u_op jl hK
    u_op jl hK
    u_op jl hK
    u_op jl hK
    u_skip jl hK
    u_skip jl hK
    u_skip jl hK
    u_skip jl hK
    u_op jl hK
    u_c stepG_region_end jl hK
    u_cond false jl hK
    u_c stepG_skip jl hK
    u_c stepG_seq jl hK
    u_c stepG_seq jl hK
    u_reg jl hK
    u_op jl hK
    u_op jl hK
    u_op jl hK
    u_op jl hK
    u_op jl hK
    u_op jl hK
    u_c stepG_region_end jl hK
    u_cond false jl hK
    u_c stepG_skip jl hK
    u_c stepG_seq jl hK
    u_c stepG_seq jl hK
    u_reg jl hK
    u_op jl hK
    u_op jl hK
    u_op jl hK
    u_call H.f_uLoad (nm_uLoad L) uLoadFn jl hK
    u_c stepG_seq jl hK
    u_reg jl hK
    u_op jl hK
    u_c stepG_region_end jl hK
    u_c stepG_seq jl hK
    u_reg jl hK
    u_op jl hK
    u_op jl hK
    u_op jl hK
    refine Goes.stop (fun w₁ h₁ => ?_)
    replace hK := jl hK h₁
    clear h₁
    refine ⟨rfl, fun hw => ⟨_, stepG_load_atomic rfl rfl (by k_ne) rfl H.f_loadU64 (x_loadU64_n L) (x_loadU64_b L) (x_loadU64_x L) .u64 (x_loadU64_f L) rfl hw.cellSt, 200, Sil.of (w := w₁) ?_⟩⟩
    clear hw
    walk_nrm
    u_op jl hK
    u_c stepG_region_end jl hK
    u_c stepG_ret' jl hK
    u_leave1 H.f_uLoad jl hK
    u_op jl hK
    u_op jl hK
    u_c stepG_region_end jl hK
    u_cond false jl hK
    u_c stepG_skip jl hK
    u_c stepG_seq jl hK
    u_reg jl hK
    u_op jl hK
    u_op jl hK
    u_op jl hK
    u_call H.f_uStore (nm_uStore L) uStoreFn jl hK
    u_reg jl hK
    u_op jl hK
    u_op jl hK
    u_op jl hK
    u_op jl hK
    refine Goes.stop (fun w₁ h₁ => ?_)
    replace hK := jl hK h₁
    clear h₁
    refine ⟨rfl, fun hw => ⟨_, stepG_store_atomic rfl rfl (by k_ne) rfl H.f_storeU64 (x_storeU64_n L) (x_storeU64_b L) (x_storeU64_x L) (x_storeU64_f L) rfl rfl hw.cellSt (hw.thaw 0), 200, Sil.of (w := w₁.setCell (stA Φ.Wg) (.int .u64 0)) ?_⟩⟩
    replace hK := J.setSt hCW hK hw 0
    generalize w₁.setCell (stA Φ.Wg) (.int .u64 0) = w₂ at hK
    clear hw
    walk_nrm
    u_c stepG_region_end jl hK
    u_c stepG_end jl hK
    u_leave0 H.f_uStore jl hK
    u_c stepG_region_end jl hK
    u_c stepG_seq jl hK
    u_c stepG_seq jl hK
    u_reg jl hK
    u_op jl hK
    u_c stepG_region_end jl hK
    u_cond false jl hK
    u_c stepG_skip jl hK
    u_c stepG_block jl hK
    u_c stepG_loop jl hK
    u_c stepG_seq jl hK
    u_c stepG_seq jl hK
    u_reg jl hK
    u_op jl hK
    u_op jl hK
    u_c stepG_region_end jl hK
    u_cond true jl hK
    u_c stepG_skip jl hK
    u_c stepG_seq jl hK
    u_c stepG_block jl hK
    u_reg jl hK
    u_op jl hK
    u_op jl hK
    u_op jl hK
    refine Goes.stop (fun w₁ h₁ => ?_)
    replace hK := jl hK h₁
    clear h₁
    refine ⟨rfl, mayWake_entry rfl rfl H.f_semrelease (x_semrelease_b L), fun hw => ⟨_, (stepG_semrelease rfl rfl (by k_ne) rfl H.f_semrelease (x_semrelease_n L) (x_semrelease_b L) (x_semrelease_x L) (x_semrelease_f L) (by simp [Act.eval, smA]) hw.cellSm (hw.thaw 1)).trans (by rfl), qt + 19, ?_⟩⟩
    clear hw
    have q3 : True := trivial
    have q4 : True := trivial
    have q5 : True := trivial
    have c1 : True := trivial
    have c3 : IntKind.u32.wrap 0 = 0 := by decide
    have c4 : IntKind.u32.wrap 1 = 1 := by decide
    walk_nrm
    q_c stepG_region_end
    q_c stepG_inBlock
    q_reg
    (apply QuitsD.value; (case ho => rfl); (case hw => rfl); (case hk => k_ne); (case hr => intro w; go_simp; (try simp only [q3, q4, q5, c1, c3, c4]); first | rfl | (w_num; rfl)); (case he => intro w; simp [go_sem, *]); walk_nrm)
    (apply QuitsD.value; (case ho => rfl); (case hw => rfl); (case hk => k_ne); (case hr => intro w; go_simp; (try simp only [q3, q4, q5, c1, c3, c4]); first | rfl | (w_num; rfl)); (case he => intro w; simp [go_sem, *]); walk_nrm)
    (apply QuitsD.value; (case ho => rfl); (case hw => rfl); (case hk => k_ne); (case hr => intro w; go_simp; (try simp only [q3, q4, q5, c1, c3, c4]); first | rfl | (w_num; rfl)); (case he => intro w; simp [go_sem, *]); walk_nrm)
    q_c stepG_region_end
    q_c stepG_inLoop
    q_c stepG_seq
    q_c stepG_seq
    q_reg
    (apply QuitsD.value; (case ho => rfl); (case hw => rfl); (case hk => k_ne); (case hr => intro w; go_simp; (try simp only [q3, q4, q5, c1, c3, c4]); first | rfl | (w_num; rfl)); (case he => intro w; simp [go_sem, *]); walk_nrm)
    (apply QuitsD.value; (case ho => rfl); (case hw => rfl); (case hk => k_ne); (case hr => intro w; go_simp; (try simp only [q3, q4, q5, c1, c3, c4]); first | rfl | (w_num; rfl)); (case he => intro w; simp [go_sem, *]); walk_nrm)
    q_c stepG_region_end
    q_cond false
    q_exit
    q_c stepG_end
    q_enable
    q_leave0 H.f_add
    exact hT
  · refine ⟨qt + 89, ?_⟩
    clear e0 hw hK
    obtain ⟨S, hS⟩ : ∃ S : Int, (v : Int) * KK + wt = S := ⟨_, rfl⟩
    have a1 : S / 4294967296 = (v : Int) := by rw [← hS]; simp only [KK]; omega
    have b1 : bits .and .u64 S 2147483648 = 0 := by rw [← hS]; have := st_flag v wt (by omega) (by omega); simpa [KK] using this
    have b2 : bits .and .u64 S 2147483647 = (wt : Int) := by rw [← hS]; have := st_waiters v wt (by omega) (by omega); simpa [KK] using this
    have c1 : IntKind.i32.wrap (v : Int) = (v : Int) := by rw [IntKind.wrap_i32]; omega
    have c2 : IntKind.u32.wrap (wt : Int) = (wt : Int) := by rw [IntKind.wrap_u32]; omega
    have q3 : decide ((v : Int) < 0) = false := decide_eq_false (by omega)
    rw [hS]
    have c3 : IntKind.u32.wrap 0 = 0 := by decide
    have c4 : IntKind.u32.wrap 1 = 1 := by decide
    have hcase : wt = 0 ∨ wt = 1 := by omega
    rcases hcase with rfl | rfl
    · replace b2 : bits .and .u64 S 2147483647 = 0 := b2
      clear c2
      rcases Nat.eq_zero_or_pos v with rfl | hvp
      · have z : S = 0 := by rw [← hS]; simp
        subst z
        have q4 : True := trivial
        have q5 : True := trivial
        simp only [Int.natCast_zero] at c1 q3 a1 b1 b2
        walk_nrm
        (apply QuitsD.value; (case ho => rfl); (case hw => rfl); (case hk => k_ne); (case hr => intro w; go_simp; (try simp only [q3, q4, q5, c1, c3, c4]); first | rfl | (w_num; rfl)); (case he => intro w; simp [go_sem, *]); walk_nrm)
        q_c stepG_region_end
        q_c stepG_ret'
        q_leave1 H.f_uAdd
        (apply QuitsD.value; (case ho => rfl); (case hw => rfl); (case hk => k_ne); (case hr => intro w; go_simp; (try simp only [q3, q4, q5, c1, c3, c4]); first | rfl | (w_num; rfl)); (case he => intro w; simp [go_sem, *]); walk_nrm)
        q_c stepG_region_end
        q_c stepG_seq
        q_c stepG_seq
        q_reg
        (apply QuitsD.value; (case ho => rfl); (case hw => rfl); (case hk => k_ne); (case hr => intro w; go_simp; (try simp only [q3, q4, q5, c1, c3, c4]); first | rfl | (w_num; rfl)); (case he => intro w; simp [go_sem, *]); walk_nrm)
        (apply QuitsD.value; (case ho => rfl); (case hw => rfl); (case hk => k_ne); (case hr => intro w; go_simp; (try simp only [q3, q4, q5, c1, c3, c4]); first | rfl | (w_num; rfl)); (case he => intro w; simp [go_sem, *]); walk_nrm)
        (apply QuitsD.value; (case ho => rfl); (case hw => rfl); (case hk => k_ne); (case hr => intro w; go_simp; (try simp only [q3, q4, q5, c1, c3, c4]); first | rfl | (w_num; rfl)); (case he => intro w; simp [go_sem, *]); walk_nrm)
        (apply QuitsD.value; (case ho => rfl); (case hw => rfl); (case hk => k_ne); (case hr => intro w; go_simp; (try simp only [q3, q4, q5, c1, c3, c4]); first | rfl | (w_num; rfl)); (case he => intro w; simp [go_sem, *]); walk_nrm)
        q_skip
        q_skip
        (apply QuitsD.value; (case ho => rfl); (case hw => rfl); (case hk => k_ne); (case hr => intro w; go_simp; (try simp only [q3, q4, q5, c1, c3, c4]); first | rfl | (w_num; rfl)); (case he => intro w; simp [go_sem, *]); walk_nrm)
        q_c stepG_region_end
        q_cond false
        q_c stepG_skip
        q_c stepG_seq
        q_reg
        (apply QuitsD.value; (case ho => rfl); (case hw => rfl); (case hk => k_ne); (case hr => intro w; go_simp; (try simp only [q3, q4, q5, c1, c3, c4]); first | rfl | (w_num; rfl)); (case he => intro w; simp [go_sem, *]); walk_nrm)
        (apply QuitsD.value; (case ho => rfl); (case hw => rfl); (case hk => k_ne); (case hr => intro w; go_simp; (try simp only [q3, q4, q5, c1, c3, c4]); first | rfl | (w_num; rfl)); (case he => intro w; simp [go_sem, *]); walk_nrm)
        (apply QuitsD.value; (case ho => rfl); (case hw => rfl); (case hk => k_ne); (case hr => intro w; go_simp; (try simp only [q3, q4, q5, c1, c3, c4]); first | rfl | (w_num; rfl)); (case he => intro w; simp [go_sem, *]); walk_nrm)
        (apply QuitsD.value; (case ho => rfl); (case hw => rfl); (case hk => k_ne); (case hr => intro w; go_simp; (try simp only [q3, q4, q5, c1, c3, c4]); first | rfl | (w_num; rfl)); (case he => intro w; simp [go_sem, *]); walk_nrm)
        q_c stepG_region_end
        q_c stepG_seq
        q_reg
        (apply QuitsD.value; (case ho => rfl); (case hw => rfl); (case hk => k_ne); (case hr => intro w; go_simp; (try simp only [q3, q4, q5, c1, c3, c4]); first | rfl | (w_num; rfl)); (case he => intro w; simp [go_sem, *]); walk_nrm)
        (apply QuitsD.value; (case ho => rfl); (case hw => rfl); (case hk => k_ne); (case hr => intro w; go_simp; (try simp only [q3, q4, q5, c1, c3, c4]); first | rfl | (w_num; rfl)); (case he => intro w; simp [go_sem, *]); walk_nrm)
        (apply QuitsD.value; (case ho => rfl); (case hw => rfl); (case hk => k_ne); (case hr => intro w; go_simp; (try simp only [q3, q4, q5, c1, c3, c4]); first | rfl | (w_num; rfl)); (case he => intro w; simp [go_sem, *]); walk_nrm)
        (apply QuitsD.value; (case ho => rfl); (case hw => rfl); (case hk => k_ne); (case hr => intro w; go_simp; (try simp only [q3, q4, q5, c1, c3, c4]); first | rfl | (w_num; rfl)); (case he => intro w; simp [go_sem, *]); walk_nrm)
        q_c stepG_region_end
        q_c stepG_seq
        q_c stepG_seq
        q_reg
        (apply QuitsD.value; (case ho => rfl); (case hw => rfl); (case hk => k_ne); (case hr => intro w; go_simp; (try simp only [q3, q4, q5, c1, c3, c4]); first | rfl | (w_num; rfl)); (case he => intro w; simp [go_sem, *]); walk_nrm)
        (apply QuitsD.value; (case ho => rfl); (case hw => rfl); (case hk => k_ne); (case hr => intro w; go_simp; (try simp only [q3, q4, q5, c1, c3, c4]); first | rfl | (w_num; rfl)); (case he => intro w; simp [go_sem, *]); walk_nrm)
        (apply QuitsD.value; (case ho => rfl); (case hw => rfl); (case hk => k_ne); (case hr => intro w; go_simp; (try simp only [q3, q4, q5, c1, c3, c4]); first | rfl | (w_num; rfl)); (case he => intro w; simp [go_sem, *]); walk_nrm)
        (apply QuitsD.value; (case ho => rfl); (case hw => rfl); (case hk => k_ne); (case hr => intro w; go_simp; (try simp only [q3, q4, q5, c1, c3, c4]); first | rfl | (w_num; rfl)); (case he => intro w; simp [go_sem, *]); walk_nrm)
        (apply QuitsD.value; (case ho => rfl); (case hw => rfl); (case hk => k_ne); (case hr => intro w; go_simp; (try simp only [q3, q4, q5, c1, c3, c4]); first | rfl | (w_num; rfl)); (case he => intro w; simp [go_sem, *]); walk_nrm)
        q_skip
        q_skip
        q_skip
        q_skip
        (apply QuitsD.value; (case ho => rfl); (case hw => rfl); (case hk => k_ne); (case hr => intro w; go_simp; (try simp only [q3, q4, q5, c1, c3, c4]); first | rfl | (w_num; rfl)); (case he => intro w; simp [go_sem, *]); walk_nrm)
        q_c stepG_region_end
        q_cond false
        q_c stepG_skip
        q_c stepG_seq
        q_c stepG_seq
        q_reg
        (apply QuitsD.value; (case ho => rfl); (case hw => rfl); (case hk => k_ne); (case hr => intro w; go_simp; (try simp only [q3, q4, q5, c1, c3, c4]); first | rfl | (w_num; rfl)); (case he => intro w; simp [go_sem, *]); walk_nrm)
        (apply QuitsD.value; (case ho => rfl); (case hw => rfl); (case hk => k_ne); (case hr => intro w; go_simp; (try simp only [q3, q4, q5, c1, c3, c4]); first | rfl | (w_num; rfl)); (case he => intro w; simp [go_sem, *]); walk_nrm)
        q_c stepG_region_end
        q_cond false
        q_c stepG_skip
        q_c stepG_seq
        q_c stepG_seq
        q_reg
        (apply QuitsD.value; (case ho => rfl); (case hw => rfl); (case hk => k_ne); (case hr => intro w; go_simp; (try simp only [q3, q4, q5, c1, c3, c4]); first | rfl | (w_num; rfl)); (case he => intro w; simp [go_sem, *]); walk_nrm)
        (apply QuitsD.value; (case ho => rfl); (case hw => rfl); (case hk => k_ne); (case hr => intro w; go_simp; (try simp only [q3, q4, q5, c1, c3, c4]); first | rfl | (w_num; rfl)); (case he => intro w; simp [go_sem, *]); walk_nrm)
        (apply QuitsD.value; (case ho => rfl); (case hw => rfl); (case hk => k_ne); (case hr => intro w; go_simp; (try simp only [q3, q4, q5, c1, c3, c4]); first | rfl | (w_num; rfl)); (case he => intro w; simp [go_sem, *]); walk_nrm)
        q_skip
        q_skip
        (apply QuitsD.value; (case ho => rfl); (case hw => rfl); (case hk => k_ne); (case hr => intro w; go_simp; (try simp only [q3, q4, q5, c1, c3, c4]); first | rfl | (w_num; rfl)); (case he => intro w; simp [go_sem, *]); walk_nrm)
        (apply QuitsD.value; (case ho => rfl); (case hw => rfl); (case hk => k_ne); (case hr => intro w; go_simp; (try simp only [q3, q4, q5, c1, c3, c4]); first | rfl | (w_num; rfl)); (case he => intro w; simp [go_sem, *]); walk_nrm)
        q_skip
        q_skip
        q_skip
        q_skip
        (apply QuitsD.value; (case ho => rfl); (case hw => rfl); (case hk => k_ne); (case hr => intro w; go_simp; (try simp only [q3, q4, q5, c1, c3, c4]); first | rfl | (w_num; rfl)); (case he => intro w; simp [go_sem, *]); walk_nrm)
        q_c stepG_region_end
        q_cond false
        q_c stepG_skip
        q_c stepG_seq
        q_c stepG_seq
        q_reg
        (apply QuitsD.value; (case ho => rfl); (case hw => rfl); (case hk => k_ne); (case hr => intro w; go_simp; (try simp only [q3, q4, q5, c1, c3, c4]); first | rfl | (w_num; rfl)); (case he => intro w; simp [go_sem, *]); walk_nrm)
        (apply QuitsD.value; (case ho => rfl); (case hw => rfl); (case hk => k_ne); (case hr => intro w; go_simp; (try simp only [q3, q4, q5, c1, c3, c4]); first | rfl | (w_num; rfl)); (case he => intro w; simp [go_sem, *]); walk_nrm)
        (apply QuitsD.value; (case ho => rfl); (case hw => rfl); (case hk => k_ne); (case hr => intro w; go_simp; (try simp only [q3, q4, q5, c1, c3, c4]); first | rfl | (w_num; rfl)); (case he => intro w; simp [go_sem, *]); walk_nrm)
        (apply QuitsD.value; (case ho => rfl); (case hw => rfl); (case hk => k_ne); (case hr => intro w; go_simp; (try simp only [q3, q4, q5, c1, c3, c4]); first | rfl | (w_num; rfl)); (case he => intro w; simp [go_sem, *]); walk_nrm)
        (apply QuitsD.value; (case ho => rfl); (case hw => rfl); (case hk => k_ne); (case hr => intro w; go_simp; (try simp only [q3, q4, q5, c1, c3, c4]); first | rfl | (w_num; rfl)); (case he => intro w; simp [go_sem, *]); walk_nrm)
        (apply QuitsD.value; (case ho => rfl); (case hw => rfl); (case hk => k_ne); (case hr => intro w; go_simp; (try simp only [q3, q4, q5, c1, c3, c4]); first | rfl | (w_num; rfl)); (case he => intro w; simp [go_sem, *]); walk_nrm)
        q_c stepG_region_end
        q_cond true
        q_c stepG_ret'
        q_enable
        q_leave0 H.f_add
        exact hT
      · have q4 : decide (0 < (v : Int)) = true := decide_eq_true (by omega)
        have q5 : ((v : Int) == 0) = false := by simp; omega
        walk_nrm
        (apply QuitsD.value; (case ho => rfl); (case hw => rfl); (case hk => k_ne); (case hr => intro w; go_simp; (try simp only [q3, q4, q5, c1, c3, c4]); first | rfl | (w_num; rfl)); (case he => intro w; simp [go_sem, *]); walk_nrm)
        q_c stepG_region_end
        q_c stepG_ret'
        q_leave1 H.f_uAdd
        (apply QuitsD.value; (case ho => rfl); (case hw => rfl); (case hk => k_ne); (case hr => intro w; go_simp; (try simp only [q3, q4, q5, c1, c3, c4]); first | rfl | (w_num; rfl)); (case he => intro w; simp [go_sem, *]); walk_nrm)
        q_c stepG_region_end
        q_c stepG_seq
        q_c stepG_seq
        q_reg
        (apply QuitsD.value; (case ho => rfl); (case hw => rfl); (case hk => k_ne); (case hr => intro w; go_simp; (try simp only [q3, q4, q5, c1, c3, c4]); first | rfl | (w_num; rfl)); (case he => intro w; simp [go_sem, *]); walk_nrm)
        (apply QuitsD.value; (case ho => rfl); (case hw => rfl); (case hk => k_ne); (case hr => intro w; go_simp; (try simp only [q3, q4, q5, c1, c3, c4]); first | rfl | (w_num; rfl)); (case he => intro w; simp [go_sem, *]); walk_nrm)
        (apply QuitsD.value; (case ho => rfl); (case hw => rfl); (case hk => k_ne); (case hr => intro w; go_simp; (try simp only [q3, q4, q5, c1, c3, c4]); first | rfl | (w_num; rfl)); (case he => intro w; simp [go_sem, *]); walk_nrm)
        (apply QuitsD.value; (case ho => rfl); (case hw => rfl); (case hk => k_ne); (case hr => intro w; go_simp; (try simp only [q3, q4, q5, c1, c3, c4]); first | rfl | (w_num; rfl)); (case he => intro w; simp [go_sem, *]); walk_nrm)
        q_skip
        q_skip
        (apply QuitsD.value; (case ho => rfl); (case hw => rfl); (case hk => k_ne); (case hr => intro w; go_simp; (try simp only [q3, q4, q5, c1, c3, c4]); first | rfl | (w_num; rfl)); (case he => intro w; simp [go_sem, *]); walk_nrm)
        q_c stepG_region_end
        q_cond false
        q_c stepG_skip
        q_c stepG_seq
        q_reg
        (apply QuitsD.value; (case ho => rfl); (case hw => rfl); (case hk => k_ne); (case hr => intro w; go_simp; (try simp only [q3, q4, q5, c1, c3, c4]); first | rfl | (w_num; rfl)); (case he => intro w; simp [go_sem, *]); walk_nrm)
        (apply QuitsD.value; (case ho => rfl); (case hw => rfl); (case hk => k_ne); (case hr => intro w; go_simp; (try simp only [q3, q4, q5, c1, c3, c4]); first | rfl | (w_num; rfl)); (case he => intro w; simp [go_sem, *]); walk_nrm)
        (apply QuitsD.value; (case ho => rfl); (case hw => rfl); (case hk => k_ne); (case hr => intro w; go_simp; (try simp only [q3, q4, q5, c1, c3, c4]); first | rfl | (w_num; rfl)); (case he => intro w; simp [go_sem, *]); walk_nrm)
        (apply QuitsD.value; (case ho => rfl); (case hw => rfl); (case hk => k_ne); (case hr => intro w; go_simp; (try simp only [q3, q4, q5, c1, c3, c4]); first | rfl | (w_num; rfl)); (case he => intro w; simp [go_sem, *]); walk_nrm)
        q_c stepG_region_end
        q_c stepG_seq
        q_reg
        (apply QuitsD.value; (case ho => rfl); (case hw => rfl); (case hk => k_ne); (case hr => intro w; go_simp; (try simp only [q3, q4, q5, c1, c3, c4]); first | rfl | (w_num; rfl)); (case he => intro w; simp [go_sem, *]); walk_nrm)
        (apply QuitsD.value; (case ho => rfl); (case hw => rfl); (case hk => k_ne); (case hr => intro w; go_simp; (try simp only [q3, q4, q5, c1, c3, c4]); first | rfl | (w_num; rfl)); (case he => intro w; simp [go_sem, *]); walk_nrm)
        (apply QuitsD.value; (case ho => rfl); (case hw => rfl); (case hk => k_ne); (case hr => intro w; go_simp; (try simp only [q3, q4, q5, c1, c3, c4]); first | rfl | (w_num; rfl)); (case he => intro w; simp [go_sem, *]); walk_nrm)
        (apply QuitsD.value; (case ho => rfl); (case hw => rfl); (case hk => k_ne); (case hr => intro w; go_simp; (try simp only [q3, q4, q5, c1, c3, c4]); first | rfl | (w_num; rfl)); (case he => intro w; simp [go_sem, *]); walk_nrm)
        q_c stepG_region_end
        q_c stepG_seq
        q_c stepG_seq
        q_reg
        (apply QuitsD.value; (case ho => rfl); (case hw => rfl); (case hk => k_ne); (case hr => intro w; go_simp; (try simp only [q3, q4, q5, c1, c3, c4]); first | rfl | (w_num; rfl)); (case he => intro w; simp [go_sem, *]); walk_nrm)
        (apply QuitsD.value; (case ho => rfl); (case hw => rfl); (case hk => k_ne); (case hr => intro w; go_simp; (try simp only [q3, q4, q5, c1, c3, c4]); first | rfl | (w_num; rfl)); (case he => intro w; simp [go_sem, *]); walk_nrm)
        (apply QuitsD.value; (case ho => rfl); (case hw => rfl); (case hk => k_ne); (case hr => intro w; go_simp; (try simp only [q3, q4, q5, c1, c3, c4]); first | rfl | (w_num; rfl)); (case he => intro w; simp [go_sem, *]); walk_nrm)
        (apply QuitsD.value; (case ho => rfl); (case hw => rfl); (case hk => k_ne); (case hr => intro w; go_simp; (try simp only [q3, q4, q5, c1, c3, c4]); first | rfl | (w_num; rfl)); (case he => intro w; simp [go_sem, *]); walk_nrm)
        (apply QuitsD.value; (case ho => rfl); (case hw => rfl); (case hk => k_ne); (case hr => intro w; go_simp; (try simp only [q3, q4, q5, c1, c3, c4]); first | rfl | (w_num; rfl)); (case he => intro w; simp [go_sem, *]); walk_nrm)
        q_skip
        q_skip
        q_skip
        q_skip
        (apply QuitsD.value; (case ho => rfl); (case hw => rfl); (case hk => k_ne); (case hr => intro w; go_simp; (try simp only [q3, q4, q5, c1, c3, c4]); first | rfl | (w_num; rfl)); (case he => intro w; simp [go_sem, *]); walk_nrm)
        q_c stepG_region_end
        q_cond false
        q_c stepG_skip
        q_c stepG_seq
        q_c stepG_seq
        q_reg
        (apply QuitsD.value; (case ho => rfl); (case hw => rfl); (case hk => k_ne); (case hr => intro w; go_simp; (try simp only [q3, q4, q5, c1, c3, c4]); first | rfl | (w_num; rfl)); (case he => intro w; simp [go_sem, *]); walk_nrm)
        (apply QuitsD.value; (case ho => rfl); (case hw => rfl); (case hk => k_ne); (case hr => intro w; go_simp; (try simp only [q3, q4, q5, c1, c3, c4]); first | rfl | (w_num; rfl)); (case he => intro w; simp [go_sem, *]); walk_nrm)
        q_c stepG_region_end
        q_cond false
        q_c stepG_skip
        q_c stepG_seq
        q_c stepG_seq
        q_reg
        (apply QuitsD.value; (case ho => rfl); (case hw => rfl); (case hk => k_ne); (case hr => intro w; go_simp; (try simp only [q3, q4, q5, c1, c3, c4]); first | rfl | (w_num; rfl)); (case he => intro w; simp [go_sem, *]); walk_nrm)
        (apply QuitsD.value; (case ho => rfl); (case hw => rfl); (case hk => k_ne); (case hr => intro w; go_simp; (try simp only [q3, q4, q5, c1, c3, c4]); first | rfl | (w_num; rfl)); (case he => intro w; simp [go_sem, *]); walk_nrm)
        (apply QuitsD.value; (case ho => rfl); (case hw => rfl); (case hk => k_ne); (case hr => intro w; go_simp; (try simp only [q3, q4, q5, c1, c3, c4]); first | rfl | (w_num; rfl)); (case he => intro w; simp [go_sem, *]); walk_nrm)
        q_skip
        q_skip
        (apply QuitsD.value; (case ho => rfl); (case hw => rfl); (case hk => k_ne); (case hr => intro w; go_simp; (try simp only [q3, q4, q5, c1, c3, c4]); first | rfl | (w_num; rfl)); (case he => intro w; simp [go_sem, *]); walk_nrm)
        (apply QuitsD.value; (case ho => rfl); (case hw => rfl); (case hk => k_ne); (case hr => intro w; go_simp; (try simp only [q3, q4, q5, c1, c3, c4]); first | rfl | (w_num; rfl)); (case he => intro w; simp [go_sem, *]); walk_nrm)
        q_skip
        q_skip
        q_skip
        q_skip
        (apply QuitsD.value; (case ho => rfl); (case hw => rfl); (case hk => k_ne); (case hr => intro w; go_simp; (try simp only [q3, q4, q5, c1, c3, c4]); first | rfl | (w_num; rfl)); (case he => intro w; simp [go_sem, *]); walk_nrm)
        q_c stepG_region_end
        q_cond false
        q_c stepG_skip
        q_c stepG_seq
        q_c stepG_seq
        q_reg
        (apply QuitsD.value; (case ho => rfl); (case hw => rfl); (case hk => k_ne); (case hr => intro w; go_simp; (try simp only [q3, q4, q5, c1, c3, c4]); first | rfl | (w_num; rfl)); (case he => intro w; simp [go_sem, *]); walk_nrm)
        (apply QuitsD.value; (case ho => rfl); (case hw => rfl); (case hk => k_ne); (case hr => intro w; go_simp; (try simp only [q3, q4, q5, c1, c3, c4]); first | rfl | (w_num; rfl)); (case he => intro w; simp [go_sem, *]); walk_nrm)
        (apply QuitsD.value; (case ho => rfl); (case hw => rfl); (case hk => k_ne); (case hr => intro w; go_simp; (try simp only [q3, q4, q5, c1, c3, c4]); first | rfl | (w_num; rfl)); (case he => intro w; simp [go_sem, *]); walk_nrm)
        q_skip
        q_skip
        (apply QuitsD.value; (case ho => rfl); (case hw => rfl); (case hk => k_ne); (case hr => intro w; go_simp; (try simp only [q3, q4, q5, c1, c3, c4]); first | rfl | (w_num; rfl)); (case he => intro w; simp [go_sem, *]); walk_nrm)
        q_c stepG_region_end
        q_cond true
        q_c stepG_ret'
        q_enable
        q_leave0 H.f_add
        exact hT
    · replace b2 : bits .and .u64 S 2147483647 = 1 := b2
      clear c2
      have hvp : 0 < v := by omega
      have q4 : decide (0 < (v : Int)) = true := decide_eq_true (by omega)
      have q5 : ((v : Int) == 0) = false := by simp; omega
      walk_nrm
      (apply QuitsD.value; (case ho => rfl); (case hw => rfl); (case hk => k_ne); (case hr => intro w; go_simp; (try simp only [q3, q4, q5, c1, c3, c4]); first | rfl | (w_num; rfl)); (case he => intro w; simp [go_sem, *]); walk_nrm)
      q_c stepG_region_end
      q_c stepG_ret'
      q_leave1 H.f_uAdd
      (apply QuitsD.value; (case ho => rfl); (case hw => rfl); (case hk => k_ne); (case hr => intro w; go_simp; (try simp only [q3, q4, q5, c1, c3, c4]); first | rfl | (w_num; rfl)); (case he => intro w; simp [go_sem, *]); walk_nrm)
      q_c stepG_region_end
      q_c stepG_seq
      q_c stepG_seq
      q_reg
      (apply QuitsD.value; (case ho => rfl); (case hw => rfl); (case hk => k_ne); (case hr => intro w; go_simp; (try simp only [q3, q4, q5, c1, c3, c4]); first | rfl | (w_num; rfl)); (case he => intro w; simp [go_sem, *]); walk_nrm)
      (apply QuitsD.value; (case ho => rfl); (case hw => rfl); (case hk => k_ne); (case hr => intro w; go_simp; (try simp only [q3, q4, q5, c1, c3, c4]); first | rfl | (w_num; rfl)); (case he => intro w; simp [go_sem, *]); walk_nrm)
      (apply QuitsD.value; (case ho => rfl); (case hw => rfl); (case hk => k_ne); (case hr => intro w; go_simp; (try simp only [q3, q4, q5, c1, c3, c4]); first | rfl | (w_num; rfl)); (case he => intro w; simp [go_sem, *]); walk_nrm)
      (apply QuitsD.value; (case ho => rfl); (case hw => rfl); (case hk => k_ne); (case hr => intro w; go_simp; (try simp only [q3, q4, q5, c1, c3, c4]); first | rfl | (w_num; rfl)); (case he => intro w; simp [go_sem, *]); walk_nrm)
      q_skip
      q_skip
      (apply QuitsD.value; (case ho => rfl); (case hw => rfl); (case hk => k_ne); (case hr => intro w; go_simp; (try simp only [q3, q4, q5, c1, c3, c4]); first | rfl | (w_num; rfl)); (case he => intro w; simp [go_sem, *]); walk_nrm)
      q_c stepG_region_end
      q_cond false
      q_c stepG_skip
      q_c stepG_seq
      q_reg
      (apply QuitsD.value; (case ho => rfl); (case hw => rfl); (case hk => k_ne); (case hr => intro w; go_simp; (try simp only [q3, q4, q5, c1, c3, c4]); first | rfl | (w_num; rfl)); (case he => intro w; simp [go_sem, *]); walk_nrm)
      (apply QuitsD.value; (case ho => rfl); (case hw => rfl); (case hk => k_ne); (case hr => intro w; go_simp; (try simp only [q3, q4, q5, c1, c3, c4]); first | rfl | (w_num; rfl)); (case he => intro w; simp [go_sem, *]); walk_nrm)
      (apply QuitsD.value; (case ho => rfl); (case hw => rfl); (case hk => k_ne); (case hr => intro w; go_simp; (try simp only [q3, q4, q5, c1, c3, c4]); first | rfl | (w_num; rfl)); (case he => intro w; simp [go_sem, *]); walk_nrm)
      (apply QuitsD.value; (case ho => rfl); (case hw => rfl); (case hk => k_ne); (case hr => intro w; go_simp; (try simp only [q3, q4, q5, c1, c3, c4]); first | rfl | (w_num; rfl)); (case he => intro w; simp [go_sem, *]); walk_nrm)
      q_c stepG_region_end
      q_c stepG_seq
      q_reg
      (apply QuitsD.value; (case ho => rfl); (case hw => rfl); (case hk => k_ne); (case hr => intro w; go_simp; (try simp only [q3, q4, q5, c1, c3, c4]); first | rfl | (w_num; rfl)); (case he => intro w; simp [go_sem, *]); walk_nrm)
      (apply QuitsD.value; (case ho => rfl); (case hw => rfl); (case hk => k_ne); (case hr => intro w; go_simp; (try simp only [q3, q4, q5, c1, c3, c4]); first | rfl | (w_num; rfl)); (case he => intro w; simp [go_sem, *]); walk_nrm)
      (apply QuitsD.value; (case ho => rfl); (case hw => rfl); (case hk => k_ne); (case hr => intro w; go_simp; (try simp only [q3, q4, q5, c1, c3, c4]); first | rfl | (w_num; rfl)); (case he => intro w; simp [go_sem, *]); walk_nrm)
      (apply QuitsD.value; (case ho => rfl); (case hw => rfl); (case hk => k_ne); (case hr => intro w; go_simp; (try simp only [q3, q4, q5, c1, c3, c4]); first | rfl | (w_num; rfl)); (case he => intro w; simp [go_sem, *]); walk_nrm)
      q_c stepG_region_end
      q_c stepG_seq
      q_c stepG_seq
      q_reg
      (apply QuitsD.value; (case ho => rfl); (case hw => rfl); (case hk => k_ne); (case hr => intro w; go_simp; (try simp only [q3, q4, q5, c1, c3, c4]); first | rfl | (w_num; rfl)); (case he => intro w; simp [go_sem, *]); walk_nrm)
      (apply QuitsD.value; (case ho => rfl); (case hw => rfl); (case hk => k_ne); (case hr => intro w; go_simp; (try simp only [q3, q4, q5, c1, c3, c4]); first | rfl | (w_num; rfl)); (case he => intro w; simp [go_sem, *]); walk_nrm)
      (apply QuitsD.value; (case ho => rfl); (case hw => rfl); (case hk => k_ne); (case hr => intro w; go_simp; (try simp only [q3, q4, q5, c1, c3, c4]); first | rfl | (w_num; rfl)); (case he => intro w; simp [go_sem, *]); walk_nrm)
      (apply QuitsD.value; (case ho => rfl); (case hw => rfl); (case hk => k_ne); (case hr => intro w; go_simp; (try simp only [q3, q4, q5, c1, c3, c4]); first | rfl | (w_num; rfl)); (case he => intro w; simp [go_sem, *]); walk_nrm)
      (apply QuitsD.value; (case ho => rfl); (case hw => rfl); (case hk => k_ne); (case hr => intro w; go_simp; (try simp only [q3, q4, q5, c1, c3, c4]); first | rfl | (w_num; rfl)); (case he => intro w; simp [go_sem, *]); walk_nrm)
      q_skip
      q_skip
      q_skip
      q_skip
      (apply QuitsD.value; (case ho => rfl); (case hw => rfl); (case hk => k_ne); (case hr => intro w; go_simp; (try simp only [q3, q4, q5, c1, c3, c4]); first | rfl | (w_num; rfl)); (case he => intro w; simp [go_sem, *]); walk_nrm)
      q_c stepG_region_end
      q_cond false
      q_c stepG_skip
      q_c stepG_seq
      q_c stepG_seq
      q_reg
      (apply QuitsD.value; (case ho => rfl); (case hw => rfl); (case hk => k_ne); (case hr => intro w; go_simp; (try simp only [q3, q4, q5, c1, c3, c4]); first | rfl | (w_num; rfl)); (case he => intro w; simp [go_sem, *]); walk_nrm)
      (apply QuitsD.value; (case ho => rfl); (case hw => rfl); (case hk => k_ne); (case hr => intro w; go_simp; (try simp only [q3, q4, q5, c1, c3, c4]); first | rfl | (w_num; rfl)); (case he => intro w; simp [go_sem, *]); walk_nrm)
      q_c stepG_region_end
      q_cond false
      q_c stepG_skip
      q_c stepG_seq
      q_c stepG_seq
      q_reg
      (apply QuitsD.value; (case ho => rfl); (case hw => rfl); (case hk => k_ne); (case hr => intro w; go_simp; (try simp only [q3, q4, q5, c1, c3, c4]); first | rfl | (w_num; rfl)); (case he => intro w; simp [go_sem, *]); walk_nrm)
      (apply QuitsD.value; (case ho => rfl); (case hw => rfl); (case hk => k_ne); (case hr => intro w; go_simp; (try simp only [q3, q4, q5, c1, c3, c4]); first | rfl | (w_num; rfl)); (case he => intro w; simp [go_sem, *]); walk_nrm)
      (apply QuitsD.value; (case ho => rfl); (case hw => rfl); (case hk => k_ne); (case hr => intro w; go_simp; (try simp only [q3, q4, q5, c1, c3, c4]); first | rfl | (w_num; rfl)); (case he => intro w; simp [go_sem, *]); walk_nrm)
      (apply QuitsD.value; (case ho => rfl); (case hw => rfl); (case hk => k_ne); (case hr => intro w; go_simp; (try simp only [q3, q4, q5, c1, c3, c4]); first | rfl | (w_num; rfl)); (case he => intro w; simp [go_sem, *]); walk_nrm)
      (apply QuitsD.value; (case ho => rfl); (case hw => rfl); (case hk => k_ne); (case hr => intro w; go_simp; (try simp only [q3, q4, q5, c1, c3, c4]); first | rfl | (w_num; rfl)); (case he => intro w; simp [go_sem, *]); walk_nrm)
      (apply QuitsD.value; (case ho => rfl); (case hw => rfl); (case hk => k_ne); (case hr => intro w; go_simp; (try simp only [q3, q4, q5, c1, c3, c4]); first | rfl | (w_num; rfl)); (case he => intro w; simp [go_sem, *]); walk_nrm)
      (apply QuitsD.value; (case ho => rfl); (case hw => rfl); (case hk => k_ne); (case hr => intro w; go_simp; (try simp only [q3, q4, q5, c1, c3, c4]); first | rfl | (w_num; rfl)); (case he => intro w; simp [go_sem, *]); walk_nrm)
      q_skip
      q_skip
      q_skip
      q_skip
      (apply QuitsD.value; (case ho => rfl); (case hw => rfl); (case hk => k_ne); (case hr => intro w; go_simp; (try simp only [q3, q4, q5, c1, c3, c4]); first | rfl | (w_num; rfl)); (case he => intro w; simp [go_sem, *]); walk_nrm)
      q_c stepG_region_end
      q_cond false
      q_c stepG_skip
      q_c stepG_seq
      q_c stepG_seq
      q_reg
      (apply QuitsD.value; (case ho => rfl); (case hw => rfl); (case hk => k_ne); (case hr => intro w; go_simp; (try simp only [q3, q4, q5, c1, c3, c4]); first | rfl | (w_num; rfl)); (case he => intro w; simp [go_sem, *]); walk_nrm)
      (apply QuitsD.value; (case ho => rfl); (case hw => rfl); (case hk => k_ne); (case hr => intro w; go_simp; (try simp only [q3, q4, q5, c1, c3, c4]); first | rfl | (w_num; rfl)); (case he => intro w; simp [go_sem, *]); walk_nrm)
      (apply QuitsD.value; (case ho => rfl); (case hw => rfl); (case hk => k_ne); (case hr => intro w; go_simp; (try simp only [q3, q4, q5, c1, c3, c4]); first | rfl | (w_num; rfl)); (case he => intro w; simp [go_sem, *]); walk_nrm)
      q_skip
      q_skip
      (apply QuitsD.value; (case ho => rfl); (case hw => rfl); (case hk => k_ne); (case hr => intro w; go_simp; (try simp only [q3, q4, q5, c1, c3, c4]); first | rfl | (w_num; rfl)); (case he => intro w; simp [go_sem, *]); walk_nrm)
      q_c stepG_region_end
      q_cond true
      q_c stepG_ret'
      q_enable
      q_leave0 H.f_add
      exact hT
end
end Go.Eng
