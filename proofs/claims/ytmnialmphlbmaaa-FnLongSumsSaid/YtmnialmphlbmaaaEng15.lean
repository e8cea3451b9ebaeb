import Derived.Test.YtmnialmphlbmaaaEng14
set_option linter.unusedVariables false
set_option linter.unusedSimpArgs false
/- The library's sync.WaitGroup, walked beside others: Done, Wait. -/
set_option linter.unusedSimpArgs false
set_option linter.unusedVariables false
set_option linter.unusedSectionVars false
namespace Go.Eng
open Go Go.Conc Go.RowKit Go.Conc.Lib Go.ConcR.Gen Go.ConcN.Gen
open Go.ConcN hiding upd upd_same upd_ne AtD4 AtD3 AtD2 AtD1 AtK1 AtR0 AtAcq AtKe AtW4 AtW3 AtW2 AtW1 AtKd WSit AtA1
open Go.ConcR (KK wgBlock WgAt stA smA rd wr DC0 Payload)

section
variable [Payload] {P : Program} {L : WgLink} {Φ : Ph} {cs : List Frame} {qt : Nat}

theorem gor_eq (fr : Frame) (cs : List Frame) : gor fr cs = G fr cs := rfl

set_option maxRecDepth 100000 in
set_option maxHeartbeats 8000000 in
theorem walkDone (H : WgLib P L) (hCW : Φ.C ≠ Φ.Wg) {c : Frame} (hcm : c.mode = .returning) (hT : QuitsD P qt 0 (G c cs)) (w : World) (hK : Φ.J w) :
    Goes P false (fun _ w₁ => Φ.J w₁) DC0 (AtR0 P Φ) 103 (G ((baseD L.done).at ⟨#[.pointer (some ⟨Φ.Wg, 0, none⟩), undef, undef, undef], []⟩ [.code (body_done L)]) (c :: cs)) w := by
  lib_facts
  have hA := @walkNeg _ P L Φ
  simp only [body_done, body_add, doneFn, addFn, Option.getD_some] at hA ⊢
  u_reg jl hK
  u_op jl hK
  u_in jl hK
  refine goes_call rfl rfl (by k_ne) rfl H.f_add (nm_add L) rfl ⟨by u_nil, ?_⟩
  walk_nrmf addFn
  refine hA (qt := qt + 3) H hCW ?_ _ hK
  q_c stepG_region_end
  q_c stepG_end
  exact QuitsD.leaveD rfl rfl H.f_done rfl hcm hT

variable {b₀ : Frame} {a₀ : Act} {ops₀ : Array Oper} {i₀ : Nat} {rest₀ : List Nat} {k₀ : List Item}

/-- Behind Wait's last said mark: nothing but the way back to the caller. -/
def Back (P : Program) (fr₁ : Frame) (cs₁ : List Frame) (fr : Frame) (cs : List Frame) : Prop :=
  ∀ (S : Shared) (Post : Frame → List Frame → Heap → Prop) (h : Heap), Safe P S Post fr₁ cs₁ h → Safe P S Post fr cs h

section
variable {S : Shared} {Post : Frame → List Frame → Heap → Prop} {h : Heap} {b : Frame} {a : Act} {k : List Item}
theorem sf_value {ops : Array Oper} {i : Nat} {rest : List Nat} {o : Oper} (v : Value) (ho : ops[i]? = some o) (hw : Region.wanted o (yielded ops a.tmps) = true) (hk : b.kind ≠ .early)
    (hr : ∀ w, (execOp a.eval o).run P w = .ok (.value v) w) (he : ∀ w, (execOp a.eval o).events P w #[] = #[])
    (K : Safe P S Post (b.at (a.put o.dst v) (.inRegion ops rest :: k)) cs h) : Safe P S Post (b.at a (.inRegion ops (i :: rest) :: k)) cs h :=
  .silent (fun w m => by show stepG P m (G _ _) w = _; rw [stepG_value ho hw hk (hr w)]; unfold listed; rw [he w, seen_none]; rfl) K
theorem sf_unwanted {ops : Array Oper} {i : Nat} {rest : List Nat} {o : Oper} (ho : ops[i]? = some o) (hw : Region.wanted o (yielded ops a.tmps) = false)
    (K : Safe P S Post (b.at (a.put o.dst undef) (.inRegion ops rest :: k)) cs h) : Safe P S Post (b.at a (.inRegion ops (i :: rest) :: k)) cs h :=
  .silent (fun _ _ => stepG_unwanted ho hw) K
theorem sf_leave0 {fn : Func} {b₀ : Frame} {a₀ : Act} {ops : Array Oper} {i : Nat} {rest : List Nat} {todo : List Item} (hn : b.kind = .normal) (hd : a.defers = []) (hf : P.funcs[b.fn]? = some fn) (hr : fn.results = #[])
    (K : Safe P S Post (b₀.at (a₀.put ((ops[i]?).bind (·.dst)) (.tuple #[])) (.inRegion ops rest :: k)) cs h) : Safe P S Post { b.at a todo with mode := .returning } (b₀.at a₀ (.inRegion ops (i :: rest) :: k) :: cs) h :=
  .silent (fun w m => by show stepG P m (G _ _) w = _; rw [stepG_leave hn hd hf (results_none hr _ P w) (events_results_none hr _ _), Frame.finish_at]; rfl) K
end

def AnchW (L : WgLink) (Wg : Nat) (c : Frame) (cs : List Frame) (g : Goroutine) : Prop :=
  ∃ T : Array Value, g = G ((base L.wait).at ⟨T, []⟩ [.code (L7 L), .inLoop (L7 L), .inBlock 0]) (c :: cs) ∧ T.size = 84 ∧ T[0]? = some (.pointer (some ⟨Wg, 0, none⟩))

set_option maxRecDepth 100000 in
set_option maxHeartbeats 8000000 in
theorem walkRound (H : WgLib P L) (hCW : Φ.C ≠ Φ.Wg) (g : Goroutine) (h : AnchW L Φ.Wg (b₀.at a₀ (.inRegion ops₀ (i₀ :: rest₀) :: k₀)) cs g) (w : World) (hK : Φ.J w) :
    Goes P true (fun _ w₁ => Φ.J w₁) DC0 (AtW1 P Φ (Back P (b₀.at (a₀.put ((ops₀[i₀]?).bind (·.dst)) (.tuple #[])) (.inRegion ops₀ rest₀ :: k₀)) cs) (AnchW L Φ.Wg (b₀.at a₀ (.inRegion ops₀ (i₀ :: rest₀) :: k₀)) cs)) 100 g w := by
  lib_facts
  obtain ⟨T, rfl, hT84, t0⟩ := h
  obtain ⟨v0, v1, v2, v3, v4, v5, v6, v7, v8, v9, v10, v11, v12, v13, v14, v15, v16, v17, v18, v19, v20, v21, v22, v23, v24, v25, v26, v27, v28, v29, v30, v31, v32, v33, v34, v35, v36, v37, v38, v39, v40, v41, v42, v43, v44, v45, v46, v47, v48, v49, v50, v51, v52, v53, v54, v55, v56, v57, v58, v59, v60, v61, v62, v63, v64, v65, v66, v67, v68, v69, v70, v71, v72, v73, v74, v75, v76, v77, v78, v79, v80, v81, v82, v83, rfl⟩ := array84 T hT84
  simp only [List.getElem?_toArray, List.getElem?_cons_zero, Option.some.injEq] at t0
  subst t0
  simp only [L7, body_wait, waitFn, Option.getD_some]
  u_c stepG_block jl hK
  u_c stepG_seq jl hK
  u_reg jl hK
  u_op jl hK
  u_op jl hK
  u_op jl hK
  u_call H.f_uLoad (nm_uLoad L) uLoadFn jl hK
  u_c stepG_seq jl hK
  u_reg jl hK
  u_op jl hK
  u_c stepG_region_end jl hK
  u_c stepG_seq jl hK
  u_reg jl hK
  u_op jl hK
  u_op jl hK
  u_op jl hK
  refine Goes.stop (fun w₁ h₁ => ?_)
  replace hK := jl hK h₁
  clear h₁
  refine ⟨rfl, fun v hv hw => ?_⟩
  rcases Nat.eq_zero_or_pos v with rfl | hvp
  · replace hw : WgAt Φ.ty Φ.Wg w₁ 0 0 := by simpa using hw
    refine ⟨_, stepG_load_atomic (v := 0) rfl rfl (by k_ne) rfl H.f_loadU64 (x_loadU64_n L) (x_loadU64_b L) (x_loadU64_x L) .u64 (x_loadU64_f L) rfl hw.cellSt, fun _ => ⟨100, Sil.of (w := w₁) ?_⟩, fun h => absurd rfl h⟩
    clear hw
    walk_nrm
    u_op jl hK
    u_c stepG_region_end jl hK
    u_c stepG_ret' jl hK
    u_leave1 H.f_uLoad jl hK
    u_op jl hK
    u_c stepG_region_end jl hK
    u_c stepG_seq jl hK
    u_reg jl hK
    u_op jl hK
    u_op jl hK
    u_op jl hK
    u_op jl hK
    u_c stepG_region_end jl hK
    u_c stepG_seq jl hK
    u_reg jl hK
    u_op jl hK
    u_op jl hK
    u_op jl hK
    u_op jl hK
    u_c stepG_region_end jl hK
    u_c stepG_seq jl hK
    u_c stepG_seq jl hK
    u_reg jl hK
    u_op jl hK
    u_op jl hK
    u_c stepG_region_end jl hK
    u_cond true jl hK
    u_c stepG_seq jl hK
    u_cond true jl hK
    u_c stepG_seq jl hK
    u_reg jl hK
    refine Goes.stop (fun w₁ h₁ => ?_)
    replace hK := jl hK h₁
    clear h₁
    refine ⟨rfl, _, stepG_mark0 .enable (by simp) rfl rfl (by k_ne) rfl H.f_enable (x_enable_n L) (x_enable_b L) (x_enable_x L) (x_enable_f L), 100, Sil.of (w := w₁) ?_⟩
    walk_nrm
    u_c stepG_region_end jl hK
    u_reg jl hK
    u_op jl hK
    u_conv H.underlying_tWgP H.room_tWg (J.cell0 hK).choose_spec jl hK
    refine Goes.stop (fun w₁ h₁ => ?_)
    replace hK := jl hK h₁
    clear h₁
    refine ⟨rfl, _, _, stepG_markAt .acquire (by simp) rfl rfl (by k_ne) rfl H.f_acquire (x_acquire_n L) (x_acquire_b L) (x_acquire_x L) (x_acquire_f L) (by simp [Act.eval, stA]), fun S Post hh K => ?_⟩
    clear hK
    walk_nrm
    refine Safe.silent (fun _ _ => stepG_region_end) ?_
    refine Safe.silent (fun _ _ => stepG_seq) ?_
    refine Safe.silent (fun _ _ => stepG_seq) ?_
    (refine Safe.silent (fun _ _ => stepG_region) ?_; simp only [List.size_toArray, List.length_cons, List.length_nil, Nat.reduceAdd, Nat.zero_add, List.range, List.range.loop])
    (apply sf_value; (case ho => rfl); (case hw => rfl); (case hk => k_ne); (case hr => intro w; go_simp; (try simp only [q3, q4, q5, q6, a1, b1, b2, c1, c3, c4]); first | rfl | (w_num; rfl)); (case he => intro w; simp [go_sem, *]); walk_nrm)
    (apply sf_value; (case ho => rfl); (case hw => rfl); (case hk => k_ne); (case hr => intro w; go_simp; (try simp only [q3, q4, q5, q6, a1, b1, b2, c1, c3, c4]); first | rfl | (w_num; rfl)); (case he => intro w; simp [go_sem, *]); walk_nrm)
    (apply sf_value; (case ho => rfl); (case hw => rfl); (case hk => k_ne); (case hr => intro w; go_simp; (try simp only [q3, q4, q5, q6, a1, b1, b2, c1, c3, c4]); first | rfl | (w_num; rfl)); (case he => intro w; simp [go_sem, *]); walk_nrm)
    (apply sf_value; (case ho => rfl); (case hw => rfl); (case hk => k_ne); (case hr => intro w; go_simp; (try simp only [q3, q4, q5, q6, a1, b1, b2, c1, c3, c4]); first | rfl | (w_num; rfl)); (case he => intro w; simp [go_sem, *]); walk_nrm)
    (apply sf_value; (case ho => rfl); (case hw => rfl); (case hk => k_ne); (case hr => intro w; go_simp; (try simp only [q3, q4, q5, q6, a1, b1, b2, c1, c3, c4]); first | rfl | (w_num; rfl)); (case he => intro w; simp [go_sem, *]); walk_nrm)
    (apply sf_value; (case ho => rfl); (case hw => rfl); (case hk => k_ne); (case hr => intro w; go_simp; (try simp only [q3, q4, q5, q6, a1, b1, b2, c1, c3, c4]); first | rfl | (w_num; rfl)); (case he => intro w; simp [go_sem, *]); walk_nrm)
    (apply sf_value; (case ho => rfl); (case hw => rfl); (case hk => k_ne); (case hr => intro w; go_simp; (try simp only [q3, q4, q5, q6, a1, b1, b2, c1, c3, c4]); first | rfl | (w_num; rfl)); (case he => intro w; simp [go_sem, *]); walk_nrm)
    (apply sf_value; (case ho => rfl); (case hw => rfl); (case hk => k_ne); (case hr => intro w; go_simp; (try simp only [q3, q4, q5, q6, a1, b1, b2, c1, c3, c4]); first | rfl | (w_num; rfl)); (case he => intro w; simp [go_sem, *]); walk_nrm)
    (refine sf_unwanted rfl rfl ?_; walk_nrm)
    (refine sf_unwanted rfl rfl ?_; walk_nrm)
    (apply sf_value; (case ho => rfl); (case hw => rfl); (case hk => k_ne); (case hr => intro w; go_simp; (try simp only [q3, q4, q5, q6, a1, b1, b2, c1, c3, c4]); first | rfl | (w_num; rfl)); (case he => intro w; simp [go_sem, *]); walk_nrm)
    refine Safe.silent (fun _ _ => stepG_region_end) ?_
    (refine Safe.silent (fun _ _ => stepG_cond (t := false) rfl) ?_; simp only [if_true, if_false, Bool.false_eq_true, ↓reduceIte])
    refine Safe.silent (fun _ _ => stepG_skip) ?_
    refine Safe.silent (fun _ _ => stepG_ret') ?_
    refine sf_leave0 rfl rfl H.f_wait rfl ?_
    exact K
  · obtain ⟨S, hS⟩ : ∃ S : Int, (v : Int) * KK = S := ⟨_, rfl⟩
    have a1 : S / 4294967296 = (v : Int) := by rw [← hS]; simp only [KK]; omega
    have b1 : bits .and .u64 S 2147483648 = 0 := by rw [← hS]; have := st_flag v 0 (by omega) (by omega); simpa [KK] using this
    have b2 : bits .and .u64 S 2147483647 = 0 := by rw [← hS]; have := st_waiters v 0 (by omega) (by omega); simpa [KK] using this
    have c1 : IntKind.i32.wrap (v : Int) = (v : Int) := by rw [IntKind.wrap_i32]; omega
    have w1 : IntKind.u64.wrap (S + 1) = S + 1 := by rw [IntKind.wrap_u64, ← hS]; simp only [KK]; omega
    have q3 : decide ((v : Int) < 0) = false := decide_eq_false (by omega)
    have q4 : decide (0 < (v : Int)) = true := decide_eq_true (by omega)
    have q5 : ((v : Int) == 0) = false := by simp; omega
    have q6 : decide ((v : Int) = 0) = false := decide_eq_false (by omega)
    rw [hS] at hw
    refine ⟨_, stepG_load_atomic (v := S) rfl rfl (by k_ne) rfl H.f_loadU64 (x_loadU64_n L) (x_loadU64_b L) (x_loadU64_x L) .u64 (x_loadU64_f L) rfl hw.cellSt, fun h0 => absurd h0 (by omega), fun _ => ⟨200, Sil.of (w := w₁) ?_⟩⟩
    clear hw
    walk_nrm
    u_op jl hK
    u_c stepG_region_end jl hK
    u_c stepG_ret' jl hK
    u_leave1 H.f_uLoad jl hK
    u_op jl hK
    u_c stepG_region_end jl hK
    u_c stepG_seq jl hK
    u_reg jl hK
    u_op jl hK
    u_op jl hK
    u_op jl hK
    u_op jl hK
    u_c stepG_region_end jl hK
    u_c stepG_seq jl hK
    u_reg jl hK
    u_op jl hK
    u_op jl hK
    u_op jl hK
    u_op jl hK
    u_c stepG_region_end jl hK
    u_c stepG_seq jl hK
    u_c stepG_seq jl hK
    u_reg jl hK
    u_op jl hK
    u_op jl hK
    u_c stepG_region_end jl hK
    u_cnd false jl hK
    u_c stepG_skip jl hK
    u_c stepG_seq jl hK
    u_reg jl hK
    u_op jl hK
    u_op jl hK
    u_op jl hK
    u_op jl hK
    u_op jl hK
    u_op jl hK
    u_call H.f_uCas (nm_uCas L) uCasFn jl hK
    u_c stepG_seq jl hK
    u_reg jl hK
    u_op jl hK
    u_c stepG_region_end jl hK
    u_c stepG_seq jl hK
    u_reg jl hK
    u_op jl hK
    u_op jl hK
    u_op jl hK
    u_op jl hK
    u_op jl hK
    refine Goes.stop (fun w₁ h₁ => ?_)
    replace hK := jl hK h₁
    clear h₁
    refine ⟨rfl, fun v' hv' hw => ⟨fun e => ?_, fun e => ?_⟩⟩
    · subst e
      rw [hS] at hw ⊢
      refine ⟨_, (stepG_cas_hit (v := S) (n := S + 1) rfl rfl (by k_ne) rfl H.f_casU64 (x_casU64_n L) (x_casU64_b L) (x_casU64_x L) .u64 (x_casU64_f L) rfl rfl rfl hw.cellSt (hw.thaw 0)).trans (by rfl), 200, Sil.of (w := w₁.setCell (stA Φ.Wg) (.int .u64 (S + 1))) ?_⟩
      replace hK := J.setSt hCW hK hw (S + 1)
      generalize w₁.setCell (stA Φ.Wg) (.int .u64 (S + 1)) = w₂ at hK
      clear hw
      walk_nrm
      u_op jl hK
      u_c stepG_region_end jl hK
      u_c stepG_ret' jl hK
      u_leave1 H.f_uCas jl hK
      u_c stepG_region_end jl hK
      u_cond true jl hK
      u_c stepG_seq jl hK
      u_c stepG_seq jl hK
      u_reg jl hK
      u_op jl hK
      u_op jl hK
      u_op jl hK
      u_op jl hK
      u_c stepG_region_end jl hK
      u_cond true jl hK
      u_reg jl hK
      u_op jl hK
      u_op jl hK
      u_op jl hK
      u_conv H.underlying_tPU32 H.room_tU32 (J.cell1 hK).choose_spec jl hK
      refine Goes.stop (fun w₁ h₁ => ?_)
      replace hK := jl hK h₁
      clear h₁
      refine ⟨rfl, _, stepG_markAt .write (by simp) rfl rfl (by k_ne) rfl H.f_raceWrite (x_raceWrite_n L) (x_raceWrite_b L) (x_raceWrite_x L) (x_raceWrite_f L) (ad := ⟨Φ.Wg, 1, none⟩) (by simp [Act.eval]), 200, Sil.of (w := w₁) ?_⟩
      walk_nrm
      u_c stepG_region_end jl hK
      u_c stepG_seq jl hK
      u_reg jl hK
      u_op jl hK
      u_c stepG_region_end jl hK
      u_c stepG_seq jl hK
      u_c stepG_seq jl hK
      u_reg jl hK
      u_op jl hK
      u_op jl hK
      u_op jl hK
      u_op jl hK
      u_skip jl hK
      u_op jl hK
      u_c stepG_region_end jl hK
      u_cond false jl hK
      u_c stepG_skip jl hK
      u_c stepG_seq jl hK
      u_reg jl hK
      u_op jl hK
      u_op jl hK
      u_op jl hK
      u_op jl hK
      refine Goes.stop (fun w₁ h₁ => ?_)
      replace hK := jl hK h₁
      clear h₁
      refine ⟨rfl, rfl, fun ⟨st, hw⟩ => stepG_semacquire_wait rfl rfl rfl H.f_semacquire (x_semacquire_n L) (x_semacquire_b L) (x_semacquire_x L) (x_semacquire_f L) (by simp [Act.eval, smA]) hw.cellSm, fun hf => ?_⟩
      refine ⟨_, (stepG_semacquire (n := 1) rfl rfl (by k_ne) rfl H.f_semacquire (x_semacquire_n L) (x_semacquire_b L) (x_semacquire_x L) (x_semacquire_f L) (by simp [Act.eval, smA]) hf.cellSm (by k_ne) (hf.thaw 1)).trans (by rfl), 200, Sil.of (w := w₁.setCell (smA Φ.Wg) (.int .u32 0)) ?_⟩
      replace hK := J.setSm hCW hK hf 0
      generalize w₁.setCell (smA Φ.Wg) (.int .u32 0) = w₂ at hK
      clear hf
      walk_nrm
      u_c stepG_region_end jl hK
      u_c stepG_seq jl hK
      u_reg jl hK
      u_op jl hK
      u_op jl hK
      u_op jl hK
      u_call H.f_uLoad (nm_uLoad L) uLoadFn jl hK
      u_c stepG_seq jl hK
      u_reg jl hK
      u_op jl hK
      u_c stepG_region_end jl hK
      u_c stepG_seq jl hK
      u_reg jl hK
      u_op jl hK
      u_op jl hK
      u_op jl hK
      refine Goes.stop (fun w₁ h₁ => ?_)
      replace hK := jl hK h₁
      clear h₁
      refine ⟨rfl, fun hw => ⟨_, stepG_load_atomic (v := 0) rfl rfl (by k_ne) rfl H.f_loadU64 (x_loadU64_n L) (x_loadU64_b L) (x_loadU64_x L) .u64 (x_loadU64_f L) rfl hw.cellSt, 200, Sil.of (w := w₁) ?_⟩⟩
      clear hw
      walk_nrm
      u_op jl hK
      u_c stepG_region_end jl hK
      u_c stepG_ret' jl hK
      u_leave1 H.f_uLoad jl hK
      u_op jl hK
      u_op jl hK
      u_c stepG_region_end jl hK
      u_c stepG_seq jl hK
      u_cond true jl hK
      u_c stepG_seq jl hK
      u_reg jl hK
      refine Goes.stop (fun w₁ h₁ => ?_)
      replace hK := jl hK h₁
      clear h₁
      refine ⟨rfl, _, stepG_mark0 .enable (by simp) rfl rfl (by k_ne) rfl H.f_enable (x_enable_n L) (x_enable_b L) (x_enable_x L) (x_enable_f L), 100, Sil.of (w := w₁) ?_⟩
      walk_nrm
      u_c stepG_region_end jl hK
      u_reg jl hK
      u_op jl hK
      u_conv H.underlying_tWgP H.room_tWg (J.cell0 hK).choose_spec jl hK
      refine Goes.stop (fun w₁ h₁ => ?_)
      replace hK := jl hK h₁
      clear h₁
      refine ⟨rfl, _, _, stepG_markAt .acquire (by simp) rfl rfl (by k_ne) rfl H.f_acquire (x_acquire_n L) (x_acquire_b L) (x_acquire_x L) (x_acquire_f L) (by simp [Act.eval, stA]), fun S Post hh K => ?_⟩
      clear hK
      walk_nrm
      refine Safe.silent (fun _ _ => stepG_region_end) ?_
      refine Safe.silent (fun _ _ => stepG_seq) ?_
      refine Safe.silent (fun _ _ => stepG_seq) ?_
      (refine Safe.silent (fun _ _ => stepG_region) ?_; simp only [List.size_toArray, List.length_cons, List.length_nil, Nat.reduceAdd, Nat.zero_add, List.range, List.range.loop])
      (apply sf_value; (case ho => rfl); (case hw => rfl); (case hk => k_ne); (case hr => intro w; go_simp; (try simp only [q3, q4, q5, q6, a1, b1, b2, c1, c3, c4]); first | rfl | (w_num; rfl)); (case he => intro w; simp [go_sem, *]); walk_nrm)
      refine Safe.silent (fun _ _ => stepG_region_end) ?_
      (refine Safe.silent (fun _ _ => stepG_cond (t := false) rfl) ?_; simp only [if_true, if_false, Bool.false_eq_true, ↓reduceIte])
      refine Safe.silent (fun _ _ => stepG_skip) ?_
      refine Safe.silent (fun _ _ => stepG_ret') ?_
      refine sf_leave0 rfl rfl H.f_wait rfl ?_
      exact K
    · refine ⟨_, stepG_cas_miss (v := (v' : Int) * KK) (old := S) (n := S + 1) rfl rfl (by k_ne) rfl H.f_casU64 (x_casU64_n L) (x_casU64_b L) (x_casU64_x L) .u64 (x_casU64_f L) rfl rfl rfl hw.cellSt (hw.thaw 0) (by rw [← hS]; simp only [KK]; omega), 100, Sil.of (w := w₁) ?_⟩
      clear hw
      walk_nrm
      u_op jl hK
      u_c stepG_region_end jl hK
      u_c stepG_ret' jl hK
      u_leave1 H.f_uCas jl hK
      u_c stepG_region_end jl hK
      u_cond false jl hK
      u_c stepG_skip jl hK
      u_c stepG_inBlock jl hK
      u_c stepG_inLoop jl hK
      exact Goes.stop fun _ _ => ⟨_, rfl, by simp, by simp⟩

set_option maxRecDepth 100000 in
set_option maxHeartbeats 8000000 in
theorem walkWait (H : WgLib P L) (hCW : Φ.C ≠ Φ.Wg) (w : World) (hK : Φ.J w) :
    WaitOp P Φ (Back P (b₀.at (a₀.put ((ops₀[i₀]?).bind (·.dst)) (.tuple #[])) (.inRegion ops₀ rest₀ :: k₀)) cs)
      ((base L.wait).at ⟨#[.pointer (some ⟨Φ.Wg, 0, none⟩), undef, undef, undef, undef, undef, undef, undef, undef, undef, undef, undef, undef, undef, undef, undef, undef, undef, undef, undef, undef, undef, undef, undef, undef, undef, undef, undef, undef, undef, undef, undef, undef, undef, undef, undef, undef, undef, undef, undef, undef, undef, undef, undef, undef, undef, undef, undef, undef, undef, undef, undef, undef, undef, undef, undef, undef, undef, undef, undef, undef, undef, undef, undef, undef, undef, undef, undef, undef, undef, undef, undef, undef, undef, undef, undef, undef, undef, undef, undef, undef, undef, undef, undef], []⟩ [.code (body_wait L)]) (b₀.at a₀ (.inRegion ops₀ (i₀ :: rest₀) :: k₀) :: cs) := by
  refine ⟨AnchW L Φ.Wg (b₀.at a₀ (.inRegion ops₀ (i₀ :: rest₀) :: k₀)) cs, fun g hg => ⟨100, Sil.of (walkRound H hCW g hg w hK)⟩, 100, Sil.of (w := w) ?_⟩
  lib_facts
  simp only [gor_eq]
  simp only [body_wait, waitFn, Option.getD_some]
  u_c stepG_seq jl hK
  u_cond true jl hK
  u_reg jl hK
  refine Goes.stop (fun w₁ h₁ => ?_)
  replace hK := jl hK h₁
  clear h₁
  refine ⟨rfl, _, stepG_mark0 .disable (by simp) rfl rfl (by k_ne) rfl H.f_disable (x_disable_n L) (x_disable_b L) (x_disable_x L) (x_disable_f L), 3, Sil.of (w := w₁) ?_⟩
  walk_nrm
  u_c stepG_region_end jl hK
  u_c stepG_block jl hK
  u_c stepG_loop jl hK
  exact Goes.stop (fun w₂ h₂ => ⟨_, rfl, by simp, by simp⟩)
end
end Go.Eng
