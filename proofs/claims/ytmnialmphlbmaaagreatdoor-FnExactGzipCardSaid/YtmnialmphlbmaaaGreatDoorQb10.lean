import Derived.Conc.WgGenN3
import Derived.Conc.WgWords
import Derived.Conc.DeferLaws
import Derived.Test.YtmnialmphlbmaaaGreatDoorChecked
import Derived.Conc.LeavingOf
import Derived.SevenTiedAt
import Derived.IntWalk
import Derived.Test.YtmnialmphlbmaaaGreatDoorQb3
import Derived.Test.YtmnialmphlbmaaaGreatDoorQb4
import Derived.Test.YtmnialmphlbmaaaGreatDoorQb5
import Derived.Test.YtmnialmphlbmaaaGreatDoorQb6
import Derived.Test.YtmnialmphlbmaaaGreatDoorQb7
import Derived.Test.YtmnialmphlbmaaaGreatDoorQb8
import Derived.Test.YtmnialmphlbmaaaGreatDoorQb9
set_option maxRecDepth 100000
set_option maxHeartbeats 8000000
set_option linter.unusedVariables false
set_option linter.unusedSimpArgs false
set_option linter.unusedSectionVars false
section
namespace Go.Eng
open Go Go.Conc Go.RowKit Go.Conc.Lib Go.ConcR.Gen Go.ConcN.Gen
open Go.ConcN hiding upd upd_same upd_ne AtD4 AtD3 AtD2 AtD1 AtK1 AtR0 AtAcq AtKe AtW4 AtW3 AtW2 AtW1 AtKd WSit AtA1
open Go.ConcR (KK wgBlock WgAt stA smA rd wr DC0 Payload)
section
variable [Payload] {P : Program} {L : WgLink} {Φ : Ph} {cs : List Frame} {qt : Nat}
theorem jl{w w₁:World}(_:Φ.J w)(h:Φ.J w₁):Φ.J w₁:=h
theorem J.cell0{w:World}(h:Φ.J w):∃v,w.cell? ⟨Φ.Wg,0,none⟩=some v:=WgLive.cell0 h.1
theorem J.cell1{w:World}(h:Φ.J w):∃v,w.cell? ⟨Φ.Wg,1,none⟩=some v:=WgLive.cell1 h.1
variable {b₀ : Frame} {a₀ : Act} {ops₀ : Array Oper} {i₀ : Nat} {rest₀ : List Nat} {k₀ : List Item}
theorem J.setSt(hCW:Φ.C≠Φ.Wg){w:World}(h:Φ.J w){st sm:Int}(hw:WgAt Φ.ty Φ.Wg w st sm)(v:Int):Φ.J (w.setCell (stA Φ.Wg) (.int .u64 v)):=by
 obtain⟨cs,h1,h2⟩:=h.2
 exact⟨⟨v,sm,hw.setSt v⟩,cs,((aside_setCell w (stA Φ.Wg) _).block _ hCW).trans h1,h2⟩
theorem J.setSm(hCW:Φ.C≠Φ.Wg){w:World}(h:Φ.J w){st sm:Int}(hw:WgAt Φ.ty Φ.Wg w st sm)(v:Int):Φ.J (w.setCell (smA Φ.Wg) (.int .u32 v)):=by
 obtain⟨cs,h1,h2⟩:=h.2
 exact⟨⟨st,v,hw.setSm v⟩,cs,((aside_setCell w (smA Φ.Wg) _).block _ hCW).trans h1,h2⟩
theorem V4(H:WgLib P L)(hCW:Φ.C≠Φ.Wg){Nx:Frame->List Frame->Prop}(hN:Nx (b₀.at (a₀.put ((ops₀[i₀]?).bind (·.dst)) (.tuple #[])) (.inRegion ops₀ rest₀::k₀)) cs)(w:World)(hK:Φ.J w) :
  Goes P true (fun _ w₁=>Φ.J w₁) DC0 (Ke P Φ Nx) 100
   (G ((base L.add).at ⟨#[.pointer (some ⟨Φ.Wg,0,none⟩),.int .i64 1,undef,undef,undef,undef,undef,undef,undef,undef,undef,undef,undef,undef,undef,undef,undef,undef,undef,undef,undef,undef,undef,undef,undef,undef,undef,undef,undef,undef,undef,undef,undef,undef,undef,undef,undef,undef,undef,undef,undef,undef,undef,undef,undef,undef,undef,undef,undef,undef,undef,undef,undef,undef,undef,undef,undef,undef,undef,undef,undef,undef,undef,undef,undef,undef,undef,undef,undef,undef,undef,undef,undef,undef,undef,undef,undef,undef,undef,undef,undef,undef,undef,undef,undef,undef,undef,undef,undef,undef,undef,undef,undef,undef,undef,undef,undef,undef,undef,undef,undef,undef,undef,undef,undef,undef,undef,undef,undef,undef,undef,undef,undef,undef,undef,undef,undef],[]⟩ [.code (body_add L)]) (b₀.at a₀ (.inRegion ops₀ (i₀::rest₀)::k₀)::cs)) w:=by
 lib_facts
 simp only[body_add,addFn,Option.getD_some]
 u_c stepG_seq jl hK
 u_cond true jl hK
 iterate 2 u_c stepG_seq jl hK
 u_reg jl hK
 iterate 2 u_op jl hK
 u_c stepG_region_end jl hK
 u_cond false jl hK
 u_c stepG_skip jl hK
 u_c stepG_seq jl hK
 u_reg jl hK
 refine Goes.stop (fun w₁ h₁=>?_)
 replace hK:=jl hK h₁
 clear h₁
 refine⟨rfl,_,stepG_mark0 .disable (by simp) rfl rfl (by k_ne) rfl H.f_disable (x_disable_n L) (x_disable_b L) (x_disable_x L) (x_disable_f L),100,Sil.of (w:=w₁) ?_⟩
 walk_nrm
 u_c stepG_region_end jl hK
 u_reg jl hK
 u_defer jl hK
 u_c stepG_region_end jl hK
 u_c stepG_seq jl hK
 u_reg jl hK
 u_op jl hK
 u_c stepG_region_end jl hK
 iterate 2 u_c stepG_seq jl hK
 u_reg jl hK
 u_bub jl hK
 u_c stepG_region_end jl hK
 u_cond false jl hK
 u_c stepG_skip jl hK
 u_c stepG_seq jl hK
 u_reg jl hK
 iterate 6 u_op jl hK
 u_call H.f_uAdd (nm_uAdd L) uAddFn jl hK
 u_c stepG_seq jl hK
 u_reg jl hK
 u_op jl hK
 u_c stepG_region_end jl hK
 u_c stepG_seq jl hK
 u_reg jl hK
 iterate 4 u_op jl hK
 refine Goes.stop (fun w₁ h₁=>?_)
 replace hK:=jl hK h₁
 clear h₁
 refine⟨rfl,fun v hv hw=>?_⟩
 have e0:IntKind.u64.wrap ((v:Int)*KK+4294967296)=((v:Int)+1)*KK:=by rw[IntKind.wrap_u64];simp only[KK];omega
 refine⟨_,(stepG_add_atomic rfl rfl (by k_ne) rfl H.f_addU64 (x_addU64_n L) (x_addU64_b L) (x_addU64_x L) .u64 (x_addU64_f L) rfl rfl hw.cellSt (hw.thaw 0)).trans (by rw[e0];rfl),fun hv0=>⟨200,?_⟩,fun hv0=>⟨200,?_⟩⟩
 ·subst hv0
  replace hK:=J.setSt hCW hK hw ((((0:Nat):Int)+1)*KK)
  refine Sil.of (w:=w₁.setCell (stA Φ.Wg) (.int .u64 ((((0:Nat):Int)+1)*KK))) ?_
  generalize w₁.setCell (stA Φ.Wg) (.int .u64 ((((0:Nat):Int)+1)*KK))=w₂ at hK
  clear hw
  have z:(((0:Nat):Int)+1)*KK=4294967296:=by simp[KK]
  rw[z]
  walk_nrm
  u_op jl hK
  u_c stepG_region_end jl hK
  u_c stepG_ret' jl hK
  u_leave1 H.f_uAdd jl hK
  u_op jl hK
  u_c stepG_region_end jl hK
  iterate 2 u_c stepG_seq jl hK
  u_reg jl hK
  iterate 4 u_op jl hK
  iterate 2 u_skip jl hK
  u_op jl hK
  u_c stepG_region_end jl hK
  u_cond false jl hK
  u_c stepG_skip jl hK
  u_c stepG_seq jl hK
  u_reg jl hK
  iterate 4 u_op jl hK
  u_c stepG_region_end jl hK
  u_c stepG_seq jl hK
  u_reg jl hK
  iterate 4 u_op jl hK
  u_c stepG_region_end jl hK
  iterate 2 u_c stepG_seq jl hK
  u_reg jl hK
  iterate 10 u_op jl hK
  u_c stepG_region_end jl hK
  u_cond true jl hK
  u_reg jl hK
  iterate 3 u_op jl hK
  u_conv H.underlying_tPU32 H.room_tU32 (J.cell1 hK).choose_spec jl hK
  refine Goes.stop (fun w₁ h₁=>?_)
  replace hK:=jl hK h₁
  clear h₁
  refine⟨rfl,_,stepG_markAt .read (by simp) rfl rfl (by k_ne) rfl H.f_raceRead (x_raceRead_n L) (x_raceRead_b L) (x_raceRead_x L) (x_raceRead_f L) (ad:=⟨Φ.Wg,1,none⟩) (by simp[Act.eval]),200,Sil.of (w:=w₁) ?_⟩
  walk_nrm
  u_c stepG_region_end jl hK
  iterate 2 u_c stepG_seq jl hK
  u_reg jl hK
  iterate 2 u_op jl hK
  u_c stepG_region_end jl hK
  u_cond false jl hK
  u_c stepG_skip jl hK
  iterate 2 u_c stepG_seq jl hK
  u_reg jl hK
  iterate 3 u_op jl hK
  iterate 2 u_skip jl hK
  iterate 2 u_op jl hK
  iterate 4 u_skip jl hK
  u_op jl hK
  u_c stepG_region_end jl hK
  u_cond false jl hK
  u_c stepG_skip jl hK
  iterate 2 u_c stepG_seq jl hK
  u_reg jl hK
  iterate 3 u_op jl hK
  iterate 2 u_skip jl hK
  u_op jl hK
  u_c stepG_region_end jl hK
  u_cond true jl hK
  u_c stepG_ret' jl hK
  refine Goes.stop (fun w₁ h₁=>?_)
  replace hK:=jl hK h₁
  clear h₁
  refine⟨rfl,_,stepG_unwind_entry (v:=.tuple #[]) (evs:=#[Go.ConcR.mk .enable]) rfl H.f_enable (x_enable_n L) (x_enable_b L) (x_enable_x L) (x_enable_f L) (by simp[Extern.Race.none_]) (by simp[Go.ConcR.mk]) (by simp[Go.ConcR.mk]),10,Sil.of (w:=w₁) ?_⟩
  u_leave0 H.f_add jl hK
  exact Goes.stop fun _ _=>⟨_,_,rfl,hN⟩
 ·replace hK:=J.setSt hCW hK hw (((v:Int)+1)*KK)
  refine Sil.of (w:=w₁.setCell (stA Φ.Wg) (.int .u64 (((v:Int)+1)*KK))) ?_
  generalize w₁.setCell (stA Φ.Wg) (.int .u64 (((v:Int)+1)*KK))=w₂ at hK
  clear hw e0
  obtain⟨V,hV⟩:∃V:Int,(v:Int)+1=V:=⟨_,rfl⟩
  obtain⟨S,hS⟩:∃S:Int,V*KK=S:=⟨_,rfl⟩
  have a1:S/4294967296=V:=by rw[<-hS];simp only[KK];omega
  have b1:bits .and .u64 S 2147483648=0:=by rw[<-hS,<-hV];have:=st_flag (v+1) 0 (by omega) (by omega);simpa[KK]using this
  have b2:bits .and .u64 S 2147483647=0:=by rw[<-hS,<-hV];have:=st_waiters (v+1) 0 (by omega) (by omega);simpa[KK]using this
  have c1:IntKind.i32.wrap V=V:=by rw[IntKind.wrap_i32];omega
  have q3:decide (V<0)=false:=decide_eq_false (by omega)
  have q4:decide (0<V)=true:=decide_eq_true (by omega)
  have q5:(V==1)=false:=by simp;omega
  have q6:decide (V=1)=false:=decide_eq_false (by omega)
  rw[hV,hS]
  walk_nrm
  u_op jl hK
  u_c stepG_region_end jl hK
  u_c stepG_ret' jl hK
  u_leave1 H.f_uAdd jl hK
  u_op jl hK
  u_c stepG_region_end jl hK
  iterate 2 u_c stepG_seq jl hK
  u_reg jl hK
  iterate 4 u_op jl hK
  iterate 2 u_skip jl hK
  u_op jl hK
  u_c stepG_region_end jl hK
  u_cnd false jl hK
  u_c stepG_skip jl hK
  u_c stepG_seq jl hK
  u_reg jl hK
  iterate 4 u_op jl hK
  u_c stepG_region_end jl hK
  u_c stepG_seq jl hK
  u_reg jl hK
  iterate 4 u_op jl hK
  u_c stepG_region_end jl hK
  iterate 2 u_c stepG_seq jl hK
  u_reg jl hK
  iterate 10 u_op jl hK
  u_c stepG_region_end jl hK
  u_cnd false jl hK
  u_c stepG_skip jl hK
  iterate 2 u_c stepG_seq jl hK
  u_reg jl hK
  iterate 2 u_op jl hK
  u_c stepG_region_end jl hK
  u_cnd false jl hK
  u_c stepG_skip jl hK
  iterate 2 u_c stepG_seq jl hK
  u_reg jl hK
  iterate 3 u_op jl hK
  iterate 2 u_skip jl hK
  iterate 2 u_op jl hK
  iterate 4 u_skip jl hK
  u_op jl hK
  u_c stepG_region_end jl hK
  u_cnd false jl hK
  u_c stepG_skip jl hK
  iterate 2 u_c stepG_seq jl hK
  u_reg jl hK
  iterate 3 u_op jl hK
  iterate 2 u_skip jl hK
  u_op jl hK
  u_c stepG_region_end jl hK
  u_cnd true jl hK
  u_c stepG_ret' jl hK
  refine Goes.stop (fun w₁ h₁=>?_)
  replace hK:=jl hK h₁
  clear h₁
  refine⟨rfl,_,stepG_unwind_entry (v:=.tuple #[]) (evs:=#[Go.ConcR.mk .enable]) rfl H.f_enable (x_enable_n L) (x_enable_b L) (x_enable_x L) (x_enable_f L) (by simp[Extern.Race.none_]) (by simp[Go.ConcR.mk]) (by simp[Go.ConcR.mk]),10,Sil.of (w:=w₁) ?_⟩
  u_leave0 H.f_add jl hK
  exact Goes.stop fun _ _=>⟨_,_,rfl,hN⟩
end
end Go.Eng
namespace Go.Eng
open Go Go.Conc Go.RowKit Go.Conc.Lib Go.ConcR.Gen Go.ConcN.Gen
open Go.ConcN hiding upd upd_same upd_ne AtD4 AtD3 AtD2 AtD1 AtK1 AtR0 AtAcq AtKe AtW4 AtW3 AtW2 AtW1 AtKd WSit AtA1
open Go.ConcR (KK wgBlock WgAt stA smA rd wr DC0 Payload)
section
variable [Payload] {P : Program} {L : WgLink} {Φ : Ph} {cs : List Frame} {qt : Nat}
variable {b₀ : Frame} {a₀ : Act} {ops₀ : Array Oper} {i₀ : Nat} {rest₀ : List Nat} {k₀ : List Item}
theorem V5(H:WgLib P L)(hCW:Φ.C≠Φ.Wg)(hT:QuitsD P qt 0 (G (b₀.at (a₀.put ((ops₀[i₀]?).bind (·.dst)) (.tuple #[])) (.inRegion ops₀ rest₀::k₀)) cs))(w:World)(hK:Φ.J w) :
  Goes P false (fun _ w₁=>Φ.J w₁) DC0 (AtR0 P Φ) 100
   (G ((base L.add).at ⟨#[.pointer (some ⟨Φ.Wg,0,none⟩),.int .i64 (-1),undef,undef,undef,undef,undef,undef,undef,undef,undef,undef,undef,undef,undef,undef,undef,undef,undef,undef,undef,undef,undef,undef,undef,undef,undef,undef,undef,undef,undef,undef,undef,undef,undef,undef,undef,undef,undef,undef,undef,undef,undef,undef,undef,undef,undef,undef,undef,undef,undef,undef,undef,undef,undef,undef,undef,undef,undef,undef,undef,undef,undef,undef,undef,undef,undef,undef,undef,undef,undef,undef,undef,undef,undef,undef,undef,undef,undef,undef,undef,undef,undef,undef,undef,undef,undef,undef,undef,undef,undef,undef,undef,undef,undef,undef,undef,undef,undef,undef,undef,undef,undef,undef,undef,undef,undef,undef,undef,undef,undef,undef,undef,undef,undef,undef,undef],[]⟩ [.code (body_add L)]) (b₀.at a₀ (.inRegion ops₀ (i₀::rest₀)::k₀)::cs)) w:=by
 lib_facts
 simp only[body_add,addFn,Option.getD_some]
 u_c stepG_seq jl hK
 u_cond true jl hK
 iterate 2 u_c stepG_seq jl hK
 u_reg jl hK
 iterate 2 u_op jl hK
 u_c stepG_region_end jl hK
 u_cond true jl hK
 u_reg jl hK
 u_op jl hK
 u_conv H.underlying_tWgP H.room_tWg (J.cell0 hK).choose_spec jl hK
 refine Goes.stop (fun w₁ h₁=>?_)
 replace hK:=jl hK h₁
 clear h₁
 refine⟨rfl,_,stepG_markAt .releaseMerge (by simp) rfl rfl (by k_ne) rfl H.f_relMerge (x_relMerge_n L) (x_relMerge_b L) (x_relMerge_x L) (x_relMerge_f L) (by simp[Act.eval,stA]),100,Sil.of (w:=w₁) ?_⟩
 walk_nrm
 u_c stepG_region_end jl hK
 u_c stepG_seq jl hK
 u_reg jl hK
 refine Goes.stop (fun w₁ h₁=>?_)
 replace hK:=jl hK h₁
 clear h₁
 refine⟨rfl,_,stepG_mark0 .disable (by simp) rfl rfl (by k_ne) rfl H.f_disable (x_disable_n L) (x_disable_b L) (x_disable_x L) (x_disable_f L),100,Sil.of (w:=w₁) ?_⟩
 walk_nrm
 u_c stepG_region_end jl hK
 u_reg jl hK
 u_defer jl hK
 u_c stepG_region_end jl hK
 u_c stepG_seq jl hK
 u_reg jl hK
 u_op jl hK
 u_c stepG_region_end jl hK
 iterate 2 u_c stepG_seq jl hK
 u_reg jl hK
 u_bub jl hK
 u_c stepG_region_end jl hK
 u_cond false jl hK
 u_c stepG_skip jl hK
 u_c stepG_seq jl hK
 u_reg jl hK
 iterate 6 u_op jl hK
 u_call H.f_uAdd (nm_uAdd L) uAddFn jl hK
 u_c stepG_seq jl hK
 u_reg jl hK
 u_op jl hK
 u_c stepG_region_end jl hK
 u_c stepG_seq jl hK
 u_reg jl hK
 iterate 4 u_op jl hK
 refine Goes.stop (fun w₁ h₁=>?_)
 replace hK:=jl hK h₁
 clear h₁
 refine⟨rfl,fun v wt hwt hv hw=>?_⟩
 have e0:IntKind.u64.wrap (((v:Int)+1)*KK+wt+18446744069414584320)=(v:Int)*KK+wt:=by rw[IntKind.wrap_u64];simp only[KK];omega
 refine⟨_,(stepG_add_atomic rfl rfl (by k_ne) rfl H.f_addU64 (x_addU64_n L) (x_addU64_b L) (x_addU64_x L) .u64 (x_addU64_f L) rfl rfl hw.cellSt (hw.thaw 0)).trans (by rw[e0];rfl),fun hl=>?_,fun hl=>?_⟩
 ·obtain⟨rfl,rfl⟩:=hl
  have z:((0:Nat):Int)*KK+((1:Nat):Int)=1:=by simp
  replace hK:=J.setSt hCW hK hw (((0:Nat):Int)*KK+((1:Nat):Int))
  refine⟨200,Sil.of (w:=w₁.setCell (stA Φ.Wg) (.int .u64 (((0:Nat):Int)*KK+((1:Nat):Int)))) ?_⟩
  generalize w₁.setCell (stA Φ.Wg) (.int .u64 (((0:Nat):Int)*KK+((1:Nat):Int)))=w₂ at hK
  clear hw e0
  rw[z]
  walk_nrm
  u_op jl hK
  u_c stepG_region_end jl hK
  u_c stepG_ret' jl hK
  u_leave1 H.f_uAdd jl hK
  u_op jl hK
  u_c stepG_region_end jl hK
  iterate 2 u_c stepG_seq jl hK
  u_reg jl hK
  iterate 4 u_op jl hK
  iterate 2 u_skip jl hK
  u_op jl hK
  u_c stepG_region_end jl hK
  u_cond false jl hK
  u_c stepG_skip jl hK
  u_c stepG_seq jl hK
  u_reg jl hK
  iterate 4 u_op jl hK
  u_c stepG_region_end jl hK
  u_c stepG_seq jl hK
  u_reg jl hK
  iterate 4 u_op jl hK
  u_c stepG_region_end jl hK
  iterate 2 u_c stepG_seq jl hK
  u_reg jl hK
  iterate 5 u_op jl hK
  iterate 4 u_skip jl hK
  u_op jl hK
  u_c stepG_region_end jl hK
  u_cond false jl hK
  u_c stepG_skip jl hK
  iterate 2 u_c stepG_seq jl hK
  u_reg jl hK
  iterate 2 u_op jl hK
  u_c stepG_region_end jl hK
  u_cond false jl hK
  u_c stepG_skip jl hK
  iterate 2 u_c stepG_seq jl hK
  u_reg jl hK
  iterate 7 u_op jl hK
  iterate 4 u_skip jl hK
  u_op jl hK
  u_c stepG_region_end jl hK
  u_cond false jl hK
  u_c stepG_skip jl hK
  iterate 2 u_c stepG_seq jl hK
  u_reg jl hK
  iterate 6 u_op jl hK
  u_c stepG_region_end jl hK
  u_cond false jl hK
  u_c stepG_skip jl hK
  iterate 2 u_c stepG_seq jl hK
  u_reg jl hK
  iterate 3 u_op jl hK
  u_call H.f_uLoad (nm_uLoad L) uLoadFn jl hK
  u_c stepG_seq jl hK
  u_reg jl hK
  u_op jl hK
  u_c stepG_region_end jl hK
  u_c stepG_seq jl hK
  u_reg jl hK
  iterate 3 u_op jl hK
  refine Goes.stop (fun w₁ h₁=>?_)
  replace hK:=jl hK h₁
  clear h₁
  refine⟨rfl,fun hw=>⟨_,stepG_load_atomic rfl rfl (by k_ne) rfl H.f_loadU64 (x_loadU64_n L) (x_loadU64_b L) (x_loadU64_x L) .u64 (x_loadU64_f L) rfl hw.cellSt,200,Sil.of (w:=w₁) ?_⟩⟩
  clear hw
  walk_nrm
  u_op jl hK
  u_c stepG_region_end jl hK
  u_c stepG_ret' jl hK
  u_leave1 H.f_uLoad jl hK
  iterate 2 u_op jl hK
  u_c stepG_region_end jl hK
  u_cond false jl hK
  u_c stepG_skip jl hK
  u_c stepG_seq jl hK
  u_reg jl hK
  iterate 3 u_op jl hK
  u_call H.f_uStore (nm_uStore L) uStoreFn jl hK
  u_reg jl hK
  iterate 4 u_op jl hK
  refine Goes.stop (fun w₁ h₁=>?_)
  replace hK:=jl hK h₁
  clear h₁
  refine⟨rfl,fun hw=>⟨_,stepG_store_atomic rfl rfl (by k_ne) rfl H.f_storeU64 (x_storeU64_n L) (x_storeU64_b L) (x_storeU64_x L) (x_storeU64_f L) rfl rfl hw.cellSt (hw.thaw 0),200,Sil.of (w:=w₁.setCell (stA Φ.Wg) (.int .u64 0)) ?_⟩⟩
  replace hK:=J.setSt hCW hK hw 0
  generalize w₁.setCell (stA Φ.Wg) (.int .u64 0)=w₂ at hK
  clear hw
  walk_nrm
  u_c stepG_region_end jl hK
  u_c stepG_end jl hK
  u_leave0 H.f_uStore jl hK
  u_c stepG_region_end jl hK
  iterate 2 u_c stepG_seq jl hK
  u_reg jl hK
  u_op jl hK
  u_c stepG_region_end jl hK
  u_cond false jl hK
  u_c stepG_skip jl hK
  u_c stepG_block jl hK
  u_c stepG_loop jl hK
  iterate 2 u_c stepG_seq jl hK
  u_reg jl hK
  iterate 2 u_op jl hK
  u_c stepG_region_end jl hK
  u_cond true jl hK
  u_c stepG_skip jl hK
  u_c stepG_seq jl hK
  u_c stepG_block jl hK
  u_reg jl hK
  iterate 3 u_op jl hK
  refine Goes.stop (fun w₁ h₁=>?_)
  replace hK:=jl hK h₁
  clear h₁
  refine⟨rfl,mayWake_entry rfl rfl H.f_semrelease (x_semrelease_b L),fun hw=>⟨_,(stepG_semrelease rfl rfl (by k_ne) rfl H.f_semrelease (x_semrelease_n L) (x_semrelease_b L) (x_semrelease_x L) (x_semrelease_f L) (by simp[Act.eval,smA]) hw.cellSm (hw.thaw 1)).trans (by rfl),qt+19,?_⟩⟩
  clear hw
  have q3:True:=trivial
  have q4:True:=trivial
  have q5:True:=trivial
  have c1:True:=trivial
  have c3:IntKind.u32.wrap 0=0:=by decide
  have c4:IntKind.u32.wrap 1=1:=by decide
  walk_nrm
  q_c stepG_region_end
  q_c stepG_inBlock
  q_reg
  iterate 3 (apply QuitsD.value;(case ho=>rfl);(case hw=>rfl);(case hk=>k_ne);(case hr=>intro w;go_simp;(try simp only[q3,q4,q5,c1,c3,c4]);first | rfl | (w_num;rfl));(case he=>intro w;simp[go_sem, *]);walk_nrm)
  q_c stepG_region_end
  q_c stepG_inLoop
  iterate 2 q_c stepG_seq
  q_reg
  iterate 2 (apply QuitsD.value;(case ho=>rfl);(case hw=>rfl);(case hk=>k_ne);(case hr=>intro w;go_simp;(try simp only[q3,q4,q5,c1,c3,c4]);first | rfl | (w_num;rfl));(case he=>intro w;simp[go_sem, *]);walk_nrm)
  q_c stepG_region_end
  q_cond false
  q_exit
  q_c stepG_end
  q_enable
  q_leave0 H.f_add
  exact hT
 ·refine⟨qt+89,?_⟩
  clear e0 hw hK
  obtain⟨S,hS⟩:∃S:Int,(v:Int)*KK+wt=S:=⟨_,rfl⟩
  have a1:S/4294967296=(v:Int):=by rw[<-hS];simp only[KK];omega
  have b1:bits .and .u64 S 2147483648=0:=by rw[<-hS];have:=st_flag v wt (by omega) (by omega);simpa[KK]using this
  have b2:bits .and .u64 S 2147483647=(wt:Int):=by rw[<-hS];have:=st_waiters v wt (by omega) (by omega);simpa[KK]using this
  have c1:IntKind.i32.wrap (v:Int)=(v:Int):=by rw[IntKind.wrap_i32];omega
  have c2:IntKind.u32.wrap (wt:Int)=(wt:Int):=by rw[IntKind.wrap_u32];omega
  have q3:decide ((v:Int)<0)=false:=decide_eq_false (by omega)
  rw[hS]
  have c3:IntKind.u32.wrap 0=0:=by decide
  have c4:IntKind.u32.wrap 1=1:=by decide
  have hcase:wt=0\/wt=1:=by omega
  rcases hcase with rfl | rfl
  ·replace b2:bits .and .u64 S 2147483647=0:=b2
   clear c2
   rcases Nat.eq_zero_or_pos v with rfl | hvp
   ·have z:S=0:=by rw[<-hS];simp
    subst z
    have q4:True:=trivial
    have q5:True:=trivial
    simp only[Int.natCast_zero]at c1 q3 a1 b1 b2
    walk_nrm
    (apply QuitsD.value;(case ho=>rfl);(case hw=>rfl);(case hk=>k_ne);(case hr=>intro w;go_simp;(try simp only[q3,q4,q5,c1,c3,c4]);first | rfl | (w_num;rfl));(case he=>intro w;simp[go_sem, *]);walk_nrm)
    q_c stepG_region_end
    q_c stepG_ret'
    q_leave1 H.f_uAdd
    (apply QuitsD.value;(case ho=>rfl);(case hw=>rfl);(case hk=>k_ne);(case hr=>intro w;go_simp;(try simp only[q3,q4,q5,c1,c3,c4]);first | rfl | (w_num;rfl));(case he=>intro w;simp[go_sem, *]);walk_nrm)
    q_c stepG_region_end
    iterate 2 q_c stepG_seq
    q_reg
    iterate 4 (apply QuitsD.value;(case ho=>rfl);(case hw=>rfl);(case hk=>k_ne);(case hr=>intro w;go_simp;(try simp only[q3,q4,q5,c1,c3,c4]);first | rfl | (w_num;rfl));(case he=>intro w;simp[go_sem, *]);walk_nrm)
    iterate 2 q_skip
    (apply QuitsD.value;(case ho=>rfl);(case hw=>rfl);(case hk=>k_ne);(case hr=>intro w;go_simp;(try simp only[q3,q4,q5,c1,c3,c4]);first | rfl | (w_num;rfl));(case he=>intro w;simp[go_sem, *]);walk_nrm)
    q_c stepG_region_end
    q_cond false
    q_c stepG_skip
    q_c stepG_seq
    q_reg
    iterate 4 (apply QuitsD.value;(case ho=>rfl);(case hw=>rfl);(case hk=>k_ne);(case hr=>intro w;go_simp;(try simp only[q3,q4,q5,c1,c3,c4]);first | rfl | (w_num;rfl));(case he=>intro w;simp[go_sem, *]);walk_nrm)
    q_c stepG_region_end
    q_c stepG_seq
    q_reg
    iterate 4 (apply QuitsD.value;(case ho=>rfl);(case hw=>rfl);(case hk=>k_ne);(case hr=>intro w;go_simp;(try simp only[q3,q4,q5,c1,c3,c4]);first | rfl | (w_num;rfl));(case he=>intro w;simp[go_sem, *]);walk_nrm)
    q_c stepG_region_end
    iterate 2 q_c stepG_seq
    q_reg
    iterate 5 (apply QuitsD.value;(case ho=>rfl);(case hw=>rfl);(case hk=>k_ne);(case hr=>intro w;go_simp;(try simp only[q3,q4,q5,c1,c3,c4]);first | rfl | (w_num;rfl));(case he=>intro w;simp[go_sem, *]);walk_nrm)
    iterate 4 q_skip
    (apply QuitsD.value;(case ho=>rfl);(case hw=>rfl);(case hk=>k_ne);(case hr=>intro w;go_simp;(try simp only[q3,q4,q5,c1,c3,c4]);first | rfl | (w_num;rfl));(case he=>intro w;simp[go_sem, *]);walk_nrm)
    q_c stepG_region_end
    q_cond false
    q_c stepG_skip
    iterate 2 q_c stepG_seq
    q_reg
    iterate 2 (apply QuitsD.value;(case ho=>rfl);(case hw=>rfl);(case hk=>k_ne);(case hr=>intro w;go_simp;(try simp only[q3,q4,q5,c1,c3,c4]);first | rfl | (w_num;rfl));(case he=>intro w;simp[go_sem, *]);walk_nrm)
    q_c stepG_region_end
    q_cond false
    q_c stepG_skip
    iterate 2 q_c stepG_seq
    q_reg
    iterate 3 (apply QuitsD.value;(case ho=>rfl);(case hw=>rfl);(case hk=>k_ne);(case hr=>intro w;go_simp;(try simp only[q3,q4,q5,c1,c3,c4]);first | rfl | (w_num;rfl));(case he=>intro w;simp[go_sem, *]);walk_nrm)
    iterate 2 q_skip
    iterate 2 (apply QuitsD.value;(case ho=>rfl);(case hw=>rfl);(case hk=>k_ne);(case hr=>intro w;go_simp;(try simp only[q3,q4,q5,c1,c3,c4]);first | rfl | (w_num;rfl));(case he=>intro w;simp[go_sem, *]);walk_nrm)
    iterate 4 q_skip
    (apply QuitsD.value;(case ho=>rfl);(case hw=>rfl);(case hk=>k_ne);(case hr=>intro w;go_simp;(try simp only[q3,q4,q5,c1,c3,c4]);first | rfl | (w_num;rfl));(case he=>intro w;simp[go_sem, *]);walk_nrm)
    q_c stepG_region_end
    q_cond false
    q_c stepG_skip
    iterate 2 q_c stepG_seq
    q_reg
    iterate 6 (apply QuitsD.value;(case ho=>rfl);(case hw=>rfl);(case hk=>k_ne);(case hr=>intro w;go_simp;(try simp only[q3,q4,q5,c1,c3,c4]);first | rfl | (w_num;rfl));(case he=>intro w;simp[go_sem, *]);walk_nrm)
    q_c stepG_region_end
    q_cond true
    q_c stepG_ret'
    q_enable
    q_leave0 H.f_add
    exact hT
   ·have q4:decide (0<(v:Int))=true:=decide_eq_true (by omega)
    have q5:((v:Int)==0)=false:=by simp;omega
    walk_nrm
    (apply QuitsD.value;(case ho=>rfl);(case hw=>rfl);(case hk=>k_ne);(case hr=>intro w;go_simp;(try simp only[q3,q4,q5,c1,c3,c4]);first | rfl | (w_num;rfl));(case he=>intro w;simp[go_sem, *]);walk_nrm)
    q_c stepG_region_end
    q_c stepG_ret'
    q_leave1 H.f_uAdd
    (apply QuitsD.value;(case ho=>rfl);(case hw=>rfl);(case hk=>k_ne);(case hr=>intro w;go_simp;(try simp only[q3,q4,q5,c1,c3,c4]);first | rfl | (w_num;rfl));(case he=>intro w;simp[go_sem, *]);walk_nrm)
    q_c stepG_region_end
    iterate 2 q_c stepG_seq
    q_reg
    iterate 4 (apply QuitsD.value;(case ho=>rfl);(case hw=>rfl);(case hk=>k_ne);(case hr=>intro w;go_simp;(try simp only[q3,q4,q5,c1,c3,c4]);first | rfl | (w_num;rfl));(case he=>intro w;simp[go_sem, *]);walk_nrm)
    iterate 2 q_skip
    (apply QuitsD.value;(case ho=>rfl);(case hw=>rfl);(case hk=>k_ne);(case hr=>intro w;go_simp;(try simp only[q3,q4,q5,c1,c3,c4]);first | rfl | (w_num;rfl));(case he=>intro w;simp[go_sem, *]);walk_nrm)
    q_c stepG_region_end
    q_cond false
    q_c stepG_skip
    q_c stepG_seq
    q_reg
    iterate 4 (apply QuitsD.value;(case ho=>rfl);(case hw=>rfl);(case hk=>k_ne);(case hr=>intro w;go_simp;(try simp only[q3,q4,q5,c1,c3,c4]);first | rfl | (w_num;rfl));(case he=>intro w;simp[go_sem, *]);walk_nrm)
    q_c stepG_region_end
    q_c stepG_seq
    q_reg
    iterate 4 (apply QuitsD.value;(case ho=>rfl);(case hw=>rfl);(case hk=>k_ne);(case hr=>intro w;go_simp;(try simp only[q3,q4,q5,c1,c3,c4]);first | rfl | (w_num;rfl));(case he=>intro w;simp[go_sem, *]);walk_nrm)
    q_c stepG_region_end
    iterate 2 q_c stepG_seq
    q_reg
    iterate 5 (apply QuitsD.value;(case ho=>rfl);(case hw=>rfl);(case hk=>k_ne);(case hr=>intro w;go_simp;(try simp only[q3,q4,q5,c1,c3,c4]);first | rfl | (w_num;rfl));(case he=>intro w;simp[go_sem, *]);walk_nrm)
    iterate 4 q_skip
    (apply QuitsD.value;(case ho=>rfl);(case hw=>rfl);(case hk=>k_ne);(case hr=>intro w;go_simp;(try simp only[q3,q4,q5,c1,c3,c4]);first | rfl | (w_num;rfl));(case he=>intro w;simp[go_sem, *]);walk_nrm)
    q_c stepG_region_end
    q_cond false
    q_c stepG_skip
    iterate 2 q_c stepG_seq
    q_reg
    iterate 2 (apply QuitsD.value;(case ho=>rfl);(case hw=>rfl);(case hk=>k_ne);(case hr=>intro w;go_simp;(try simp only[q3,q4,q5,c1,c3,c4]);first | rfl | (w_num;rfl));(case he=>intro w;simp[go_sem, *]);walk_nrm)
    q_c stepG_region_end
    q_cond false
    q_c stepG_skip
    iterate 2 q_c stepG_seq
    q_reg
    iterate 3 (apply QuitsD.value;(case ho=>rfl);(case hw=>rfl);(case hk=>k_ne);(case hr=>intro w;go_simp;(try simp only[q3,q4,q5,c1,c3,c4]);first | rfl | (w_num;rfl));(case he=>intro w;simp[go_sem, *]);walk_nrm)
    iterate 2 q_skip
    iterate 2 (apply QuitsD.value;(case ho=>rfl);(case hw=>rfl);(case hk=>k_ne);(case hr=>intro w;go_simp;(try simp only[q3,q4,q5,c1,c3,c4]);first | rfl | (w_num;rfl));(case he=>intro w;simp[go_sem, *]);walk_nrm)
    iterate 4 q_skip
    (apply QuitsD.value;(case ho=>rfl);(case hw=>rfl);(case hk=>k_ne);(case hr=>intro w;go_simp;(try simp only[q3,q4,q5,c1,c3,c4]);first | rfl | (w_num;rfl));(case he=>intro w;simp[go_sem, *]);walk_nrm)
    q_c stepG_region_end
    q_cond false
    q_c stepG_skip
    iterate 2 q_c stepG_seq
    q_reg
    iterate 3 (apply QuitsD.value;(case ho=>rfl);(case hw=>rfl);(case hk=>k_ne);(case hr=>intro w;go_simp;(try simp only[q3,q4,q5,c1,c3,c4]);first | rfl | (w_num;rfl));(case he=>intro w;simp[go_sem, *]);walk_nrm)
    iterate 2 q_skip
    (apply QuitsD.value;(case ho=>rfl);(case hw=>rfl);(case hk=>k_ne);(case hr=>intro w;go_simp;(try simp only[q3,q4,q5,c1,c3,c4]);first | rfl | (w_num;rfl));(case he=>intro w;simp[go_sem, *]);walk_nrm)
    q_c stepG_region_end
    q_cond true
    q_c stepG_ret'
    q_enable
    q_leave0 H.f_add
    exact hT
  ·replace b2:bits .and .u64 S 2147483647=1:=b2
   clear c2
   have hvp:0<v:=by omega
   have q4:decide (0<(v:Int))=true:=decide_eq_true (by omega)
   have q5:((v:Int)==0)=false:=by simp;omega
   walk_nrm
   (apply QuitsD.value;(case ho=>rfl);(case hw=>rfl);(case hk=>k_ne);(case hr=>intro w;go_simp;(try simp only[q3,q4,q5,c1,c3,c4]);first | rfl | (w_num;rfl));(case he=>intro w;simp[go_sem, *]);walk_nrm)
   q_c stepG_region_end
   q_c stepG_ret'
   q_leave1 H.f_uAdd
   (apply QuitsD.value;(case ho=>rfl);(case hw=>rfl);(case hk=>k_ne);(case hr=>intro w;go_simp;(try simp only[q3,q4,q5,c1,c3,c4]);first | rfl | (w_num;rfl));(case he=>intro w;simp[go_sem, *]);walk_nrm)
   q_c stepG_region_end
   iterate 2 q_c stepG_seq
   q_reg
   iterate 4 (apply QuitsD.value;(case ho=>rfl);(case hw=>rfl);(case hk=>k_ne);(case hr=>intro w;go_simp;(try simp only[q3,q4,q5,c1,c3,c4]);first | rfl | (w_num;rfl));(case he=>intro w;simp[go_sem, *]);walk_nrm)
   q_skip
   q_skip
   (apply QuitsD.value;(case ho=>rfl);(case hw=>rfl);(case hk=>k_ne);(case hr=>intro w;go_simp;(try simp only[q3,q4,q5,c1,c3,c4]);first | rfl | (w_num;rfl));(case he=>intro w;simp[go_sem, *]);walk_nrm)
   q_c stepG_region_end
   q_cond false
   q_c stepG_skip
   q_c stepG_seq
   q_reg
   iterate 4 (apply QuitsD.value;(case ho=>rfl);(case hw=>rfl);(case hk=>k_ne);(case hr=>intro w;go_simp;(try simp only[q3,q4,q5,c1,c3,c4]);first | rfl | (w_num;rfl));(case he=>intro w;simp[go_sem, *]);walk_nrm)
   q_c stepG_region_end
   q_c stepG_seq
   q_reg
   iterate 4 (apply QuitsD.value;(case ho=>rfl);(case hw=>rfl);(case hk=>k_ne);(case hr=>intro w;go_simp;(try simp only[q3,q4,q5,c1,c3,c4]);first | rfl | (w_num;rfl));(case he=>intro w;simp[go_sem, *]);walk_nrm)
   q_c stepG_region_end
   iterate 2 q_c stepG_seq
   q_reg
   iterate 5 (apply QuitsD.value;(case ho=>rfl);(case hw=>rfl);(case hk=>k_ne);(case hr=>intro w;go_simp;(try simp only[q3,q4,q5,c1,c3,c4]);first | rfl | (w_num;rfl));(case he=>intro w;simp[go_sem, *]);walk_nrm)
   iterate 4 q_skip
   (apply QuitsD.value;(case ho=>rfl);(case hw=>rfl);(case hk=>k_ne);(case hr=>intro w;go_simp;(try simp only[q3,q4,q5,c1,c3,c4]);first | rfl | (w_num;rfl));(case he=>intro w;simp[go_sem, *]);walk_nrm)
   q_c stepG_region_end
   q_cond false
   q_c stepG_skip
   iterate 2 q_c stepG_seq
   q_reg
   iterate 2 (apply QuitsD.value;(case ho=>rfl);(case hw=>rfl);(case hk=>k_ne);(case hr=>intro w;go_simp;(try simp only[q3,q4,q5,c1,c3,c4]);first | rfl | (w_num;rfl));(case he=>intro w;simp[go_sem, *]);walk_nrm)
   q_c stepG_region_end
   q_cond false
   q_c stepG_skip
   iterate 2 q_c stepG_seq
   q_reg
   iterate 7 (apply QuitsD.value;(case ho=>rfl);(case hw=>rfl);(case hk=>k_ne);(case hr=>intro w;go_simp;(try simp only[q3,q4,q5,c1,c3,c4]);first | rfl | (w_num;rfl));(case he=>intro w;simp[go_sem, *]);walk_nrm)
   iterate 4 q_skip
   (apply QuitsD.value;(case ho=>rfl);(case hw=>rfl);(case hk=>k_ne);(case hr=>intro w;go_simp;(try simp only[q3,q4,q5,c1,c3,c4]);first | rfl | (w_num;rfl));(case he=>intro w;simp[go_sem, *]);walk_nrm)
   q_c stepG_region_end
   q_cond false
   q_c stepG_skip
   iterate 2 q_c stepG_seq
   q_reg
   iterate 3 (apply QuitsD.value;(case ho=>rfl);(case hw=>rfl);(case hk=>k_ne);(case hr=>intro w;go_simp;(try simp only[q3,q4,q5,c1,c3,c4]);first | rfl | (w_num;rfl));(case he=>intro w;simp[go_sem, *]);walk_nrm)
   q_skip
   q_skip
   (apply QuitsD.value;(case ho=>rfl);(case hw=>rfl);(case hk=>k_ne);(case hr=>intro w;go_simp;(try simp only[q3,q4,q5,c1,c3,c4]);first | rfl | (w_num;rfl));(case he=>intro w;simp[go_sem, *]);walk_nrm)
   q_c stepG_region_end
   q_cond true
   q_c stepG_ret'
   q_enable
   q_leave0 H.f_add
   exact hT
end
end Go.Eng
namespace Go.Eng
open Go Go.Conc Go.RowKit Go.Conc.Lib Go.ConcR.Gen Go.ConcN.Gen
open Go.ConcN hiding upd upd_same upd_ne AtD4 AtD3 AtD2 AtD1 AtK1 AtR0 AtAcq AtKe AtW4 AtW3 AtW2 AtW1 AtKd WSit AtA1
open Go.ConcR (KK wgBlock WgAt stA smA rd wr DC0 Payload)
section
variable [Payload] {P : Program} {L : WgLink} {Φ : Ph} {cs : List Frame} {qt : Nat}
theorem W8(fr:Frame)(cs:List Frame):gor fr cs=G fr cs:=rfl
theorem TS(H:WgLib P L)(hCW:Φ.C≠Φ.Wg){c:Frame}(hcm:c.mode=.returning)(hT:QuitsD P qt 0 (G c cs))(w:World)(hK:Φ.J w) :
  Goes P false (fun _ w₁=>Φ.J w₁) DC0 (AtR0 P Φ) 103 (G ((baseD L.done).at ⟨#[.pointer (some ⟨Φ.Wg,0,none⟩),undef,undef,undef],[]⟩ [.code (body_done L)]) (c::cs)) w:=by
 lib_facts
 have hA:=@V5 _ P L Φ
 simp only[body_done,body_add,doneFn,addFn,Option.getD_some]at hA ⊢
 u_reg jl hK
 u_op jl hK
 u_in jl hK
 refine goes_call rfl rfl (by k_ne) rfl H.f_add (nm_add L) rfl ⟨by u_nil,?_⟩
 walk_nrmf addFn
 refine hA (qt:=qt+3) H hCW ?_ _ hK
 q_c stepG_region_end
 q_c stepG_end
 exact QuitsD.leaveD rfl rfl H.f_done rfl hcm hT
variable {b₀ : Frame} {a₀ : Act} {ops₀ : Array Oper} {i₀ : Nat} {rest₀ : List Nat} {k₀ : List Item}
def MT(P:Program)(fr₁:Frame)(cs₁:List Frame)(fr:Frame)(cs:List Frame):Prop:=
 ∀(S:Shared) (Post:Frame->List Frame->Heap->Prop) (h:Heap),Safe P S Post fr₁ cs₁ h->Safe P S Post fr cs h
section
variable {S : Shared} {Post : Frame -> List Frame -> Heap -> Prop} {h : Heap} {b : Frame} {a : Act} {k : List Item}
theorem EG{ops:Array Oper}{i:Nat}{rest:List Nat}{o:Oper}(v:Value)(ho:ops[i]? = some o)(hw:Region.wanted o (yielded ops a.tmps)=true)(hk:b.kind ≠ .early)
  (hr:∀w,(execOp a.eval o).run P w=.ok (.value v) w)(he:∀w,(execOp a.eval o).events P w #[]=#[])
  (K:Safe P S Post (b.at (a.put o.dst v) (.inRegion ops rest::k)) cs h):Safe P S Post (b.at a (.inRegion ops (i::rest)::k)) cs h:=
 .zZ (fun w m=>by show stepG P m (G _ _) w=_;rw[stepG_value ho hw hk (hr w)];unfold listed;rw[he w,seen_none];rfl) K
theorem NZ{ops:Array Oper}{i:Nat}{rest:List Nat}{o:Oper}(ho:ops[i]? = some o)(hw:Region.wanted o (yielded ops a.tmps)=false)
  (K:Safe P S Post (b.at (a.put o.dst undef) (.inRegion ops rest::k)) cs h):Safe P S Post (b.at a (.inRegion ops (i::rest)::k)) cs h:=
 .zZ (fun _ _=>stepG_unwanted ho hw) K
theorem KW{fn:Func}{b₀:Frame}{a₀:Act}{ops:Array Oper}{i:Nat}{rest:List Nat}{todo:List Item}(hn:b.kind=.normal)(hd:a.defers=[])(hf:P.funcs[b.fn]? = some fn)(hr:fn.results=#[])
  (K:Safe P S Post (b₀.at (a₀.put ((ops[i]?).bind (·.dst)) (.tuple #[])) (.inRegion ops rest::k)) cs h):Safe P S Post { b.at a todo with mode:=.returning } (b₀.at a₀ (.inRegion ops (i::rest)::k)::cs) h:=
 .zZ (fun w m=>by show stepG P m (G _ _) w=_;rw[stepG_leave hn hd hf (results_none hr _ P w) (events_results_none hr _ _),Frame.finish_at];rfl) K
end
def Qe(L:WgLink)(Wg:Nat)(c:Frame)(cs:List Frame)(g:Goroutine):Prop:=
 ∃T:Array Value,g=G ((base L.wait).at ⟨T,[]⟩ [.code (L7 L),.inLoop (L7 L),.inBlock 0]) (c::cs)/\T.size=84/\T[0]? = some (.pointer (some ⟨Wg,0,none⟩))
theorem Sb(H:WgLib P L)(hCW:Φ.C≠Φ.Wg)(g:Goroutine)(h:Qe L Φ.Wg (b₀.at a₀ (.inRegion ops₀ (i₀::rest₀)::k₀)) cs g)(w:World)(hK:Φ.J w) :
  Goes P true (fun _ w₁=>Φ.J w₁) DC0 (AtW1 P Φ (MT P (b₀.at (a₀.put ((ops₀[i₀]?).bind (·.dst)) (.tuple #[])) (.inRegion ops₀ rest₀::k₀)) cs) (Qe L Φ.Wg (b₀.at a₀ (.inRegion ops₀ (i₀::rest₀)::k₀)) cs)) 100 g w:=by
 lib_facts
 obtain⟨T,rfl,hT84,t0⟩:=h
 obtain⟨v0,v1,v2,v3,v4,v5,v6,v7,v8,v9,v10,v11,v12,v13,v14,v15,v16,v17,v18,v19,v20,v21,v22,v23,v24,v25,v26,v27,v28,v29,v30,v31,v32,v33,v34,v35,v36,v37,v38,v39,v40,v41,v42,v43,v44,v45,v46,v47,v48,v49,v50,v51,v52,v53,v54,v55,v56,v57,v58,v59,v60,v61,v62,v63,v64,v65,v66,v67,v68,v69,v70,v71,v72,v73,v74,v75,v76,v77,v78,v79,v80,v81,v82,v83,rfl⟩:=array84 T hT84
 simp only[List.getElem?_toArray,vC,Option.some.injEq]at t0
 subst t0
 simp only[L7,body_wait,waitFn,Option.getD_some]
 u_c stepG_block jl hK
 u_c stepG_seq jl hK
 u_reg jl hK
 iterate 3 u_op jl hK
 u_call H.f_uLoad (nm_uLoad L) uLoadFn jl hK
 u_c stepG_seq jl hK
 u_reg jl hK
 u_op jl hK
 u_c stepG_region_end jl hK
 u_c stepG_seq jl hK
 u_reg jl hK
 iterate 3 u_op jl hK
 refine Goes.stop (fun w₁ h₁=>?_)
 replace hK:=jl hK h₁
 clear h₁
 refine⟨rfl,fun v hv hw=>?_⟩
 rcases Nat.eq_zero_or_pos v with rfl | hvp
 ·replace hw:WgAt Φ.ty Φ.Wg w₁ 0 0:=by simpa using hw
  refine⟨_,stepG_load_atomic (v:=0) rfl rfl (by k_ne) rfl H.f_loadU64 (x_loadU64_n L) (x_loadU64_b L) (x_loadU64_x L) .u64 (x_loadU64_f L) rfl hw.cellSt,fun _=>⟨100,Sil.of (w:=w₁) ?_⟩,fun h=>absurd rfl h⟩
  clear hw
  walk_nrm
  u_op jl hK
  u_c stepG_region_end jl hK
  u_c stepG_ret' jl hK
  u_leave1 H.f_uLoad jl hK
  u_op jl hK
  u_c stepG_region_end jl hK
  u_c stepG_seq jl hK
  u_reg jl hK
  iterate 4 u_op jl hK
  u_c stepG_region_end jl hK
  u_c stepG_seq jl hK
  u_reg jl hK
  iterate 4 u_op jl hK
  u_c stepG_region_end jl hK
  iterate 2 u_c stepG_seq jl hK
  u_reg jl hK
  iterate 2 u_op jl hK
  u_c stepG_region_end jl hK
  u_cond true jl hK
  u_c stepG_seq jl hK
  u_cond true jl hK
  u_c stepG_seq jl hK
  u_reg jl hK
  refine Goes.stop (fun w₁ h₁=>?_)
  replace hK:=jl hK h₁
  clear h₁
  refine⟨rfl,_,stepG_mark0 .enable (by simp) rfl rfl (by k_ne) rfl H.f_enable (x_enable_n L) (x_enable_b L) (x_enable_x L) (x_enable_f L),100,Sil.of (w:=w₁) ?_⟩
  walk_nrm
  u_c stepG_region_end jl hK
  u_reg jl hK
  u_op jl hK
  u_conv H.underlying_tWgP H.room_tWg (J.cell0 hK).choose_spec jl hK
  refine Goes.stop (fun w₁ h₁=>?_)
  replace hK:=jl hK h₁
  clear h₁
  refine⟨rfl,_,_,stepG_markAt .acquire (by simp) rfl rfl (by k_ne) rfl H.f_acquire (x_acquire_n L) (x_acquire_b L) (x_acquire_x L) (x_acquire_f L) (by simp[Act.eval,stA]),fun S Post hh K=>?_⟩
  clear hK
  walk_nrm
  refine Safe.zZ (fun _ _=>stepG_region_end) ?_
  refine Safe.zZ (fun _ _=>stepG_seq) ?_
  refine Safe.zZ (fun _ _=>stepG_seq) ?_
  (refine Safe.zZ (fun _ _=>stepG_region) ?_;simp only[List.size_toArray,List.length_cons,List.length_nil,Nat.reduceAdd,Nat.zero_add,List.range,List.range.loop])
  iterate 8 (apply EG;(case ho=>rfl);(case hw=>rfl);(case hk=>k_ne);(case hr=>intro w;go_simp;(try simp only[q3,q4,q5,q6,a1,b1,b2,c1,c3,c4]);first | rfl | (w_num;rfl));(case he=>intro w;simp[go_sem, *]);walk_nrm)
  iterate 2 (refine NZ rfl rfl ?_;walk_nrm)
  (apply EG;(case ho=>rfl);(case hw=>rfl);(case hk=>k_ne);(case hr=>intro w;go_simp;(try simp only[q3,q4,q5,q6,a1,b1,b2,c1,c3,c4]);first | rfl | (w_num;rfl));(case he=>intro w;simp[go_sem, *]);walk_nrm)
  refine Safe.zZ (fun _ _=>stepG_region_end) ?_
  (refine Safe.zZ (fun _ _=>stepG_cond (t:=false) rfl) ?_;simp only[if_true,if_false,vL,↓reduceIte])
  refine Safe.zZ (fun _ _=>stepG_skip) ?_
  refine Safe.zZ (fun _ _=>stepG_ret') ?_
  refine KW rfl rfl H.f_wait rfl ?_
  exact K
 ·obtain⟨S,hS⟩:∃S:Int,(v:Int)*KK=S:=⟨_,rfl⟩
  have a1:S/4294967296=(v:Int):=by rw[<-hS];simp only[KK];omega
  have b1:bits .and .u64 S 2147483648=0:=by rw[<-hS];have:=st_flag v 0 (by omega) (by omega);simpa[KK]using this
  have b2:bits .and .u64 S 2147483647=0:=by rw[<-hS];have:=st_waiters v 0 (by omega) (by omega);simpa[KK]using this
  have c1:IntKind.i32.wrap (v:Int)=(v:Int):=by rw[IntKind.wrap_i32];omega
  have w1:IntKind.u64.wrap (S+1)=S+1:=by rw[IntKind.wrap_u64,<-hS];simp only[KK];omega
  have q3:decide ((v:Int)<0)=false:=decide_eq_false (by omega)
  have q4:decide (0<(v:Int))=true:=decide_eq_true (by omega)
  have q5:((v:Int)==0)=false:=by simp;omega
  have q6:decide ((v:Int)=0)=false:=decide_eq_false (by omega)
  rw[hS]at hw
  refine⟨_,stepG_load_atomic (v:=S) rfl rfl (by k_ne) rfl H.f_loadU64 (x_loadU64_n L) (x_loadU64_b L) (x_loadU64_x L) .u64 (x_loadU64_f L) rfl hw.cellSt,fun h0=>absurd h0 (by omega),fun _=>⟨200,Sil.of (w:=w₁) ?_⟩⟩
  clear hw
  walk_nrm
  u_op jl hK
  u_c stepG_region_end jl hK
  u_c stepG_ret' jl hK
  u_leave1 H.f_uLoad jl hK
  u_op jl hK
  u_c stepG_region_end jl hK
  u_c stepG_seq jl hK
  u_reg jl hK
  iterate 4 u_op jl hK
  u_c stepG_region_end jl hK
  u_c stepG_seq jl hK
  u_reg jl hK
  iterate 4 u_op jl hK
  u_c stepG_region_end jl hK
  iterate 2 u_c stepG_seq jl hK
  u_reg jl hK
  iterate 2 u_op jl hK
  u_c stepG_region_end jl hK
  u_cnd false jl hK
  u_c stepG_skip jl hK
  u_c stepG_seq jl hK
  u_reg jl hK
  iterate 6 u_op jl hK
  u_call H.f_uCas (nm_uCas L) uCasFn jl hK
  u_c stepG_seq jl hK
  u_reg jl hK
  u_op jl hK
  u_c stepG_region_end jl hK
  u_c stepG_seq jl hK
  u_reg jl hK
  iterate 5 u_op jl hK
  refine Goes.stop (fun w₁ h₁=>?_)
  replace hK:=jl hK h₁
  clear h₁
  refine⟨rfl,fun v' hv' hw=>⟨fun e=>?_,fun e=>?_⟩⟩
  ·subst e
   rw[hS]at hw ⊢
   refine⟨_,(stepG_cas_hit (v:=S) (n:=S+1) rfl rfl (by k_ne) rfl H.f_casU64 (x_casU64_n L) (x_casU64_b L) (x_casU64_x L) .u64 (x_casU64_f L) rfl rfl rfl hw.cellSt (hw.thaw 0)).trans (by rfl),200,Sil.of (w:=w₁.setCell (stA Φ.Wg) (.int .u64 (S+1))) ?_⟩
   replace hK:=J.setSt hCW hK hw (S+1)
   generalize w₁.setCell (stA Φ.Wg) (.int .u64 (S+1))=w₂ at hK
   clear hw
   walk_nrm
   u_op jl hK
   u_c stepG_region_end jl hK
   u_c stepG_ret' jl hK
   u_leave1 H.f_uCas jl hK
   u_c stepG_region_end jl hK
   u_cond true jl hK
   iterate 2 u_c stepG_seq jl hK
   u_reg jl hK
   iterate 4 u_op jl hK
   u_c stepG_region_end jl hK
   u_cond true jl hK
   u_reg jl hK
   iterate 3 u_op jl hK
   u_conv H.underlying_tPU32 H.room_tU32 (J.cell1 hK).choose_spec jl hK
   refine Goes.stop (fun w₁ h₁=>?_)
   replace hK:=jl hK h₁
   clear h₁
   refine⟨rfl,_,stepG_markAt .write (by simp) rfl rfl (by k_ne) rfl H.f_raceWrite (x_raceWrite_n L) (x_raceWrite_b L) (x_raceWrite_x L) (x_raceWrite_f L) (ad:=⟨Φ.Wg,1,none⟩) (by simp[Act.eval]),200,Sil.of (w:=w₁) ?_⟩
   walk_nrm
   u_c stepG_region_end jl hK
   u_c stepG_seq jl hK
   u_reg jl hK
   u_op jl hK
   u_c stepG_region_end jl hK
   iterate 2 u_c stepG_seq jl hK
   u_reg jl hK
   iterate 4 u_op jl hK
   u_skip jl hK
   u_op jl hK
   u_c stepG_region_end jl hK
   u_cond false jl hK
   u_c stepG_skip jl hK
   u_c stepG_seq jl hK
   u_reg jl hK
   iterate 4 u_op jl hK
   refine Goes.stop (fun w₁ h₁=>?_)
   replace hK:=jl hK h₁
   clear h₁
   refine⟨rfl,rfl,fun⟨st,hw⟩=>stepG_semacquire_wait rfl rfl rfl H.f_semacquire (x_semacquire_n L) (x_semacquire_b L) (x_semacquire_x L) (x_semacquire_f L) (by simp[Act.eval,smA]) hw.cellSm,fun hf=>?_⟩
   refine⟨_,(stepG_semacquire (n:=1) rfl rfl (by k_ne) rfl H.f_semacquire (x_semacquire_n L) (x_semacquire_b L) (x_semacquire_x L) (x_semacquire_f L) (by simp[Act.eval,smA]) hf.cellSm (by k_ne) (hf.thaw 1)).trans (by rfl),200,Sil.of (w:=w₁.setCell (smA Φ.Wg) (.int .u32 0)) ?_⟩
   replace hK:=J.setSm hCW hK hf 0
   generalize w₁.setCell (smA Φ.Wg) (.int .u32 0)=w₂ at hK
   clear hf
   walk_nrm
   u_c stepG_region_end jl hK
   u_c stepG_seq jl hK
   u_reg jl hK
   iterate 3 u_op jl hK
   u_call H.f_uLoad (nm_uLoad L) uLoadFn jl hK
   u_c stepG_seq jl hK
   u_reg jl hK
   u_op jl hK
   u_c stepG_region_end jl hK
   u_c stepG_seq jl hK
   u_reg jl hK
   iterate 3 u_op jl hK
   refine Goes.stop (fun w₁ h₁=>?_)
   replace hK:=jl hK h₁
   clear h₁
   refine⟨rfl,fun hw=>⟨_,stepG_load_atomic (v:=0) rfl rfl (by k_ne) rfl H.f_loadU64 (x_loadU64_n L) (x_loadU64_b L) (x_loadU64_x L) .u64 (x_loadU64_f L) rfl hw.cellSt,200,Sil.of (w:=w₁) ?_⟩⟩
   clear hw
   walk_nrm
   u_op jl hK
   u_c stepG_region_end jl hK
   u_c stepG_ret' jl hK
   u_leave1 H.f_uLoad jl hK
   iterate 2 u_op jl hK
   u_c stepG_region_end jl hK
   u_c stepG_seq jl hK
   u_cond true jl hK
   u_c stepG_seq jl hK
   u_reg jl hK
   refine Goes.stop (fun w₁ h₁=>?_)
   replace hK:=jl hK h₁
   clear h₁
   refine⟨rfl,_,stepG_mark0 .enable (by simp) rfl rfl (by k_ne) rfl H.f_enable (x_enable_n L) (x_enable_b L) (x_enable_x L) (x_enable_f L),100,Sil.of (w:=w₁) ?_⟩
   walk_nrm
   u_c stepG_region_end jl hK
   u_reg jl hK
   u_op jl hK
   u_conv H.underlying_tWgP H.room_tWg (J.cell0 hK).choose_spec jl hK
   refine Goes.stop (fun w₁ h₁=>?_)
   replace hK:=jl hK h₁
   clear h₁
   refine⟨rfl,_,_,stepG_markAt .acquire (by simp) rfl rfl (by k_ne) rfl H.f_acquire (x_acquire_n L) (x_acquire_b L) (x_acquire_x L) (x_acquire_f L) (by simp[Act.eval,stA]),fun S Post hh K=>?_⟩
   clear hK
   walk_nrm
   refine Safe.zZ (fun _ _=>stepG_region_end) ?_
   refine Safe.zZ (fun _ _=>stepG_seq) ?_
   refine Safe.zZ (fun _ _=>stepG_seq) ?_
   (refine Safe.zZ (fun _ _=>stepG_region) ?_;simp only[List.size_toArray,List.length_cons,List.length_nil,Nat.reduceAdd,Nat.zero_add,List.range,List.range.loop])
   (apply EG;(case ho=>rfl);(case hw=>rfl);(case hk=>k_ne);(case hr=>intro w;go_simp;(try simp only[q3,q4,q5,q6,a1,b1,b2,c1,c3,c4]);first | rfl | (w_num;rfl));(case he=>intro w;simp[go_sem, *]);walk_nrm)
   refine Safe.zZ (fun _ _=>stepG_region_end) ?_
   (refine Safe.zZ (fun _ _=>stepG_cond (t:=false) rfl) ?_;simp only[if_true,if_false,vL,↓reduceIte])
   refine Safe.zZ (fun _ _=>stepG_skip) ?_
   refine Safe.zZ (fun _ _=>stepG_ret') ?_
   refine KW rfl rfl H.f_wait rfl ?_
   exact K
  ·refine⟨_,stepG_cas_miss (v:=(v':Int)*KK) (old:=S) (n:=S+1) rfl rfl (by k_ne) rfl H.f_casU64 (x_casU64_n L) (x_casU64_b L) (x_casU64_x L) .u64 (x_casU64_f L) rfl rfl rfl hw.cellSt (hw.thaw 0) (by rw[<-hS];simp only[KK];omega),100,Sil.of (w:=w₁) ?_⟩
   clear hw
   walk_nrm
   u_op jl hK
   u_c stepG_region_end jl hK
   u_c stepG_ret' jl hK
   u_leave1 H.f_uCas jl hK
   u_c stepG_region_end jl hK
   u_cond false jl hK
   u_c stepG_skip jl hK
   u_c stepG_inBlock jl hK
   u_c stepG_inLoop jl hK
   exact Goes.stop fun _ _=>⟨_,rfl,by simp,by simp⟩
theorem TU(H:WgLib P L)(hCW:Φ.C≠Φ.Wg)(w:World)(hK:Φ.J w) :
  kq P Φ (MT P (b₀.at (a₀.put ((ops₀[i₀]?).bind (·.dst)) (.tuple #[])) (.inRegion ops₀ rest₀::k₀)) cs)
   ((base L.wait).at ⟨#[.pointer (some ⟨Φ.Wg,0,none⟩),undef,undef,undef,undef,undef,undef,undef,undef,undef,undef,undef,undef,undef,undef,undef,undef,undef,undef,undef,undef,undef,undef,undef,undef,undef,undef,undef,undef,undef,undef,undef,undef,undef,undef,undef,undef,undef,undef,undef,undef,undef,undef,undef,undef,undef,undef,undef,undef,undef,undef,undef,undef,undef,undef,undef,undef,undef,undef,undef,undef,undef,undef,undef,undef,undef,undef,undef,undef,undef,undef,undef,undef,undef,undef,undef,undef,undef,undef,undef,undef,undef,undef,undef],[]⟩ [.code (body_wait L)]) (b₀.at a₀ (.inRegion ops₀ (i₀::rest₀)::k₀)::cs):=by
 refine⟨Qe L Φ.Wg (b₀.at a₀ (.inRegion ops₀ (i₀::rest₀)::k₀)) cs,fun g hg=>⟨100,Sil.of (Sb H hCW g hg w hK)⟩,100,Sil.of (w:=w) ?_⟩
 lib_facts
 simp only[W8]
 simp only[body_wait,waitFn,Option.getD_some]
 u_c stepG_seq jl hK
 u_cond true jl hK
 u_reg jl hK
 refine Goes.stop (fun w₁ h₁=>?_)
 replace hK:=jl hK h₁
 clear h₁
 refine⟨rfl,_,stepG_mark0 .disable (by simp) rfl rfl (by k_ne) rfl H.f_disable (x_disable_n L) (x_disable_b L) (x_disable_x L) (x_disable_f L),3,Sil.of (w:=w₁) ?_⟩
 walk_nrm
 u_c stepG_region_end jl hK
 u_c stepG_block jl hK
 u_c stepG_loop jl hK
 exact Goes.stop (fun w₂ h₂=>⟨_,rfl,by simp,by simp⟩)
end
end Go.Eng
namespace Go.Eng
open Go
section
variable {P : Program} {S : Shared} {ops : Array Oper} {Q : Act -> Heap -> Heap -> Prop}
theorem TX{Post:Frame->List Frame->Heap->Prop}{b:Frame}{k:List Item}{cs:List Frame}(hp:Up S Post)(r:List Nat) :
  ∀(l:List Nat) (a:Act) (L h:Heap),Ok S h L->qf P S ops Q l a L h->(∀a' L' h',Ok S h' L'->Q a' L' h'->Safe P S Post (b.at a' (.inRegion ops r::k)) cs (plus h' L')) ->
   Safe P S Post (b.at a (.inRegion ops (l++r)::k)) cs (plus h L):=by
 intro l
 induction l with
 | nil=>intro a L h ha H K;exact K a L h ha H
 | cons i rest ih=>
  intro a L h ha H K
  simp only[qf,kv]at H
  cases ho:ops[i]? with
  | none=>
   simp only[ho]at H
   refine .Ip (by simp[ho]) ?_
   simp only[ho,Option.bind_none,Act.put]
   exact ih a L h ha H K
  | some o=>
   simp only[ho]at H
   by_cases hw:Region.wanted o (yielded ops a.tmps)=true
   ·simp only[hw,if_true]at H
    cases H with
    | step H=>exact .op ho hw fun w hh=>ku _ (H w hh) fun n w' ⟨v,L',h',h1,h2,h3,_,_,h5⟩=>⟨v,plus h' L',h1,h3,ih _ L' h' h2 h5 K⟩
    | call f args R hx hc H=>exact .Qt hp ho hw hx hc ha.apart fun v h' hr hi hap=>ih _ L h' ⟨hap,hi⟩ (H v h' hr ⟨hap,hi⟩).2 K
   ·simp only[hw,if_false,vL]at H
    refine .Ip (by simp[ho];simpa using hw) ?_
    simp only[ho,Option.bind_some]
    exact ih _ L h ha H K
theorem put_defers(a:Act)(d:Option Tmp)(v:Value):(a.put d v).defers=a.defers:=by cases d <;> rfl
theorem Oa:∀(l:List Nat) (a:Act) (L h:Heap),qf P S ops Q l a L h->qf P S ops (fun a' L' h'=>a'.defers=a.defers/\Q a' L' h') l a L h:=by
 have mono:∀(l:List Nat) (a:Act) (L h:Heap) {Q Q':Act->Heap->Heap->Prop},(∀a L h,Q a L h->Q' a L h)->qf P S ops Q l a L h->qf P S ops Q' l a L h:=by
  intro l
  induction l with
  | nil=>intro a L h Q Q' hk H;exact hk _ _ _ H
  | cons i rest ih=>
   intro a L h Q Q' hk H
   simp only[qf,kv]at H ⊢
   cases ho:ops[i]? with
   | none=>simp only[ho]at H ⊢;exact ih _ _ _ hk H
   | some o=>
    simp only[ho]at H ⊢
    by_cases hw:Region.wanted o (yielded ops a.tmps)=true
    ·simp only[hw,if_true]at H ⊢
     exact H.mono fun v L' h' _ _ ⟨h1,h2⟩=>⟨h1,ih _ _ _ hk h2⟩
    ·simp only[hw,if_false,vL]at H ⊢
     exact ih _ _ _ hk H
 intro l
 induction l with
 | nil=>intro a L h H;exact⟨rfl,H⟩
 | cons i rest ih=>
  intro a L h H
  simp only[qf,kv]at H ⊢
  cases ho:ops[i]? with
  | none=>simp only[ho]at H ⊢;exact ih _ _ _ H
  | some o=>
   simp only[ho]at H ⊢
   by_cases hw:Region.wanted o (yielded ops a.tmps)=true
   ·simp only[hw,if_true]at H ⊢
    exact H.mono fun v L' h' _ _ ⟨h1,h2⟩=>⟨h1,mono _ _ _ _ (fun a' L' h' ⟨e,hq⟩=>⟨e.trans (put_defers ..),hq⟩) (ih _ _ _ h2)⟩
   ·simp only[hw,if_false,vL]at H ⊢
    exact mono _ _ _ _ (fun a' L' h' ⟨e,hq⟩=>⟨e.trans (put_defers ..),hq⟩) (ih _ _ _ H)
theorem Qf{z:Nat}(hn:ops.size=z+1)(h3:∀i o,ops[i]? = some o->∀e∈o.after,Region.binds .any e=true->e.on<i)
  (h2:∀o,ops[z]? = some o->∀i<z,∃e∈o.after,Region.binds .any e=true/\e.on=i){listed:Array Bool}(hs:listed.size=z+1)(hz:listed.getD z true=false)
  (hu:∃i<z,listed.getD i true=false):Region.ready .any ops listed=Region.ready .any ops (listed.setIfInBounds z true)/\Region.ready .any ops listed ≠ []:=by
 have gd:∀i:Nat,i≠z->∀d,(listed.setIfInBounds z true).getD i d=listed.getD i d:=fun i hi d=>by
  simp only[Array.getD_eq_getD_getElem?,Array.getElem?_setIfInBounds_ne (Ne.symm hi)]
 have gz:∀d,(listed.setIfInBounds z true).getD z d=true:=fun d=>by
  simp[Array.getD_eq_getD_getElem?,Array.getElem?_setIfInBounds,hs]
 have dd:∀i<z,listed.getD i true=listed.getD i false:=fun i hi=>by
  simp[Array.getD_eq_getD_getElem?,Array.getElem?_eq_getElem (show i<listed.size by omega)]
 constructor
 ·unfold Region.ready
  refine List.filter_congr fun i hi=>?_
  rw[List.mem_range,hn]at hi
  by_cases e:i=z
  ·subst e
   rw[gz,hz]
   obtain⟨j,hj,hju⟩:=hu
   cases ho:ops[i]? with
   | none=>simp
   | some o=>
    obtain⟨ed,he,hb,hon⟩:=h2 o ho j hj
    have:(o.after.all fun e => !Region.binds .any e||listed.getD e.on false)=false:=by
     rw[Bool.eq_false_iff]
     intro hall
     have h4:=Array.all_eq_true'.1 hall ed he
     rw[hb,hon,<-dd j hj,hju]at h4
     cases h4
    simp only[Option.map_some,Option.getD_some,this,Bool.not_true,Bool.false_and,Bool.and_false]
  ·rw[gd i e]
   congr 1
   cases ho:ops[i]? with
   | none=>simp
   | some o=>
    simp only[Option.map_some,Option.getD_some]
    rw[Bool.eq_iff_iff,Array.all_eq_true',Array.all_eq_true']
    refine forall_congr' fun ed=>forall_congr' fun hed=>?_
    cases hb:Region.binds .any ed with
    | false=>simp
    | true=>
     have:=h3 i o ho ed hed hb
     rw[gd ed.on (by omega)]
 ·intro hnil
  have all:∀n i,i<n->i<z->listed.getD i true=true:=by
   intro n
   induction n with
   | zero=>intro i h;omega
   | succ n ih=>
    intro i hin hiz
    cases hl:listed.getD i true with
    | true=>rfl
    | false=>
     have hi:i<ops.size:=by omega
     have:i∈Region.ready .any ops listed:=mem_ready.2 ⟨hl,ops[i],Array.getElem?_eq_getElem hi,fun ed hed hb=>by
      have h5:=h3 i _ (Array.getElem?_eq_getElem hi) ed hed hb
      rw[<-dd ed.on (by omega)]
      exact ih ed.on (by omega) (by omega)⟩
     rw[hnil]at this
     cases this
  obtain⟨j,hj,hju⟩:=hu
  rw[all (j+1) j (by omega) hj]at hju
  cases hju
theorem Kg{z:Nat}(hn:ops.size=z+1)(h3:∀i o,ops[i]? = some o->∀e∈o.after,Region.binds .any e=true->e.on<i)
  (h2:∀o,ops[z]? = some o->∀i<z,∃e∈o.after,Region.binds .any e=true/\e.on=i):∀(fuel t:Nat) (listed:Array Bool),listed.size=z+1->listed.getD z true=false ->
   ((List.range z).filter fun i => !listed.getD i true).length=fuel ->
   ∃t',Region.linearise.go .any ops (fuel+1) t listed []=Region.linearise.go .any ops fuel t (listed.setIfInBounds z true) []++[z]/\t'=t:=by
 intro fuel
 induction fuel with
 | zero=>
  intro t listed hs hz hc
  refine⟨t,?_,rfl⟩
  have hall:∀i<z,listed.getD i true=true:=fun i hi=>by
   cases h:listed.getD i true with
   | true=>rfl
   | false=>
    have:i∈(List.range z).filter fun i => !listed.getD i true:=List.mem_filter.2 ⟨List.mem_range.2 hi,by simp[h]⟩
    rw[List.length_eq_zero_iff.1 hc]at this
    cases this
  have hr:Region.ready .any ops listed=[z]:=by
   unfold Region.ready
   rw[hn,List.range_succ,List.filter_append]
   have e1:(List.range z).filter (fun i => !listed.getD i true&&((ops[i]?).map (·.after.all fun e => !Region.binds .any e||listed.getD e.on false)).getD false)=[]:=by
    rw[List.filter_eq_nil_iff]
    intro i hi
    rw[hall i (List.mem_range.1 hi)]
    simp
   rw[e1,vI]
   have hzl:z<ops.size:=by omega
   have e2:((ops[z]?).map (·.after.all fun e => !Region.binds .any e||listed.getD e.on false)).getD false=true:=by
    rw[Array.getElem?_eq_getElem hzl]
    simp only[Option.map_some,Option.getD_some]
    rw[Array.all_eq_true']
    intro ed hed
    cases hb:Region.binds .any ed with
    | false=>simp
    | true=>
     have h5:=h3 z _ (Array.getElem?_eq_getElem hzl) ed hed hb
     have h6:=hall ed.on h5
     simp[Array.getD_eq_getD_getElem?,Array.getElem?_eq_getElem (show ed.on<listed.size by omega)]at h6 ⊢
     exact h6
   exact List.filter_eq_self.2 fun i hi=>by cases List.mem_singleton.1 hi;rw[hz,e2];rfl
  simp only[Region.linearise.go]
  change (match(Region.ready .any ops listed)[t%(Region.ready .any ops listed).length]? with
   | some i=>Region.linearise.go .any ops 0 (t/(Region.ready .any ops listed).length) (listed.setIfInBounds i true) [i]
   | none=>[].reverse)=_
  rw[hr]
  simp[Nat.mod_one,Region.linearise.go]
 | succ fuel ih=>
  intro t listed hs hz hc
  refine⟨t,?_,rfl⟩
  have hu:∃i<z,listed.getD i true=false:=by
   cases hl:(List.range z).filter fun i => !listed.getD i true with
   | nil=>rw[hl]at hc;cases hc
   | cons i r=>
    have:i∈(List.range z).filter fun i => !listed.getD i true:=by rw[hl];exact List.mem_cons_self
    obtain⟨h4,h5⟩:=List.mem_filter.1 this
    exact⟨i,List.mem_range.1 h4,by simpa using h5⟩
  obtain⟨he,hne⟩:=Qf hn h3 h2 hs hz hu
  have A:∀(f t:Nat) (l:Array Bool),Region.linearise.go .any ops (f+1) t l []=(match(Region.ready .any ops l)[t%(Region.ready .any ops l).length]? with
   | some i=>Region.linearise.go .any ops f (t/(Region.ready .any ops l).length) (l.setIfInBounds i true) [i]
   | none=>[]):=fun f t l=>by simp only[Region.linearise.go];rfl
  rw[A,A,<-he]
  have hlt:t%(Region.ready .any ops listed).length<(Region.ready .any ops listed).length:=Nat.mod_lt _ (by
   cases hr:Region.ready .any ops listed with
   | nil=>exact absurd hr hne
   | cons x xs=>simp)
  rw[List.getElem?_eq_getElem hlt]
  simp only[]
  have hmem:=List.getElem_mem hlt
  generalize (Region.ready .any ops listed)[t%(Region.ready .any ops listed).length]=i at hmem
  have hi1:=(mem_ready.1 hmem).1
  have hiz:i≠z:=fun e=>by
   subst e
   rw[he]at hmem
   have:=(mem_ready.1 hmem).1
   simp[Array.getD_eq_getD_getElem?,Array.getElem?_setIfInBounds,hs]at this
  have hilt:i<z:=by
   rcases Nat.lt_or_ge i listed.size with h | h
   ·omega
   ·simp[Array.getD_eq_getD_getElem?,Array.getElem?_eq_none h]at hi1
  rw[linearise_go_acc,linearise_go_acc _ _ _ _ _ [i]]
  have gi:∀j:Nat,(listed.setIfInBounds i true).getD j true=(if j=i then true else listed.getD j true):=fun j=>by
   by_cases e:j=i
   ·subst e
    simp only[if_true,Array.getD_eq_getD_getElem?,Array.getElem?_setIfInBounds]
    split <;> simp
   ·simp only[if_neg e,Array.getD_eq_getD_getElem?,Array.getElem?_setIfInBounds_ne (Ne.symm e)]
  obtain⟨_,h6,_⟩:=ih (t/(Region.ready .any ops listed).length) (listed.setIfInBounds i true) (by simp[hs]) (by rw[gi,if_neg (Ne.symm hiz)];exact hz) (by
   have key:∀l:List Nat,l.Nodup->i∈l->(l.filter fun j => !(listed.setIfInBounds i true).getD j true).length+1=(l.filter fun j => !listed.getD j true).length:=by
    intro l
    induction l with
    | nil=>intro _ h;cases h
    | cons x xs ihl=>
     intro hnd hm
     obtain⟨hx,hnd⟩:=List.nodup_cons.1 hnd
     rw[List.filter_cons,List.filter_cons]
     rcases List.mem_cons.1 hm with rfl | hm
     ·have e5:(xs.filter fun j => !(listed.setIfInBounds i true).getD j true)=xs.filter fun j => !listed.getD j true:=
       List.filter_congr fun j hj=>by rw[gi,if_neg (fun e=>hx (by rw[<-e];exact hj))]
      rw[gi,if_pos rfl,hi1,e5];simp
     ·have hxi:x≠i:=fun e=>hx (by rw[e];exact hm)
      rw[gi,if_neg hxi]
      have:=ihl hnd hm
      cases listed.getD x true <;> simp only[Bool.not_true,Bool.not_false,vL,if_true,if_false,List.length_cons,↓reduceIte] <;> omega
   have:=key (List.range z) List.nodup_range (List.mem_range.2 hilt)
   omega)
  rw[h6,Array.setIfInBounds_comm _ _ hiz]
  simp
end
end Go.Eng
namespace Go.Eng
open Go
def MU(ops:Array Oper)(z:Nat):Bool:=
 ops.size==z+1&&((List.range (z+1)).all fun i=>match ops[i]? with | some o=>o.after.all (fun e => !Region.binds .any e||decide (e.on<i)) | none=>true) &&
  (match ops[z]? with | some o=>(List.range z).all fun i=>o.after.any fun e=>Region.binds .any e&&e.on==i | none=>true)
theorem linearise_last'{ops:Array Oper}{z:Nat}(h:MU ops z=true)(t:Nat) :
  Region.linearise.go .any ops (z+1) t (Array.replicate (z+1) false) []=Region.linearise.go .any ops z t ((Array.replicate (z+1) false).setIfInBounds z true) []++[z]:=by
 unfold MU at h
 simp only[Bool.and_eq_true,beq_iff_eq]at h
 obtain⟨⟨h1,h2⟩,h3⟩:=h
 refine(Kg h1 (fun i o ho e he hb=>?_) (fun o ho i hi=>?_) z t _ (by simp) (by simp[Array.getD_eq_getD_getElem?]) ?_).choose_spec.1
 ·have hlt:i<z+1:=by
   rcases Nat.lt_or_ge i ops.size with h | h
   ·omega
   ·rw[Array.getElem?_eq_none h]at ho;cases ho
  have h4:=List.all_eq_true.1 h2 i (List.mem_range.2 hlt)
  rw[ho]at h4
  have h5:=Array.all_eq_true'.1 h4 e he
  rw[hb]at h5
  simpa using h5
 ·rw[ho]at h3
  have h4:=List.all_eq_true.1 h3 i (List.mem_range.2 hi)
  obtain⟨e,he,h5⟩:=Array.any_eq_true'.1 h4
  simp only[Bool.and_eq_true,beq_iff_eq]at h5
  exact⟨e,he,h5.1,h5.2⟩
 ·have:(List.range z).filter (fun i => !(Array.replicate (z+1) false).getD i true)=List.range z:=List.filter_eq_self.2 fun i hi=>by
   have:=List.mem_range.1 hi
   simp[Array.getD_eq_getD_getElem?,Array.getElem?_replicate,show i<z+1 by omega]
  rw[this,List.length_range]
end Go.Eng
namespace Go.Eng
open Go
def Kh(l:List (Option (Sh×Nat))):List GV:=l.map fun | some (s,j)=>⟨[],.x (.var s j)⟩ | none=>⟨[],.junk⟩
theorem TZ{env:List Value}{nums:List Nat}{s:Sh}{j:Nat}{u:Value}(h:env[j]? = some u)(hc:coerce s u=u):Good env nums (.var s j) u:=fun xs ys=>by
 have hlt:j<env.length:=(List.getElem?_eq_some_iff.1 h).1
 simp only[Ex.ev,List.getD_eq_getElem?_getD,List.getElem?_append_left hlt,h,Option.getD_some,hc]
theorem Rel.init{l:List (Option (Sh×Nat))}{env:List Value}{a:Act}{n d:Nat}{dv:Bool}(hn:n=env.length)(hl:l.length=a.tmps.size)(hd:dv=false->a.defers=[])
  (hv:∀(i:Nat) s j,l[i]? = some (some (s,j))->∃u,env[j]? = some u/\a.tmps.getD i undef=u/\coerce s u=u) :
  Rel { tmps:=Kh l,loc:=[],n:=n,known:=[],d:=d,dv:=dv } env [] a (fun _=>none):=by
 have key:∀(i:Nat) gv,(Kh l)[i]? = some gv->gv=⟨[],.junk⟩\/∃s j,l[i]? = some (some (s,j))/\gv=⟨[],.x (.var s j)⟩:=by
  intro i gv h
  unfold Kh at h
  rw[List.getElem?_map]at h
  obtain⟨x,h1,rfl⟩:=Option.map_eq_some_iff.1 h
  cases x with
  | none=>exact .inl rfl
  | some p=>exact .inr ⟨p.1,p.2,h1,rfl⟩
 refine⟨hn,rfl,by simp[Kh,hl],hd,?_,?_,?_,by simp,by simp,by simp⟩
 ·intro i g v h e he
  rcases key i _ h with h | ⟨s,j,_,h⟩ <;> cases h <;> cases he
 ·intro i g v h _
  rcases key i _ h with h | ⟨s,j,h1,h⟩
  ·cases h;trivial
  ·cases h
   obtain⟨u,h2,h3,h4⟩:=hv i s j h1
   rw[h3]
   exact TZ h2 h4
 ·rintro i g v h ⟨e,he,_⟩
  rcases key i _ h with h | ⟨s,j,_,h⟩ <;> cases h <;> cases he
end Go.Eng
namespace Go.Eng
open Go
def sxs(cfg:Cfg):List Code->St->Option Tr
 | [],st=>some (.leaf (.norm st))
 | r::rs,st=>match r with
  | .region _ ops draw=>(match sxR cfg ops draw st with | some t=>Iw t (sxs cfg rs) | none=>none)
  | _=>none
def nest:List Code->Code->Code
 | [],c=>c
 | r::rs,c=>.seq r (nest rs c)
section
variable {P : Program} {S : Shared} {cfg : Cfg} {Λ : Hand} {Q : Value -> Heap -> Prop} {Ks : List Kt} {Post : Frame -> List Frame -> Heap -> Prop} {b : Frame} {k : List Item} {cs : List Frame} {c : Code}
theorem WA(hT:z9 P cfg.tab)(hm:P.follows .mixedOrders=true)(hp:Up S Post)(hΛ:Λ.Dk):∀(rs:List Code) (st:St) (t:Tr) (env:List Value) (nums:List Nat) (a:Act) (L h:Heap),
  sxs cfg rs st=some t->t.wp P S Λ Q env h Ks->Rel st env nums a L->Ok S h L ->
  (∀st' vs ms a' L' h',Λ (.norm st') (env++vs) h' Ks->Rel st' (env++vs) (nums++ms) a' L'->Ok S h' L'->Safe P S Post (b.at a' (.code c::k)) cs (plus h' L')) ->
  Safe P S Post (b.at a (.code (nest rs c)::k)) cs (plus h L):=by
 intro rs
 induction rs with
 | nil=>
  intro st t env nums a L h ht hw H ha hf
  simp only[sxs]at ht
  cases ht
  exact hf st [] [] a L h (by simpa[Tr.wp]using hw) (by simpa using H) ha
 | cons r rs ih=>
  intro st t env nums a L h ht hw H ha hf
  simp only[sxs]at ht
  split at ht
  ·rename_i id ops draw
   split at ht
   ·rename_i t1 ht1
    have hw1:=Tr.wp_bind hΛ t1 t ht env h Ks hw
    refine .seq (F4 hT hm hp ht1 hw1 H ha ?_)
    rintro st' vs ms a' L' h' ⟨u,hu,huw⟩ H' ha' _
    refine ih st' u _ _ a' L' h' hu huw H' ha' fun st2 vs2 ms2 a2 L2 h2 h3 h4 h5=>?_
    rw[List.append_assoc]at h3 h4
    rw[List.append_assoc]at h4
    exact hf st2 _ _ a2 L2 h2 h3 h4 h5
   ·cases ht
  ·cases ht
def got(st:St)(env:List Value)(i:Nat):Value:=match st.tmps[i]? with | some ⟨[],.x e⟩=>e.ev env [] | _=>undef
def isX(st:St)(i:Nat):Bool:=match st.tmps[i]? with | some ⟨[],.x _⟩=>true | _=>false
def j5(n:Nat)(is:List Nat)(R:(Nat->Value)->Heap->Prop):Hand:=fun l env h _=>∃st,l=.norm st/\st.loc=[]/\st.dv=false/\st.tmps.length=n/\is.all (isX st)=true/\R (got st env) h
theorem j5.mono{n:Nat}{is:List Nat}{R:(Nat->Value)->Heap->Prop}:(j5 n is R).Dk:=fun _ _ _ _ _ _ h=>h
def Reach(S:Shared)(b:Frame)(n:Nat)(k:List Item)(cs:List Frame)(is:List Nat)(R:(Nat->Value)->Heap->Prop)(fr:Frame)(cs':List Frame)(H:Heap):Prop:=
 cs'=cs/\∃a f h',fr=b.at a k/\a.tmps.size=n/\a.defers=[]/\(∀i∈is,a.tmps.getD i undef=f i)/\R f h'/\Sub h' H/\Inv S h'
theorem Reach.up{n:Nat}{is:List Nat}{R:(Nat->Value)->Heap->Prop}:Up S (Reach S b n k cs is R):=
 fun _ _ _ _ ⟨h1,a,f,h',h2,h3,h4,h5,h6,h7,h8⟩ hs _=>⟨h1,a,f,h',h2,h3,h4,h5,h6,h7.trans hs,h8⟩
def lOf(n:Nat)(ps:List (Nat×Sh)):List (Option (Sh×Nat)):=(List.range n).map fun i=>(ps.zipIdx.find? fun p=>p.1.1==i).map fun p=>(p.1.2,p.2)
def Dz(n:Nat)(ps:List (Nat×Sh)):St:={ tmps:=Kh (lOf n ps),loc:=[],n:=ps.length,known:=[],d:=0,dv:=false }
def qC(a:Act):List (Nat×Sh)->List Value->Prop
 | [],[]=>True
 | p::ps,u::us=>a.tmps.getD p.1 undef=u/\coerce p.2 u=u/\qC a ps us
 | _,_=>False
theorem qC.get{a:Act}:∀ {ps:List (Nat×Sh)} {us:List Value},qC a ps us->ps.length=us.length/\∀(j:Nat) (p:Nat×Sh),ps[j]? = some p->∃u,us[j]? = some u/\a.tmps.getD p.1 undef=u/\coerce p.2 u=u
 | [],[],_=>⟨rfl,fun j p h=>by simp at h⟩
 | p::ps,u::us,⟨h1,h2,h3⟩=>by
  obtain⟨e,ih⟩:=qC.get h3
  refine⟨by simp[e],fun j q h=>?_⟩
  cases j with
  | zero=>simp at h;subst h;exact⟨u,rfl,h1,h2⟩
  | succ j=>exact ih j q (by simpa using h)
 | [],_::_,h=>h.elim
 | _::_,[],h=>h.elim
theorem Rel.of{n:Nat}{ps:List (Nat×Sh)}{env:List Value}{a:Act}(hs:qC a ps env)(hn:a.tmps.size=n)(hd:a.defers=[]):Rel (Dz n ps) env [] a (fun _=>none):=by
 obtain⟨e,hg⟩:=hs.get
 refine Rel.init e (by simp[lOf,hn]) (fun _=>hd) fun i s j h=>?_
 unfold lOf at h
 rw[List.getElem?_map]at h
 obtain⟨i',h1,h2⟩:=Option.map_eq_some_iff.1 h
 have hii:i'=i:=by
  have:=(List.getElem?_eq_some_iff.1 h1).2
  simpa using this.symm
 subst hii
 obtain⟨⟨p,j'⟩,h3,h4⟩:=Option.map_eq_some_iff.1 h2
 simp only[Prod.mk.injEq]at h4
 obtain⟨rfl,rfl⟩:=h4
 have h5:=List.find?_some h3
 have h6:=List.mem_zipIdx_iff_getElem?.1 (List.mem_of_find?_eq_some h3)
 simp only[beq_iff_eq]at h5 h6
 obtain⟨u,k1,k2,k3⟩:=hg _ _ h6
 exact⟨u,k1,by rw[<-h5];exact k2,k3⟩
theorem EH(hT:z9 P cfg.tab)(hm:P.follows .mixedOrders=true){rs:List Code}{n:Nat}{ps:List (Nat×Sh)}{t:Tr}{env:List Value}{a:Act}{h:Heap}{is:List Nat}{R:(Nat->Value)->Heap->Prop}
  (ht:sxs cfg rs (Dz n ps)=some t)(hs:qC a ps env)(hn:a.tmps.size=n)(hd:a.defers=[])(hi:Inv S h)(hw:t.wp P S (j5 n is R) (fun _ _=>True) env h []) :
  Safe P S (Reach S b n (.code c::k) cs is R) (b.at a (.code (nest rs c)::k)) cs h:=by
 have ha:Ok S h (fun _=>none):=⟨fun b hb=>absurd rfl hb,hi⟩
 rw[<-xx h]
 refine WA (Q:=fun _ _=>True) (Ks:=[]) hT hm Reach.up j5.mono rs _ t env [] a _ h ht hw (Rel.of hs hn hd) ha ?_
 rintro st' vs ms a' L' h' ⟨st,e,hl,hdv,hsz,his,hR⟩ H' ha'
 cases e
 have hms:ms=[]:=by
  have:=H'.m
  rw[hl]at this
  simpa using this.symm
 subst hms
 refine .done ⟨rfl,a',_,h',rfl,?_,H'.df hdv,fun i hi=>?_,hR,fun x o hx=>by simp[plus,hx],ha'.inv⟩
 ·rw[<-H'.sz];exact hsz
 ·have hx:=List.all_eq_true.1 his i hi
  unfold isX at hx
  unfold got
  split at hx
  ·rename_i e he
   have:=Good.at (H'.vl i [] _ he (by simp))
   simpa using this.symm
  ·cases hx
theorem WB(hT:z9 P cfg.tab)(hm:P.follows .mixedOrders=true){r:Code}{n:Nat}{ps:List (Nat×Sh)}{t:Tr}{env:List Value}{a:Act}{h:Heap}{is:List Nat}{R:(Nat->Value)->Heap->Prop}
  (ht:sxs cfg [r] (Dz n ps)=some t)(hs:qC a ps env)(hn:a.tmps.size=n)(hd:a.defers=[])(hi:Inv S h)(hw:t.wp P S (j5 n is R) (fun _ _=>True) env h []) :
  Safe P S (Reach S b n k cs is R) (b.at a (.code r::k)) cs h:=by
 have ha:Ok S h (fun _=>none):=⟨fun b hb=>absurd rfl hb,hi⟩
 rw[<-xx h]
 simp only[sxs]at ht
 split at ht
 ·rename_i id ops draw
  split at ht
  ·rename_i t1 ht1
   have hw1:=Tr.wp_bind j5.mono t1 t ht env h [] hw
   refine F4 (Ks:=[]) hT hm Reach.up ht1 hw1 (Rel.of hs hn hd) ha ?_
   rintro st' vs ms a' L' h' ⟨u,hu,huw⟩ H' ha' _
   cases hu
   obtain⟨st,e,hl,hdv,hsz,his,hR⟩:=huw
   cases e
   have hms:ms=[]:=by
    have:=H'.m
    rw[hl]at this
    simpa using this.symm
   subst hms
   refine .done ⟨rfl,a',_,h',rfl,by rw[<-H'.sz];exact hsz,H'.df hdv,fun i hi=>?_,hR,fun x o hx=>by simp[plus,hx],ha'.inv⟩
   have hx:=List.all_eq_true.1 his i hi
   unfold isX at hx
   unfold got
   split at hx
   ·rename_i e he
    have:=Good.at (H'.vl i [] _ he (by simp))
    simpa using this.symm
   ·cases hx
  ·cases ht
 ·cases ht
end
section
open Go.Conc Go.ConcR
variable {P : Program} {Φ : Ph} {cs cs' : List Frame} {fr fr' : Frame}
theorem Sil.step{main:Bool}{J:World->Prop}{Stop:Goroutine->World->Prop}{n:Nat}{g g':Goroutine}(hr:g.status=.running)(hs:∀w,stepG P main g w=.go g' w #[])(H:Sil P main J Stop n g'):Sil P main J Stop (n+1) g:=
 fun w=>Goes.step hr fun w₁ h₁=>by
  rw[hs w₁]
  exact⟨⟨rfl,rfl⟩,H w₁⟩
theorem An.step{Nx:Frame->List Frame->Prop}(hs:∀w,stepG P true (gor fr cs) w=.go (gor fr' cs') w #[])(H:An P Φ Nx fr' cs'):An P Φ Nx fr cs:=
 let⟨m,h⟩:=H
 ⟨m+1,Sil.step rfl hs h⟩
theorem kq.step{Nx:Frame->List Frame->Prop}(hs:∀w,stepG P true (gor fr cs) w=.go (gor fr' cs') w #[])(H:kq P Φ Nx fr' cs'):kq P Φ Nx fr cs:=
 let⟨Anch,h1,m,h⟩:=H
 ⟨Anch,h1,m+1,Sil.step rfl hs h⟩
theorem MV{s:GStep}{g:Goroutine}{w:World}{es:Array Event}(h:s.goes (fun g' w' es'=>g'=g/\w'=w/\es'=es)):s=.go g w es:=by
 cases s <;> simp only[GStep.goes]at h
 obtain⟨rfl,rfl,rfl⟩:=h;rfl
theorem Sp.pre{Q:Frame->List Frame->Heap->Prop}{r:Nat}{h:Heap}(H:Safe P Φ.S (fun fr cs h=>Sp P Φ Q r fr cs h) fr cs h):Sp P Φ Q r fr cs h:=by
 cases r with
 | zero=>exact H.bind fun _ _ _ x=>x
 | succ r=>exact H.bind fun _ _ _ x=>x
end
end Go.Eng
end
section
namespace Go.Proofs.YtmnialmphlbmaaaGreatDoor
open Go Go.Eng Go.Conc Go.RowKit Go.Conc.Lib Go.ConcR.Gen
open Go.ConcR (KK wgBlock WgAt stA smA rd wr DC0 Payload)
instance:Payload:=⟨44⟩
noncomputable def Jr:Code:=Tryz.f88.body.getD .skip
noncomputable def Ie:Array Oper:=match Jr with | .seq (.region _ ops _) _=>ops | _=>#[]
noncomputable def wC:Array Oper:=match Jr with | .seq _ (.region _ ops _)=>ops | _=>#[]
theorem Ua:Jr=.seq (.region 0 Ie false) (.region 1 wC true):=by kernel_rfl
def WC:List (TypeId×TyD):=[(0,⟨.oth,1,0,[],none,some []⟩),(3,⟨(.int .i64),1,8,[.int .i64],some [(1,(.int .i64 0))],none⟩),(5,⟨(.int .u8),1,1,[.int .u8],some [(1,(.int .u8 0))],none⟩),(44,⟨(.int .u32),1,4,[.int .u32],some [(1,(.int .u32 0))],none⟩),(22,⟨(.sl 5),1,24,[.slice],some [(1,.nilSl)],none⟩),(111,⟨(.sl 44),1,24,[.slice],some [(1,.nilSl)],none⟩),(114,⟨.fnk,1,8,[.fnv],some [(1,.nilFn)],none⟩)]
theorem WE:z9 Tryz.prog WC:=HD (by kernel_rfl)
theorem WG:Tryz.prog.follows .mixedOrders=true:=by kernel_rfl
def cW:Cfg:=⟨WC,[],[],[]⟩
def stW:St:={ tmps:=[⟨[],.x (.var .addr 0)⟩,⟨[],.x (.var .addr 1)⟩,⟨[],.x (.var .addr 2)⟩,⟨[],.x (.var .addr 3)⟩,⟨[],.x (.var .addr 4)⟩]++List.replicate 6 ⟨[],.junk⟩,loc:=[],n:=5,known:=[],d:=0,dv:=true }
def stW':St:={ tmps:=[⟨[],.x (.var .addr 0)⟩,⟨[],.x (.var .addr 1)⟩,⟨[],.x (.var .addr 2)⟩,⟨[],.x (.var .addr 3)⟩,⟨[],.x (.var .addr 4)⟩,⟨[],.x (.var .slice 5)⟩,⟨[],.x (.var (.int .i64) 6)⟩,⟨[],.x (.var .fnv 7)⟩,⟨[],.x (.var .slice 8)⟩,⟨[],.x (.var (.int .u32) 9)⟩,⟨[],.x (.ix 1 (.var .slice 5) (.var (.int .i64) 6))⟩],loc:=[],n:=10,known:=[],d:=0,dv:=true }
def tW:Tr:=
(.load (.var (.addr) 3) [.slice]
(.load (.var (.addr) 4) [.int .i64]
(.load (.var (.addr) 1) [.fnv]
(.load (.var (.addr) 2) [.slice]
(.callv (.var (.fnv) 7) [(.x (.var (.slice) 8))] false [(false,[.int .u32])]
(.still [((.var (.addr) 4),(.var (.int .i64) 6)),((.var (.addr) 3),(.var (.slice) 5))]
(.need (.nt (.nn (.var (.slice) 5)))
(.need (.cm .leq (.cst (.int .i64 0)) (.var (.int .i64) 6))
(.need (.cm .lss (.var (.int .i64) 6) (.ln (.var (.slice) 5)))
(.leaf (.norm stW')))))))))))
def GN:Array Bool:=(Array.replicate 7 false).setIfInBounds 6 true
theorem sW:sxA cW wC 6 GN [] stW=some tW:=by kernel_rfl
theorem X9:MU wC 6=true:=by kernel_rfl
theorem Yc:Region.noSelect wC=true:=by kernel_rfl
theorem XA:wC.size=7:=by kernel_rfl
theorem Yd:wC[6]? = some { dst:=none,op:=.store 44 (.tmp 10) (.tmp 9),type:=0,pos:=(wC[6]?.map (·.pos)).getD "",after:=(wC[6]?.map (·.after)).getD #[],guard:=none }:=by kernel_rfl
theorem WH:(Tryz.prog.funcs[(baseD 88).fn]?).any (·.norace)=false:=by kernel_rfl
noncomputable def bot:Frame:={ (default:Frame)with fn:=Tryz.prog.funcs.size,defers:=[],mode:=.panicking [goexitEntry] }
def Eb(wg fb pb sb ib:Nat):Deferred:={ target:=.fn (.func 88) #[.pointer (some ⟨wg,0,none⟩),.pointer (some ⟨fb,0,none⟩),.pointer (some ⟨pb,0,none⟩),.pointer (some ⟨sb,0,none⟩),.pointer (some ⟨ib,0,none⟩)],args:=#[] }
noncomputable def L6(d:Deferred):Frame:={ (default:Frame)with fn:=Tryz.prog.funcs.size,defers:=[d],mode:=.panicking [goexitEntry] }
def kP(wg fb pb sb ib:Nat):Array Value:=#[.pointer (some ⟨wg,0,none⟩),.pointer (some ⟨fb,0,none⟩),.pointer (some ⟨pb,0,none⟩),.pointer (some ⟨sb,0,none⟩),.pointer (some ⟨ib,0,none⟩)]
theorem Sc(wg fb pb sb ib:Nat)(m:Bool)(w:World):stepG Tryz.prog m (gor (L6 (Eb wg fb pb sb ib)) []) w =
  .go (gor ((baseD 88).at ⟨kP wg fb pb sb ib++#[undef,undef,undef,undef,undef,undef],[]⟩ [.code Jr]) [bot]) w #[]:=by
 simp[gor,L6,kP,Eb,stepG,unwind,callDeferred,invoke,callFunc,Tryz.func88,Tryz.f88,seen,GStep.after,Frame.enter,Frame.at,baseD,bot,Jr]
section
variable {Φ : Ph} {i : Nat}
theorem Ub:Up Φ.S (GJ Tryz.prog Φ i):=fun fr cs h1 h2 H hs _ w hw hJ=>H w (fun b o hb=>hw b o (hs b o hb)) hJ
theorem WI(T:Array Value)(td:List Item):QuitsD Tryz.prog 2 0 (G { (baseD 88).at ⟨T,[]⟩ td with mode:=.returning } [bot]):=by
 refine QuitsD.ctl (g':=G bot []) rfl (fun w=>?_) ?_
 ·simp[G,stepG,unwind,doReturn,results,Frame.at,baseD,bot,Tryz.func88,Tryz.f88,seen,GStep.after,goexitEntry]
 refine QuitsD.ctl (g':={ G bot []with status:=.finished }) rfl (fun w=>?_) ⟨rfl,rfl⟩
 simp[G,stepG,unwind,bot,goexitEntry,Frame.catches]
 rfl
theorem XB(hty:Φ.ty=Tryz.link.tWg)(hCW:Φ.C≠Φ.Wg)(hi:i<Φ.n){x:Int}(hval:Φ.val i=.int .u32 x){a:Act}(hd:a.defers=[dcall 89 #[.pointer (some ⟨Φ.Wg,0,none⟩)]])
  (h9:a.tmps.getD 9 undef=.int .u32 x)(h10:a.tmps.getD 10 undef=.pointer (some ⟨Φ.C,i,none⟩))(h:Eng.Heap) :
  GJ Tryz.prog Φ i ((baseD 88).at a [.inRegion wC [6]]) [bot] h:=by
 intro w hw hJ
 obtain⟨arr,p1,p2⟩:=hJ.2
 have hc:w.cell? ⟨Φ.C,i,none⟩=some (arr[i]'(by omega)):=by simp[World.cell?,p1,p2,hi]
 have hz:w.frozen? ⟨Φ.C,i,none⟩=false:=by simp[World.frozen?,p1]
 have hr:(execOp a.eval { dst:=none,op:=.store 44 (.tmp 10) (.tmp 9),type:=0,pos:=(wC[6]?.map (·.pos)).getD "",after:=(wC[6]?.map (·.after)).getD #[],guard:=none }).run Tryz.prog w=.ok .skip (w.setCell ⟨Φ.C,i,none⟩ (.int .u32 x)):=by
  unfold execOp
  simp only[Act.eval,h9,h10]
  simp[go_sem,stored,hc,hz]
 have he:(execOp a.eval { dst:=none,op:=.store 44 (.tmp 10) (.tmp 9),type:=0,pos:=(wC[6]?.map (·.pos)).getD "",after:=(wC[6]?.map (·.after)).getD #[],guard:=none }).events Tryz.prog w #[]=#[⟨.cell ⟨Φ.C,i,none⟩,true,false⟩]:=by
  unfold execOp
  simp only[Act.eval,h9,h10]
  simp[go_sem,storedEv,hc,hz]
 have st:=stepG_none (P:=Tryz.prog) (main:=false) (b:=baseD 88) (a:=a) (k:=[]) (cs:=[bot]) (w:=w) (rest:=[]) Yd rfl (by decide) hr
 unfold listed at st
 rw[he,seen_eq WH (by simp)]at st
 rw[hval]
 refine⟨_,st,200,?_⟩
 have hK:Φ.J (w.setCell ⟨Φ.C,i,none⟩ (.int .u32 x)):=by
  refine⟨let⟨st,sm,y⟩:=hJ.1;⟨st,sm,y.of_block ((aside_setCell _ ⟨Φ.C,i,none⟩ _).block _ (Ne.symm hCW))⟩,arr.setIfInBounds i (.int .u32 x),?_,by simpa using p2⟩
  rw[setCell_eq_setRow w Φ.C i arr _ (0,0) _ p1,setRow_heap w Φ.C _ _ _ _ p1]
 generalize w.setCell ⟨Φ.C,i,none⟩ (.int .u32 x)=w₁ at hK
 clear st he hr hc hz p1 hw hJ
 refine Sil.of (w:=w₁) ?_
 obtain⟨T,D⟩:=a
 simp only at hd
 subst hd
 simp only[Act.put]
 u_c stepG_region_end jl hK
 u_c stepG_end jl hK
 u_in jl hK
 rw[stepG_unwind_enter rfl Tryz.func89 (nm_done Tryz.link) rfl]
 simp only[goes_go]
 refine⟨by u_nil,?_⟩
 walk_nrmf Tryz.f89
 have hA:=@TS _ Tryz.prog Tryz.link Φ [bot] 2 Tryz.Jk hCW _ rfl (WI T []) _ hK
 simp only[body_done,doneFn,Option.getD_some]at hA
 exact Goes.mono hA (by omega)
theorem V6:(Ie[0]?.map fun o=>(o.dst,o.guard))=some (none,none):=by kernel_rfl
theorem V7:(Ie[0]?.map fun o=>o.op)=some (.defer { callee:=.value (.func 89),args:=#[.tmp 0],argTypes:=((Ie[0]?.map fun o=>match o.op with | .defer c=>c.argTypes | _=>#[]).getD #[]) }):=by kernel_rfl
theorem WJ:∃o ats,Ie[0]? = some o/\o.dst=none/\o.guard=none/\o.op=.defer { callee:=.value (.func 89),args:=#[.tmp 0],argTypes:=ats }:=by
 have h1:=V6
 have h2:=V7
 cases h:Ie[0]? with
 | none=>rw[h]at h1;cases h1
 | some o=>
  rw[h]at h1 h2
  simp only[Option.map_some,Option.some.injEq,Prod.mk.injEq]at h1 h2
  exact⟨o,_,rfl,h1.1,h1.2,h2⟩
theorem XC:Ie.size=1:=by kernel_rfl
def lW:List (Option (Sh×Nat)):=[some (.addr,0),some (.addr,1),some (.addr,2),some (.addr,3),some (.addr,4),none,none,none,none,none,none]
theorem WK:stW={ tmps:=Kh lW,loc:=[],n:=5,known:=[],d:=0,dv:=true }:=rfl
def WL(C:Nat)(i:Nat)(x:Int):Hand:=fun l env _ _=>l=.norm stW'/\(∃n c,env[5]? = some (.slice (some ⟨C,0,none⟩) n c))/\env[6]? = some (.int .i64 i)/\env[9]? = some (.int .u32 x)
theorem XD(hnb:∀fr cs h Q,¬Φ.S.big fr cs h Q)(hty:Φ.ty=Tryz.link.tWg)(hCW:Φ.C≠Φ.Wg)(hi:i<Φ.n){x:Int}(hval:Φ.val i=.int .u32 x){hc:Eng.Heap}(hin:Inv Φ.S hc)
  {fb pb sb ib:Nat}{g:FuncId}{pa:Option Addr}{pl pc:Nat}
  (hf:ze hc ⟨fb,0,none⟩=some (.func (.func g) #[] #[]))(hp:ze hc ⟨pb,0,none⟩=some (.slice pa pl pc))(hs:ze hc ⟨sb,0,none⟩=some (.slice (some ⟨Φ.C,0,none⟩) Φ.n Φ.n))
  (hib:ze hc ⟨ib,0,none⟩=some (.int .i64 i))(hsum:zb Tryz.prog Φ.S g #[.slice pa pl pc] hc (fun v h'=>v=.int .u32 x/\Eng.Sub hc h')) :
  Works Tryz.prog Φ i (L6 (Eb Φ.Wg fb pb sb ib)) [] hc:=by
 refine Safe.XZ hnb false Φ.J ?_
 refine Safe.zZ (fun w m=>Sc _ _ _ _ _ m w) ?_
 rw[Ua]
 refine .seq (.region ?_)
 rw[XC]
 obtain⟨oD,ats,d1,d2,d3,d4⟩:=WJ
 refine Safe.zZ (fun w m=>stepG_defer (rest:=[]) d1 (by simp[Region.wanted,d3]) (by decide) d4) ?_
 rw[d2]
 refine .AS (.Io fun t'=>?_)
 have e:Region.schedule (Tryz.prog.follows .mixedOrders) wC t'=Region.linearise.go .any wC 6 t' GN []++[6]:=by
  simp only[Region.schedule,WG,Region.linearise,XA,Bool.true_or,if_true]
  exact linearise_last' X9 t'
 rw[e,<-xx hc]
 have ha:Ok Φ.S hc (fun _=>none):=⟨fun b hb=>absurd rfl hb,hin⟩
 have env:List Value:=[]
 have H:Rel stW [.pointer (some ⟨Φ.Wg,0,none⟩),.pointer (some ⟨fb,0,none⟩),.pointer (some ⟨pb,0,none⟩),.pointer (some ⟨sb,0,none⟩),.pointer (some ⟨ib,0,none⟩)] []
   (Act.put ⟨kP Φ.Wg fb pb sb ib++#[undef,undef,undef,undef,undef,undef],[dcall 89 (#[.tmp 0].map (Act.eval ⟨kP Φ.Wg fb pb sb ib++#[undef,undef,undef,undef,undef,undef],[]⟩))]⟩ none undef) (fun _=>none):=by
  rw[WK]
  refine Rel.init rfl rfl (fun h=>by cases h) fun i s j h=>?_
  match i,h with
  | 0,h=>cases h;exact⟨_,rfl,rfl,rfl⟩
  | 1,h=>cases h;exact⟨_,rfl,rfl,rfl⟩
  | 2,h=>cases h;exact⟨_,rfl,rfl,rfl⟩
  | 3,h=>cases h;exact⟨_,rfl,rfl,rfl⟩
  | 4,h=>cases h;exact⟨_,rfl,rfl,rfl⟩
  | 5,h=>cases h
  | 6,h=>cases h
  | 7,h=>cases h
  | 8,h=>cases h
  | 9,h=>cases h
  | 10,h=>cases h
  | _+11,h=>cases h
 refine TX Ub [6] _ _ _ _ ha (Oa _ _ _ _ (Ir 6 t' [] GN _ _ _ ha (QJ WE Yc (R:=fun a' _ _=>a'.tmps.getD 9 undef=.int .u32 x/\a'.tmps.getD 10 undef=.pointer (some ⟨Φ.C,i,none⟩))
  (Λ:=WL Φ.C i x) (Q:=fun _ _=>True) (Ks:=[]) 6 GN [] stW tW _ [] _ _ hc [] sW ?_ H ha (fun q hq=>by cases hq) (.nil _) ?_))) ?_
 ·have hn:∀ {a:Addr} {v:Value} {h':Eng.Heap},Eng.Sub hc h'->ze hc a=some v->ze h' a=some v:=fun s hv=>by
   unfold ze at hv ⊢
   cases e:hc _ with
   | none=>rw[e]at hv;cases hv
   | some o=>rw[e]at hv;rw[s _ o e];exact hv
  simp only[tW,Tr.wp,zA,Ex.ev,coerce,toInt_int,zc,zg,zk,zh,zf,zV,zB,Cst.val,SV.den,zr,zF,zz,zn,zl,zx,zt,vF,vG,vA,vB,vC,List.getElem?_cons_succ,decide_eq_true_eq,vD,vE,vJ,vI,vK,and_true,true_and,if_false,vL,WL]
  refine⟨_,_,_,hs,_,hib,_,rfl,hf,_,_,_,hp,g,#[],#[],rfl,?_⟩
  refine hsum.mono ?_
  rintro _ h' ⟨rfl,sub⟩
  refine⟨x,rfl,fun p hp=>?_,rfl,by omega,by omega,⟨_,_,rfl⟩,rfl,rfl⟩
  rcases List.mem_cons.1 hp with rfl | hp
  ·exact hn sub hib
  ·cases List.mem_singleton.1 hp
   exact hn sub hs
 ·rintro st' vs ms a' L' h' ⟨e1,⟨n5,c5,e5⟩,e6,e9⟩ H' _ _
  cases e1
  have v9:=H'.vl 9 [] _ rfl (by simp)
  have v10:=H'.vl 10 [] _ rfl (by simp)
  generalize ([.pointer (some ⟨Φ.Wg,0,none⟩),.pointer (some ⟨fb,0,none⟩),.pointer (some ⟨pb,0,none⟩),.pointer (some ⟨sb,0,none⟩),.pointer (some ⟨ib,0,none⟩)]++vs:List Value)=en at e5 e6 e9 v9 v10
  have w9:=Good.at v9
  have w10:=Good.at v10
  simp only[Ex.ev,List.getD_eq_getElem?_getD,e5,e6,e9,Option.getD_some,coerce,toInt_int,zh,zg,zk]at w9 w10
  refine⟨w9.symm,w10.symm.trans ?_⟩
  simp[Addr.add];omega
 ·rintro a' L' h' _ ⟨hd,h9,h10⟩
  exact .done (XB hty hCW hi hval (hd.trans (by simp[Act.put,Act.eval,kP])) h9 h10 _)
end
end Go.Proofs.YtmnialmphlbmaaaGreatDoor
end
namespace Go.Proofs.YtmnialmphlbmaaaGreatDoor
open Go Go.Eng Go.IntWalk
section
def WM:List (TypeId×TyD):=[(0,⟨.oth,1,0,[],none,some []⟩),(1,⟨.fnk,1,8,[.fnv],some [(1,.nilFn)],none⟩),(2,⟨(.int .i64),1,8,[.int .i64],some [(1,(.int .i64 0))],none⟩),(3,⟨(.int .i64),1,8,[.int .i64],some [(1,(.int .i64 0))],none⟩),(4,⟨.bool,1,1,[.bool],some [(1,(.bool false))],none⟩),(5,⟨(.int .u8),1,1,[.int .u8],some [(1,(.int .u8 0))],none⟩),(22,⟨(.sl 5),1,24,[.slice],some [(1,.nilSl)],none⟩),(44,⟨(.int .u32),1,4,[.int .u32],some [(1,(.int .u32 0))],none⟩),(74,⟨(.sl 2),1,24,[.slice],some [(1,.nilSl)],none⟩),(92,⟨(.int .u64),1,8,[.int .u64],some [(1,(.int .u64 0))],none⟩),(111,⟨(.sl 44),1,24,[.slice],some [(1,.nilSl)],none⟩),(114,⟨.fnk,1,8,[.fnv],some [(1,.nilFn)],none⟩),(150,⟨(.st []),0,0,[],some [],none⟩),(151,⟨(.st []),0,0,[],some [],none⟩),(152,⟨(.st []),0,0,[],some [],none⟩),(154,⟨(.st [(0,151),(0,152),(0,92)]),1,8,[.int .u64],some [(1,(.int .u64 0))],none⟩),(156,⟨(.st [(0,150),(0,154),(1,44)]),2,16,[.int .u64,.int .u32],some [(1,(.int .u64 0)),(1,(.int .u32 0))],none⟩)]
theorem Ed:z9 Tryz.prog WM:=HD (by kernel_rfl)
theorem Ee:Tryz.prog.follows .mixedOrders=true:=by kernel_rfl
def cP:Cfg:=⟨WM,[],[3,7,9,10,11],[.tmp 4,.tmp 5]⟩
noncomputable def L8:Code:=Tryz.f65.body.getD .skip
noncomputable def WN:List Code:=match L8 with
 | .seq r0 (.seq r1 (.seq r2 (.seq r3 (.seq (.seq r4 (.block 0 (.loop (.seq r5 (.seq _ (.seq (.block 1 (.seq r6 (.seq r7 (.seq r8 (.seq r9 r10))))) r11)))))) (.seq r12 z)))))=>[r0,r1,r2,r3,r4,r5,r6,r7,r8,r9,r10,r11,r12,z]
 | _=>[]
noncomputable def rP(i:Nat):Code:=WN.getD i .skip
noncomputable def L9:Code:=.seq (rP 5) (.seq (.cond (.tmp 24) .skip (.exit 0)) (.seq (.block 1 (nest [rP 6,rP 7,rP 8] (.seq (rP 9) (rP 10)))) (rP 11)))
theorem Uc:L8=nest [rP 0,rP 1,rP 2,rP 3] (.seq (.seq (rP 4) (.block 0 (.loop L9))) (.seq (rP 12) (rP 13))):=by kernel_rfl
def Ud:St:={ tmps:=[oX oa8,⟨[],(.x (.var (.fnv) 1))⟩,oJ,oX oay,⟨[],(.x oai)⟩,⟨[],(.x oai)⟩,⟨[],(.x oab)⟩,oX (oA 5),oX oca,oX odk,oJ,oJ,oX oa8,⟨[],(.x oar)⟩,⟨[],(.x oa6)⟩,⟨[],(.x obu)⟩,⟨[],(.x oab)⟩,⟨[],(.x oab)⟩,oX obc,⟨[],(.x oab)⟩,oX oca,⟨[],(.agg [oac,oaa])⟩,oJ,oJ,oJ,oJ,oJ,oJ,oJ,oJ,oJ,oJ,oJ,oJ,oJ,oJ,oJ,oJ,oJ,oJ,oJ,oJ,oJ,oJ,oJ,oJ,oJ],loc:=[],n:=7,known:=[],d:=0 }
def Ue:St:={ tmps:=[oX oa8,⟨[],(.x (.var (.fnv) 1))⟩,oJ,oX oay,⟨[],(.x oai)⟩,⟨[],(.x oai)⟩,⟨[],(.x oab)⟩,oX odl,oX ocf,oX odk,oJ,oJ,oX oa8,⟨[],(.x oar)⟩,⟨[],(.x oa6)⟩,⟨[],(.x obu)⟩,⟨[],(.x oab)⟩,⟨[],(.x oab)⟩,oX obc,⟨[],(.x oab)⟩,oX ocf,⟨[],(.agg [oac,oaa])⟩,oJ,oJ,oJ,oJ,oJ,oJ,oJ,oJ,oJ,oJ,oJ,oJ,oJ,oJ,oJ,oJ,oJ,oJ,oJ,oJ,oJ,oJ,oJ,oJ,oJ],loc:=[],n:=7,known:=[],d:=0 }
def Uf:St:={ tmps:=[oX oa8,⟨[],(.x (.var (.fnv) 1))⟩,oJ,oX oay,⟨[],(.x oai)⟩,⟨[],(.x oai)⟩,⟨[],(.x oab)⟩,oX odl,oX ocf,oX odk,oJ,oJ,oX oa8,⟨[],(.x oar)⟩,⟨[],(.x oa6)⟩,⟨[],(.x obu)⟩,⟨[],(.x oab)⟩,⟨[],(.x oab)⟩,oX obc,⟨[],(.x oab)⟩,oX ocf,⟨[],(.agg [oac,oaa])⟩,oJ,oJ,oJ,oJ,oJ,oJ,oJ,oJ,oJ,oJ,oJ,oJ,oJ,oJ,oJ,oJ,oJ,oJ,oJ,oJ,oJ,oJ,oJ,oJ,oJ],loc:=[],n:=7,known:=[],d:=0 }
def Ug:St:={ tmps:=[oX oa8,⟨[],(.x (.var (.fnv) 1))⟩,oJ,oX oay,⟨[],(.x oai)⟩,⟨[],(.x oai)⟩,⟨[],(.x oab)⟩,oX (oA 5),oX obc,oX odk,oJ,oJ,oX oa8,⟨[],(.x oar)⟩,⟨[],(.x oa6)⟩,⟨[],(.x obu)⟩,⟨[],(.x oab)⟩,⟨[],(.x oab)⟩,oX oca,⟨[],(.x oab)⟩,oX obc,⟨[],(.agg [oac,oaa])⟩,oJ,oJ,oJ,oJ,oJ,oJ,oJ,oJ,oJ,oJ,oJ,oJ,oJ,oJ,oJ,oJ,oJ,oJ,oJ,oJ,oJ,oJ,oJ,oJ,oJ],loc:=[],n:=7,known:=[],d:=0 }
def Uh:St:={ tmps:=[oX oa8,⟨[],(.x (.var (.fnv) 1))⟩,oJ,oX oay,⟨[],(.x oai)⟩,⟨[],(.x oai)⟩,⟨[],(.x oab)⟩,oX odl,oX obc,oX odk,oJ,oJ,oX oa8,⟨[],(.x oar)⟩,⟨[],(.x oa6)⟩,⟨[],(.x obu)⟩,⟨[],(.x oab)⟩,⟨[],(.x oab)⟩,oX ocf,⟨[],(.x oab)⟩,oX obc,⟨[],(.agg [oac,oaa])⟩,oJ,oJ,oJ,oJ,oJ,oJ,oJ,oJ,oJ,oJ,oJ,oJ,oJ,oJ,oJ,oJ,oJ,oJ,oJ,oJ,oJ,oJ,oJ,oJ,oJ],loc:=[],n:=7,known:=[],d:=0 }
def Ui:St:={ tmps:=[oX oa8,⟨[],(.x (.var (.fnv) 1))⟩,oJ,oX oay,⟨[],(.x oai)⟩,⟨[],(.x oai)⟩,⟨[],(.x oab)⟩,oX oce,oX ocf,oX odk,oJ,oJ,oX oa8,⟨[],(.x oar)⟩,⟨[],(.x oa6)⟩,⟨[],(.x obu)⟩,⟨[],(.x oab)⟩,⟨[],(.x oab)⟩,oX oca,⟨[],(.x oab)⟩,oX ocf,⟨[],(.agg [oac,oaa])⟩,oJ,oJ,oJ,oJ,oJ,oJ,oJ,oJ,oJ,oJ,oJ,oJ,oJ,oJ,oJ,oJ,oJ,oJ,oJ,oJ,oJ,oJ,oJ,oJ,oJ],loc:=[],n:=7,known:=[],d:=0 }
def Uj:St:={ tmps:=[oX oa8,⟨[],(.x (.var (.fnv) 1))⟩,oJ,oX oay,⟨[],(.x oai)⟩,⟨[],(.x oai)⟩,⟨[],(.x oab)⟩,oX oce,oX ocf,oX odk,oJ,oJ,oX oa8,⟨[],(.x oar)⟩,⟨[],(.x oa6)⟩,⟨[],(.x obu)⟩,⟨[],(.x oab)⟩,⟨[],(.x oab)⟩,oX oca,⟨[],(.x oab)⟩,oX ocf,⟨[],(.agg [oac,oaa])⟩,oJ,oJ,oJ,oJ,oJ,oJ,oJ,oJ,oJ,oJ,oJ,oJ,oJ,oJ,oJ,oJ,oJ,oJ,oJ,oJ,oJ,oJ,oJ,oJ,oJ],loc:=[],n:=7,known:=[],d:=0 }
def Uk:St:={ tmps:=[oX oa8,⟨[],(.x (.var (.fnv) 1))⟩,oJ,oX oay,⟨[],(.x oai)⟩,⟨[],(.x oai)⟩,⟨[],(.x oab)⟩,oX oce,oX oca,oX odk,oJ,oJ,oX oa8,⟨[],(.x oar)⟩,⟨[],(.x oa6)⟩,⟨[],(.x obu)⟩,⟨[],(.x oab)⟩,⟨[],(.x oab)⟩,oX ocf,⟨[],(.x oab)⟩,oX oca,⟨[],(.agg [oac,oaa])⟩,oJ,oJ,oJ,oJ,oJ,oJ,oJ,oJ,oJ,oJ,oJ,oJ,oJ,oJ,oJ,oJ,oJ,oJ,oJ,oJ,oJ,oJ,oJ,oJ,oJ],loc:=[],n:=7,known:=[],d:=0 }
def tA:Tr:=
(.hall 114 [(1,(.var (.fnv) 1))] (.both (.mks 44 1 4 [(.int .u32 0)] oab oab (.both (.mks 2 1 8 [(.int .i64 0)] oab oab (.hall 111 [(1,oai)] (.hsto (oA 5) [obc] (.hall 156 [(1,oac),(1,oaa)] (.hsto odk [oac,oaa] (.leaf (.norm Ud))))))) (.hall 111 [(1,oai)] (.both (.mks 2 1 8 [(.int .i64 0)] oab oab (.hsto odl [obc] (.hall 156 [(1,oac),(1,oaa)] (.hsto odk [oac,oaa] (.leaf (.norm Ue)))))) (.hsto odl [obc] (.mks 2 1 8 [(.int .i64 0)] oab oab (.hall 156 [(1,oac),(1,oaa)] (.hsto odk [oac,oaa] (.leaf (.norm Uf)))))))))) (.both (.mks 2 1 8 [(.int .i64 0)] oab oab (.both (.mks 44 1 4 [(.int .u32 0)] oab oab (.hall 111 [(1,oai)] (.hsto (oA 5) [oca] (.hall 156 [(1,oac),(1,oaa)] (.hsto odk [oac,oaa] (.leaf (.norm Ug))))))) (.hall 111 [(1,oai)] (.mks 44 1 4 [(.int .u32 0)] oab oab (.hsto odl [ocf] (.hall 156 [(1,oac),(1,oaa)] (.hsto odk [oac,oaa] (.leaf (.norm Uh))))))))) (.hall 111 [(1,oai)] (.both (.mks 44 1 4 [(.int .u32 0)] oab oab (.both (.mks 2 1 8 [(.int .i64 0)] oab oab (.hsto oce [oca] (.hall 156 [(1,oac),(1,oaa)] (.hsto odk [oac,oaa] (.leaf (.norm Ui)))))) (.hsto oce [oca] (.mks 2 1 8 [(.int .i64 0)] oab oab (.hall 156 [(1,oac),(1,oaa)] (.hsto odk [oac,oaa] (.leaf (.norm Uj)))))))) (.mks 2 1 8 [(.int .i64 0)] oab oab (.mks 44 1 4 [(.int .u32 0)] oab oab (.hsto oce [ocf] (.hall 156 [(1,oac),(1,oaa)] (.hsto odk [oac,oaa] (.leaf (.norm Uk))))))))))))
theorem sA:sxs cP [rP 0,rP 1,rP 2,rP 3] (Dz 47 [(0,.slice),(1,.fnv)])=some tA:=by kernel_rfl
def WO:St:={ tmps:=[oX oa8,oJ,oJ,oX ob2,oJ,oJ,oX oap,oX oay,oX obc,oX odl,oJ,oJ,oJ,oJ,oJ,oJ,oJ,oJ,oJ,oJ,oJ,oJ,oX oap,oX oae,oJ,oJ,oJ,oJ,oJ,oJ,oJ,oJ,oJ,oJ,oJ,oJ,oJ,oJ,oJ,oJ,oJ,oJ,oJ,oJ,oJ,oJ,oJ],loc:=[],n:=6,known:=[],d:=0 }
def t4:Tr:=
(.leaf (.norm WO))
theorem s4:sxs cP [rP 4] (Dz 47 [(0,.slice),(3,.addr),(7,.addr),(8,.slice),(9,.addr),(6,.int .i64)])=some t4:=by kernel_rfl
def Ul:St:={ tmps:=[oX oa8,oJ,oJ,oX ob2,oJ,oJ,oJ,oX oay,oX obc,oX odl,oJ,oJ,oJ,oJ,oJ,oJ,oJ,oJ,oJ,oJ,oJ,oJ,oX oap,oX obh,⟨[],(.x (.cm .lss obh oap))⟩,oJ,oJ,oJ,oJ,oJ,oJ,oJ,oJ,oJ,oJ,oJ,oJ,oJ,oJ,oJ,oJ,oJ,oJ,oJ,oJ,oJ,oJ],loc:=[],n:=7,known:=[],d:=0 }
def t5:Tr:=
(.leaf (.norm Ul))
theorem s5:sxs cP [rP 5] (Dz 47 [(0,.slice),(3,.addr),(7,.addr),(8,.slice),(9,.addr),(22,.int .i64),(23,.int .i64)])=some t5:=by kernel_rfl
def U9:St:={ tmps:=[oX oa8,oJ,oJ,oX ob2,oJ,oJ,oJ,oX oay,oX obc,oX odl,oX (oA 7),oX (oA 10),oJ,oJ,oJ,oJ,oJ,oJ,oJ,oJ,oJ,oJ,oX oap,oX obh,oJ,oX obh,oX oa8,oX obl,⟨[],(.x ocj)⟩,oX och,⟨[],(.x (.ar .add .i64 och oas))⟩,⟨[],(.x (.ar .mul .i64 (.ar .add .i64 och oas) oa1))⟩,oX oa8,⟨[],(.x oar)⟩,⟨[],(.x oao)⟩,⟨[],(.x (.sub 1 oa8 ocj oao .nl))⟩,oX obc,oX obo,oX ode,⟨[],(.x (.ln ode))⟩,⟨[],(.x (.ix 1 obc obo))⟩,oJ,oJ,oJ,oJ,oJ,oJ],loc:=[],n:=13,known:=[],d:=0 }
def tBk:Tr:=
(.hall 3 [(1,oae)] (.hsto (oA 7) [obh] (.load (oA 7) [.int .i64] (.load (oA 7) [.int .i64] (.need (.cm .leq oae oao) (.need (.cm .leq oao (.cp oa8)) (.need (.cm .leq oae ocj) (.need (.cm .leq ocj oao) (.hall 22 [(1,oai)] (.hsto (oA 10) [(.sub 1 oa8 ocj oao .nl)] (.load (oA 7) [.int .i64] (.load (oA 10) [.slice] (.need oc5 (.need (.cm .leq oae obo) (.need (.cm .lss obo oc7) (.hsto (.ix 1 obc obo) [(.ln ode)] (.leaf (.norm U9))))))))))))))))))
theorem sBk:sxs cP [rP 6,rP 7,rP 8] (Dz 47 [(0,.slice),(3,.addr),(7,.addr),(8,.slice),(9,.addr),(22,.int .i64),(23,.int .i64)])=some tBk:=by kernel_rfl
def Qg:St:={ tmps:=[oX oa8,oJ,oJ,oX ob2,oJ,oJ,oJ,oX oay,oX obc,oX odl,oJ,oJ,oJ,oJ,oJ,oJ,oJ,oJ,oJ,oJ,oJ,oJ,oX oap,⟨[],(.x obx)⟩,oJ,oJ,oJ,oJ,oJ,oJ,oJ,oJ,oJ,oJ,oJ,oJ,oJ,oJ,oJ,oJ,oJ,oJ,oJ,⟨[],(.x obx)⟩,oJ,oJ,oJ],loc:=[],n:=7,known:=[],d:=0 }
def t11:Tr:=
(.leaf (.norm Qg))
theorem s11:sxs cP [rP 11] (Dz 47 [(0,.slice),(3,.addr),(7,.addr),(8,.slice),(9,.addr),(22,.int .i64),(23,.int .i64)])=some t11:=by kernel_rfl
def tZ:Tr:=
(.load (oA 0) [.slice] (.ret (.tup [(false,[ocn]),(false,[obr])])))
theorem sZ:sxC cP (rP 13) (Dz 47 [(7,.addr),(8,.slice)])=some tZ:=by kernel_rfl
end
end Go.Proofs.YtmnialmphlbmaaaGreatDoor
section
namespace Go.Proofs.YtmnialmphlbmaaaGreatDoor
open Go Go.Eng Go.Conc Go.RowKit Go.Conc.Lib Go.ConcR.Gen
open Go.ConcR (KK wgBlock WgAt stA smA rd wr DC0 Payload)
section
variable {S : Shared} {h : Eng.Heap}
theorem yI{h:Eng.Heap}{b x:Nat}{o:Obj}:upd h b o x=none<->x≠b/\h x=none:=by
 unfold upd;by_cases e:x=b <;> simp[e]
theorem yG{h:Eng.Heap}{b:Nat}{o:Obj}:upd h b o b=some o:=by simp[upd]
theorem y7{h:Eng.Heap}{b x:Nat}{o:Obj}(e:x≠b):upd h b o x=h x:=by simp[upd,e]
theorem D1{b:Nat}{u v:Value}{T:TypeId}{K:Eng.Heap->Prop}(hb:h b=some (.cells #[u] T))(hS:¬S b)(k:K (upd h b (.cells #[v] T))):zL S ⟨b,0,none⟩ 0 [v] h K:=by
 have e:zw h (Addr.add ⟨b,0,none⟩ 0) v=upd h b (.cells #[v] T):=by
  funext x
  by_cases hx:x=b
  ·subst hx;simp[zw,upd,Addr.add,hb]
  ·simp[zw,upd,Addr.add,hx]
 refine⟨⟨⟨u,by simp[ze,Addr.add,hb]⟩,by simp[yf,Addr.add,hb],by simpa[Addr.add]using hS⟩,?_⟩
 rw[e];exact k
theorem Gj{b:Nat}{u u2 v v2:Value}{T:TypeId}{K:Eng.Heap->Prop}(hb:h b=some (.cells #[u,u2] T))(hS:¬S b)(k:K (upd h b (.cells #[v,v2] T))):zL S ⟨b,0,none⟩ 0 [v,v2] h K:=by
 have e:zw (zw h (Addr.add ⟨b,0,none⟩ 0) v) (Addr.add ⟨b,0,none⟩ 1) v2=upd h b (.cells #[v,v2] T):=by
  funext x
  by_cases hx:x=b
  ·subst hx;simp[zw,upd,Addr.add,hb]
  ·simp[zw,upd,Addr.add,hx]
 refine⟨⟨⟨u,by simp[ze,Addr.add,hb]⟩,by simp[yf,Addr.add,hb],by simpa[Addr.add]using hS⟩,⟨⟨u2,by simp[zw,ze,Addr.add,hb]⟩,by simp[zw,yf,Addr.add,hb],by simpa[Addr.add]using hS⟩,?_⟩
 rw[e];exact k
theorem Ye{b j:Nat}{cs:Array Value}{v:Value}{T:TypeId}{K:Eng.Heap->Prop}(hb:h b=some (.cells cs T))(hj:j<cs.size)(hS:¬S b)(k:K (upd h b (.cells (cs.setIfInBounds j v) T))) :
  zL S (((some (⟨b,0,none⟩:Addr)).getD default).add (((j:Int).toNat)*1)) 0 [v] h K:=by
 have ea:(((some (⟨b,0,none⟩:Addr)).getD default).add (((j:Int).toNat)*1)).add 0=⟨b,j,none⟩:=by
  have e0:∀(x:Addr),x.add 0=x:=fun x=>by simp[Addr.add]
  rw[e0,Int.toNat_natCast,Nat.mul_one,Option.getD_some,zo,Nat.zero_add]
 refine⟨⟨⟨cs[j],by rw[ea];simp[ze,hb,hj]⟩,by rw[ea];simp[yf,hb],by rw[ea];exact hS⟩,?_⟩
 have e:zw h ((((some (⟨b,0,none⟩:Addr)).getD default).add (((j:Int).toNat)*1)).add 0) v=upd h b (.cells (cs.setIfInBounds j v) T):=by
  rw[ea]
  funext x
  by_cases hx:x=b
  ·subst hx;simp[zw,upd,hb]
  ·simp[zw,upd,hx]
 rw[e];exact k
theorem j5.intro{n:Nat}{is:List Nat}{R:(Nat->Value)->Eng.Heap->Prop}{env:List Value}{Ks:List Kt}(st:St)(h1:st.loc=[])(h2:st.dv=false)(h3:st.tmps.length=n)(h4:is.all (isX st)=true)(h5:R (got st env) h) :
  j5 n is R (.norm st) env h Ks:=⟨st,rfl,h1,h2,h3,h4,h5⟩
def RA(h:Eng.Heap)(da:Value)(fv:Value)(n:Nat)(f:Nat->Value)(h':Eng.Heap):Prop:=
 ∃fb bC bS sb wg:Nat,f 0=da/\f 3=.pointer (some ⟨fb,0,none⟩)/\f 6=.int .i64 n/\f 7=.pointer (some ⟨sb,0,none⟩)/\f 8=.slice (some ⟨bS,0,none⟩) n n/\f 9=.pointer (some ⟨wg,0,none⟩) /\
  [fb,bC,bS,sb,wg].Nodup/\(∀b ∈ [fb,bC,bS,sb,wg],h b=none)/\Eng.Sub h h' /\
  h' fb=some (.cells #[fv] 114)/\h' bC=some (.cells (yg n #[.int .u32 0]) 44)/\h' bS=some (.cells (yg n #[.int .i64 0]) 2) /\
  h' sb=some (.cells #[.slice (some ⟨bC,0,none⟩) n n] 111)/\h' wg=some (wgBlock 156 0 0)
theorem wpA{a:Option Addr}{l c:Nat}{fv:Value}(hfv:qY fv=fv)(hi:Inv S h)(hl:l<2^40){n:Nat}(hn:n=(l+32767)/32768) :
  tA.wp Tryz.prog S (j5 47 [0,3,6,7,8,9] (RA h (.slice a l c) fv n)) (fun _ _=>True) [.slice a l c,fv] h []:=by
 have ns:∀b,h b=none->¬S b:=fun b hb hS=>hi b hS hb
 have e1:IntKind.i64.wrap ((IntKind.i64.wrap (IntKind.i64.wrap ((l:Int)+32768)-1)).tdiv 32768)=(n:Int):=by
  have w1:IntKind.i64.wrap ((l:Int)+32768)=(l:Int)+32768:=by rw[IntKind.wrap_i64];omega
  have w2:IntKind.i64.wrap ((l:Int)+32768-1)=(l:Int)+32767:=by rw[IntKind.wrap_i64];omega
  rw[w1,w2,Int.tdiv_eq_ediv_of_nonneg (by omega),IntKind.wrap_i64];omega
 have e2:IntKind.i64.wrap (n:Int)=(n:Int):=by rw[IntKind.wrap_i64];omega
 have hb4:((4:Nat):Int)*(n:Int)<=2^48:=by omega
 have hb8:((8:Nat):Int)*(n:Int)<=2^48:=by omega
 simp only[tA,Tr.wp,Fo,Ex.ev,coerce,toInt_int,zg,zk,zh,zf,arith,Cst.val,yp,vF,vG,List.replicate_one,vA,vB,vD,vE,vJ,vI,vK,e1,e2,Int.toNat_natCast,Nat.mul_one,hfv]
 have nn:(0:Int)<=(n:Int):=by omega
 have sub5:∀ {h':Eng.Heap},(∀x,(∀b,h b=none->x≠b)->h' x=h x)->Eng.Sub h h':=by
  intro h' hx x o ho
  rw[hx x (fun b hb e=>by subst e;rw[hb]at ho;cases ho)]
  exact ho
 intro fb g0
 refine⟨⟨nn,Int.le_refl _,hb4,fun b1 g1=>⟨⟨nn,Int.le_refl _,hb8,fun b2 g2 b3 g3=>?_⟩,fun b2 g2=>⟨⟨nn,Int.le_refl _,hb8,fun b3 g3=>?_⟩,?_⟩⟩⟩,
  ⟨⟨nn,Int.le_refl _,hb8,fun b1 g1=>⟨⟨nn,Int.le_refl _,hb4,fun b2 g2 b3 g3=>?_⟩,fun b2 g2=>⟨nn,Int.le_refl _,hb4,fun b3 g3=>?_⟩⟩⟩,
   fun b1 g1=>⟨⟨nn,Int.le_refl _,hb4,fun b2 g2=>⟨⟨nn,Int.le_refl _,hb8,fun b3 g3=>?_⟩,?_⟩⟩,⟨nn,Int.le_refl _,hb8,fun b2 g2=>⟨nn,Int.le_refl _,hb4,fun b3 g3=>?_⟩⟩⟩⟩⟩
 have so:∀ {T:TypeId} {b b':Nat} {h:Eng.Heap} {o:Obj} {v:Value},b'≠b->(upd h b (.cells #[v] T)) b'=h b':=fun e=>y7 e
 ·simp only[yI]at g1 g2 g3
  refine D1 (b:=b3) yG (ns _ (by first | exact g1.2 | exact g2.2.2 | exact g3.2.2.2)) ?_
  intro b4 g4
  simp only[yI]at g4
  refine Gj yG (ns _ (by simp only[g4])) ?_
  refine j5.intro Ud rfl rfl rfl rfl ⟨fb,b1,b2,b3,b4,rfl,rfl,?_,rfl,rfl,rfl,?_,?_,?_,?_,?_,?_,?_,?_⟩
  all_goals first
   | (simp only[got,Ud,Ex.ev,coerce,toInt_int,zg,zk,zh,arith,Cst.val,vA,vC,List.getElem?_cons_succ];rw[e1];done)
   | (simp only[List.nodup_cons,List.mem_cons,List.not_mem_nil,or_false,not_or,not_false_eq_true,List.nodup_nil,and_true];omega)
   | (intro b hb;simp only[List.mem_cons,List.not_mem_nil,or_false]at hb;rcases hb with rfl | rfl | rfl | rfl | rfl <;> first | exact g0 | exact g1.2 | exact g2.2.2 | exact g3.2.2.2 | exact g4.2.2.2.2.2 | exact g2.2.2.2 | exact g3.2.2.2.2)
   | (refine sub5 fun x hx=>?_;simp only[upd];repeat rw[if_neg (hx _ (by first | exact g0 | exact g1.2 | exact g2.2.2 | exact g3.2.2.2 | exact g4.2.2.2.2.2 | exact g3.2.2.2.2))])
   | (simp only[upd,wgBlock];repeat first | rw[if_pos trivial] | rw[if_pos rfl] | rw[if_neg (by omega)])
 ·simp only[yI]at g1 g2 g3
  refine D1 (b:=b2) ((y7 (by omega)).trans yG) (ns _ (by first | exact g1.2 | exact g2.2.2 | exact g3.2.2.2)) ?_
  intro b4 g4
  simp only[yI]at g4
  refine Gj yG (ns _ (by simp only[g4])) ?_
  refine j5.intro Ue rfl rfl rfl rfl ⟨fb,b1,b3,b2,b4,rfl,rfl,?_,rfl,rfl,rfl,?_,?_,?_,?_,?_,?_,?_,?_⟩
  all_goals first
   | (simp only[got,Ue,Ex.ev,coerce,toInt_int,zg,zk,zh,arith,Cst.val,vA,vC,List.getElem?_cons_succ];rw[e1];done)
   | (simp only[List.nodup_cons,List.mem_cons,List.not_mem_nil,or_false,not_or,not_false_eq_true,List.nodup_nil,and_true];omega)
   | (intro b hb;simp only[List.mem_cons,List.not_mem_nil,or_false]at hb;rcases hb with rfl | rfl | rfl | rfl | rfl <;> first | exact g0 | exact g1.2 | exact g2.2.2 | exact g3.2.2.2 | exact g4.2.2.2.2.2 | exact g2.2.2.2 | exact g3.2.2.2.2)
   | (refine sub5 fun x hx=>?_;simp only[upd];repeat rw[if_neg (hx _ (by first | exact g0 | exact g1.2 | exact g2.2.2 | exact g3.2.2.2 | exact g4.2.2.2.2.2 | exact g3.2.2.2.2))])
   | (simp only[upd,wgBlock];repeat first | rw[if_pos trivial] | rw[if_pos rfl] | rw[if_neg (by omega)])
 ·simp only[yI]at g1 g2
  refine D1 (b:=b2) yG (ns _ (by first | exact g1.2 | exact g2.2.2)) ⟨nn,Int.le_refl _,hb8,fun b3 g3=>?_⟩
  simp only[yI]at g3
  intro b4 g4
  simp only[yI]at g4
  refine Gj yG (ns _ (by simp only[g4])) ?_
  refine j5.intro Uf rfl rfl rfl rfl ⟨fb,b1,b3,b2,b4,rfl,rfl,?_,rfl,rfl,rfl,?_,?_,?_,?_,?_,?_,?_,?_⟩
  all_goals first
   | (simp only[got,Uf,Ex.ev,coerce,toInt_int,zg,zk,zh,arith,Cst.val,vA,vC,List.getElem?_cons_succ];rw[e1];done)
   | (simp only[List.nodup_cons,List.mem_cons,List.not_mem_nil,or_false,not_or,not_false_eq_true,List.nodup_nil,and_true];omega)
   | (intro b hb;simp only[List.mem_cons,List.not_mem_nil,or_false]at hb;rcases hb with rfl | rfl | rfl | rfl | rfl <;> first | exact g0 | exact g1.2 | exact g2.2.2 | exact g3.2.2.2 | exact g4.2.2.2.2.2 | exact g2.2.2.2 | exact g3.2.2.2.2)
   | (refine sub5 fun x hx=>?_;simp only[upd];repeat rw[if_neg (hx _ (by first | exact g0 | exact g1.2 | exact g2.2.2 | exact g3.2.2.2 | exact g4.2.2.2.2.2 | exact g3.2.2.2.2))])
   | (simp only[upd,wgBlock];repeat first | rw[if_pos trivial] | rw[if_pos rfl] | rw[if_neg (by omega)])
 ·simp only[yI]at g1 g2 g3
  refine D1 (b:=b3) yG (ns _ (by first | exact g1.2 | exact g2.2.2 | exact g3.2.2.2)) ?_
  intro b4 g4
  simp only[yI]at g4
  refine Gj yG (ns _ (by simp only[g4])) ?_
  refine j5.intro Ug rfl rfl rfl rfl ⟨fb,b2,b1,b3,b4,rfl,rfl,?_,rfl,rfl,rfl,?_,?_,?_,?_,?_,?_,?_,?_⟩
  all_goals first
   | (simp only[got,Ug,Ex.ev,coerce,toInt_int,zg,zk,zh,arith,Cst.val,vA,vC,List.getElem?_cons_succ];rw[e1];done)
   | (simp only[List.nodup_cons,List.mem_cons,List.not_mem_nil,or_false,not_or,not_false_eq_true,List.nodup_nil,and_true];omega)
   | (intro b hb;simp only[List.mem_cons,List.not_mem_nil,or_false]at hb;rcases hb with rfl | rfl | rfl | rfl | rfl <;> first | exact g0 | exact g1.2 | exact g2.2.2 | exact g3.2.2.2 | exact g4.2.2.2.2.2 | exact g2.2.2.2 | exact g3.2.2.2.2)
   | (refine sub5 fun x hx=>?_;simp only[upd];repeat rw[if_neg (hx _ (by first | exact g0 | exact g1.2 | exact g2.2.2 | exact g3.2.2.2 | exact g4.2.2.2.2.2 | exact g3.2.2.2.2))])
   | (simp only[upd,wgBlock];repeat first | rw[if_pos trivial] | rw[if_pos rfl] | rw[if_neg (by omega)])
 ·simp only[yI]at g1 g2 g3
  refine D1 (b:=b2) ((y7 (by omega)).trans yG) (ns _ (by first | exact g1.2 | exact g2.2.2 | exact g3.2.2.2)) ?_
  intro b4 g4
  simp only[yI]at g4
  refine Gj yG (ns _ (by simp only[g4])) ?_
  refine j5.intro Uh rfl rfl rfl rfl ⟨fb,b3,b1,b2,b4,rfl,rfl,?_,rfl,rfl,rfl,?_,?_,?_,?_,?_,?_,?_,?_⟩
  all_goals first
   | (simp only[got,Uh,Ex.ev,coerce,toInt_int,zg,zk,zh,arith,Cst.val,vA,vC,List.getElem?_cons_succ];rw[e1];done)
   | (simp only[List.nodup_cons,List.mem_cons,List.not_mem_nil,or_false,not_or,not_false_eq_true,List.nodup_nil,and_true];omega)
   | (intro b hb;simp only[List.mem_cons,List.not_mem_nil,or_false]at hb;rcases hb with rfl | rfl | rfl | rfl | rfl <;> first | exact g0 | exact g1.2 | exact g2.2.2 | exact g3.2.2.2 | exact g4.2.2.2.2.2 | exact g2.2.2.2 | exact g3.2.2.2.2)
   | (refine sub5 fun x hx=>?_;simp only[upd];repeat rw[if_neg (hx _ (by first | exact g0 | exact g1.2 | exact g2.2.2 | exact g3.2.2.2 | exact g4.2.2.2.2.2 | exact g3.2.2.2.2))])
   | (simp only[upd,wgBlock];repeat first | rw[if_pos trivial] | rw[if_pos rfl] | rw[if_neg (by omega)])
 ·simp only[yI]at g1 g2 g3
  refine D1 (b:=b1) ((y7 (by omega)).trans ((y7 (by omega)).trans yG)) (ns _ (by first | exact g1.2 | exact g2.2.2 | exact g3.2.2.2)) ?_
  intro b4 g4
  simp only[yI]at g4
  refine Gj yG (ns _ (by simp only[g4])) ?_
  refine j5.intro Ui rfl rfl rfl rfl ⟨fb,b2,b3,b1,b4,rfl,rfl,?_,rfl,rfl,rfl,?_,?_,?_,?_,?_,?_,?_,?_⟩
  all_goals first
   | (simp only[got,Ui,Ex.ev,coerce,toInt_int,zg,zk,zh,arith,Cst.val,vA,vC,List.getElem?_cons_succ];rw[e1];done)
   | (simp only[List.nodup_cons,List.mem_cons,List.not_mem_nil,or_false,not_or,not_false_eq_true,List.nodup_nil,and_true];omega)
   | (intro b hb;simp only[List.mem_cons,List.not_mem_nil,or_false]at hb;rcases hb with rfl | rfl | rfl | rfl | rfl <;> first | exact g0 | exact g1.2 | exact g2.2.2 | exact g3.2.2.2 | exact g4.2.2.2.2.2 | exact g2.2.2.2 | exact g3.2.2.2.2)
   | (refine sub5 fun x hx=>?_;simp only[upd];repeat rw[if_neg (hx _ (by first | exact g0 | exact g1.2 | exact g2.2.2 | exact g3.2.2.2 | exact g4.2.2.2.2.2 | exact g3.2.2.2.2))])
   | (simp only[upd,wgBlock];repeat first | rw[if_pos trivial] | rw[if_pos rfl] | rw[if_neg (by omega)])
 ·simp only[yI]at g1 g2
  refine D1 (b:=b1) ((y7 (by omega)).trans yG) (ns _ (by first | exact g1.2 | exact g2.2.2)) ⟨nn,Int.le_refl _,hb8,fun b3 g3=>?_⟩
  simp only[yI]at g3
  intro b4 g4
  simp only[yI]at g4
  refine Gj yG (ns _ (by simp only[g4])) ?_
  refine j5.intro Uj rfl rfl rfl rfl ⟨fb,b2,b3,b1,b4,rfl,rfl,?_,rfl,rfl,rfl,?_,?_,?_,?_,?_,?_,?_,?_⟩
  all_goals first
   | (simp only[got,Uj,Ex.ev,coerce,toInt_int,zg,zk,zh,arith,Cst.val,vA,vC,List.getElem?_cons_succ];rw[e1];done)
   | (simp only[List.nodup_cons,List.mem_cons,List.not_mem_nil,or_false,not_or,not_false_eq_true,List.nodup_nil,and_true];omega)
   | (intro b hb;simp only[List.mem_cons,List.not_mem_nil,or_false]at hb;rcases hb with rfl | rfl | rfl | rfl | rfl <;> first | exact g0 | exact g1.2 | exact g2.2.2 | exact g3.2.2.2 | exact g4.2.2.2.2.2 | exact g2.2.2.2 | exact g3.2.2.2.2)
   | (refine sub5 fun x hx=>?_;simp only[upd];repeat rw[if_neg (hx _ (by first | exact g0 | exact g1.2 | exact g2.2.2 | exact g3.2.2.2 | exact g4.2.2.2.2.2 | exact g3.2.2.2.2))])
   | (simp only[upd,wgBlock];repeat first | rw[if_pos trivial] | rw[if_pos rfl] | rw[if_neg (by omega)])
 ·simp only[yI]at g1 g2 g3
  refine D1 (b:=b1) ((y7 (by omega)).trans ((y7 (by omega)).trans yG)) (ns _ (by first | exact g1.2 | exact g2.2.2 | exact g3.2.2.2)) ?_
  intro b4 g4
  simp only[yI]at g4
  refine Gj yG (ns _ (by simp only[g4])) ?_
  refine j5.intro Uk rfl rfl rfl rfl ⟨fb,b3,b2,b1,b4,rfl,rfl,?_,rfl,rfl,rfl,?_,?_,?_,?_,?_,?_,?_,?_⟩
  all_goals first
   | (simp only[got,Uk,Ex.ev,coerce,toInt_int,zg,zk,zh,arith,Cst.val,vA,vC,List.getElem?_cons_succ];rw[e1];done)
   | (simp only[List.nodup_cons,List.mem_cons,List.not_mem_nil,or_false,not_or,not_false_eq_true,List.nodup_nil,and_true];omega)
   | (intro b hb;simp only[List.mem_cons,List.not_mem_nil,or_false]at hb;rcases hb with rfl | rfl | rfl | rfl | rfl <;> first | exact g0 | exact g1.2 | exact g2.2.2 | exact g3.2.2.2 | exact g4.2.2.2.2.2 | exact g2.2.2.2 | exact g3.2.2.2.2)
   | (refine sub5 fun x hx=>?_;simp only[upd];repeat rw[if_neg (hx _ (by first | exact g0 | exact g1.2 | exact g2.2.2 | exact g3.2.2.2 | exact g4.2.2.2.2.2 | exact g3.2.2.2.2))])
   | (simp only[upd,wgBlock];repeat first | rw[if_pos trivial] | rw[if_pos rfl] | rw[if_neg (by omega)])
def kX(l i:Nat):Nat:=min ((i+1)*32768) l-i*32768
def partOf(xs:List Int)(i:Nat):List Int:=(xs.drop (i*32768)).take (kX xs.length i)
theorem B9(xs:List Int)(i:Nat):(partOf xs i).length=kX xs.length i:=by
 unfold partOf kX;rw[List.length_take,List.length_drop];omega
def szv(n l j:Nat):Array Value:=((List.range n).map fun i=>if i<j then Value.int .i64 (kX l i)else .int .i64 0).toArray
theorem Um(n l j:Nat):(szv n l j).size=n:=by simp[szv]
theorem Un(n l:Nat):yg n #[.int .i64 0]=szv n l 0:=by
 apply Array.ext
 ·simp[yg,szv]
 ·intro i h1 h2
  simp[yg,szv,Nat.mod_one]
theorem V8{n l j:Nat}(hj:j<n):(szv n l j).setIfInBounds j (.int .i64 (kX l j))=szv n l (j+1):=by
 apply Array.ext
 ·simp[szv]
 ·intro i h1 h2
  simp only[szv]
  by_cases e:j=i
  ·subst e;simp
  ·have e2:(i<j+1)=(i<j):=by apply propext;omega
   simp[e,e2]
def RB(h0 h:Eng.Heap)(xs:List Int)(da:Value)(fb sb bS wg n j:Nat)(f:Nat->Value)(h':Eng.Heap):Prop:=
 ∃(ib pb:Nat) (a':Option Addr) (c':Nat),f 0=da/\f 3=.pointer (some ⟨fb,0,none⟩)/\f 7=.pointer (some ⟨sb,0,none⟩)/\f 8=.slice (some ⟨bS,0,none⟩) n n/\f 9=.pointer (some ⟨wg,0,none⟩) /\
  f 10=.pointer (some ⟨ib,0,none⟩)/\f 11=.pointer (some ⟨pb,0,none⟩)/\f 22=.int .i64 n/\f 23=.int .i64 j /\
  h ib=none/\h pb=none/\ib≠pb/\zp h0 .u8 a' (partOf xs j)/\h' ib=some (.cells #[.int .i64 j] 3)/\h' pb=some (.cells #[.slice a' (partOf xs j).length c'] 22) /\
  h' bS=some (.cells (szv n xs.length (j+1)) 2)/\∀x,x≠ib->x≠pb->x≠bS->h' x=h x
theorem wpB{h0:Eng.Heap}{a:Option Addr}{c:Nat}{xs:List Int}(hx:zp h0 .u8 a xs)(hc:xs.length<=c)(hl:xs.length<2^40)(hi:Inv S h){n j:Nat}(hn:n=(xs.length+32767)/32768)(hj:j<n)
  {fb sb bS wg:Nat}(hS:¬S bS)(hbS:h bS=some (.cells (szv n xs.length j) 2)) :
  tBk.wp Tryz.prog S (j5 47 [0,3,7,8,9,10,11,22,23] (RB h0 h xs (.slice a xs.length c) fb sb bS wg n j)) (fun _ _=>True)
   [.slice a xs.length c,.pointer (some ⟨fb,0,none⟩),.pointer (some ⟨sb,0,none⟩),.slice (some ⟨bS,0,none⟩) n n,.pointer (some ⟨wg,0,none⟩),.int .i64 n,.int .i64 j] h []:=by
 have ns:∀b,h b=none->¬S b:=fun b hb hS=>hi b hS hb
 have w1:IntKind.i64.wrap ((j:Int)*32768)=((j*32768:Nat):Int):=by rw[IntKind.wrap_i64];omega
 have w2:IntKind.i64.wrap ((j:Int)+1)=(j:Int)+1:=by rw[IntKind.wrap_i64];omega
 have w3:IntKind.i64.wrap (((j:Int)+1)*32768)=(((j+1)*32768:Nat):Int):=by rw[IntKind.wrap_i64];omega
 simp only[tBk,Tr.wp,Ex.ev,coerce,toInt_int,zc,zg,zk,zh,zf,zV,kT,jO,kW,zB,arith,Cst.val,yp,zx,zt,vF,vG,List.replicate_one,vA,vB,decide_eq_true_eq,vD,vE,vJ,vI,vK,and_true]
 intro ib g0
 refine D1 yG (ns _ g0) ?_
 have eM:(if(xs.length:Int)<(((j+1)*32768:Nat):Int)then(xs.length:Int)else(((j+1)*32768:Nat):Int))=((min ((j+1)*32768) xs.length:Nat):Int):=by split <;> omega
 have cell1:∀ {h:Eng.Heap} {b:Nat} {v:Value} {T:TypeId},h b=some (.cells #[v] T)->ze h (Addr.add ⟨b,0,none⟩ 0)=some v:=fun hb=>by simp[ze,Addr.add,hb]
 refine⟨j,cell1 yG,j,cell1 yG,?_⟩
 simp only[w1,w2,w3,eM,Int.toNat_natCast]
 obtain⟨a',es,hp⟩:=kB hx (lo:=j*32768) (hi:=min ((j+1)*32768) xs.length) (m:=c) (by omega) (by omega) (by omega)
 rw[es]
 have ep:(xs.drop (j*32768)).take (min ((j+1)*32768) xs.length-j*32768)=partOf xs j:=rfl
 rw[ep]at hp ⊢
 refine⟨by omega,by omega,by omega,by omega,fun pb g1=>?_⟩
 simp only[yI]at g1
 have hbi:bS≠ib:=fun e=>by subst e;rw[g0]at hbS;cases hbS
 have hbp:bS≠pb:=fun e=>by subst e;rw[g1.2.2]at hbS;cases hbS
 refine D1 yG (ns _ g1.2.2) ?_
 refine⟨j,cell1 ((y7 (Ne.symm g1.1)).trans ((y7 (Ne.symm g1.1)).trans yG)),a',_,_,cell1 yG,rfl,by omega,by omega,?_⟩
 refine Ye (cs:=szv n xs.length j) (T:=2) ?_ (by rw[Um];exact hj) hS ?_
 ·rw[y7 hbp,y7 hbp,y7 hbi,y7 hbi];exact hbS
 refine j5.intro U9 rfl rfl rfl rfl ⟨ib,pb,a',c-j*32768,rfl,rfl,rfl,rfl,rfl,rfl,rfl,rfl,rfl,g0,g1.2.2,Ne.symm g1.1,hp,?_,?_,?_,?_⟩
 ·rw[y7 (Ne.symm hbi),y7 (Ne.symm g1.1),y7 (Ne.symm g1.1),yG]
 ·rw[y7 (Ne.symm hbp),yG]
 ·rw[yG,B9,V8 hj]
 ·intro x h1 h2 h3
  rw[y7 h3,y7 h2,y7 h2,y7 h1,y7 h1]
end
end Go.Proofs.YtmnialmphlbmaaaGreatDoor
end
section
namespace Go.Proofs.YtmnialmphlbmaaaGreatDoor
open Go Go.Eng Go.Conc Go.RowKit Go.Conc.Lib Go.ConcR.Gen
open Go.ConcR (KK wgBlock WgAt stA smA rd wr DC0 Payload)
def Qh:List (Nat×Sh):=[(0,.slice),(3,.addr),(7,.addr),(8,.slice),(9,.addr),(22,.int .i64),(23,.int .i64)]
def Uo(da:Value)(fb sb bS wg n j:Nat):List Value:=[da,.pointer (some ⟨fb,0,none⟩),.pointer (some ⟨sb,0,none⟩),.slice (some ⟨bS,0,none⟩) n n,.pointer (some ⟨wg,0,none⟩),.int .i64 n,.int .i64 j]
structure AtL(a:Act)(da:Value)(fb sb bS wg n j:Nat):Prop where
 sz:a.tmps.size=47
 df:a.defers=[]
 s0:a.tmps.getD 0 undef=da
 s3:a.tmps.getD 3 undef=.pointer (some ⟨fb,0,none⟩)
 s7:a.tmps.getD 7 undef=.pointer (some ⟨sb,0,none⟩)
 s8:a.tmps.getD 8 undef=.slice (some ⟨bS,0,none⟩) n n
 s9:a.tmps.getD 9 undef=.pointer (some ⟨wg,0,none⟩)
 s22:a.tmps.getD 22 undef=.int .i64 n
 s23:a.tmps.getD 23 undef=.int .i64 j
theorem AtL.GO{a:Act}{x:Option Addr}{l c fb sb bS wg n j:Nat}(A:AtL a (.slice x l c) fb sb bS wg n j):qC a Qh (Uo (.slice x l c) fb sb bS wg n j):=
 ⟨A.s0,rfl,A.s3,rfl,A.s7,rfl,A.s8,rfl,A.s9,rfl,A.s22,rfl,A.s23,rfl,trivial⟩
theorem Ig(a:Act)(d i:Nat)(v:Value)(hd:d<a.tmps.size):(a.put (some d) v).tmps.getD i undef=if i=d then v else a.tmps.getD i undef:=by
 by_cases e:i=d
 ·subst e;simp[Act.put,Array.getD_eq_getD_getElem?,hd]
 ·simp only[Act.put,Array.getD_eq_getD_getElem?,Array.getElem?_setIfInBounds_ne (Ne.symm e),if_neg e]
theorem Uq(a:Act)(d:Nat)(v:Value):(a.put (some d) v).tmps.size=a.tmps.size:=by simp[Act.put]
theorem AtL.put{a:Act}{da:Value}{fb sb bS wg n j:Nat}(A:AtL a da fb sb bS wg n j)(d:Nat)(v:Value)(hd:d=41\/d=42\/d=44):AtL (a.put (some d) v) da fb sb bS wg n j:=by
 have hs:d<a.tmps.size:=by rw[A.sz];omega
 have g:∀i,i≠d->(a.put (some d) v).tmps.getD i undef=a.tmps.getD i undef:=fun i hi=>by rw[Ig a d i v hs,if_neg hi]
 exact⟨by rw[Uq];exact A.sz,A.df,(g 0 (by omega)).trans A.s0,(g 3 (by omega)).trans A.s3,(g 7 (by omega)).trans A.s7,(g 8 (by omega)).trans A.s8,(g 9 (by omega)).trans A.s9,(g 22 (by omega)).trans A.s22,(g 23 (by omega)).trans A.s23⟩
def RS(h:Eng.Heap)(da:Value)(fb sb bS wg n j:Nat)(f:Nat->Value)(h':Eng.Heap):Prop:=
 f 0=da/\f 3=.pointer (some ⟨fb,0,none⟩)/\f 7=.pointer (some ⟨sb,0,none⟩)/\f 8=.slice (some ⟨bS,0,none⟩) n n/\f 9=.pointer (some ⟨wg,0,none⟩)/\f 22=.int .i64 n/\f 23=.int .i64 j/\h'=h
noncomputable def x8(i:Nat):Array Oper:=match rP i with | .region _ ops _=>ops | _=>#[]
theorem rP9:rP 9=.region 9 (x8 9) false:=by kernel_rfl
theorem Yf:rP 10=.region 10 (x8 10) false:=by kernel_rfl
theorem Yg:rP 12=.region 12 (x8 12) false:=by kernel_rfl
theorem XE:(x8 9).size=1:=by kernel_rfl
theorem WQ:(x8 10).size=2:=by kernel_rfl
theorem WR:(x8 12).size=1:=by kernel_rfl
theorem LA{ops:Array Oper}{i:Nat}{d:Option Tmp}{p:Op->Bool}(h1:(ops[i]?.map fun o=>(o.dst,o.guard))=some (d,none)){q:Op}(h2:(ops[i]?.map fun o=>o.op)=some q) :
  ∃o,ops[i]? = some o/\o.dst=d/\o.guard=none/\o.op=q:=by
 cases h:ops[i]? with
 | none=>rw[h]at h1;cases h1
 | some o=>
  rw[h]at h1 h2
  simp only[Option.map_some,Option.some.injEq,Prod.mk.injEq]at h1 h2
  exact⟨o,rfl,h1.1,h1.2,h2⟩
def Qi(o:Option Oper):Array TypeId:=match o with | some o=>(match o.op with | .call c=>c.argTypes | .go c=>c.argTypes | _=>#[]) | none=>#[]
theorem c9a:((x8 9)[0]?.map fun o=>(o.dst,o.guard))=some (some 41,none):=by kernel_rfl
theorem c9b:((x8 9)[0]?.map fun o=>o.op)=some (.call { callee:=.value (.func 87),args:=#[.tmp 9,.const (.int .i64 1)],argTypes:=Qi (x8 9)[0]? }):=by kernel_rfl
theorem Yh:((x8 12)[0]?.map fun o=>(o.dst,o.guard))=some (some 44,none):=by kernel_rfl
theorem Yi:((x8 12)[0]?.map fun o=>o.op)=some (.call { callee:=.value (.func 90),args:=#[.tmp 9],argTypes:=Qi (x8 12)[0]? }):=by kernel_rfl
theorem Yj:((x8 10)[0]?.map fun o=>(o.dst,o.guard))=some (some 42,none):=by kernel_rfl
theorem Yk:((x8 10)[0]?.map fun o=>o.op)=some (.makeFunc (.func 88) #[] #[.tmp 9,.tmp 3,.tmp 11,.tmp 7,.tmp 10]):=by kernel_rfl
theorem Yn:((x8 10)[1]?.map fun o=>(o.dst,o.guard))=some (none,none):=by kernel_rfl
theorem Yo:((x8 10)[1]?.map fun o=>o.op)=some (.go { callee:=.value (.tmp 42),args:=#[],argTypes:=Qi (x8 10)[1]? }):=by kernel_rfl
theorem Js{P:Program}{b:Frame}{a:Act}{k:List Item}{cs:List Frame}{ops:Array Oper}{i:Nat}{rest:List Nat}{o:Oper}{f:FuncId}{fn:Func}{c:Code}{args:Array Operand}{ats:Array TypeId}
  (ho:ops[i]? = some o)(hw:Region.wanted o (yielded ops a.tmps)=true)(hk:b.kind ≠ .early)(hop:o.op=.call { callee:=.value (.func f),args,argTypes:=ats })
  (hf:P.funcs[f]? = some fn)(hname:(fn.name == "runtime.NumGoroutine")=false)(hb:fn.body=some c)(main:Bool)(w:World) :
  stepG P main (gor (b.at a (.inRegion ops (i::rest)::k)) cs) w=.go (gor ((base f).at { tmps:=args.map a.eval++Array.replicate (fn.ntmps-(args.map a.eval).size) undef,defers:=[] } [.code c]) (b.at a (.inRegion ops (i::rest)::k)::cs)) w #[]:=
 MV (goes_call ho hw hk hop hf hname hb ⟨rfl,rfl,rfl⟩)
theorem XF(L:WgLink):(addFn L).body=some (body_add L):=rfl
theorem WT(L:WgLink):(waitFn L).body=some (body_wait L):=rfl
theorem XG(L:WgLink)(x y:Value):#[x,y]++Array.replicate ((addFn L).ntmps-(#[x,y]:Array Value).size) undef=#[x,y,undef,undef,undef,undef,undef,undef,undef,undef,undef,undef,undef,undef,undef,undef,undef,undef,undef,undef,undef,undef,undef,undef,undef,undef,undef,undef,undef,undef,undef,undef,undef,undef,undef,undef,undef,undef,undef,undef,undef,undef,undef,undef,undef,undef,undef,undef,undef,undef,undef,undef,undef,undef,undef,undef,undef,undef,undef,undef,undef,undef,undef,undef,undef,undef,undef,undef,undef,undef,undef,undef,undef,undef,undef,undef,undef,undef,undef,undef,undef,undef,undef,undef,undef,undef,undef,undef,undef,undef,undef,undef,undef,undef,undef,undef,undef,undef,undef,undef,undef,undef,undef,undef,undef,undef,undef,undef,undef,undef,undef,undef,undef,undef,undef,undef,undef]:=by kernel_rfl
theorem WU(L:WgLink)(x:Value):#[x]++Array.replicate ((waitFn L).ntmps-(#[x]:Array Value).size) undef=#[x,undef,undef,undef,undef,undef,undef,undef,undef,undef,undef,undef,undef,undef,undef,undef,undef,undef,undef,undef,undef,undef,undef,undef,undef,undef,undef,undef,undef,undef,undef,undef,undef,undef,undef,undef,undef,undef,undef,undef,undef,undef,undef,undef,undef,undef,undef,undef,undef,undef,undef,undef,undef,undef,undef,undef,undef,undef,undef,undef,undef,undef,undef,undef,undef,undef,undef,undef,undef,undef,undef,undef,undef,undef,undef,undef,undef,undef,undef,undef,undef,undef,undef,undef]:=by kernel_rfl
section
variable {Φ : Ph} {b : Frame} {k : List Item} {cs : List Frame}
theorem Yp(hty:Φ.ty=Tryz.link.tWg)(hCW:Φ.C≠Φ.Wg)(hk:b.kind ≠ .early){a:Act}(h9:a.tmps.getD 9 undef=.pointer (some ⟨Φ.Wg,0,none⟩)){Nx:Frame->List Frame->Prop}
  (hN:Nx (b.at (a.put (some 41) (.tuple #[])) (.inRegion (x8 9) []::k)) cs):An Tryz.prog Φ Nx (b.at a (.inRegion (x8 9) [0]::k)) cs:=by
 obtain⟨o,d1,d2,d3,d4⟩:=LA (p:=fun _=>true) c9a c9b
 by_cases hJ:∃w,Φ.J w
 ·obtain⟨w,hw⟩:=hJ
  refine An.step (fun w=>Js d1 (by simp[Region.wanted,d3]) hk d4 Tryz.Jk.f_add (nm_add Tryz.link) (XF Tryz.link) true w) ⟨100,?_⟩
  have e:(#[Operand.tmp 9,.const (.int .i64 1)].map a.eval)=#[.pointer (some ⟨Φ.Wg,0,none⟩),.int .i64 1]:=by simp[Act.eval,h9]
  rw[e,XG]
  have W:=@V4 _ Tryz.prog Tryz.link Φ cs b a (x8 9) 0 [] k Tryz.Jk hCW Nx (by rw[d1];simp only[Option.bind_some,d2];exact hN) w hw
  exact Sil.of (w:=w) W
 ·exact⟨0,fun w w₁ h=>absurd ⟨w₁,h⟩ hJ⟩
theorem WV(hty:Φ.ty=Tryz.link.tWg)(hCW:Φ.C≠Φ.Wg)(hk:b.kind ≠ .early){a:Act}(h9:a.tmps.getD 9 undef=.pointer (some ⟨Φ.Wg,0,none⟩)) :
  kq Tryz.prog Φ (MT Tryz.prog (b.at (a.put (some 44) (.tuple #[])) (.inRegion (x8 12) []::k)) cs) (b.at a (.inRegion (x8 12) [0]::k)) cs:=by
 obtain⟨o,d1,d2,d3,d4⟩:=LA (p:=fun _=>true) Yh Yi
 by_cases hJ:∃w,Φ.J w
 ·obtain⟨w,hw⟩:=hJ
  refine kq.step (fun w=>Js d1 (by simp[Region.wanted,d3]) hk d4 Tryz.Jk.f_wait (nm_wait Tryz.link) (WT Tryz.link) true w) ?_
  have e:(#[Operand.tmp 9].map a.eval)=#[.pointer (some ⟨Φ.Wg,0,none⟩)]:=by simp[Act.eval,h9]
  rw[e,WU]
  have W:=@TU _ Tryz.prog Tryz.link Φ cs b a (x8 12) 0 [] k Tryz.Jk hCW w hw
  rw[d1]at W
  simp only[Option.bind_some,d2]at W
  exact W
 ·exact⟨fun _=>True,fun g _=>⟨0,fun w w₁ h=>absurd ⟨w₁,h⟩ hJ⟩,0,fun w w₁ h=>absurd ⟨w₁,h⟩ hJ⟩
end
end Go.Proofs.YtmnialmphlbmaaaGreatDoor
end
section
namespace Go.Proofs.YtmnialmphlbmaaaGreatDoor
open Go Go.Eng Go.Conc Go.RowKit Go.Conc.Lib Go.ConcR.Gen
open Go.ConcR (KK wgBlock WgAt stA smA rd wr DC0 Payload)
section
variable {S : Shared} {Φ : Ph} {b : Frame} {k : List Item} {cs : List Frame}
theorem V9{i fb pb sb ib:Nat}(hk:b.kind ≠ .early){a:Act}(h42:a.tmps.getD 42 undef=.func (.func 88) #[] (kP Φ.Wg fb pb sb ib)){Nx:Frame->List Frame->Eng.Heap->Prop}{hh h1 hc:Eng.Heap}
  (s1:Eng.Sub h1 hh)(sc:Eng.Sub hc hh)(hap:∀x,¬Φ.S x->hc x≠none->h1 x=none)(hro:∀x,Φ.S x->h1 x=hh x)(hW:Works Tryz.prog Φ i (L6 (Eb Φ.Wg fb pb sb ib)) [] hc)
  (hN:Nx (b.at a (.inRegion (x8 10) []::k)) cs h1):BR Tryz.prog Φ i Nx (b.at a (.inRegion (x8 10) [1]::k)) cs hh:=by
 obtain⟨o,d1,d2,d3,d4⟩:=LA (p:=fun _=>true) Yn Yo
 refine⟨h1,hc,s1,sc,hap,hro,fun w hw hJ=>⟨_,_,_,_,?_,hW,hN⟩⟩
 have hr:(execOp a.eval o).run Tryz.prog w=.ok (.spawn (Eb Φ.Wg fb pb sb ib)) w:=by
  unfold execOp
  simp only[d4,resolve,Deferred.ofValue,Act.eval,h42]
  simp[Eb,kP,go_sem]
 have he:(execOp a.eval o).events Tryz.prog w #[]=#[]:=by
  unfold execOp
  simp only[d4,resolve,Deferred.ofValue,Act.eval,h42]
  simp[kP,go_sem]
 have st:=stepG_spawn (P:=Tryz.prog) (main:=true) (b:=b) (a:=a) (k:=k) (cs:=cs) (w:=w) (rest:=[]) d1 (by simp[Region.wanted,d3]) hk hr rfl
 unfold listed at st
 rw[he,seen_none,d2]at st
 exact st
theorem WW(hk:b.kind ≠ .early){a:Act}{fb pb sb ib wg:Nat}{rest:List Nat}{Post:Frame->List Frame->Eng.Heap->Prop}{h:Eng.Heap}
  (h9:a.tmps.getD 9 undef=.pointer (some ⟨wg,0,none⟩))(h3:a.tmps.getD 3 undef=.pointer (some ⟨fb,0,none⟩))(h11:a.tmps.getD 11 undef=.pointer (some ⟨pb,0,none⟩))(h7:a.tmps.getD 7 undef=.pointer (some ⟨sb,0,none⟩))(h10:a.tmps.getD 10 undef=.pointer (some ⟨ib,0,none⟩))
  (K:Eng.Safe Tryz.prog S Post (b.at (a.put (some 42) (.func (.func 88) #[] (kP wg fb pb sb ib))) (.inRegion (x8 10) rest::k)) cs h):Eng.Safe Tryz.prog S Post (b.at a (.inRegion (x8 10) (0::rest)::k)) cs h:=by
 obtain⟨o,d1,d2,d3,d4⟩:=LA (p:=fun _=>true) Yj Yk
 refine EG (.func (.func 88) #[] (kP wg fb pb sb ib)) d1 (by simp[Region.wanted,d3]) hk (fun w=>?_) (fun w=>?_) (by rw[d2];exact K)
 ·unfold execOp
  simp[d4,Act.eval,h9,h3,h11,h7,h10,kP,go_sem]
 ·unfold execOp
  simp[d4,Act.eval,h9,h3,h11,h7,h10,go_sem]
theorem go5{h:Eng.Heap}{x:Option Addr}{l c fb sb bS wg n j:Nat}{a:Act}{c0:Code}(A:AtL a (.slice x l c) fb sb bS wg n j)(hi:Inv S h) :
  Eng.Safe Tryz.prog S (Eng.Reach S b 47 (.code c0::k) cs [0,3,7,8,9,22,23,24] (fun f h'=>RS h (.slice x l c) fb sb bS wg n j f h'/\f 24=.bool (decide ((j:Int)<n)))) (b.at a (.code (.seq (rP 5) c0)::k)) cs h:=by
 refine EH (rs:=[rP 5]) (ps:=Qh) Ed Ee s5 A.GO A.sz A.df hi ?_
 simp only[t5,Tr.wp]
 exact j5.intro Ul rfl rfl rfl rfl ⟨⟨rfl,rfl,rfl,rfl,rfl,rfl,rfl,rfl⟩,by simp only[got,Ul,Uo,Ex.ev,coerce,toInt_int,zB,vA,vB,vC,List.getElem?_cons_succ]⟩
theorem Yq{h:Eng.Heap}{x:Option Addr}{l c fb sb bS wg n j:Nat}{a:Act}(A:AtL a (.slice x l c) fb sb bS wg n j)(hi:Inv S h)(hj:j<2^40) :
  Eng.Safe Tryz.prog S (Eng.Reach S b 47 k cs [0,3,7,8,9,22,23] (RS h (.slice x l c) fb sb bS wg n (j+1))) (b.at a (.code (rP 11)::k)) cs h:=by
 refine WB (ps:=Qh) Ed Ee s11 A.GO A.sz A.df hi ?_
 simp only[t11,Tr.wp]
 have w2:IntKind.i64.wrap ((j:Int)+1)=((j+1:Nat):Int):=by rw[IntKind.wrap_i64];omega
 exact j5.intro Qg rfl rfl rfl rfl ⟨rfl,rfl,rfl,rfl,rfl,rfl,by simp only[got,Qg,Uo,Ex.ev,coerce,toInt_int,arith,Cst.val,vA,vB,vC,List.getElem?_cons_succ,w2],rfl⟩
theorem AtL.reach{x:Value}{fb sb bS wg n j:Nat}{a:Act}{f:Nat->Value}{h h':Eng.Heap}{is:List Nat}(hs:a.tmps.size=47)(hd:a.defers=[])(hf:∀i∈is,a.tmps.getD i undef=f i)
  (hi:[0,3,7,8,9,22,23].all (fun i=>is.contains i)=true)(R:RS h x fb sb bS wg n j f h'):AtL a x fb sb bS wg n j:=by
 obtain⟨r0,r3,r7,r8,r9,r22,r23,_⟩:=R
 have g:∀i,i∈([0,3,7,8,9,22,23]:List Nat)->a.tmps.getD i undef=f i:=fun i h=>hf i (by simpa using List.all_eq_true.1 hi i h)
 exact⟨hs,hd,(g 0 (by simp)).trans r0,(g 3 (by simp)).trans r3,(g 7 (by simp)).trans r7,(g 8 (by simp)).trans r8,(g 9 (by simp)).trans r9,(g 22 (by simp)).trans r22,(g 23 (by simp)).trans r23⟩
end
end Go.Proofs.YtmnialmphlbmaaaGreatDoor
end
section
namespace Go.Proofs.YtmnialmphlbmaaaGreatDoor
open Go Go.Eng Go.Conc Go.RowKit Go.Conc.Lib Go.ConcR.Gen
open Go.ConcR (KK wgBlock WgAt stA smA rd wr DC0 Payload)
section
variable {Φ : Ph} {b : Frame} {cs : List Frame}
theorem Ur{h h':Eng.Heap}{k:IntKind}{a:Option Addr}{xs:List Int}(H:zp h k a xs)(s:Eng.Sub h h'):zp h' k a xs:=fun i x hx=>by
 obtain⟨ad,h1,h2⟩:=H i x hx
 refine⟨ad,h1,?_⟩
 unfold ze at h2 ⊢
 cases e:h (ad.add i).block with
 | none=>rw[e]at h2;cases h2
 | some o=>rw[e]at h2;rw[s _ _ e];exact h2
theorem WX{H h0:Eng.Heap}{n:Nat}(hty:Φ.ty=Tryz.link.tWg)(hCW:Φ.C≠Φ.Wg)(hnb:∀fr cs h Q,¬Φ.S.big fr cs h Q)(hΦn:Φ.n=n){x:Option Addr}{c:Nat}{xs:List Int}(hx:zp h0 .u8 x xs)(hc:xs.length<=c)
  (hl:xs.length<2^40)(hn:n=(xs.length+32767)/32768){fb sb bS:Nat}{g:FuncId}{F:List Int->Int}(hSd:∀y,Φ.S y->H y≠none)(h0S:∀y o,h0 y=some o->Φ.S y/\H y=some o)(hSb:¬Φ.S bS)
  (hfS:Φ.S fb)(hsS:Φ.S sb)(hfb:H fb=some (.cells #[.func (.func g) #[] #[]] 114))(hsb:H sb=some (.cells #[.slice (some ⟨Φ.C,0,none⟩) n n] 111))
  (hval:∀i,i<n->Φ.val i=.int .u32 (F (partOf xs i)))
  (hsum:∀(h':Eng.Heap) (a':Option Addr) (c':Nat) (ys:List Int),Inv Φ.S h'->zp h' .u8 a' ys->ys.length<=32768->(∀y∈ys,y∈xs)->zb Tryz.prog Φ.S g #[.slice a' ys.length c'] h' (fun v h''=>v=.int .u32 (F ys)/\Eng.Sub h' h''))
  (hk:b.kind ≠ .early){Q:Frame->List Frame->Eng.Heap->Prop}
  (hQ:∀a hh,AtL a (.slice x xs.length c) fb sb bS Φ.Wg n n->(∀y,Φ.S y->hh y=H y)->hh bS=some (.cells (szv n xs.length n) 2) ->
   ∀fr' cs',MT Tryz.prog (b.at (a.put (some 44) (.tuple #[])) [.inRegion (x8 12) [],.code (rP 13)]) cs fr' cs'->Q fr' cs' hh) :
  ∀r j,j+r=n->∀a hh,AtL a (.slice x xs.length c) fb sb bS Φ.Wg n j->(∀y,Φ.S y->hh y=H y)->hh bS=some (.cells (szv n xs.length j) 2) ->
   Sp Tryz.prog Φ Q r (b.at a [.code L9,.inLoop L9,.inBlock 0,.code (.seq (rP 12) (rP 13))]) cs hh:=by
 have inv:∀ {hh:Eng.Heap},(∀y,Φ.S y->hh y=H y)->Inv Φ.S hh:=fun hro y hy=>by rw[hro y hy];exact hSd y hy
 have agr:∀ {h' H':Eng.Heap},Eng.Sub h' H'->Inv Φ.S h'->∀y,Φ.S y->H' y=h' y:=by
  intro h' H' s hi y hy
  cases e:h' y with
  | none=>exact absurd e (hi y hy)
  | some o=>exact s y o e
 intro r
 induction r with
 | zero=>
  intro j hj a hh A hro hbS
  have hjn:j=n:=by omega
  subst hjn
  unfold Sp
  refine(go5 (c0:=_) A (inv hro)).bind ?_
  rintro _ _ H' ⟨rfl,a',f,h',rfl,hsz,hdf,hf,⟨R,f24⟩,hsub,hinv⟩
  have A':=AtL.reach hsz hdf hf rfl R
  obtain⟨_,_,_,_,_,_,_,rfl⟩:=R
  have e24:a'.eval (.tmp 24)=.bool false:=by
   show a'.tmps.getD 24 undef=_
   rw[hf 24 (by simp),f24];simp
  refine .seq (.cond (t:=false) e24 ?_)
  simp only[vL,if_false]
  refine .exit (k':=[.code (.seq (rP 12) (rP 13))]) (by simp[exitTo]) (.seq ?_)
  rw[Yg]
  refine .region ?_
  rw[WR]
  have hro':∀y,Φ.S y->H' y=H y:=fun y hy=>(agr hsub hinv y hy).trans (hro y hy)
  refine .done (kq.mono (fun fr' cs' hB=>?_) (WV hty hCW hk A'.s9))
  exact hQ a' H' A' hro' (hsub _ _ hbS) fr' cs' hB
 | succ r ih=>
  intro j hj a hh A hro hbS
  have hjn:j<n:=by omega
  unfold Sp
  refine(go5 (c0:=_) A (inv hro)).bind ?_
  rintro _ _ H1 ⟨rfl,a1,f1,h1,rfl,hsz1,hdf1,hf1,⟨R1,f24⟩,hsub1,hinv1⟩
  have A1:=AtL.reach hsz1 hdf1 hf1 rfl R1
  obtain⟨_,_,_,_,_,_,_,rfl⟩:=R1
  have e24:a1.eval (.tmp 24)=.bool true:=by
   show a1.tmps.getD 24 undef=_
   rw[hf1 24 (by simp),f24]
   simp only[Value.bool.injEq,decide_eq_true_eq]
   omega
  have hro1:∀y,Φ.S y->H1 y=H y:=fun y hy=>(agr hsub1 hinv1 y hy).trans (hro y hy)
  have hbS1:=hsub1 _ _ hbS
  refine .seq (.cond (t:=true) e24 ?_)
  simp only[if_true]
  refine .skip (.seq (.block ?_))
  refine(EH (rs:=[rP 6,rP 7,rP 8]) (ps:=Qh) Ed Ee sBk A1.GO A1.sz A1.df (inv hro1) (wpB (S:=Φ.S) (h:=H1) (h0:=h0) (n:=n) (j:=j) (fb:=fb) (sb:=sb) (wg:=Φ.Wg) hx hc hl (inv hro1) hn hjn hSb hbS1)).bind ?_
  rintro _ _ H2 ⟨rfl,a2,f2,h2,rfl,hsz2,hdf2,hf2,⟨ib,pb,xa,xc,r0,r3,r7,r8,r9,r10,r11,r22,r23,nib,npb,hne,hpi,cib,cpb,cbS,crest⟩,hsub2,hinv2⟩
  have A2:AtL a2 (.slice x xs.length c) fb sb bS Φ.Wg n j:=⟨hsz2,hdf2,(hf2 0 (by simp)).trans r0,(hf2 3 (by simp)).trans r3,(hf2 7 (by simp)).trans r7,(hf2 8 (by simp)).trans r8,(hf2 9 (by simp)).trans r9,(hf2 22 (by simp)).trans r22,(hf2 23 (by simp)).trans r23⟩
  have t10:=(hf2 10 (by simp)).trans r10
  have t11:=(hf2 11 (by simp)).trans r11
  have sne:∀y,Φ.S y->y≠ib/\y≠pb/\y≠bS:=fun y hy=>
   ⟨fun e=>by subst e;exact inv hro1 y hy nib,fun e=>by subst e;exact inv hro1 y hy npb,fun e=>by subst e;exact hSb hy⟩
  have hro2:∀y,Φ.S y->H2 y=H y:=fun y hy=>by
   obtain⟨e1,e2,e3⟩:=sne y hy
   rw[agr hsub2 hinv2 y hy,crest y e1 e2 e3,hro1 y hy]
  have hib2:=hsub2 _ _ cib
  have hpb2:=hsub2 _ _ cpb
  have hbS2:=hsub2 _ _ cbS
  have bne:bS≠ib/\bS≠pb:=⟨fun e=>(by rw[e,nib]at hbS1;cases hbS1),fun e=>(by rw[e,npb]at hbS1;cases hbS1)⟩
  refine .seq ?_
  rw[rP9]
  refine .region ?_
  rw[XE]
  refine .done (Yp hty hCW hk A2.s9 ?_)
  have A3:=A2.put 41 (.tuple #[]) (.inl rfl)
  have hs2:41<a2.tmps.size:=by rw[hsz2];omega
  have g3:∀i,i≠41->(a2.put (some 41) (.tuple #[])).tmps.getD i undef=a2.tmps.getD i undef:=fun i hi=>by rw[Ig _ _ _ _ hs2,if_neg hi]
  have u10:=(g3 10 (by omega)).trans t10
  have u11:=(g3 11 (by omega)).trans t11
  generalize a2.put (some 41) (.tuple #[])=a3 at A3 u10 u11
  refine .AS ?_
  rw[Yf]
  refine .region ?_
  rw[WQ]
  refine WW hk A3.s9 A3.s3 u11 A3.s7 u10 (.done ?_)
  have A4:=A3.put 42 (.func (.func 88) #[] (kP Φ.Wg fb pb sb ib)) (.inr (.inl rfl))
  have h42:(a3.put (some 42) (.func (.func 88) #[] (kP Φ.Wg fb pb sb ib))).tmps.getD 42 undef=.func (.func 88) #[] (kP Φ.Wg fb pb sb ib):=by
   rw[Ig _ _ _ _ (by rw[A3.sz];omega),if_pos rfl]
  generalize a3.put (some 42) (.func (.func 88) #[] (kP Φ.Wg fb pb sb ib))=a4 at A4 h42
  have ej:Φ.n-(r+1)=j:=by rw[hΦn];omega
  rw[ej]
  classical
  let hcw:Eng.Heap:=fun y=>if Φ.S y\/y=ib\/y=pb then H2 y else none
  let hm:Eng.Heap:=fun y=>if y=ib\/y=pb then none else H2 y
  have hcS:∀y,Φ.S y->hcw y=H y:=fun y hy=>by show(if _ then _ else _)=_;rw[if_pos (.inl hy)];exact hro2 y hy
  have sub0:Eng.Sub h0 hcw:=fun y o ho=>by
   obtain⟨e1,e2⟩:=h0S y o ho
   rw[hcS y e1];exact e2
  have c1:∀ {y:Nat} {v:Value} {T:TypeId},hcw y=some (.cells #[v] T)->ze hcw ⟨y,0,none⟩=some v:=fun e=>by simp[ze,e]
  refine V9 (ib:=ib) (pb:=pb) (fb:=fb) (sb:=sb) (h1:=hm) (hc:=hcw) hk h42 (fun y o ho=>?_) (fun y o ho=>?_) (fun y hS hy=>?_) (fun y hy=>?_) ?_ ?_
  ·simp only[hm]at ho
   split at ho
   ·cases ho
   ·exact ho
  ·simp only[hcw]at ho
   split at ho
   ·exact ho
   ·cases ho
  ·simp only[hcw]at hy
   split at hy
   ·rename_i hor
    show(if _ then _ else _)=_
    rw[if_pos (hor.resolve_left hS)]
   ·exact absurd rfl hy
  ·show(if _ then _ else _)=_
   obtain⟨e1,e2,_⟩:=sne y hy
   rw[if_neg (by simp[e1,e2])]
  ·refine XD hnb hty hCW (by rw[hΦn];exact hjn) (hval j hjn) (fun y hy=>?_) (c1 ((hcS fb hfS).trans hfb)) (c1 (T:=22) ?_) ?_ (c1 (T:=3) ?_) (hsum hcw xa xc _ (fun y hy=>?_) (Ur hpi sub0) (by rw[B9];unfold kX;omega) (fun y hy=>List.mem_of_mem_drop (List.mem_of_mem_take (by unfold partOf at hy;exact hy))))
   ·rw[hcS y hy];exact hSd y hy
   ·show(if _ then _ else _)=_
    rw[if_pos (.inr (.inr rfl))];exact hpb2
   ·rw[hΦn];exact c1 ((hcS sb hsS).trans hsb)
   ·show(if _ then _ else _)=_
    rw[if_pos (.inr (.inl rfl))];exact hib2
   ·rw[hcS y hy];exact hSd y hy
  ·refine Sp.pre (.AS (.inBlock ?_))
   have hrom:∀y,Φ.S y->hm y=H y:=fun y hy=>by
    obtain⟨e1,e2,_⟩:=sne y hy
    show(if _ then _ else _)=_
    rw[if_neg (by simp[e1,e2])];exact hro2 y hy
   have hbm:hm bS=some (.cells (szv n xs.length (j+1)) 2):=by
    show(if _ then _ else _)=_
    rw[if_neg (by simp[bne.1,bne.2])];exact hbS2
   refine(Yq A4 (inv hrom) (by omega)).bind ?_
   rintro _ _ H5 ⟨rfl,a5,f5,h5,rfl,hsz5,hdf5,hf5,R5,hsub5,hinv5⟩
   have A5:=AtL.reach hsz5 hdf5 hf5 rfl R5
   obtain⟨_,_,_,_,_,_,_,rfl⟩:=R5
   refine .inLoop (.done ?_)
   exact ih (j+1) (by omega) a5 H5 A5 (fun y hy=>(agr hsub5 hinv5 y hy).trans (hrom y hy)) (hsub5 _ _ hbm)
end
end Go.Proofs.YtmnialmphlbmaaaGreatDoor
end
section
namespace Go.Proofs.YtmnialmphlbmaaaGreatDoor
open Go Go.Eng Go.Conc Go.RowKit Go.Conc.Lib Go.ConcR.Gen
open Go.ConcR (KK wgBlock WgAt stA smA rd wr DC0 Payload)
theorem Qj:Tryz.f65.body=some L8:=by kernel_rfl
theorem WY:Tryz.f65.ntmps=47:=by kernel_rfl
theorem Yr:Tryz.f65.results.toList=cP.results:=by kernel_rfl
def Qk(F:List Int->Int)(xs:List Int)(n:Nat):Array Value:=((List.range n).map fun i=>Value.int .u32 (F (partOf xs i))).toArray
theorem Ys(v0 v1:Value)(m:Nat):(#[v0,v1]++Array.replicate m undef).getD 0 undef=v0:=by
 rw[Array.getD_eq_getD_getElem?,Array.getElem?_append_left (by simp)];rfl
theorem Yt(v0 v1:Value)(m:Nat):(#[v0,v1]++Array.replicate m undef).getD 1 undef=v1:=by
 rw[Array.getD_eq_getD_getElem?,Array.getElem?_append_left (by simp)];rfl
def phP(H:Eng.Heap)(wg bC bS n:Nat)(F:List Int->Int)(xs:List Int):Ph:=
 { ty:=156,Wg:=wg,C:=bC,ety:=44,n:=n,S:=⟨fun y=>H y≠none/\y≠wg/\y≠bC/\y≠bS,fun _ _ _ _=>False⟩,val:=fun i=>.int .u32 (F (partOf xs i)) }
theorem Ki{s:Nat->Prop}{h:Eng.Heap}(hi:Inv (yo Tryz.prog s) h){x:Option Addr}{c:Nat}{xs:List Int}(hx:zp h .u8 x xs)(hc:xs.length<=c)(hl:xs.length<2^40){g:FuncId}{F:List Int->Int}
  (hsum:∀(S':Shared) (h':Eng.Heap) (a':Option Addr) (c':Nat) (ys:List Int),Inv S' h'->zp h' .u8 a' ys->ys.length<=32768->(∀y∈ys,y∈xs)->zb Tryz.prog S' g #[.slice a' ys.length c'] h' (fun v h''=>v=.int .u32 (F ys)/\Eng.Sub h' h'')){n:Nat}(hn:n=(xs.length+32767)/32768) :
  zb Tryz.prog (yo Tryz.prog s) yJ #[.slice x xs.length c,.func (.func g) #[] #[]] h (fun v h'=>∃bC bS,v=.tuple #[.slice (some ⟨bC,0,none⟩) n n,.slice (some ⟨bS,0,none⟩) n n] /\
   h' bC=some (.cells (Qk F xs n) 44)/\h' bS=some (.cells (szv n xs.length n) 2)/\Eng.Sub h h'):=by
 refine .inl ⟨fun vs w=>QM Tryz.func65 (by kernel_rfl) (by kernel_rfl) vs w,fun cs=>?_⟩
 have hent:Frame.enter Tryz.prog yJ #[.slice x xs.length c,.func (.func g) #[] #[]] .normal=(Frame.enter Tryz.prog yJ #[.slice x xs.length c,.func (.func g) #[] #[]] .normal).at
   { tmps:=#[.slice x xs.length c,.func (.func g) #[] #[]]++Array.replicate (Tryz.f65.ntmps-(#[.slice x xs.length c,.func (.func g) #[] #[]]:Array Value).size) undef,defers:=[] } [.code L8]:=by
  simp[Frame.enter,Frame.at,yJ,Tryz.func65,Qj]
 have zq:(Frame.enter Tryz.prog yJ #[.slice x xs.length c,.func (.func g) #[] #[]] .normal).kind=.normal:=rfl
 have hfn:(Frame.enter Tryz.prog yJ #[.slice x xs.length c,.func (.func g) #[] #[]] .normal).fn=yJ:=rfl
 rw[hent]
 generalize Frame.enter Tryz.prog yJ #[.slice x xs.length c,.func (.func g) #[] #[]] .normal=b at zq hfn
 rw[Uc,WY]
 refine(EH (rs:=[rP 0,rP 1,rP 2,rP 3]) (ps:=[(0,.slice),(1,.fnv)]) (env:=[.slice x xs.length c,.func (.func g) #[] #[]]) Ed Ee sA ⟨Ys _ _ _,rfl,Yt _ _ _,rfl,trivial⟩ (by simp) rfl hi (wpA rfl hi hl hn)).bind ?_
 rintro _ cs H ⟨rfl,a,f,h',rfl,hsz,hdf,hf,⟨fb,bC,bS,sb,wg,r0,r3,r6,r7,r8,r9,hnd,hnone,hsubh,cfb,cbC,cbS,csb,cwg⟩,hsub,hinv⟩
 have sH:Eng.Sub h H:=fun y o ho=>hsub y o (hsubh y o ho)
 have iH:Inv (yo Tryz.prog s) H:=fun y hy=>by
  cases e:h y with
  | none=>exact absurd e (hi y hy)
  | some o=>rw[sH y o e];simp
 replace cfb:=hsub _ _ cfb
 replace cbC:=hsub _ _ cbC
 replace cbS:=hsub _ _ cbS
 replace csb:=hsub _ _ csb
 replace cwg:=hsub _ _ cwg
 simp only[List.nodup_cons,List.mem_cons,List.not_mem_nil,or_false,not_or,not_false_eq_true,List.nodup_nil,and_true]at hnd
 have hne:∀y,h y≠none->y≠wg/\y≠bC/\y≠bS:=fun y hy=>⟨fun e=>hy (hnone y (by simp[e])),fun e=>hy (hnone y (by simp[e])),fun e=>hy (hnone y (by simp[e]))⟩
 have q:∀i,i∈([0,3,6,7,8,9]:List Nat)->a.tmps.getD i undef=f i:=hf
 refine .seq ?_
 refine(EH (rs:=[rP 4]) (ps:=[(0,.slice),(3,.addr),(7,.addr),(8,.slice),(9,.addr),(6,.int .i64)])
  (env:=[.slice x xs.length c,.pointer (some ⟨fb,0,none⟩),.pointer (some ⟨sb,0,none⟩),.slice (some ⟨bS,0,none⟩) n n,.pointer (some ⟨wg,0,none⟩),.int .i64 n]) (is:=[0,3,7,8,9,22,23]) (R:=RS H (.slice x xs.length c) fb sb bS wg n 0) (c:=.block 0 (.loop L9)) Ed Ee s4
  ⟨(q 0 (by simp)).trans r0,rfl,(q 3 (by simp)).trans r3,rfl,(q 7 (by simp)).trans r7,rfl,(q 8 (by simp)).trans r8,rfl,(q 9 (by simp)).trans r9,rfl,(q 6 (by simp)).trans r6,rfl,trivial⟩ hsz hdf iH (by
   simp only[t4,Tr.wp]
   exact j5.intro WO rfl rfl rfl rfl ⟨rfl,rfl,rfl,rfl,rfl,rfl,rfl,rfl⟩)).bind ?_
 rintro _ cs H' ⟨rfl,a1,f1,h1,rfl,hsz1,hdf1,hf1,R1,hsub1,hinv1⟩
 have A1:=AtL.reach hsz1 hdf1 hf1 rfl R1
 obtain⟨_,_,_,_,_,_,_,rfl⟩:=R1
 replace cfb:=hsub1 _ _ cfb
 replace cbC:=hsub1 _ _ cbC
 replace cbS:=hsub1 _ _ cbS
 replace csb:=hsub1 _ _ csb
 replace cwg:=hsub1 _ _ cwg
 replace sH:Eng.Sub h H':=fun y o ho=>hsub1 y o (sH y o ho)
 clear iH hinv1 hsub1 hsub hf q hinv hsubh
 refine .block (.loop ?_)
 have hk:b.kind ≠ .early:=by rw[zq];decide
 let Φ:=phP H' wg bC bS n F xs
 have hS:∀y,Φ.S y<->(H' y≠none/\y≠wg/\y≠bC/\y≠bS):=fun y=>Iff.rfl
 have rest_eq:∀y,Φ.S y->Φ.rest H' y=H' y:=fun y hy=>by
  unfold Ph.rest
  rw[if_neg]
  rintro(e | e)
  ·exact hy.2.1 e
  ·exact hy.2.2.1 e
 refine .big H' (fun _=>none) (fun fr' cs' h''=>∃a2,AtL a2 (.slice x xs.length c) fb sb bS wg n n/\MT Tryz.prog (b.at (a2.put (some 44) (.tuple #[])) [.inRegion (x8 12) [],.code (rP 13)]) cs fr' cs' /\
   h'' bC=some (.cells (Qk F xs n) 44)/\h'' bS=some (.cells (szv n xs.length n) 2)/\∀y,Φ.S y->h'' y=H' y) (xx _).symm (fun y hy=>absurd rfl hy) ?_ ?_
 ·refine⟨Φ,yg n #[.int .u32 0],⟨fun _ _ _ _ h=>h,?_,?_,cwg,cbC,by simp[yg,Φ,phP],fun y hy=>?_,fun y hy=>?_⟩,?_⟩
  ·show n<_
   omega
  ·show bC≠wg
   omega
  ·have e1:=hi y hy
   refine⟨?_,hne y e1⟩
   cases e:h y with
   | none=>exact absurd e e1
   | some o=>rw[sH y o e];simp
  ·rw[rest_eq y hy];exact hy.1
  ·refine WX (Φ:=Φ) (H:=H') (h0:=h) (n:=n) (g:=g) (F:=F) rfl (show bC≠wg by omega) (fun _ _ _ _ h=>h) rfl hx hc hl hn (fun y hy=>hy.1) (fun y o ho=>⟨⟨by rw[sH y o ho];simp,hne y (by rw[ho];simp)⟩,sH y o ho⟩)
    (fun hy=>hy.2.2.2 rfl) ⟨by rw[cfb];simp,by omega,by omega,by omega⟩ ⟨by rw[csb];simp,by omega,by omega,by omega⟩ cfb csb (fun i _=>rfl) (fun h' a' c' ys=>hsum Φ.S h' a' c' ys) hk ?_ n 0 (by omega) a1 _ A1 rest_eq ?_
   ·intro a2 hh A2 hro hbS fr' cs' hB
    refine⟨a2,A2,hB,?_,?_,fun y hy=>?_⟩
    ·exact yG
    ·exact(y7 (show bS≠bC by omega)).trans hbS
    ·exact(y7 hy.2.2.1).trans (hro y hy)
   ·unfold Ph.rest
    rw[if_neg (by rintro(e | e);exact absurd (show bS=wg from e) (by omega);exact absurd (show bS=bC from e) (by omega)),cbS,Un]
 ·rintro fr' cs' h2 ⟨a2,A2,hB,e1,e2,e3⟩ _ _
  rw[xx]
  refine hB _ _ _ (.AS ?_)
  have A3:=A2.put 44 (.tuple #[]) (.inr (.inr rfl))
  have i2:Inv (yo Tryz.prog s) h2:=fun y hy=>by
   have x1:=hi y hy
   cases e:h y with
   | none=>exact absurd e x1
   | some o=>
    have x2:=sH y o e
    rw[e3 y ⟨by rw[x2];simp,hne y x1⟩,x2];simp
  have s2:Eng.Sub h h2:=fun y o ho=>by
   have x2:=sH y o ho
   rw[e3 y ⟨by rw[x2];simp,hne y (by rw[ho];simp)⟩];exact x2
  have csb2:h2 sb=some (.cells #[.slice (some ⟨bC,0,none⟩) n n] 111):=by
   rw[e3 sb ⟨by rw[csb];simp,by omega,by omega,by omega⟩];exact csb
  have ha:Ok (yo Tryz.prog s) h2 (fun _=>none):=⟨fun b hb=>absurd rfl hb,i2⟩
  rw[<-xx h2]
  refine QL (cfg:=cP) (f:=yJ) (Λ:=yu) (Ks:=[]) Ed Ee zq hfn Tryz.func65 Yr (rP 13) (Dz 47 [(7,.addr),(8,.slice)]) tZ [.pointer (some ⟨sb,0,none⟩),.slice (some ⟨bS,0,none⟩) n n] [] _ _ h2 [] sZ Dl
   (Rel.of ⟨A3.s7,rfl,A3.s8,rfl,trivial⟩ A3.sz A3.df) ha rfl ?_ ⟨?_,?_⟩
  ·simp only[tZ,Tr.wp,Ex.ev,coerce,zg,zk,zh,zf,SV.den,zx,zt,vA,vB,vD,vE,vJ,vI,and_true,if_false,vL]
   refine⟨some ⟨bC,0,none⟩,n,n,by simp[ze,Addr.add,csb2],bC,bS,?_,e1,e2,s2⟩
   rfl
  ·intro _ _ _ _ _ _ _ h;exact h.elim
  ·intro _ _ _ _ _ _ _ _ h;exact h.elim
end Go.Proofs.YtmnialmphlbmaaaGreatDoor
end
namespace Go.Proofs.YtmnialmphlbmaaaGreatDoor
open Go Go.Eng Go.IntWalk
section
variable {S : Shared} {h : Eng.Heap}
theorem Sd(xs:List Int){n j:Nat}(hn:n=(xs.length+32767)/32768)(hj:j<n):xs.take (min ((j+1)*32768) xs.length)=xs.take (min (j*32768) xs.length)++partOf xs j:=by
 have e1:min (j*32768) xs.length=j*32768:=by omega
 have h1:j*32768<=min ((j+1)*32768) xs.length:=by omega
 have e2:min ((j+1)*32768) xs.length=j*32768+kX xs.length j:=(Nat.add_sub_cancel' h1).symm
 rw[e1,e2,List.take_add]
 simp only[partOf]
end
section
section
variable {S : Shared} {h h0 : Eng.Heap}
structure ErrZ(h:Eng.Heap):Prop where
 el:ErrL h
 e4:ze h ⟨2,0,none⟩=some (.int .i64 4)
 e5:ze h ⟨1,0,none⟩=some (.int .i64 5)
end
section
variable {S : Shared} {h h0 : Eng.Heap} {k : KC} {F : Nat} {Fin : Rd × List Int}
theorem Us(hi:Eng.Inv S h0)(G:ErrL h0)(hro:k.room<=200000)(hdl:k.dl<=40000)(hsz:1<=k.sz/\k.sz<=32768)(hx:zp h0 .u8 k.a k.bs)(L:k.bs.length<=1048576)(hFl:8*k.bs.length+1<=F){n0:Nat}(H0:AO h0 k F Fin (fnV k yl) h n0) :
  zb Tryz.prog S kF #[.pointer (some ⟨k.bm,0,none⟩)] h (MD h0 k Fin):=by
 refine Dt (vs:=[.pointer (some ⟨k.bm,0,none⟩)]) ⟨rfl,trivial⟩ (hi.sub (by obtain⟨_,_,hb,_,_,_,s,H,_⟩:=H0;exact s.trans H.sb)) ?_
 simp only[Ae,Tr.wp,zA,Ex.ev,coerce,zc,zf,zG,yb,SV.den,zr,zF,zz,zn,zl,zx,vF,vG,vA,vB,vD,vE,vJ,vI,vK,Nat.add_zero,if_false,vL,zo]
 refine⟨by simp,by simp,?_⟩
 refine zb.mono (X6 hi G hro hdl hsz hx L hFl H0) ?_
 rintro _ h3 ⟨hb,last,l,d,rfl,sb,H3,ok3⟩
 exact⟨_,za,by rw[za],hb,last,l,d,by rw[za],sb,H3,ok3⟩
end
end
end Go.Proofs.YtmnialmphlbmaaaGreatDoor
section
namespace Go.Proofs.YtmnialmphlbmaaaGreatDoor
open Go Go.Eng Go.ChangeShapes Go.WideShapes Go.ChangeAt Go.RowKit Go.Conc
theorem XH:Tryz.prog.globalNamed "loop.example/s02972/impl.errSum" = some 2:=by kernel_rfl
theorem WZ:(Tryz.prog.globals[(2:Nat)]?).map (·.type)=some tCl:=by kernel_rfl
section
variable {H : Type} {enc : TypeId × Value -> H}
theorem Ef{a:Assume}{C:Checked}{os:Os}{f:FuncId}{fn:Func}{s:ChangeSpec}{conds:List PathCond}{apart fresh handsOn again:Bool}{X:World->Array Value->Prop}
  (hX:∀(w w':World) (args:Array Value),w.heap=w'.heap->X w args->X w' args)
  (own:ownKnob C.prog.godebug=none)(started:os.Started)(hfn:C.prog.funcs[f]? = some fn)
  (witness:∃(w:World) (tape:Tape) (i:Input),w.os=os/\(w.forCall tape i).Shaped C.prog/\i.vars=[]/\Input.okWide C.prog (w.forCall tape i) .any w.heap.size f i /\
   ((s.pre enc C.prog fn conds apart (w.forCall tape i).memory i.args/\X (w.forCall tape i).memory i.args)/\sizedMet enc C.prog fn (OpenSpec.ofChange s) apart (w.forCall tape i).memory i.args)/\a.holds C.prog (lone (Frame.enter C.prog f i.args .normal) [] (w.forCall tape i)))
  (runs:∀(W:World) (base:Nat) (args:Array Value) (ds gs:List (DataW H)) (before:List MemPlace),
   (∀(j:Nat) t v,fn.params[j]? = some t->args[j]? = some v->Value.okWide C.prog W .any base t v) ->
   DataW.Whole enc C.prog fn.params.toList s.vars apart W args.toList ds gs before ->
   conds.all (PathCond.test C.prog ⟨fn.params.toList,ds,s.plain.varTypes C.prog,gs⟩)=true ->
   (DataW.weightsEach C.prog (fn.params.toList++s.plain.varTypes C.prog) (ds++gs)).all (· <= reachBytes)=true->X W args ->
   a.holds C.prog (lone (Frame.enter C.prog f args .normal) [] W) ->
   ∃M last o w' t',runNT C.prog (M+1) (solo (G (Frame.enter C.prog f args .normal) []) W) #[]=(.ended o w',t')/\runN C.prog M (solo (G (Frame.enter C.prog f args .normal) []) W)=.next last /\
    step C.prog last=.ended o w'/\Conc.Good C.prog (fun v W'=>s.post enc C.prog fn apart fresh handsOn again W args v W') last o w' t') :
  ReturnsInLeavingWide a C os f .any (fun w args=>(s.pre enc C.prog fn conds apart w args/\X w args)/\sizedMet enc C.prog fn (OpenSpec.ofChange s) apart w args) (s.post enc C.prog fn apart fresh handsOn again):=by
 refine returnsInLeavingWide_of_good own started witness ?_
 intro w tape i _ _ _ hok hpre hholds
 obtain⟨_,_,_,fn',hfn',_,_,_,_,hval⟩:=hok
 have e:fn'=fn:=Option.some.inj (hfn'.symm.trans hfn)
 subst e
 obtain⟨⟨⟨ds,gs,before,hw,hc⟩,hx⟩,hz⟩:=hpre
 have hw':=DataW.Whole.of_heap (w':=w.forCall tape i) (by rfl) hw
 obtain⟨M,last,o,w',t',h1,h2,h3,h4⟩:=runs (w.forCall tape i) w.heap.size i.args ds gs before hval hw' hc (hz.weights hw) (hX _ _ _ (by rfl) hx) hholds
 exact⟨M,last,o,w',t',h1,h2,h3,h4.mono fun v hp=>ChangeSpec.post_blind hp⟩
end
theorem Jt(Lk:Looks){p:Pinned}{s:OpenSpec}{c:OpenClaim}(kinds:List LaidKind)(tests:Bool)(har:Bool×String)(lk:Bool)
  (hc:c.holds p s)(hw:c.wfByText s=true)(htie:c.laidByTextAt Lk p kinds tests)
  (hst:c.start=.entering)(hnb:c.noBlocks=false/\c.again=false)(hm:p.checked.prog.mainIs=some (har.1,har.2.toList))(hn:(!har.1&&har.2.isEmpty && !lk)=false)
  (hl:∀f fn,p.checked.prog.funcNamed c.func=some f->p.checked.prog.funcs[f]? = some fn->lk=p.checked.prog.looks []/\∀(j:Nat) t,fn.params[j]? = some t->p.checked.prog.wantsStandIn t=false)
  (hg:true=c.goesBy p.checked.prog) :
  Claim7.holds p (.plain s) { stood:={ row:=c,standIns:=[],harness:=har,looks:=lk },kinds:=[],alts:=[],laidByText:=true,laidKinds:=kinds,laidTests:=tests,laidLooks:=Lk,goes:=true }:=by
 have h6:∀r:OpenClaim,Claim7.isSixth { stood:={ row:=r,standIns:=[],harness:=har,looks:=lk },kinds:=[] }=false:=fun r=>by simpa[Claim7.isSixth]using hn
 refine⟨?_,fun D hD=>(by cases hD),htie,(fun h=>by cases h),hg⟩
 exact Claim7.tied_new_at Lk kinds tests (Claim7.new_of_sixth hc har lk hst hnb hm (h6 c) hl) hw
end Go.Proofs.YtmnialmphlbmaaaGreatDoor
end
namespace Go.Proofs.YtmnialmphlbmaaaGreatDoor
open Go Go.Eng Go.IntWalk
section
def stB(c:BitVec 32):BitVec 32:=if c.getLsbD 0 then(c >>> 1) ^^^ 0xedb88320#32 else c >>> 1
def itB:Nat->BitVec 32->BitVec 32
 | 0,c=>c
 | n+1,c=>itB n (stB c)
def byB(c:BitVec 32)(x:Int):BitVec 32:=itB 8 (c ^^^ BitVec.ofInt 32 x)
def jd(c:BitVec 32)(xs:List Int):BitVec 32 := ~~~ (xs.foldl byB (~~~ c))
theorem VA(a b:BitVec 32):stB (a ^^^ b)=stB a ^^^ stB b:=by
 unfold stB
 rw[BitVec.getLsbD_xor,BitVec.ushiftRight_xor_distrib]
 generalize a >>> 1=u
 generalize b >>> 1=v
 generalize 3988292384#32=k
 cases a.getLsbD 0 <;> cases b.getLsbD 0 <;> simp only[Bool.xor_false,Bool.xor_true,Bool.not_true,Bool.not_false,if_true,if_false,vL]
 ·rw[BitVec.xor_assoc]
 ·rw[BitVec.xor_assoc,BitVec.xor_assoc,BitVec.xor_comm v]
 ·rw[BitVec.xor_assoc u k,<-BitVec.xor_assoc k v k,BitVec.xor_comm k v,BitVec.xor_assoc v k k,BitVec.xor_self,BitVec.xor_zero]
theorem Kj:∀(n:Nat) (a b:BitVec 32),itB n (a ^^^ b)=itB n a ^^^ itB n b
 | 0,_,_=>rfl
 | n+1,a,b=>by simp only[itB];rw[VA,Kj n]
theorem Kk:∀(n m:Nat) (a:BitVec 32),itB (n+m) a=itB m (itB n a)
 | 0,m,a=>by simp[itB]
 | n+1,m,a=>by rw[show n+1+m=(n+m)+1 by omega];simp only[itB];rw[Kk n m]
theorem C9(n:Nat)(a:BitVec 32):itB (n+1) a=stB (itB n a):=by rw[Kk n 1];rfl
theorem Se:∀(n:Nat) (a:BitVec 32),(∀i,i<n->a.getLsbD i=false)->itB n a=a >>> n
 | 0,a,_=>by simp[itB]
 | n+1,a,h=>by
  have h0:=h 0 (by omega)
  simp only[itB]
  have e:stB a=a >>> 1:=by unfold stB;rw[h0];rfl
  rw[e,Se n _ (fun i hi=>by rw[BitVec.getLsbD_ushiftRight];exact h (1+i) (by omega)),<-BitVec.shiftRight_add]
  congr 1;omega
theorem KX(c:BitVec 32)(x:Int)(hx:0<=x/\x<256):(c >>> 8) ^^^ itB 8 ((c &&& 255#32) ^^^ BitVec.ofInt 32 x)=byB c x:=by
 unfold byB
 have e:c=((c >>> 8) <<< 8) ^^^ (c &&& 255#32):=by
  refine BitVec.eq_of_getLsbD_eq fun i hi=>?_
  rw[BitVec.getLsbD_xor,BitVec.getLsbD_shiftLeft,BitVec.getLsbD_ushiftRight,BitVec.getLsbD_and]
  have h255:(255#32).getLsbD i=decide (i<8):=by
   have:∀i:Fin 32,(255#32).getLsbD i.1=decide (i.1<8):=by decide
   exact this ⟨i,hi⟩
  rw[h255]
  by_cases h8:i<8
  ·simp[h8,hi]
  ·simp[h8,hi,show 8+(i-8)=i by omega]
 have e2:itB 8 (c ^^^ BitVec.ofInt 32 x)=itB 8 (((c >>> 8) <<< 8) ^^^ ((c &&& 255#32) ^^^ BitVec.ofInt 32 x)):=by
  rw[<-BitVec.xor_assoc,<-e]
 rw[e2,Kj 8 ((c >>> 8) <<< 8),Se 8 ((c >>> 8) <<< 8) (fun i hi=>by rw[BitVec.getLsbD_shiftLeft];simp[hi])]
 congr 1
 refine BitVec.eq_of_getLsbD_eq fun i hi=>?_
 rw[BitVec.getLsbD_ushiftRight,BitVec.getLsbD_ushiftRight,BitVec.getLsbD_shiftLeft,BitVec.getLsbD_ushiftRight]
 by_cases h:8+i<32
 ·simp[h]
 ·simp[h];exact BitVec.getLsbD_of_ge _ _ (by omega)
theorem VB(a d:BitVec 32)(x:Int):byB (a ^^^ d) x=byB a x ^^^ itB 8 d:=by
 unfold byB
 rw[BitVec.xor_assoc,BitVec.xor_comm d,<-BitVec.xor_assoc,Kj]
theorem MW:∀(ys:List Int) (a d:BitVec 32),ys.foldl byB (a ^^^ d)=ys.foldl byB a ^^^ itB (8*ys.length) d
 | [],a,d=>rfl
 | y::ys,a,d=>by
  rw[List.foldl_cons,VB,MW ys,List.foldl_cons,List.length_cons,show 8*(ys.length+1)=8+8*ys.length by omega,Kk]
theorem Ut(c:BitVec 32)(xs ys:List Int):jd (jd c xs) ys=jd c (xs++ys):=by
 unfold jd;rw[List.foldl_append,BitVec.not_not]
theorem Ob(c:BitVec 32)(ys:List Int):itB (8*ys.length) c ^^^ jd 0#32 ys=jd c ys:=by
 unfold jd
 have e : ~~~ c = ~~~ (0#32) ^^^ c:=by
  rw[show ~~~ (0#32)=BitVec.allOnes 32 by decide,BitVec.allOnes_xor]
 rw[e,MW]
 refine BitVec.eq_of_getLsbD_eq fun i hi=>?_
 simp only[BitVec.getLsbD_xor,BitVec.getLsbD_not,hi,decide_true,Bool.true_and]
 cases (itB (8*ys.length) c).getLsbD i <;> cases ((ys.foldl byB (~~~ 0#32)).getLsbD i) <;> rfl
theorem Gk(b:BitVec 32):BitVec.ofInt 32 (b.toNat:Int)=b:=by
 rw[BitVec.ofInt_natCast,BitVec.ofNat_toNat,BitVec.setWidth_eq]
theorem XI(b:BitVec 32):(0:Int)<=b.toNat/\(b.toNat:Int)<4294967296:=by have:=b.isLt;omega
theorem GP(b:BitVec 32):IntKind.u32.wrap (b.toNat:Int)=b.toNat:=by have:=b.isLt;rw[IntKind.wrap_u32];omega
theorem Gl(a b:BitVec 32):Go.bits .xor .u32 (a.toNat:Int) (b.toNat:Int)=((a ^^^ b).toNat:Int):=by
 show IntKind.u32.wrap ((BitVec.ofInt 32 (a.toNat:Int) ^^^ BitVec.ofInt 32 (b.toNat:Int)).toNat:Int)=_
 rw[Gk,Gk,GP]
theorem xor_bv'(a:BitVec 32)(x:Int):Go.bits .xor .u32 (a.toNat:Int) x=((a ^^^ BitVec.ofInt 32 x).toNat:Int):=by
 show IntKind.u32.wrap ((BitVec.ofInt 32 (a.toNat:Int) ^^^ BitVec.ofInt 32 x).toNat:Int)=_
 rw[Gk,GP]
theorem Eg(a:BitVec 32):Go.bits .xor .u32 (4294967295:Int) (a.toNat:Int)=((~~~ a).toNat:Int):=by
 show IntKind.u32.wrap ((BitVec.ofInt 32 (4294967295:Int) ^^^ BitVec.ofInt 32 (a.toNat:Int)).toNat:Int)=_
 rw[Gk,GP,show BitVec.ofInt 32 (4294967295:Int)=BitVec.allOnes 32 by decide,BitVec.allOnes_xor]
theorem Ju(a:BitVec 32)(k:Nat):Int.fdiv (a.toNat:Int) (2^k)=((a >>> k).toNat:Int):=by
 rw[Int.fdiv_eq_ediv_of_nonneg _ (by exact_mod_cast Nat.zero_le _),BitVec.toNat_ushiftRight,Nat.shiftRight_eq_div_pow]
 push_cast;rfl
theorem Jv(a:BitVec 32):a.getLsbD 0=decide (a.toNat%2=1):=by
 rw[BitVec.getLsbD,Nat.testBit_zero]
theorem VC(a:BitVec 32):Go.bits .and .u32 (a.toNat:Int) 1=((a.toNat%2:Nat):Int):=by
 show IntKind.u32.wrap ((BitVec.ofInt 32 (a.toNat:Int) &&& BitVec.ofInt 32 1).toNat:Int)=_
 rw[Gk,GP,BitVec.toNat_and,show(BitVec.ofInt 32 1).toNat=1 by decide,Nat.and_one_is_mod]
theorem Sf(c:BitVec 32){x:Int}(hx:0<=x/\x<256):Go.bits .xor .u8 (IntKind.u8.wrap (c.toNat:Int)) x=(((c &&& 255#32) ^^^ BitVec.ofInt 32 x).toNat:Int)/\((c &&& 255#32) ^^^ BitVec.ofInt 32 x).toNat<256:=by
 obtain⟨n,rfl⟩:=Int.eq_ofNat_of_zero_le hx.1
 have hn:n<256:=by omega
 have h1:(c &&& 255#32).toNat=c.toNat%256:=by
  rw[BitVec.toNat_and,show(255#32).toNat=2^8-1 by decide,Nat.and_two_pow_sub_one_eq_mod]
 have h2:(BitVec.ofInt 32 (n:Int)).toNat=n:=by rw[BitVec.ofInt_natCast,BitVec.toNat_ofNat,Nat.mod_eq_of_lt (by omega)]
 have h3:((c &&& 255#32) ^^^ BitVec.ofInt 32 (n:Int)).toNat<256:=by
  rw[BitVec.toNat_xor,h1,h2];exact Nat.xor_lt_two_pow (n:=8) (by omega) hn
 refine⟨?_,h3⟩
 have w1:IntKind.u8.wrap (c.toNat:Int)=((c.toNat%256:Nat):Int):=by rw[IntKind.wrap_u8];omega
 show IntKind.u8.wrap ((BitVec.ofInt 8 (IntKind.u8.wrap (c.toNat:Int)) ^^^ BitVec.ofInt 8 (n:Int)).toNat:Int)=_
 rw[w1,BitVec.ofInt_natCast,BitVec.ofInt_natCast,BitVec.toNat_xor,BitVec.toNat_ofNat,BitVec.toNat_ofNat,BitVec.toNat_xor,h1,h2,Nat.mod_eq_of_lt (show c.toNat%256<2^8 by omega),Nat.mod_eq_of_lt (show n<2^8 by omega)]
 rw[BitVec.toNat_xor,h1,h2]at h3
 rw[IntKind.wrap_u8];omega
end
section
def qD(xs:List Int):Int:=((jd 0#32 xs).toNat:Int)
def byL(bs:List Int):Nat->Rd->List Int->Rd×List Int
 | 0,r,acc=>(r,acc)
 | n+1,r,acc=>if r.k=0 then(if(tk bs 8 r).1.k=0 then byL bs n (tk bs 8 r).1 (acc++[(tk bs 8 r).2])else((tk bs 8 r).1,acc))else(r,acc)
def txL(bs:List Int):Nat->Rd->List Int->Rd×List Int
 | 0,r,acc=>(r,acc)
 | f+1,r,acc=>if r.k=0 then(if(tk bs 8 r).2=0 then((tk bs 8 r).1,acc)else txL bs f (tk bs 8 r).1 (acc++[(tk bs 8 r).2]))else(r,acc)
def gh1(bs:List Int)(r:Rd):Rd:=bd ((tk bs 8 r).2 != 31) (tk bs 8 r).1
def gh2(bs:List Int)(r:Rd):Rd:=bd ((tk bs 8 (gh1 bs r)).2 != 139) (tk bs 8 (gh1 bs r)).1
def gh3(bs:List Int)(r:Rd):Rd:=bd ((tk bs 8 (gh2 bs r)).2 != 8) (tk bs 8 (gh2 bs r)).1
def gFl(bs:List Int)(r:Rd):Int:=(tk bs 8 (gh3 bs r)).2
def gh4(bs:List Int)(r:Rd):Rd:=bd (decide (31<gFl bs r)) (tk bs 8 (gh3 bs r)).1
def gMt(bs:List Int)(r:Rd):Rd×Int:=tk bs 32 (gh4 bs r)
def gXf(bs:List Int)(r:Rd):Rd×Int:=tk bs 8 (gMt bs r).1
def gOs(bs:List Int)(r:Rd):Rd×Int:=tk bs 8 (gXf bs r).1
def gEx(bs:List Int)(r:Rd):Rd×List Int:=if gFl bs r/4%2=1 then byL bs (tk bs 16 (gOs bs r).1).2.toNat (tk bs 16 (gOs bs r).1).1 []else((gOs bs r).1,[])
def gNa(bs:List Int)(r:Rd):Rd×List Int:=if gFl bs r/8%2=1 then txL bs (bs.length+1) (gEx bs r).1 []else((gEx bs r).1,[])
def gCo(bs:List Int)(r:Rd):Rd×List Int:=if gFl bs r/16%2=1 then txL bs (bs.length+1) (gNa bs r).1 []else((gNa bs r).1,[])
def gHb(bs:List Int)(r:Rd):List Int:=(bs.take ((gCo bs r).1.i/8).toNat).drop (r.i/8).toNat
def gHd(bs:List Int)(r:Rd):Rd:=
 if gFl bs r/2%2=1/\(gCo bs r).1.k=0 then bdK 4 ((tk bs 16 (gCo bs r).1).2 != qD (gHb bs r)%65536) (tk bs 16 (gCo bs r).1).1 else(gCo bs r).1
def gSt(bs:List Int)(told:Nat)(r:Rd):Rd×List Int:=blF bs 0 (100000-told) 32768 (8*bs.length+1) (8*bs.length+1) (gHd bs r) []
def gT1(bs:List Int)(told:Nat)(r:Rd):Rd×Int:=tk bs 32 (alg (gSt bs told r).1)
def gC1(bs:List Int)(told:Nat)(r:Rd):Rd:=bdK 4 ((gT1 bs told r).2 != qD (gSt bs told r).2) (gT1 bs told r).1
def gT2(bs:List Int)(told:Nat)(r:Rd):Rd×Int:=tk bs 32 (gC1 bs told r)
def gC2(bs:List Int)(told:Nat)(r:Rd):Rd:=bdK 4 ((gT2 bs told r).2 != ((gSt bs told r).2.length:Int)) (gT2 bs told r).1
abbrev GM:=Int×Int×Int×Int×List Int×List Int×List Int×Int
def xK(bs:List Int)(told:Nat)(r:Rd):GM:=(gFl bs r,(gMt bs r).2,(gXf bs r).2,(gOs bs r).2,(gEx bs r).2,(gNa bs r).2,(gCo bs r).2,((gSt bs told r).2.length:Int))
def gZ(bs:List Int):Nat->Rd->List Int->List GM->Rd×List Int×List GM
 | 0,r,out,ms=>(r,out,ms)
 | f+1,r,out,ms=>if r.k=0/\(r.i<8*(bs.length:Int)\/ms=[])then
   gZ bs f (gC2 bs out.length r) (out++(gSt bs out.length r).2) (if(gC2 bs out.length r).k=0 then ms++[xK bs out.length r]else ms)
  else(r,out,ms)
def Gm(bs:List Int):Rd×List Int×List GM:=gZ bs (bs.length+2) ⟨0,0⟩ [] []
section
variable {bs : List Int} {r : Rd}
theorem Sg:∀ {n:Nat} {r:Rd} {acc:List Int},okR bs r->okR bs (byL bs n r acc).1
 | 0,r,acc,H=>H
 | n+1,r,acc,H=>by
  unfold byL;split
  ·split
   ·exact Sg (zY H)
   ·exact zY H
  ·exact H
theorem MY:∀ {n:Nat} {r:Rd} {acc:List Int},okR bs r->okR bs (txL bs n r acc).1
 | 0,r,acc,H=>H
 | n+1,r,acc,H=>by
  unfold txL;split
  ·split
   ·exact zY H
   ·exact MY (zY H)
  ·exact H
theorem Si(H:okR bs r):okR bs (gh1 bs r):=j4 (zY H)
theorem Sj(H:okR bs r):okR bs (gh2 bs r):=j4 (zY (Si H))
theorem Sk(H:okR bs r):okR bs (gh3 bs r):=j4 (zY (Sj H))
theorem Sl(H:okR bs r):okR bs (gh4 bs r):=j4 (zY (Sk H))
theorem Sm(H:okR bs r):okR bs (gMt bs r).1:=zY (Sl H)
theorem Sn(H:okR bs r):okR bs (gXf bs r).1:=zY (Sm H)
theorem Jw(H:okR bs r):okR bs (gOs bs r).1:=zY (Sn H)
theorem MZ(H:okR bs r):okR bs (gEx bs r).1:=by
 unfold gEx;split
 ·exact Sg (zY (Jw H))
 ·exact Jw H
theorem Na(H:okR bs r):okR bs (gNa bs r).1:=by
 unfold gNa;split
 ·exact MY (MZ H)
 ·exact MZ H
theorem Nb(H:okR bs r):okR bs (gCo bs r).1:=by
 unfold gCo;split
 ·exact MY (Na H)
 ·exact Na H
theorem Nc(H:okR bs r):okR bs (gHd bs r):=by
 unfold gHd;split
 ·exact ME (by decide) (zY (Nb H))
 ·exact Nb H
theorem Eh:0<=gFl bs r/\gFl bs r<256:=by
 have:=zQ (bs:=bs) (n:=8) (r:=gh3 bs r)
 have e8:(2:Int)^8=256:=by decide
 rw[e8]at this;exact this
end
end
section
variable {S : Shared} {h : Eng.Heap}
def bvI(b:BitVec 32):Value:=.int .u32 b.toNat
theorem AQ(hi:Eng.Inv S h)(b:BitVec 32):zb Tryz.prog S qN #[bvI b] h (fun v h'=>v=bvI (stB b)/\h'=h):=by
 refine Li (vs:=[bvI b]) ⟨rfl,trivial⟩ hi ?_
 simp only[Ho,bvI,Tr.wp,Ex.ev,coerce,toInt_int,zc,zB,arith,Cst.val,SV.den,vA,and_true]
 have e1:∀x:Int,Int.fdiv x (2^(min (1:Int).toNat IntKind.u32.bits))=Int.fdiv x (2^1):=fun x=>rfl
 rw[VC]
 refine⟨fun c=>?_,fun c=>?_⟩
 ·have hb:b.getLsbD 0=true:=by rw[Jv];simp at c ⊢;omega
  rw[e1,Ju,show(3988292384:Int)=((3988292384#32).toNat:Int) by decide,Gl]
  unfold stB;rw[hb];rfl
 ·have hb:b.getLsbD 0=false:=by rw[Jv];simp at c ⊢;omega
  rw[e1,Ju]
  unfold stB;rw[hb];rfl
theorem Ln(hi:Eng.Inv S h)(b:BitVec 32):zb Tryz.prog S Br #[bvI b] h (fun v h'=>v=bvI (stB b)/\h'=h):=by
 refine Ja (vs:=[bvI b]) ⟨rfl,trivial⟩ hi ?_
 simp only[Fb,bvI,Tr.wp,Ex.ev,coerce,toInt_int,zc,zB,arith,Cst.val,SV.den,vA,and_true]
 have hlt:=XI b
 have e1:(b.toNat:Int).tmod 2=(b.toNat:Int)%2:=Int.tmod_eq_emod_of_nonneg (by omega)
 have e2:IntKind.u32.wrap ((b.toNat:Int).tdiv 2)=((b >>> 1).toNat:Int):=by
  rw[Int.tdiv_eq_ediv_of_nonneg (by omega),IntKind.wrap_u32,BitVec.toNat_ushiftRight,Nat.shiftRight_eq_div_pow];omega
 rw[e1,e2]
 refine⟨fun c=>?_,fun c=>?_⟩
 ·have hb:b.getLsbD 0=true:=by rw[Jv];simp at c ⊢;omega
  rw[show(3988292384:Int)=((3988292384#32).toNat:Int) by decide,Gl]
  unfold stB;rw[hb];rfl
 ·have hb:b.getLsbD 0=false:=by rw[Jv];simp at c ⊢;omega
  unfold stB;rw[hb];rfl
theorem Ih(c:BitVec 32){xs:List Int}{i:Nat}(hi:i<xs.length):(xs.take (i+1)).foldl byB c=itB 8 ((xs.take i).foldl byB c ^^^ BitVec.ofInt 32 xs[i]):=Ge byB c hi
theorem Gn{x:Int}(hx:0<=x/\x<256):IntKind.u32.wrap x=x:=by rw[IntKind.wrap_u32];omega
theorem CB(hi:Eng.Inv S h)(b:BitVec 32)(a:Option Addr)(c:Nat)(xs:List Int)(hx:zp h .u8 a xs)(hb:∀x∈xs,0<=x/\x<256)(hl:xs.length<=2^48) :
  zb Tryz.prog S kC #[bvI b,.slice a xs.length c] h (fun v h'=>v=bvI (jd b xs)/\h'=h):=by
 refine FN (vs:=[bvI b,.slice a xs.length c]) ⟨rfl,rfl,trivial⟩ hi ?_
 simp only[Cr,bvI,Tr.wp,zA,Ex.ev,coerce,toInt_int,zc,zg,zk,zh,zf,zV,zB,arith,Cst.val,SV.den,zr,zF,zz,zn,zl,zx,zJ,zt,vF,vG,vA,vB,vC,List.getElem?_cons_succ,decide_eq_true_eq,decide_eq_false_iff_not,vD,vE,vJ,vI,vK,and_true,if_false,vL,Eg]
 refine⟨fun us h'=>∃i:Nat,us=[bvI ((xs.take i).foldl byB (~~~ b)),.int .i64 i]/\i<=xs.length/\h'=h,
  fun us _=>xs.length-(toInt (us.getD 1 undef)).toNat,⟨0,rfl,by omega,rfl⟩,?_⟩
 rintro x y h' ⟨i,hx1,hi2,rfl⟩
 simp only[bvI,List.cons.injEq,Value.int.injEq,true_and,and_true]at hx1
 obtain⟨rfl,rfl⟩:=hx1
 refine⟨fun hlt=>?_,fun hge=>?_⟩
 ·have hi3:i<xs.length:=by omega
  have hbi:=hb _ (List.getElem_mem hi3)
  obtain⟨g1,g2⟩:=hx.cell (List.getElem?_eq_getElem hi3)
  have w2:IntKind.i64.wrap ((i:Int)+1)=((i+1:Nat):Int):=by rw[i64_in _ (by omega)];omega
  refine⟨by simpa using g2,by omega,by omega,xs[i],by simpa[add_add]using g1,?_⟩
  rw[Gn hbi,xor_bv']
  refine⟨fun us h2=>∃k:Nat,us=[bvI (itB k ((xs.take i).foldl byB (~~~ b) ^^^ BitVec.ofInt 32 xs[i])),.int .i64 k]/\k<=8/\h2=h',
   fun us _=>8-(toInt (us.getD 1 undef)).toNat,⟨0,rfl,by omega,rfl⟩,?_⟩
  rintro x y h2 ⟨k,hx1,hk,rfl⟩
  simp only[bvI,List.cons.injEq,Value.int.injEq,true_and,and_true]at hx1
  obtain⟨rfl,rfl⟩:=hx1
  refine⟨fun hlt2=>?_,fun hge=>?_⟩
  ·refine(Ln hi _).mono ?_
   rintro _ h3 ⟨rfl,rfl⟩
   have w3:IntKind.i64.wrap ((k:Int)+1)=((k+1:Nat):Int):=by rw[i64_in _ (by omega)];omega
   refine⟨_,rfl,⟨k+1,?_,by omega,rfl⟩,?_⟩
   ·rw[w3,C9];rfl
   ·simp only[w3,vB,vA,toInt_int,Int.toNat_natCast];omega
  ·obtain rfl:k=8:=by omega
   refine⟨⟨i+1,?_,by omega,rfl⟩,?_⟩
   ·rw[w2,Ih _ hi3];rfl
   ·simp only[w2,vB,vA,toInt_int,Int.toNat_natCast];omega
 ·obtain rfl:i=xs.length:=by omega
  refine⟨?_,rfl⟩
  rw[List.take_length,Eg];rfl
end
section
variable {S : Shared} {h : Eng.Heap}
def j1(i:Nat):List Int:=(List.range 256).map fun j=>if j<i then((itB 8 (BitVec.ofNat 32 j)).toNat:Int)else 0
theorem Nd(i:Nat):(j1 i).length=256:=by simp[j1]
theorem So:j1 0=List.replicate 256 0:=by
 refine List.ext_getElem? fun j=>?_
 unfold j1
 rw[List.getElem?_map,List.getElem?_replicate]
 by_cases h:j<256
 ·simp[h]
 ·simp[h]
theorem Sq{i:Nat}(hi:i<256):(j1 i).set i ((itB 8 (BitVec.ofNat 32 i)).toNat:Int)=j1 (i+1):=by
 refine List.ext_getElem? fun j=>?_
 rw[List.getElem?_set]
 unfold j1
 simp only[List.length_map,List.length_range,List.getElem?_map]
 by_cases h:i=j
 ·subst h;simp[hi]
 ·simp only[h,if_false]
  by_cases hj:j<256
  ·have:(j<i)<->(j<i+1):=by omega
   simp[hj,this]
  ·simp[hj]
theorem Uu{j:Nat}(hj:j<256):(j1 256)[j]? = some ((itB 8 (BitVec.ofNat 32 j)).toNat:Int):=by
 unfold j1;simp[hj]
theorem Xa{k:IntKind}{b:Nat}{T:TypeId}{n:Nat}{vs:List Value}{K:Eng.Heap->Prop}{h0:Eng.Heap}(hb:h0 b=some (.cells (Eng.ints k (List.replicate n 0)) T))(hs:¬S b)(e:vs=(List.replicate n 0).map (Value.int k))(hK:K h0) :
  zL S ⟨b,0,none⟩ 0 vs h0 K:=by
 subst e
 refine jQ hs (List.replicate n 0) 0 h0 (List.replicate n 0) hb (by simp) ?_
 have:xP (List.replicate n (0:Int)) (0+0) (List.replicate n 0)=List.replicate n 0:=by simp[xP]
 rw[this,jP hb];exact hK
theorem Jx(hi:Eng.Inv S h)(b0:BitVec 32)(a:Option Addr)(c:Nat)(xs:List Int)(hx:zp h .u8 a xs)(hb:∀x∈xs,0<=x/\x<256)(hl:xs.length<=2^48) :
  zb Tryz.prog S BE #[bvI b0,.slice a xs.length c] h (fun v h'=>v=bvI (jd b0 xs)/\Eng.Sub h h'):=by
 refine Ml (vs:=[bvI b0,.slice a xs.length c]) ⟨rfl,rfl,trivial⟩ hi ?_
 unfold Jb
 refine fun b hnb=>?_
 have hsb:¬S b:=BD hi hnb
 have eb:yp [bvI b0,.slice a xs.length c] [(256,(.cst (.int .u32 0)))]=(List.replicate 256 (0:Int)).map (Value.int .u32):=by
  simp[yp,Ex.ev,Cst.val]
 rw[eb]
 refine Xa (k:=.u32) (n:=256) (b:=b) upd_same hsb (by rfl) ?_
 have s0:∀o,Eng.Sub h (upd h b o):=fun o=>Sub.zE hnb
 have hread:∀i,zp (upd h b (.cells (Eng.ints .u32 (j1 i)) 173)) .u8 a xs:=fun i=>hx.upd hnb
 have hinv:∀i,Eng.Inv S (upd h b (.cells (Eng.ints .u32 (j1 i)) 173)):=fun i=>hi.upd
 have gen:∀q:BitVec 32,q.toNat<256->ze (upd h b (.cells (Eng.ints .u32 (j1 256)) 173)) (((⟨b,0,none⟩:Addr).add ((q.toNat:Int).toNat*1)).add 0)=some (.int .u32 ((itB 8 (BitVec.ofNat 32 q.toNat)).toNat:Int)):=fun q hq=>by
  have g3:=Uu hq
  generalize ((itB 8 (BitVec.ofNat 32 q.toNat)).toNat:Int)=e at g3 ⊢
  rw[add_add,zS]
  simp[ze,upd_same,Eng.ints,g3]
 have ez:upd h b (.cells (List.map (Value.int .u32) (List.replicate 256 0)).toArray 173)=upd h b (.cells (Eng.ints .u32 (j1 0)) 173):=by rw[So];rfl
 simp only[Tr.wp,zA,Ex.ev,coerce,toInt_int,zc,zg,zk,zh,zf,zV,zB,arith,Cst.val,SV.den,zr,zF,zz,zn,zl,zx,zJ,zt,vF,vG,vA,vB,vC,List.getElem?_cons_succ,decide_eq_true_eq,decide_eq_false_iff_not,vD,vE,vJ,vI,vK,and_true,if_false,vL]
 refine⟨fun h64=>⟨fun us h'=>∃i:Nat,us=[.int .i64 i]/\i<=256/\h'=upd h b (.cells (Eng.ints .u32 (j1 i)) 173),fun us _=>256-(toInt (us.getD 0 undef)).toNat,⟨0,rfl,by omega,ez⟩,?_⟩,fun hlt _=>?_⟩
 ·rintro x h' ⟨j,hx1,hi2,rfl⟩
  simp only[List.cons.injEq,Value.int.injEq,true_and,and_true]at hx1
  subst hx1
  refine⟨fun hlt=>?_,fun hge _=>?_⟩
  ·have hi3:j<256:=by omega
   have w0:IntKind.u32.wrap (j:Int)=((BitVec.ofNat 32 j).toNat:Int):=by rw[IntKind.wrap_u32,BitVec.toNat_ofNat];omega
   rw[w0]
   have w2:IntKind.i64.wrap ((j:Int)+1)=((j+1:Nat):Int):=by rw[i64_in _ (by omega)];omega
   refine⟨fun us h2=>∃k:Nat,us=[bvI (itB k (BitVec.ofNat 32 j)),.int .i64 k]/\k<=8/\h2=upd h b (.cells (Eng.ints .u32 (j1 j)) 173),
    fun us _=>8-(toInt (us.getD 1 undef)).toNat,⟨0,rfl,by omega,rfl⟩,?_⟩
   rintro x y h2 ⟨k,hx1,hk,rfl⟩
   simp only[bvI,List.cons.injEq,Value.int.injEq,true_and,and_true]at hx1
   obtain⟨rfl,rfl⟩:=hx1
   refine⟨fun hlt2=>?_,fun hge=>?_⟩
   ·refine(AQ (hinv j) _).mono ?_
    rintro _ h3 ⟨rfl,rfl⟩
    have w3:IntKind.i64.wrap ((k:Int)+1)=((k+1:Nat):Int):=by rw[i64_in _ (by omega)];omega
    refine⟨_,rfl,⟨k+1,?_,by omega,rfl⟩,?_⟩
    ·rw[w3,C9];rfl
    ·simp only[w3,vB,vA,toInt_int,Int.toNat_natCast];omega
   ·obtain rfl:k=8:=by omega
    refine⟨by omega,by omega,?_⟩
    rw[zS]
    refine jQ (T:=173) (k:=.u32) hsb [((itB 8 (BitVec.ofNat 32 j)).toNat:Int)] 0 _ (j1 j) upd_same (by simp[Nd];omega) ?_
    rw[xA]
    have es:xP (j1 j) ((j:Int).toNat*1+0) [((itB 8 (BitVec.ofNat 32 j)).toNat:Int)]=j1 (j+1):=by
     rw[<-Sq hi3,show(j:Int).toNat*1+0=j by omega]
     unfold xP
     rw[List.set_eq_take_append_cons_drop,if_pos (by rw[Nd];exact hi3)]
     simp
    rw[es,w2]
    refine⟨⟨j+1,rfl,by omega,rfl⟩,?_⟩
    simp only[vA,toInt_int,Int.toNat_natCast];omega
  ·have hj:64<=xs.length->j=256:=fun _=>by omega
   refine⟨fun us h'=>∃i:Nat,us=[bvI ((xs.take i).foldl byB (~~~ b0)),.int .i64 i]/\i<=xs.length/\h'=upd h b (.cells (Eng.ints .u32 (j1 j)) 173),
    fun us _=>xs.length-(toInt (us.getD 1 undef)).toNat,⟨0,by simp only[bvI,toInt_int,Eg];rfl,by omega,rfl⟩,?_⟩
   rintro x y h' ⟨i,hx1,hi2,rfl⟩
   simp only[bvI,List.cons.injEq,Value.int.injEq,true_and,and_true]at hx1
   obtain⟨rfl,rfl⟩:=hx1
   refine⟨fun hlt=>?_,fun hge=>?_⟩
   ·have hi3:i<xs.length:=by omega
    have hbi:=hb _ (List.getElem_mem hi3)
    obtain⟨g1,g2⟩:=(hread j).cell (List.getElem?_eq_getElem hi3)
    have w2:IntKind.i64.wrap ((i:Int)+1)=((i+1:Nat):Int):=by rw[i64_in _ (by omega)];omega
    refine⟨by simpa using g2,by omega,by omega,xs[i],by simpa[add_add]using g1,fun h64=>?_,fun h64=>?_⟩
    ·obtain rfl:=hj (by omega)
     obtain⟨l1,l2⟩:=Sf ((xs.take i).foldl byB (~~~ b0)) hbi
     rw[l1]
     generalize hz:((xs.take i).foldl byB (~~~ b0))=z at l1 l2 ⊢
     refine⟨by omega,by omega,((itB 8 (BitVec.ofNat 32 ((z &&& 255#32) ^^^ BitVec.ofInt 32 xs[i]).toNat)).toNat:Int),?_,?_⟩
     ·exact gen _ l2
     ·have e8:Int.fdiv (z.toNat:Int) (2^min (Int.toNat 8) IntKind.u32.bits)=((z >>> 8).toNat:Int):=Ju z 8
      rw[BitVec.ofNat_toNat,BitVec.setWidth_eq,e8,Gl,KX z xs[i] hbi,w2]
      refine⟨⟨i+1,?_,by omega,rfl⟩,?_⟩
      ·rw[Ge byB (~~~ b0) hi3,hz];rfl
      ·simp only[vB,vA,toInt_int,Int.toNat_natCast];omega
    ·rw[Gn hbi,xor_bv']
     refine⟨fun us h2=>∃k:Nat,us=[bvI (itB k ((xs.take i).foldl byB (~~~ b0) ^^^ BitVec.ofInt 32 xs[i])),.int .i64 k]/\k<=8/\h2=upd h b (.cells (Eng.ints .u32 (j1 j)) 173),
      fun us _=>8-(toInt (us.getD 1 undef)).toNat,⟨0,rfl,by omega,rfl⟩,?_⟩
     rintro x y h2 ⟨k,hx1,hk,rfl⟩
     simp only[bvI,List.cons.injEq,Value.int.injEq,true_and,and_true]at hx1
     obtain⟨rfl,rfl⟩:=hx1
     refine⟨fun hlt2=>?_,fun hge=>?_⟩
     ·refine(AQ (hinv j) _).mono ?_
      rintro _ h3 ⟨rfl,rfl⟩
      have w3:IntKind.i64.wrap ((k:Int)+1)=((k+1:Nat):Int):=by rw[i64_in _ (by omega)];omega
      refine⟨_,rfl,⟨k+1,?_,by omega,rfl⟩,?_⟩
      ·rw[w3,C9];rfl
      ·simp only[w3,vB,vA,toInt_int,Int.toNat_natCast];omega
     ·obtain rfl:k=8:=by omega
      refine⟨⟨i+1,?_,by omega,rfl⟩,?_⟩
      ·rw[w2,Ih _ hi3];rfl
      ·simp only[w2,vB,vA,toInt_int,Int.toNat_natCast];omega
   ·obtain rfl:i=xs.length:=by omega
    refine⟨?_,s0 _⟩
    rw[List.take_length,Eg];rfl
 ·obtain⟨j,hj,e⟩:∃j,(64<=xs.length->j=256)/\upd h b (.cells (List.map (Value.int .u32) (List.replicate 256 0)).toArray 173)=upd h b (.cells (Eng.ints .u32 (j1 j)) 173):=⟨0,by omega,ez⟩
  rw[e]
  refine⟨fun us h'=>∃i:Nat,us=[bvI ((xs.take i).foldl byB (~~~ b0)),.int .i64 i]/\i<=xs.length/\h'=upd h b (.cells (Eng.ints .u32 (j1 j)) 173),
   fun us _=>xs.length-(toInt (us.getD 1 undef)).toNat,⟨0,by simp only[bvI,toInt_int,Eg];rfl,by omega,rfl⟩,?_⟩
  rintro x y h' ⟨i,hx1,hi2,rfl⟩
  simp only[bvI,List.cons.injEq,Value.int.injEq,true_and,and_true]at hx1
  obtain⟨rfl,rfl⟩:=hx1
  refine⟨fun hlt=>?_,fun hge=>?_⟩
  ·have hi3:i<xs.length:=by omega
   have hbi:=hb _ (List.getElem_mem hi3)
   obtain⟨g1,g2⟩:=(hread j).cell (List.getElem?_eq_getElem hi3)
   have w2:IntKind.i64.wrap ((i:Int)+1)=((i+1:Nat):Int):=by rw[i64_in _ (by omega)];omega
   refine⟨by simpa using g2,by omega,by omega,xs[i],by simpa[add_add]using g1,fun h64=>?_,fun h64=>?_⟩
   ·obtain rfl:=hj (by omega)
    obtain⟨l1,l2⟩:=Sf ((xs.take i).foldl byB (~~~ b0)) hbi
    rw[l1]
    generalize hz:((xs.take i).foldl byB (~~~ b0))=z at l1 l2 ⊢
    refine⟨by omega,by omega,((itB 8 (BitVec.ofNat 32 ((z &&& 255#32) ^^^ BitVec.ofInt 32 xs[i]).toNat)).toNat:Int),?_,?_⟩
    ·exact gen _ l2
    ·have e8:Int.fdiv (z.toNat:Int) (2^min (Int.toNat 8) IntKind.u32.bits)=((z >>> 8).toNat:Int):=Ju z 8
     rw[BitVec.ofNat_toNat,BitVec.setWidth_eq,e8,Gl,KX z xs[i] hbi,w2]
     refine⟨⟨i+1,?_,by omega,rfl⟩,?_⟩
     ·rw[Ge byB (~~~ b0) hi3,hz];rfl
     ·simp only[vB,vA,toInt_int,Int.toNat_natCast];omega
   ·rw[Gn hbi,xor_bv']
    refine⟨fun us h2=>∃k:Nat,us=[bvI (itB k ((xs.take i).foldl byB (~~~ b0) ^^^ BitVec.ofInt 32 xs[i])),.int .i64 k]/\k<=8/\h2=upd h b (.cells (Eng.ints .u32 (j1 j)) 173),
     fun us _=>8-(toInt (us.getD 1 undef)).toNat,⟨0,rfl,by omega,rfl⟩,?_⟩
    rintro x y h2 ⟨k,hx1,hk,rfl⟩
    simp only[bvI,List.cons.injEq,Value.int.injEq,true_and,and_true]at hx1
    obtain⟨rfl,rfl⟩:=hx1
    refine⟨fun hlt2=>?_,fun hge=>?_⟩
    ·refine(AQ (hinv j) _).mono ?_
     rintro _ h3 ⟨rfl,rfl⟩
     have w3:IntKind.i64.wrap ((k:Int)+1)=((k+1:Nat):Int):=by rw[i64_in _ (by omega)];omega
     refine⟨_,rfl,⟨k+1,?_,by omega,rfl⟩,?_⟩
     ·rw[w3,C9];rfl
     ·simp only[w3,vB,vA,toInt_int,Int.toNat_natCast];omega
    ·obtain rfl:k=8:=by omega
     refine⟨⟨i+1,?_,by omega,rfl⟩,?_⟩
     ·rw[w2,Ih _ hi3];rfl
     ·simp only[w2,vB,vA,toInt_int,Int.toNat_natCast];omega
  ·obtain rfl:i=xs.length:=by omega
   refine⟨?_,s0 _⟩
   rw[List.take_length,Eg];rfl
theorem VD(hi:Eng.Inv S h)(a:Option Addr)(c:Nat)(xs:List Int)(hx:zp h .u8 a xs)(hb:∀x∈xs,0<=x/\x<256)(hl:xs.length<=2^48) :
  zb Tryz.prog S qz #[.slice a xs.length c] h (fun v h'=>v=bvI (jd 0#32 xs)/\Eng.Sub h h'):=by
 refine Ew (vs:=[.slice a xs.length c]) ⟨rfl,trivial⟩ hi ?_
 simp only[Ba,Tr.wp,zA,Ex.ev,coerce,toInt_int,zg,zk,zh,Cst.val,SV.den,zr,zF,zz,zn,zl,zx,vF,vG,vA,vB,vD,vE,vJ,vI,vK,if_false,vL]
 refine(Jx hi 0#32 a c xs hx hb hl).mono ?_
 rintro _ h' ⟨rfl,s⟩
 exact⟨_,rfl,rfl,s⟩
theorem Kl(hi:Eng.Inv S h)(p q:BitVec 32)(n:Nat)(hn:n<=1000000) :
  zb Tryz.prog S AD #[bvI p,bvI q,.int .i64 n] h (fun v h'=>v=bvI (itB (8*n) p ^^^ q)/\h'=h):=by
 refine HQ (vs:=[bvI p,bvI q,.int .i64 n]) ⟨rfl,rfl,rfl,trivial⟩ hi ?_
 simp only[DQ,bvI,Tr.wp,zA,Ex.ev,coerce,toInt_int,zc,AJ,zB,arith,Cst.val,SV.den,zr,zF,zz,zn,zl,zx,zJ,vF,vG,vA,vB,vC,List.getElem?_cons_succ,decide_eq_true_eq,decide_eq_false_iff_not,vD,vE,vJ,vI,vK,and_true,if_false,vL]
 refine⟨fun c=>?_,fun _=>?_⟩
 ·simp only[Bool.or_eq_true,decide_eq_true_eq]at c
  omega
 ·have w8:IntKind.i64.wrap (8*(n:Int))=((8*n:Nat):Int):=by rw[i64_in _ (by omega)];omega
  refine⟨fun us h2=>∃k:Nat,us=[bvI (itB k p),.int .i64 k]/\k<=8*n/\h2=h,fun us _=>8*n-(toInt (us.getD 1 undef)).toNat,⟨0,rfl,by omega,rfl⟩,?_⟩
  rintro x y h2 ⟨k,hx1,hk,rfl⟩
  simp only[bvI,List.cons.injEq,Value.int.injEq,true_and,and_true]at hx1
  obtain⟨rfl,rfl⟩:=hx1
  rw[w8]
  refine⟨fun hlt2=>?_,fun hge=>?_⟩
  ·refine(AQ hi _).mono ?_
   rintro _ h3 ⟨rfl,rfl⟩
   have w3:IntKind.i64.wrap ((k:Int)+1)=((k+1:Nat):Int):=by rw[i64_in _ (by omega)];omega
   refine⟨_,rfl,⟨k+1,?_,by omega,rfl⟩,?_⟩
   ·rw[w3,C9];rfl
   ·simp only[w3,vB,vA,toInt_int,Int.toNat_natCast];omega
  ·obtain rfl:k=8*n:=by omega
   rw[Gl]
   exact⟨rfl,rfl⟩
end
section
variable {S : Shared} {h : Eng.Heap}
set_option maxRecDepth 100000
theorem CC{s:Nat->Prop}(hi:Eng.Inv (yo Tryz.prog s) h)(b0:BitVec 32)(a:Option Addr)(c:Nat)(xs:List Int)(hb:okB xs)(hx:zp h .u8 a xs)(hc:xs.length<=c)(hl:xs.length<2^40) :
  zb Tryz.prog (yo Tryz.prog s) kG #[bvI b0,.slice a xs.length c] h (fun v h'=>v=bvI (jd b0 xs)/\Eng.Sub h h'):=by
 refine FO (vs:=[bvI b0,.slice a xs.length c]) ⟨rfl,rfl,trivial⟩ hi ?_
 simp only[Cs,bvI,Tr.wp,zA,Ex.ev,coerce,toInt_int,zc,zg,zk,zh,zf,zV,zB,arith,Cst.val,SV.den,zr,zF,zz,zn,zl,zx,zJ,zt,vF,vG,vA,vB,vC,List.getElem?_cons_succ,decide_eq_true_eq,decide_eq_false_iff_not,vD,vE,vJ,vI,vK,List.length_cons,List.length_nil,Nat.zero_add,and_true,if_true,if_false,vL]
 refine⟨fun hle=>?_,fun hgt=>?_⟩
 ·refine(Jx hi b0 a c xs hx hb (by omega)).mono ?_
  rintro _ h' ⟨rfl,s⟩
  exact⟨_,rfl,rfl,s⟩
 ·obtain⟨n,hn⟩:∃n,n=(xs.length+32767)/32768:=⟨_,rfl⟩
  refine(Ki (g:=qz) (F:=fun ys=>((jd 0#32 ys).toNat:Int)) hi hx hc hl (fun S' h' a' c' ys hi' hx' hl' hm=>VD hi' a' c' ys hx' (fun y hy=>hb y (hm y hy)) (by omega)) hn).mono ?_
  rintro _ h1 ⟨bC,bS,rfl,e1,e2,s1⟩
  have i1:Eng.Inv (yo Tryz.prog s) h1:=fun y hy=>by
   cases e:h y with
   | none=>exact absurd e (hi y hy)
   | some o=>rw[s1 y o e];simp
  refine⟨_,_,_,_,_,_,rfl,fun us h2=>∃j:Nat,us=[bvI (jd b0 (xs.take (min (j*32768) xs.length))),.int .i64 j]/\j<=n/\h2=h1,fun us _=>n-(toInt (us.getD 1 undef)).toNat,⟨0,by simp[bvI,jd],by omega,rfl⟩,?_⟩
  rintro x y h2 ⟨j,hx1,hj,rfl⟩
  simp only[bvI,List.cons.injEq,Value.int.injEq,true_and,and_true]at hx1
  obtain⟨rfl,rfl⟩:=hx1
  refine⟨fun hlt=>?_,fun hge=>?_⟩
  ·have hjn:j<n:=by omega
   have w2:IntKind.i64.wrap ((j:Int)+1)=((j+1:Nat):Int):=by rw[i64_in _ (by omega)];omega
   have c1:ze h2 (((((some (⟨bC,0,none⟩:Addr)).getD default).add ((j:Int).toNat*1))).add 0)=some (bvI (jd 0#32 (partOf xs j))):=by
    simp[zo,ze,e1,Qk,hjn,bvI]
   have c2:ze h2 (((((some (⟨bS,0,none⟩:Addr)).getD default).add ((j:Int).toNat*1))).add 0)=some (.int .i64 (kX xs.length j)):=by
    simp[zo,ze,e2,szv,hjn]
   refine⟨rfl,by omega,by omega,_,c1,rfl,by omega,by omega,_,c2,?_⟩
   have hpl:kX xs.length j<=1000000:=by unfold kX;omega
   refine(Kl i1 _ _ _ hpl).mono ?_
   rintro _ h3 ⟨rfl,rfl⟩
   refine⟨_,rfl,⟨j+1,?_,by omega,rfl⟩,?_⟩
   ·have J:=Ob (jd b0 (xs.take (min (j*32768) xs.length))) (partOf xs j)
    rw[B9]at J
    rw[w2,Sd xs hn hjn,J,Ut];rfl
   ·simp only[w2,vB,vA,toInt_int,Int.toNat_natCast];omega
  ·obtain rfl:j=n:=by omega
   refine⟨?_,s1⟩
   rw[show min (j*32768) xs.length=xs.length by omega,List.take_length]
end
section
section
variable {S : Shared} {h h0 : Eng.Heap}
structure ErrS(h:Eng.Heap):Prop where
 el:ErrL h
 e4:ze h ⟨2,0,none⟩=some (.int .i64 4)
theorem ErrS.sub{h':Eng.Heap}(H:ErrS h)(s:Eng.Sub h h'):ErrS h':=⟨H.el.sub s,xO s H.e4⟩
theorem ErrZ.s(H:ErrZ h):ErrS h:=⟨H.el,H.e4⟩
section
variable {bm : Nat} {a : Option Addr} {c : Nat} {bs : List Int} {m : MC} {T : TypeId}
def MP(h0 h:Eng.Heap)(bm:Nat)(a:Option Addr)(c:Nat)(bs:List Int)(m:MC)(T:TypeId)(r:Rd):Prop:=
 ∃p:Nat,p<=8*bs.length/\(r.k=0->r=⟨(p:Int),0⟩)/\MAt h0 h bm a c bs p m T
theorem MP.upd'{h':Eng.Heap}{r:Rd}(H:MP h0 h bm a c bs m T r)(e:h' bm=h bm)(s:Eng.Sub h0 h'):MP h0 h' bm a c bs m T r:=by
 obtain⟨p,h1,h2,M⟩:=H
 exact⟨p,h1,h2,⟨e.trans M.hb,M.nb,s⟩⟩
theorem Nf{n:Nat}{p:Nat}(hp:p<=8*bs.length):∃q:Nat,q<=8*bs.length/\(tk bs n ⟨(p:Int),0⟩).1.i=q:=by
 unfold tk
 rw[if_pos rfl]
 split
 ·exact⟨p,hp,rfl⟩
 ·rename_i h;simp only at h;exact⟨p+n,by omega,by simp only;omega⟩
theorem Ql{r:Rd}{p:Nat}(h1:r.i=p)(h2:r.k=0):r=⟨(p:Int),0⟩:=by
 obtain⟨i,k⟩:=r
 simp only at h1 h2
 rw[h1,h2]
theorem Nh(hi:Eng.Inv S h0)(G:Errs h0)(hx:zp h0 .u8 a bs)(L:bs.length<=1048576){r:Rd}(M:MP h0 h bm a c bs m T r)(hk:r.k=0)(n:Nat)(hn:n<=32) :
  zb Tryz.prog S zC #[.pointer (some ⟨bm,0,none⟩),.int .i64 n] h (fun v h'=>v=.tuple #[.int .i64 (tk bs n r).2,z8 (tk bs n r).1.k]/\MP h0 h' bm a c bs m T (tk bs n r).1/\∀y,y≠bm->h' y=h y):=by
 obtain⟨p,hp,hr,M⟩:=M
 obtain rfl:=hr hk
 refine zb.mono (EA hi G hx L p hp n hn M) ?_
 rintro _ h1 ⟨rfl,rfl⟩
 obtain⟨q,hq,eq⟩:=Nf (bs:=bs) (n:=n) hp
 exact⟨rfl,⟨q,hq,fun h=>Ql eq h,by rw[eq];exact M.keep rfl⟩,fun y hy=>upd_ne hy⟩
structure HC(h:Eng.Heap)(bm bF bE:Nat)(k:Int):Prop where
 f:∃TF,h bF=some (.cells #[.pointer (some ⟨bm,0,none⟩)] TF)
 e:∃TE,h bE=some (.cells #[z8 k] TE)
theorem EI{b:Nat}{v w:Value}{T:TypeId}(hb:h b=some (.cells #[v] T)):zw h ⟨b,0,none⟩ w=upd h b (.cells #[w] T):=by rw[hset_cells' hb];rfl
theorem Xb(hi:Eng.Inv S h0)(G:Errs h0)(hx:zp h0 .u8 a bs)(L:bs.length<=1048576){r:Rd}(M:MP h0 h bm a c bs m T r){bF bE:Nat}(hE:h0 bE=none)(ne1:bm≠bF)(ne2:bm≠bE)(ne3:bF≠bE)(C:HC h bm bF bE r.k)(n:Nat)(hn:n<=4) :
  zb Tryz.prog S zT #[.int .i64 n,.pointer (some ⟨bE,0,none⟩),.pointer (some ⟨bF,0,none⟩)] h (fun v h'=>v=.int .i64 (tk bs (8*n) r).2/\MP h0 h' bm a c bs m T (tk bs (8*n) r).1/\HC h' bm bF bE (tk bs (8*n) r).1.k/\∀y,y≠bm->y≠bE->h' y=h y):=by
 have M0:=M
 obtain⟨p,hp,hr,M⟩:=M
 obtain⟨⟨TF,cF⟩,⟨TE,cE⟩⟩:=C
 have hsE:¬S bE:=fun hs=>hi bE hs hE
 refine Dv (vs:=[.int .i64 n,.pointer (some ⟨bE,0,none⟩),.pointer (some ⟨bF,0,none⟩)]) ⟨rfl,rfl,rfl,trivial⟩ (hi.sub M.sb) ?_
 simp only[Ag,Tr.wp,zA,Ex.ev,coerce,toInt_int,zc,zf,zG,yb,arith,Cst.val,SV.den,zr,zF,zz,zn,zl,zx,zt,zL,vF,vG,vA,vB,vC,vD,vE,vJ,vI,vK,List.length_cons,List.length_nil,Nat.zero_add,Nat.add_zero,and_true,if_true,if_false,vL,zo]
 have gE:ze h ⟨bE,0,none⟩=some (z8 r.k):=by simp[ze,cE]
 have gF:ze h ⟨bF,0,none⟩=some (.pointer (some ⟨bm,0,none⟩)):=by simp[ze,cF]
 refine⟨z8 r.k,za,by first | exact gE | (rw[za];exact gE),fun hz=>?_,fun hz=>?_⟩
 ·rw[za,zu]at hz
  have hk:r.k=0:=by simpa using hz
  have w:IntKind.i64.wrap (8*(n:Int))=((8*n:Nat):Int):=by rw[i64_in _ (by omega)];omega
  refine⟨_,gF,by simp,?_⟩
  rw[w]
  refine zb.mono (Nh hi G hx L M0 hk (8*n) (by omega)) ?_
  rintro _ h1 ⟨rfl,M1,f1⟩
  have cE1:h1 bE=some (.cells #[z8 r.k] TE):=(f1 bE (Ne.symm ne2)).trans cE
  have gE1:ze h1 ⟨bE,0,none⟩=some (z8 r.k):=by simp[ze,cE1]
  refine⟨_,z8 (tk bs (8*n) r).1.k,za,by rw[za],⟨⟨_,gE1⟩,by simp[yf,cE1],hsE⟩,?_⟩
  rw[za,EI cE1]
  intro _
  obtain⟨p1,hp1,hr1,M1⟩:=M1
  refine⟨rfl,⟨p1,hp1,hr1,⟨(upd_ne ne2).trans M1.hb,M1.nb,ym M1.sb hE⟩⟩,⟨⟨TF,(upd_ne ne3).trans ((f1 bF (Ne.symm ne1)).trans cF)⟩,⟨TE,upd_same⟩⟩,fun y h1 h2=>(upd_ne h2).trans (f1 y h1)⟩
 ·rw[za,zu]at hz
  have hk:r.k≠0:=by simpa using hz
  intro _
  rw[wM hk]
  exact⟨rfl,M0,⟨⟨TF,cF⟩,⟨TE,cE⟩⟩,fun _ _ _=>by first | trivial | rfl⟩
theorem VE(hi:Eng.Inv S h0)(G:Errs h0){r:Rd}(M:MP h0 h bm a c bs m T r){bF bE:Nat}(hE:h0 bE=none)(ne2:bm≠bE)(ne3:bF≠bE)(C:HC h bm bF bE r.k)(w:Bool) :
  zb Tryz.prog S yH #[.bool w,.pointer (some ⟨bE,0,none⟩)] h (fun v h'=>v=.tuple #[]/\MP h0 h' bm a c bs m T (bd (!w) r)/\HC h' bm bF bE (bd (!w) r).k/\∀y,y≠bE->h' y=h y):=by
 have M0:=M
 obtain⟨p,hp,hr,M⟩:=M
 have C0:=C
 obtain⟨⟨TF,cF⟩,⟨TE,cE⟩⟩:=C
 have hsE:¬S bE:=fun hs=>hi bE hs hE
 refine Dw (vs:=[.bool w,.pointer (some ⟨bE,0,none⟩)]) ⟨rfl,rfl,trivial⟩ (hi.sub M.sb) ?_
 simp only[Ah,Tr.wp,Ex.ev,coerce,toInt_int,zc,zf,xq,Cst.val,SV.den,zx,zt,zL,vA,vB,vC,vD,vE,vJ,vI,Nat.add_zero,and_true,true_and,zo]
 have gE:ze h ⟨bE,0,none⟩=some (z8 r.k):=by simp[ze,cE]
 refine⟨z8 r.k,za,by first | exact gE | (rw[za];exact gE),fun hz=>?_,fun hz=>?_⟩
 ·rw[za,zu]at hz
  have hz:r.k=0/\w=false:=by simpa using hz
  have eb:bd (!w) r=⟨r.i,3⟩:=by unfold bd;rw[if_pos ⟨hz.1,by rw[hz.2];rfl⟩]
  rw[eb]
  refine⟨3,(G.sub M.sb).e3,⟨⟨_,gE⟩,by simp[yf,cE],hsE⟩,?_⟩
  rw[EI cE]
  intro _
  exact⟨⟨p,hp,fun h=>(by cases h),⟨(upd_ne ne2).trans M.hb,M.nb,ym M.sb hE⟩⟩,⟨⟨TF,(upd_ne ne3).trans cF⟩,⟨TE,upd_same⟩⟩,fun y h2=>upd_ne h2⟩
 ·rw[za,zu]at hz
  have eb:bd (!w) r=r:=by
   unfold bd
   rw[if_neg (fun e=>by rw[e.1]at hz;have:=e.2;cases w <;> simp at this hz)]
  rw[eb]
  intro _
  exact⟨M0,C0,fun _ _=>by first | trivial | rfl⟩
theorem Km{n:Nat}{r:Rd}{acc:List Int}(h:r.k≠0):txL bs n r acc=(r,acc):=by
 cases n with
 | zero=>rfl
 | succ n=>unfold txL;rw[if_neg h]
theorem Kn{n:Nat}{r:Rd}{acc:List Int}(h:r.k≠0):byL bs n r acc=(r,acc):=by
 cases n with
 | zero=>rfl
 | succ n=>unfold byL;rw[if_neg h]
def PB(h0 h:Eng.Heap)(bm:Nat)(a:Option Addr)(c:Nat)(bs:List Int)(m:MC)(T:TypeId)(X:Rd×List Int)(v:Value)(h':Eng.Heap):Prop:=
 ∃u:Value,(∃a1 l1 c1,u=.slice a1 l1 c1)/\v=.tuple #[u,z8 X.1.k]/\(X.1.k=0->Part .u8 h' u X.2)/\(∀y,zd u=some y->h y=none)/\MP h0 h' bm a c bs m T X.1/\(∀y,h y≠none->y≠bm->h' y=h y)/\Eng.Sub h0 h'
theorem VF(hi:Eng.Inv S h0)(G:Errs h0)(hx:zp h0 .u8 a bs)(L:bs.length<=65536){r:Rd}(M:MP h0 h bm a c bs m T r)(hk:r.k=0)(n:Nat)(hn:n<65536) :
  zb Tryz.prog S kZ #[.pointer (some ⟨bm,0,none⟩),.int .i64 n] h (PB h0 h bm a c bs m T (byL bs n r [])):=by
 obtain⟨p0,hp0,hr0,MA⟩:=M
 have hbm:h bm≠none:=by rw[MA.hb];simp
 refine DS (vs:=[.pointer (some ⟨bm,0,none⟩),.int .i64 n]) ⟨rfl,rfl,trivial⟩ (hi.sub MA.sb) ?_
 simp only[At,Tr.wp,zA,Ex.ev,coerce,toInt_int,zc,zg,zk,zh,zf,zG,yb,zB,arith,Cst.val,SV.den,zr,zF,zz,zn,zl,zx,zJ,vF,vG,vA,vB,vC,decide_eq_true_eq,decide_eq_false_iff_not,vD,vE,vJ,vI,vK,List.length_cons,List.length_nil,Nat.zero_add,Nat.add_zero,if_true,if_false,vL,zo]
 intro b0 hb0
 have e0:(#[]:Array Value)=ints .u8 []:=rfl
 rw[e0]
 have s0:Eng.Sub h (upd h b0 (.cells (ints .u8 []) 5)):=Sub.zE hb0
 have nb0:b0≠bm:=fun e=>hbm (e▸hb0)
 refine⟨fun us h'=>∃(j:Nat) (r':Rd) (acc:List Int) (a1:Option Addr) (c1:Nat),us=[.slice a1 acc.length c1,.int .i64 j]/\j<=n/\r'.k=0/\acc.length=j/\Part .u8 h' (.slice a1 acc.length c1) acc/\(∀y,zd (.slice a1 acc.length c1)=some y->h y=none)/\MP h0 h' bm a c bs m T r'/\(∀y,h y≠none->y≠bm->h' y=h y)/\byL bs (n-j) r' acc=byL bs n r [],
  fun us _=>n-(toInt (us.getD 1 undef)).toNat,⟨0,r,[],_,_,rfl,by omega,hk,rfl,(Own.made (k:=.u8) (h:=h) (b:=b0) (T:=5) []).part,New.of hb0,MP.upd' ⟨p0,hp0,hr0,MA⟩ (upd_ne (Ne.symm nb0)) (MA.sb.trans s0),fun y h1 _=>upd_ne fun e=>h1 (e▸hb0),rfl⟩,?_⟩
 rintro a1 l1 c1 z h' ⟨j,r',acc,a1',c1',hx1,hj,hk',hal,P,N,M',f,e⟩
 simp only[List.cons.injEq,Value.int.injEq,Value.slice.injEq,true_and,and_true]at hx1
 obtain⟨⟨rfl,rfl,rfl⟩,rfl⟩:=hx1
 have sub':Eng.Sub h0 h':=by obtain⟨_,_,_,M2⟩:=M';exact M2.sb
 refine⟨fun hlt=>?_,fun hge=>?_⟩
 ·have hjn:j<n:=by omega
  have est:byL bs n r []=if(tk bs 8 r').1.k=0 then byL bs (n-(j+1)) (tk bs 8 r').1 (acc++[(tk bs 8 r').2])else((tk bs 8 r').1,acc):=by
   rw[<-e,show n-j=n-(j+1)+1 by omega,byL,if_pos hk']
  refine⟨by simp,?_⟩
  refine zb.mono (Nh hi G hx (by omega) M' hk' 8 (by omega)) ?_
  rintro _ h1 ⟨rfl,M1,f1⟩
  have nm:=zQ (bs:=bs) (n:=8) (r:=r')
  have e8:(2:Int)^8=256:=by decide
  rw[e8]at nm
  have nbk:∀y,zd (.slice a1 acc.length c1)=some y->y≠bm:=fun y hy e=>hbm (e▸N y hy)
  have P1:Part .u8 h1 (.slice a1 acc.length c1) acc:=P.keep fun y hy=>f1 y (nbk y hy)
  have fr1:∀y,h y≠none->y≠bm->h1 y=h y:=fun y g1 g2=>(f1 y g2).trans (f y g1 g2)
  have sub1:Eng.Sub h0 h1:=by obtain⟨_,_,_,M2⟩:=M1;exact M2.sb
  refine⟨_,z8 (tk bs 8 r').1.k,za,by rw[za],fun hz=>?_,fun hz=>?_⟩
  ·rw[za,zu]at hz
   have hk1:(tk bs 8 r').1.k≠0:=by simpa using hz
   rw[est,if_neg hk1]
   exact⟨.slice none 0 0,⟨_,_,_,rfl⟩,by rw[za],fun h=>absurd h hk1,fun y hy=>(by cases hy),M1,fr1,sub1⟩
  ·rw[za,zu]at hz
   have hk1:(tk bs 8 r').1.k=0:=by simpa using hz
   rw[if_pos hk1]at est
   have wb:IntKind.u8.wrap (tk bs 8 r').2=(tk bs 8 r').2:=by rw[IntKind.wrap_u8];omega
   have w2:IntKind.i64.wrap ((j:Int)+1)=((j+1:Nat):Int):=by rw[i64_in _ (by omega)];omega
   intro b1 hb1
   rw[wb,w2]
   have e1:(#[Value.int .u8 (tk bs 8 r').2]:Array Value)=ints .u8 [(tk bs 8 r').2]:=rfl
   rw[e1]
   have s1:Eng.Sub h1 (upd h1 b1 (.cells (ints .u8 [(tk bs 8 r').2]) 5)):=Sub.zE hb1
   have nb1:b1≠bm:=fun e=>by obtain⟨_,_,_,M2⟩:=M1;rw[e,M2.hb]at hb1;cases hb1
   refine yM hi (sub1.trans s1) (P1.sub s1) (fun y hy=>zK MA.sb (N y hy)) (ys:=[(tk bs 8 r').2]) zp.new (by simp only[List.length_singleton];omega) fun v3 h3 o3 n3 s3 k3 r3=>?_
   obtain⟨a3,c3,rfl,_,_⟩:=o3.ints
   have h1m:upd h1 b1 (.cells (ints .u8 [(tk bs 8 r').2]) 5) bm=h1 bm:=upd_ne (Ne.symm nb1)
   have m3:h3 bm=h1 bm:=(k3 bm (by rw[h1m];obtain⟨_,_,_,M2⟩:=M1;rw[M2.hb];simp) (fun e=>hbm (N bm e))).trans h1m
   simp only[zh,zg,zk]
   refine⟨⟨j+1,(tk bs 8 r').1,acc++[(tk bs 8 r').2],a3,c3,rfl,by omega,hk1,by simp[hal],o3,?_,M1.upd' m3 s3,fun y g1 g2=>?_,est.symm⟩,by simp only[vB,vA,toInt_int];omega⟩
   ·intro y hy
    rcases r3 with r3 | r3
    ·exact N y (by rw[<-r3];exact hy)
    ·have h6:=zK s1 (r3 y hy)
     cases hh:h y with
     | none=>rfl
     | some o=>
      by_cases hyb:y=bm
      ·subst hyb;obtain⟨_,_,_,M2⟩:=M1;rw[M2.hb]at h6;cases h6
      ·rw[fr1 y (by rw[hh];simp) hyb,hh]at h6;cases h6
   ·have h5:=fr1 y g1 g2
    have h6:upd h1 b1 (.cells (ints .u8 [(tk bs 8 r').2]) 5) y=h1 y:=upd_ne fun e=>g1 (by rw[<-h5,e];exact hb1)
    rw[k3 y (by rw[h6,h5];exact g1) (fun e=>g1 (N y e)),h6,h5]
 ·obtain rfl:j=n:=by omega
  rw[Nat.sub_self]at e
  have e:byL bs j r []=(r',acc):=e.symm
  rw[e]
  exact⟨_,⟨_,_,_,rfl⟩,by rw[hk'];rfl,fun _=>P,N,M',f,sub'⟩
end
end
end
end Go.Proofs.YtmnialmphlbmaaaGreatDoor
section
namespace Go.Proofs.YtmnialmphlbmaaaGreatDoor
open Go Go.Eng Go.ChangeShapes Go.WideShapes Go.ChangeAt Go.RowKit Go.Conc
noncomputable def Jy(os:Os):World:=
 let w0:=Rw os
 let put (g:Nat) (v:Value) (hp:Array Obj):Array Obj:=hp.modify g fun
   | .cells _ t frozen=>.cells #[v] t frozen
   | o=>o
 { w0 with heap:=put 2 (.int .i64 4) w0.heap }
end Go.Proofs.YtmnialmphlbmaaaGreatDoor
end
namespace Go.Proofs.YtmnialmphlbmaaaGreatDoor
open Go Go.Eng Go.IntWalk
section
section
variable {S : Shared} {h h0 : Eng.Heap}
variable {bm : Nat} {a : Option Addr} {c : Nat} {bs : List Int} {m : MC} {T : TypeId}
theorem Sr(hi:Eng.Inv S h0)(G:Errs h0)(hx:zp h0 .u8 a bs)(L:bs.length<=65536){r:Rd}(M:MP h0 h bm a c bs m T r)(hk:r.k=0) :
  zb Tryz.prog S jE #[.pointer (some ⟨bm,0,none⟩)] h (PB h0 h bm a c bs m T (txL bs (bs.length+1) r [])):=by
 obtain⟨p0,hp0,hr0,MA⟩:=M
 have hbm:h bm≠none:=by rw[MA.hb];simp
 refine Ez (vs:=[.pointer (some ⟨bm,0,none⟩)]) ⟨rfl,trivial⟩ (hi.sub MA.sb) ?_
 simp only[Bc,Tr.wp,zA,Ex.ev,coerce,toInt_int,zc,zg,zk,zh,zf,zG,yb,zB,Cst.val,SV.den,zr,zF,zz,zn,zl,zx,zJ,vF,vG,vA,vB,vC,vD,vE,vJ,vI,vK,List.length_cons,List.length_nil,Nat.zero_add,Nat.add_zero,if_true,if_false,vL,zo]
 intro b0 hb0
 have e0:(#[]:Array Value)=ints .u8 []:=rfl
 rw[e0]
 have s0:Eng.Sub h (upd h b0 (.cells (ints .u8 []) 5)):=Sub.zE hb0
 have nb0:b0≠bm:=fun e=>hbm (e▸hb0)
 have ri0:0<=r.i:=by rw[hr0 hk];simp only;omega
 refine⟨fun us h'=>∃(f:Nat) (r':Rd) (acc:List Int) (a1:Option Addr) (c1:Nat),us=[.slice a1 acc.length c1]/\f+acc.length=bs.length+1/\r'.k=0/\8*(acc.length:Int)<=r'.i/\r'.i<=8*(bs.length:Int)/\Part .u8 h' (.slice a1 acc.length c1) acc/\(∀y,zd (.slice a1 acc.length c1)=some y->h y=none)/\MP h0 h' bm a c bs m T r'/\(∀y,h y≠none->y≠bm->h' y=h y)/\txL bs f r' acc=txL bs (bs.length+1) r [],
  fun us _=>bs.length+1-slL (us.getD 0 undef),⟨bs.length+1,r,[],_,_,rfl,rfl,hk,by simpa using ri0,by rw[hr0 hk];simp only;omega,(Own.made (k:=.u8) (h:=h) (b:=b0) (T:=5) []).part,New.of hb0,MP.upd' ⟨p0,hp0,hr0,MA⟩ (upd_ne (Ne.symm nb0)) (MA.sb.trans s0),fun y h1 _=>upd_ne fun e=>h1 (e▸hb0),rfl⟩,?_⟩
 rintro a1 l1 c1 h' ⟨f,r',acc,a1',c1',hx1,hf,hk',hri,hrl,P,N,M',fr,e⟩
 simp only[List.cons.injEq,Value.slice.injEq,and_true]at hx1
 obtain⟨rfl,rfl,rfl⟩:=hx1
 have sub':Eng.Sub h0 h':=by obtain⟨_,_,_,M2⟩:=M';exact M2.sb
 have hf1:∃f1,f=f1+1:=⟨f-1,by omega⟩
 obtain⟨f1,rfl⟩:=hf1
 rw[txL,if_pos hk']at e
 refine⟨by simp,?_⟩
 refine zb.mono (Nh hi G hx (by omega) M' hk' 8 (by omega)) ?_
 rintro _ h1 ⟨rfl,M1,f1'⟩
 have nm:=zQ (bs:=bs) (n:=8) (r:=r')
 have e8:(2:Int)^8=256:=by decide
 rw[e8]at nm
 have nbk:∀y,zd (.slice a1 acc.length c1)=some y->y≠bm:=fun y hy e=>hbm (e▸N y hy)
 have P1:Part .u8 h1 (.slice a1 acc.length c1) acc:=P.keep fun y hy=>f1' y (nbk y hy)
 have fr1:∀y,h y≠none->y≠bm->h1 y=h y:=fun y g1 g2=>(f1' y g2).trans (fr y g1 g2)
 have sub1:Eng.Sub h0 h1:=by obtain⟨_,_,_,M2⟩:=M1;exact M2.sb
 refine⟨_,z8 (tk bs 8 r').1.k,za,by rw[za],fun hz=>?_,fun hz=>?_⟩
 ·rw[za,zu]at hz
  have hk1:(tk bs 8 r').1.k≠0:=by simpa using hz
  rw[if_pos (OM hk1)]at e
  rw[<-e]
  exact⟨.slice none 0 0,⟨_,_,_,rfl⟩,by rw[za],fun h=>absurd h hk1,fun y hy=>(by cases hy),M1,fr1,sub1⟩
 ·rw[za,zu]at hz
  have hk1:(tk bs 8 r').1.k=0:=by simpa using hz
  refine⟨fun hzr=>?_,fun hnz=>?_⟩
  ·have hzr:(tk bs 8 r').2=0:=by simpa using hzr
   rw[if_pos hzr]at e
   rw[<-e]
   exact⟨_,⟨_,_,_,rfl⟩,by rw[hk1];rfl,fun _=>P1,N,M1,fr1,sub1⟩
  ·have hnz:(tk bs 8 r').2≠0:=by simpa using hnz
   rw[if_neg hnz]at e
   have wb:IntKind.u8.wrap (tk bs 8 r').2=(tk bs 8 r').2:=by rw[IntKind.wrap_u8];omega
   have ta:=Gc (bs:=bs) hk1
   have ok1:(tk bs 8 r').1.i<=8*(bs.length:Int):=(zY (bs:=bs) (n:=8) (r:=r') (fun _=>⟨by omega,hrl⟩) hk1).2
   intro b1 hb1
   rw[wb]
   have e1:(#[Value.int .u8 (tk bs 8 r').2]:Array Value)=ints .u8 [(tk bs 8 r').2]:=rfl
   rw[e1]
   have s1:Eng.Sub h1 (upd h1 b1 (.cells (ints .u8 [(tk bs 8 r').2]) 5)):=Sub.zE hb1
   have nb1:b1≠bm:=fun e=>by obtain⟨_,_,_,M2⟩:=M1;rw[e,M2.hb]at hb1;cases hb1
   refine yM hi (sub1.trans s1) (P1.sub s1) (fun y hy=>zK MA.sb (N y hy)) (ys:=[(tk bs 8 r').2]) zp.new (by simp only[List.length_singleton];omega) fun v3 h3 o3 n3 s3 k3 r3=>?_
   obtain⟨a3,c3,rfl,_,_⟩:=o3.ints
   have h1m:upd h1 b1 (.cells (ints .u8 [(tk bs 8 r').2]) 5) bm=h1 bm:=upd_ne (Ne.symm nb1)
   have m3:h3 bm=h1 bm:=(k3 bm (by rw[h1m];obtain⟨_,_,_,M2⟩:=M1;rw[M2.hb];simp) (fun e=>hbm (N bm e))).trans h1m
   simp only[zh,zg,zk]
   refine⟨⟨f1,(tk bs 8 r').1,acc++[(tk bs 8 r').2],a3,c3,rfl,by simp only[List.length_append,List.length_singleton];omega,hk1,by simp only[List.length_append,List.length_singleton];omega,ok1,o3,?_,M1.upd' m3 s3,fun y g1 g2=>?_,e⟩,by simp only[vA,zg,List.length_append,List.length_singleton];omega⟩
   ·intro y hy
    rcases r3 with r3 | r3
    ·exact N y (by rw[<-r3];exact hy)
    ·have h6:=zK s1 (r3 y hy)
     cases hh:h y with
     | none=>rfl
     | some o=>
      by_cases hyb:y=bm
      ·subst hyb;obtain⟨_,_,_,M2⟩:=M1;rw[M2.hb]at h6;cases h6
      ·rw[fr1 y (by rw[hh];simp) hyb,hh]at h6;cases h6
   ·have h5:=fr1 y g1 g2
    have h6:upd h1 b1 (.cells (ints .u8 [(tk bs 8 r').2]) 5) y=h1 y:=upd_ne fun e=>g1 (by rw[<-h5,e];exact hb1)
    rw[k3 y (by rw[h6,h5];exact g1) (fun e=>g1 (N y e)),h6,h5]
end
end
section
section
variable {S : Shared} {h h0 hs h' : Eng.Heap} {bm bF bE bM : Nat}
def MS(h0 h:Eng.Heap)(bm bE bM:Nat)(k:Int)(u:Value)(xs:List Int):Prop:=
 (∃a l c,u=.slice a l c)/\(k=0->Part .u8 h u xs/\∀y,zd u=some y->h0 y=none/\y≠bm/\y≠bE/\y≠bM)
theorem MS.nil{k:Int}:MS h0 h bm bE bM k (.slice none 0 0) []:=⟨⟨_,_,_,rfl⟩,fun _=>⟨Part.nil,fun y hy=>by cases hy⟩⟩
theorem MS.keep{k k':Int}{u:Value}{xs:List Int}(H:MS h0 h bm bE bM k u xs)(hk:k'=0->k=0)(f:∀y,h y≠none->y≠bm->y≠bE->y≠bM->h' y=h y):MS h0 h' bm bE bM k' u xs:=
 ⟨H.1,fun e=>by
  obtain⟨P,N⟩:=H.2 (hk e)
  exact⟨P.keep fun y hy=>f y (P.held y hy) (N y hy).2.1 (N y hy).2.2.1 (N y hy).2.2.2,N⟩⟩
structure HG(h0 hs:Eng.Heap)(bm bF bE bM:Nat):Prop where
 hE:h0 bE=none
 hM:h0 bM=none
 sE:hs bE=none
 sM:hs bM≠none
 n1:bm≠bF
 n2:bm≠bE
 n3:bF≠bE
 n4:bM≠bm
 n5:bM≠bE
 n6:bM≠bF
section
variable {a : Option Addr} {c : Nat} {bs : List Int} {m : MC} {T : TypeId}
def D3(u4 u5 u6:Value):Prop:=(∀y,zd u4=some y->zd u5≠some y)/\(∀y,zd u4=some y->zd u6≠some y)/\∀y,zd u5=some y->zd u6≠some y
structure HS(h0 hs h:Eng.Heap)(bm bF bE bM:Nat)(a:Option Addr)(c:Nat)(bs:List Int)(m:MC)(T:TypeId)(r:Rd)(fl mt xf os:Int)(u4 u5 u6:Value)(x4 x5 x6:List Int):Prop where
 mp:MP h0 h bm a c bs m T r
 hc:HC h bm bF bE r.k
 mc:∃TM,h bM=some (.cells #[.int .i64 fl,.int .i64 mt,.int .i64 xf,.int .i64 os,u4,u5,u6,.int .i64 0] TM)
 s4:MS hs h bm bE bM r.k u4 x4
 s5:MS hs h bm bE bM r.k u5 x5
 s6:MS hs h bm bE bM r.k u6 x6
 fr:∀y,hs y≠none->y≠bm->y≠bM->h y=hs y
 d:r.k=0->D3 u4 u5 u6
variable {r : Rd} {fl mt xf os : Int} {u4 u5 u6 : Value} {x4 x5 x6 : List Int}
theorem HS.sb(H:HS h0 hs h bm bF bE bM a c bs m T r fl mt xf os u4 u5 u6 x4 x5 x6):Eng.Sub h0 h:=by obtain⟨_,_,_,M⟩:=H.mp;exact M.sb
theorem HS.gE(H:HS h0 hs h bm bF bE bM a c bs m T r fl mt xf os u4 u5 u6 x4 x5 x6):ze h ⟨bE,0,none⟩=some (z8 r.k):=by obtain⟨T,e⟩:=H.hc.e;simp[ze,e]
theorem HS.gF(H:HS h0 hs h bm bF bE bM a c bs m T r fl mt xf os u4 u5 u6 x4 x5 x6):ze h ⟨bF,0,none⟩=some (.pointer (some ⟨bm,0,none⟩)):=by obtain⟨T,e⟩:=H.hc.f;simp[ze,e]
theorem HS.gM(H:HS h0 hs h bm bF bE bM a c bs m T r fl mt xf os u4 u5 u6 x4 x5 x6):ze h ⟨bM,0,none⟩=some (.int .i64 fl):=by obtain⟨T,e⟩:=H.mc;simp[ze,e]
theorem HS.okE(Q:HG h0 hs bm bF bE bM)(hi:Eng.Inv S h0)(H:HS h0 hs h bm bF bE bM a c bs m T r fl mt xf os u4 u5 u6 x4 x5 x6):yC S h ⟨bE,0,none⟩:=
 ⟨⟨_,H.gE⟩,by obtain⟨T,e⟩:=H.hc.e;simp[yf,e],fun hs=>hi bE hs Q.hE⟩
theorem HS.okM(Q:HG h0 hs bm bF bE bM)(hi:Eng.Inv S h0)(H:HS h0 hs h bm bF bE bM a c bs m T r fl mt xf os u4 u5 u6 x4 x5 x6){i:Nat}(hi8:i<8):yC S h ⟨bM,i,none⟩:=by
 obtain⟨T,e⟩:=H.mc
 refine⟨?_,by simp[yf,e],fun hs=>hi bM hs Q.hM⟩
 simp only[ze,e]
 match i,hi8 with
 | 0,_=>exact⟨_,rfl⟩
 | 1,_=>exact⟨_,rfl⟩
 | 2,_=>exact⟨_,rfl⟩
 | 3,_=>exact⟨_,rfl⟩
 | 4,_=>exact⟨_,rfl⟩
 | 5,_=>exact⟨_,rfl⟩
 | 6,_=>exact⟨_,rfl⟩
 | 7,_=>exact⟨_,rfl⟩
theorem Ap(Q:HG h0 hs bm bF bE bM)(hi:Eng.Inv S h0)(G:Errs h0)(hx:zp h0 .u8 a bs)(L:bs.length<=1048576)(H:HS h0 hs h bm bF bE bM a c bs m T r fl mt xf os u4 u5 u6 x4 x5 x6)(n:Nat)(hn:n<=4) :
  zb Tryz.prog S zT #[.int .i64 n,.pointer (some ⟨bE,0,none⟩),.pointer (some ⟨bF,0,none⟩)] h (fun v h'=>v=.int .i64 (tk bs (8*n) r).2/\HS h0 hs h' bm bF bE bM a c bs m T (tk bs (8*n) r).1 fl mt xf os u4 u5 u6 x4 x5 x6):=by
 refine zb.mono (Xb hi G hx L H.mp Q.hE Q.n1 Q.n2 Q.n3 H.hc n hn) ?_
 rintro v h1 ⟨rfl,M,C,f⟩
 obtain⟨TM,e⟩:=H.mc
 exact⟨rfl,M,C,⟨TM,(f bM Q.n4 Q.n5).trans e⟩,H.s4.keep Cz fun y _ h1 h2 _=>f y h1 h2,H.s5.keep Cz fun y _ h1 h2 _=>f y h1 h2,H.s6.keep Cz fun y _ h1 h2 _=>f y h1 h2,
  fun y h1 h2 h3=>(f y h2 (fun e=>h1 (e▸Q.sE))).trans (H.fr y h1 h2 h3),fun e=>H.d (Cz e)⟩
theorem GQ(Q:HG h0 hs bm bF bE bM)(hi:Eng.Inv S h0)(G:Errs h0)(H:HS h0 hs h bm bF bE bM a c bs m T r fl mt xf os u4 u5 u6 x4 x5 x6)(w:Bool) :
  zb Tryz.prog S yH #[.bool w,.pointer (some ⟨bE,0,none⟩)] h (fun v h'=>v=.tuple #[]/\HS h0 hs h' bm bF bE bM a c bs m T (bd (!w) r) fl mt xf os u4 u5 u6 x4 x5 x6):=by
 refine zb.mono (VE hi G H.mp Q.hE Q.n2 Q.n3 H.hc w) ?_
 rintro v h1 ⟨rfl,M,C,f⟩
 obtain⟨TM,e⟩:=H.mc
 have kk:(bd (!w) r).k=0->r.k=0:=fun h=>(E6.1 h).1
 exact⟨rfl,M,C,⟨TM,(f bM Q.n5).trans e⟩,H.s4.keep kk fun y _ h1 h2 _=>f y h2,H.s5.keep kk fun y _ h1 h2 _=>f y h2,H.s6.keep kk fun y _ h1 h2 _=>f y h2,
  fun y h1 h2 h3=>(f y (fun e=>h1 (e▸Q.sE))).trans (H.fr y h1 h2 h3),fun e=>H.d (kk e)⟩
theorem HS.put(Q:HG h0 hs bm bF bE bM)(H:HS h0 hs h bm bF bE bM a c bs m T r fl mt xf os u4 u5 u6 x4 x5 x6){fl' mt' xf' os':Int}{TM:TypeId}:HS h0 hs (upd h bM (.cells #[.int .i64 fl',.int .i64 mt',.int .i64 xf',.int .i64 os',u4,u5,u6,.int .i64 0] TM)) bm bF bE bM a c bs m T r fl' mt' xf' os' u4 u5 u6 x4 x5 x6:=
 ⟨H.mp.upd' (upd_ne (Ne.symm Q.n4)) (ym H.sb Q.hM),⟨by obtain⟨T,e⟩:=H.hc.f;exact⟨T,(upd_ne (Ne.symm Q.n6)).trans e⟩,by obtain⟨T,e⟩:=H.hc.e;exact⟨T,(upd_ne (Ne.symm Q.n5)).trans e⟩⟩,⟨TM,upd_same⟩,
  H.s4.keep id fun y _ _ _ h3=>upd_ne h3,H.s5.keep id fun y _ _ _ h3=>upd_ne h3,H.s6.keep id fun y _ _ _ h3=>upd_ne h3,fun y h1 h2 h3=>(upd_ne h3).trans (H.fr y h1 h2 h3),H.d⟩
theorem HS.qk(Q:HG h0 hs bm bF bE bM)(H:HS h0 hs h bm bF bE bM a c bs m T r fl mt xf os u4 u5 u6 x4 x5 x6)(x:Int):HS h0 hs (zw h ⟨bM,0,none⟩ (.int .i64 x)) bm bF bE bM a c bs m T r x mt xf os u4 u5 u6 x4 x5 x6:=by
 obtain⟨TM,e⟩:=H.mc;rw[hset_cells' e];exact H.put Q
theorem HS.Yu(Q:HG h0 hs bm bF bE bM)(H:HS h0 hs h bm bF bE bM a c bs m T r fl mt xf os u4 u5 u6 x4 x5 x6)(x:Int):HS h0 hs (zw h ⟨bM,1,none⟩ (.int .i64 x)) bm bF bE bM a c bs m T r fl x xf os u4 u5 u6 x4 x5 x6:=by
 obtain⟨TM,e⟩:=H.mc;rw[hset_cells' e];exact H.put Q
theorem HS.Yv(Q:HG h0 hs bm bF bE bM)(H:HS h0 hs h bm bF bE bM a c bs m T r fl mt xf os u4 u5 u6 x4 x5 x6)(x:Int):HS h0 hs (zw h ⟨bM,2,none⟩ (.int .i64 x)) bm bF bE bM a c bs m T r fl mt x os u4 u5 u6 x4 x5 x6:=by
 obtain⟨TM,e⟩:=H.mc;rw[hset_cells' e];exact H.put Q
theorem HS.PD(Q:HG h0 hs bm bF bE bM)(H:HS h0 hs h bm bF bE bM a c bs m T r fl mt xf os u4 u5 u6 x4 x5 x6)(x:Int):HS h0 hs (zw h ⟨bM,3,none⟩ (.int .i64 x)) bm bF bE bM a c bs m T r fl mt xf x u4 u5 u6 x4 x5 x6:=by
 obtain⟨TM,e⟩:=H.mc;rw[hset_cells' e];exact H.put Q
theorem HS.Xc(Q:HG h0 hs bm bF bE bM)(H:HS h0 hs h bm bF bE bM a c bs m T r fl mt xf os u4 u5 u6 x4 x5 x6){K:Int}(hK:K≠0\/K=r.k):HS h0 hs (zw h ⟨bE,0,none⟩ (z8 K)) bm bF bE bM a c bs m T ⟨r.i,K⟩ fl mt xf os u4 u5 u6 x4 x5 x6:=by
 have kk:K=0->r.k=0:=fun e=>by rcases hK with h | h;exact absurd e h;exact h▸e
 obtain⟨TE,eE⟩:=H.hc.e
 obtain⟨TF,eF⟩:=H.hc.f
 obtain⟨TM,eM⟩:=H.mc
 rw[EI eE]
 have M1:=H.mp.upd' (h':=upd h bE (.cells #[z8 K] TE)) (upd_ne Q.n2) (ym H.sb Q.hE)
 refine⟨?_,⟨⟨TF,(upd_ne Q.n3).trans eF⟩,⟨TE,upd_same⟩⟩,⟨TM,(upd_ne Q.n5).trans eM⟩,H.s4.keep kk fun y _ _ h2 _=>upd_ne h2,H.s5.keep kk fun y _ _ h2 _=>upd_ne h2,H.s6.keep kk fun y _ _ h2 _=>upd_ne h2,fun y h1 h2 h3=>(upd_ne (fun e=>h1 (by rw[e];exact Q.sE))).trans (H.fr y h1 h2 h3),fun e=>H.d (kk e)⟩
 obtain⟨p,g1,g2,g3⟩:=M1
 exact⟨p,g1,fun e=>by have e:K=0:=e;have:=g2 (kk e);rw[this,e],g3⟩
theorem HS.fill(Q:HG h0 hs bm bF bE bM)(H:HS h0 hs h bm bF bE bM a c bs m T r fl mt xf os u4 u5 u6 x4 x5 x6)(hk:r.k=0){X:Rd×List Int}{v:Value}(B:PB h0 h bm a c bs m T X v h') :
  ∃a1 l1 c1,v=.tuple #[.slice a1 l1 c1,z8 X.1.k]/\(∀i,i<8->(Eng.Inv S h0->yC S h' ⟨bM,i,none⟩))/\(∀i,i<8->∀v,Eng.Inv S h0->yC S (zw h' ⟨bM,i,none⟩ v) ⟨bE,0,none⟩) /\
   HS h0 hs (zw (zw h' ⟨bM,4,none⟩ (.slice a1 l1 c1)) ⟨bE,0,none⟩ (z8 X.1.k)) bm bF bE bM a c bs m T X.1 fl mt xf os (.slice a1 l1 c1) u5 u6 X.2 x5 x6 /\
   HS h0 hs (zw (zw h' ⟨bM,5,none⟩ (.slice a1 l1 c1)) ⟨bE,0,none⟩ (z8 X.1.k)) bm bF bE bM a c bs m T X.1 fl mt xf os u4 (.slice a1 l1 c1) u6 x4 X.2 x6 /\
   HS h0 hs (zw (zw h' ⟨bM,6,none⟩ (.slice a1 l1 c1)) ⟨bE,0,none⟩ (z8 X.1.k)) bm bF bE bM a c bs m T X.1 fl mt xf os u4 u5 (.slice a1 l1 c1) x4 x5 X.2:=by
 obtain⟨u,⟨a1,l1,c1,rfl⟩,rfl,P,N,M,f,sb⟩:=B
 obtain⟨TE,eE⟩:=H.hc.e
 obtain⟨TF,eF⟩:=H.hc.f
 obtain⟨TM,eM⟩:=H.mc
 have eE':h' bE=some (.cells #[z8 r.k] TE):=(f bE (by rw[eE];simp) (Ne.symm Q.n2)).trans eE
 have eF':h' bF=some (.cells #[.pointer (some ⟨bm,0,none⟩)] TF):=(f bF (by rw[eF];simp) (Ne.symm Q.n1)).trans eF
 have eM':=(f bM (by rw[eM];simp) Q.n4).trans eM
 have kk:X.1.k=0->r.k=0:=fun _=>hk
 have gM:∀i,i<8->(Eng.Inv S h0->yC S h' ⟨bM,i,none⟩):=fun i hi8 hi=>by
  refine⟨?_,by simp[yf,eM'],fun hs=>hi bM hs Q.hM⟩
  simp only[ze,eM']
  match i,hi8 with
  | 0,_=>exact⟨_,rfl⟩
  | 1,_=>exact⟨_,rfl⟩
  | 2,_=>exact⟨_,rfl⟩
  | 3,_=>exact⟨_,rfl⟩
  | 4,_=>exact⟨_,rfl⟩
  | 5,_=>exact⟨_,rfl⟩
  | 6,_=>exact⟨_,rfl⟩
  | 7,_=>exact⟨_,rfl⟩
 have gE:∀i,i<8->∀v,Eng.Inv S h0->yC S (zw h' ⟨bM,i,none⟩ v) ⟨bE,0,none⟩:=fun i _ v hi=>by
  rw[hset_cells' eM']
  have e2:upd h' bM (.cells ((#[.int .i64 fl,.int .i64 mt,.int .i64 xf,.int .i64 os,u4,u5,u6,.int .i64 0]:Array Value).setIfInBounds i v) TM) bE=some (.cells #[z8 r.k] TE):=(upd_ne (Ne.symm Q.n5)).trans eE'
  have kE:∀g:Eng.Heap,g bE=some (.cells #[z8 r.k] TE)->yC S g ⟨bE,0,none⟩:=fun g e=>⟨⟨z8 r.k,by simp[ze,e]⟩,by simp[yf,e],fun hs=>hi bE hs Q.hE⟩
  exact kE _ e2
 have new:MS hs h' bm bE bM X.1.k (.slice a1 l1 c1) X.2:=⟨⟨_,_,_,rfl⟩,fun e=>⟨P e,fun y hy=>by
  have n1:=N y hy
  have n2:y≠bm:=fun e=>by subst e;obtain⟨_,_,_,M2⟩:=H.mp;rw[M2.hb]at n1;cases n1
  have n3:y≠bM:=fun e=>by rw[e,eM]at n1;cases n1
  exact⟨(by
   cases e:hs y with
   | none=>rfl
   | some o=>rw[H.fr y (by rw[e];simp) n2 n3,e]at n1;cases n1),(fun e=>by subst e;obtain⟨_,_,_,M2⟩:=H.mp;rw[M2.hb]at n1;cases n1),(fun e=>by rw[e,eE]at n1;cases n1),(fun e=>by rw[e,eM]at n1;cases n1)⟩⟩⟩
 have old:∀ {u:Value} {xs:List Int},MS hs h bm bE bM r.k u xs->MS hs h' bm bE bM X.1.k u xs:=fun H2=>H2.keep kk fun y g1 g2 _ _=>f y g1 g2
 have key:∀(w4 w5 w6:Value) (y4 y5 y6:List Int) (i:Nat) (v:Value),((#[.int .i64 fl,.int .i64 mt,.int .i64 xf,.int .i64 os,u4,u5,u6,.int .i64 0]:Array Value).setIfInBounds i v)=#[.int .i64 fl,.int .i64 mt,.int .i64 xf,.int .i64 os,w4,w5,w6,.int .i64 0] ->
   MS hs h' bm bE bM X.1.k w4 y4->MS hs h' bm bE bM X.1.k w5 y5->MS hs h' bm bE bM X.1.k w6 y6->D3 w4 w5 w6 ->
   HS h0 hs (zw (zw h' ⟨bM,i,none⟩ v) ⟨bE,0,none⟩ (z8 X.1.k)) bm bF bE bM a c bs m T X.1 fl mt xf os w4 w5 w6 y4 y5 y6:=by
  intro w4 w5 w6 y4 y5 y6 i v ev t4 t5 t6 dd
  rw[hset_cells' eM',ev]
  have e2:upd h' bM (.cells #[.int .i64 fl,.int .i64 mt,.int .i64 xf,.int .i64 os,w4,w5,w6,.int .i64 0] TM) bE=some (.cells #[z8 r.k] TE):=(upd_ne (Ne.symm Q.n5)).trans eE'
  rw[EI e2]
  have g:∀y,y≠bE->y≠bM->upd (upd h' bM (.cells #[.int .i64 fl,.int .i64 mt,.int .i64 xf,.int .i64 os,w4,w5,w6,.int .i64 0] TM)) bE (.cells #[z8 X.1.k] TE) y=h' y:=fun y g1 g2=>(upd_ne g1).trans (upd_ne g2)
  refine⟨M.upd' (g bm Q.n2 (Ne.symm Q.n4)) (ym (ym sb Q.hM) Q.hE),⟨⟨TF,(g bF Q.n3 (Ne.symm Q.n6)).trans eF'⟩,⟨TE,upd_same⟩⟩,⟨TM,(upd_ne Q.n5).trans upd_same⟩,t4.keep id fun y _ _ g1 g2=>g y g1 g2,t5.keep id fun y _ _ g1 g2=>g y g1 g2,t6.keep id fun y _ _ g1 g2=>g y g1 g2,fun y h1 h2 h3=>?_,fun _=>dd⟩
  have hb:=H.fr y h1 h2 h3
  exact(g y (fun e=>h1 (e▸Q.sE)) h3).trans ((f y (by rw[hb];exact h1) h2).trans hb)
 have fresh:∀ {u:Value} {xs:List Int},MS hs h bm bE bM r.k u xs->∀y,zd (.slice a1 l1 c1)=some y->zd u≠some y:=fun H2 y g1 g2=>(H2.2 hk).1.held y g2 (N y g1)
 have hd:=H.d hk
 exact⟨a1,l1,c1,rfl,gM,gE,key _ _ _ _ _ _ 4 _ rfl new (old H.s5) (old H.s6) ⟨fresh H.s5,fresh H.s6,hd.2.2⟩,key _ _ _ _ _ _ 5 _ rfl (old H.s4) new (old H.s6) ⟨fun y g1 g2=>fresh H.s4 y g2 g1,hd.2.1,fresh H.s6⟩,key _ _ _ _ _ _ 6 _ rfl (old H.s4) (old H.s5) new ⟨hd.1,fun y g1 g2=>fresh H.s4 y g2 g1,fun y g1 g2=>fresh H.s5 y g2 g1⟩⟩
end
end
theorem Jz{x:Int}(hx:0<=x/\x<256):((Go.bits .and .i64 x 4 != 0)=decide (x/4%2=1))/\((Go.bits .and .i64 x 8 != 0)=decide (x/8%2=1))/\((Go.bits .and .i64 x 16 != 0)=decide (x/16%2=1))/\((Go.bits .and .i64 x 2 != 0)=decide (x/2%2=1)):=by
 have key:∀n:Fin 256,((Go.bits .and .i64 (n.1:Int) 4 != 0)=decide ((n.1:Int)/4%2=1))/\((Go.bits .and .i64 (n.1:Int) 8 != 0)=decide ((n.1:Int)/8%2=1))/\((Go.bits .and .i64 (n.1:Int) 16 != 0)=decide ((n.1:Int)/16%2=1))/\((Go.bits .and .i64 (n.1:Int) 2 != 0)=decide ((n.1:Int)/2%2=1)):=by decide +kernel
 obtain⟨n,rfl⟩:=Int.eq_ofNat_of_zero_le hx.1
 exact key ⟨n,by omega⟩
theorem Uv{x:Int}(hx:0<=x/\x<4294967296):Go.bits .and .u32 x 65535=x%65536:=by
 obtain⟨n,rfl⟩:=Int.eq_ofNat_of_zero_le hx.1
 have h1:(BitVec.ofInt 32 (n:Int)).toNat=n:=by rw[BitVec.ofInt_natCast,BitVec.toNat_ofNat];exact Nat.mod_eq_of_lt (by omega)
 have h2:(BitVec.ofInt 32 (65535:Int)).toNat=65535:=by decide
 show IntKind.u32.wrap ((BitVec.ofInt 32 (n:Int) &&& BitVec.ofInt 32 (65535:Int)).toNat:Int)=_
 rw[BitVec.toNat_and,h1,h2,show(65535:Nat)=2^16-1 from rfl,Nat.and_two_pow_sub_one_eq_mod,IntKind.wrap_u32]
 omega
end
section
def gF5(bs:List Int)(p0 fl:Int)(r:Rd):Rd:=
 if fl/2%2=1/\r.k=0 then bdK 4 ((tk bs 16 r).2 != qD ((bs.take (r.i/8).toNat).drop (p0/8).toNat)%65536) (tk bs 16 r).1 else r
section
variable {s : Nat -> Prop} {h h0 hs h' : Eng.Heap} {bm bF bE bM : Nat} {Post : Value -> Eng.Heap -> Prop}
variable {a : Option Addr} {c : Nat} {bs : List Int} {m : MC} {T : TypeId} {r : Rd} {fl mt xf os : Int} {u4 u5 u6 : Value} {x4 x5 x6 : List Int}
theorem HS.ED(H:HS h0 hs h bm bF bE bM a c bs m T r fl mt xf os u4 u5 u6 x4 x5 x6)(s:Eng.Sub h h'):HS h0 hs h' bm bF bE bM a c bs m T r fl mt xf os u4 u5 u6 x4 x5 x6:=by
 have f:∀y,h y≠none->h' y=h y:=fun y hy=>by
  cases e:h y with
  | none=>exact absurd e hy
  | some o=>exact s y o e
 obtain⟨p,h1,h2,M⟩:=H.mp
 obtain⟨TE,eE⟩:=H.hc.e
 obtain⟨TF,eF⟩:=H.hc.f
 obtain⟨TM,eM⟩:=H.mc
 exact⟨⟨p,h1,h2,⟨s _ _ M.hb,M.nb,M.sb.trans s⟩⟩,⟨⟨TF,s _ _ eF⟩,⟨TE,s _ _ eE⟩⟩,⟨TM,s _ _ eM⟩,H.s4.keep id fun y h _ _ _=>f y h,H.s5.keep id fun y h _ _ _=>f y h,H.s6.keep id fun y h _ _ _=>f y h,
  fun y h1 h2 h3=>(f y (by rw[H.fr y h1 h2 h3];exact h1)).trans (H.fr y h1 h2 h3),H.d⟩
theorem LC(Q:HG h0 hs bm bF bE bM)(hi:Eng.Inv (yo Tryz.prog s) h0)(H:HS h0 hs h bm bF bE bM a c bs m T r fl mt xf os u4 u5 u6 x4 x5 x6)(hP:∀h',HS h0 hs h' bm bF bE bM a c bs m T r fl mt xf os u4 u5 u6 x4 x5 x6->Post (z8 r.k) h')(Ks:List Kt)
  (e0 e1 e2 e4 e5 e6 e7 e8 e9 e10 e11 e12 e13 e14 e15 e16 e17 e18 e19 e20 e21 e22 e23 e24 e25:Value) :
  gd6.wp Tryz.prog (yo Tryz.prog s) yu Post [e0,e1,e2,.pointer (some ⟨bE,0,none⟩),e4,e5,e6,e7,e8,e9,e10,e11,e12,e13,e14,e15,e16,e17,e18,e19,e20,e21,e22,e23,e24,e25] h Ks:=by
 simp only[gd6,Tr.wp,Ex.ev,coerce,zf,SV.den,zx,zt,zL,vA,vB,vD,vE,vJ,vI,Nat.add_zero,and_true,zo]
 have H2:=H.Xc Q (K:=r.k) (.inr rfl)
 refine⟨z8 r.k,za,H.gE,H.okE Q hi,?_⟩
 rw[za]
 refine⟨z8 r.k,za,H2.gE,?_⟩
 rw[za]
 exact hP _ H2
theorem XJ(Q:HG h0 hs bm bF bE bM)(hi:Eng.Inv (yo Tryz.prog s) h0)(G:ErrS h0)(hx:zp h0 .u8 a bs)(L:bs.length<=65536)(hc:bs.length<=c)(hb:okB bs)(H:HS h0 hs h bm bF bE bM a c bs m T r fl mt xf os u4 u5 u6 x4 x5 x6)(hfl:0<=fl/\fl<256){p0 p:Nat}(hp:p<=8*bs.length)(hpp:r.k=0->r.i=p/\p0<=p)
  (hP:∀h',HS h0 hs h' bm bF bE bM a c bs m T (gF5 bs p0 fl r) fl mt xf os u4 u5 u6 x4 x5 x6->Post (z8 (gF5 bs p0 fl r).k) h')
  (e4 e6 e7 e8 e9 e10 e11 e12 e13 e14 e15 e16 e17 e18 e19 e20 e21 e22 e23:Value) :
  gd5.wp Tryz.prog (yo Tryz.prog s) yu Post [.pointer (some ⟨bm,0,none⟩),.pointer (some ⟨bM,0,none⟩),.pointer (some ⟨bF,0,none⟩),.pointer (some ⟨bE,0,none⟩),e4,.int .i64 (p0:Int),e6,e7,e8,e9,e10,e11,e12,e13,e14,e15,e16,e17,e18,e19,e20,e21,e22,e23,.int .i64 (p:Int),.int .i64 fl] h []:=by
 simp only[gd5,Tr.wp,zA,Ex.ev,coerce,toInt_int,zc,zg,zk,zh,zf,zG,yb,jO,kW,zB,arith,Cst.val,SV.den,zr,zF,zz,zn,zl,zx,zt,zL,vF,vG,vA,vB,vC,List.getElem?_cons_succ,decide_eq_true_eq,vD,vE,vJ,vI,vK,Nat.add_zero,and_true,if_false,vL,zo]
 rw[(Jz hfl).2.2.2]
 refine⟨fun hz=>?_,fun hz=>?_⟩
 ·have hz:fl/2%2=1:=by simpa using hz
  refine zb.mono (Ap Q hi G.el.es hx (by omega) H 2 (by omega)) ?_
  rintro _ h1 ⟨rfl,H1⟩
  refine⟨_,rfl,z8 (tk bs (8*2) r).1.k,za,H1.gE,fun hk=>?_,fun hk=>?_⟩
  ·have hk:(tk bs (8*2) r).1.k=0:=by simpa[zu,za]using hk
   have hkr:=Cz hk
   obtain⟨eri,h0p⟩:=hpp hkr
   obtain⟨p1,q1,q2,M1⟩:=id H1.mp
   have wp:IntKind.i64.wrap ((p:Int).tdiv 8)=((p/8:Nat):Int):=by rw[Int.tdiv_eq_ediv_of_nonneg (by omega),i64_in _ (by omega)];omega
   have wp0:IntKind.i64.wrap ((p0:Int).tdiv 8)=((p0/8:Nat):Int):=by rw[Int.tdiv_eq_ediv_of_nonneg (by omega),i64_in _ (by omega)];omega
   refine⟨_,H1.gF,by simp,_,_,_,(zX M1.hb).1,?_⟩
   rw[wp,wp0]
   refine⟨by omega,by omega,by omega,by omega,?_⟩
   obtain⟨a2,e2,hx2⟩:=kB (hx.sub H1.sb) (lo:=p0/8) (hi:=p/8) (m:=c) (by omega) (by omega) (by omega)
   have eh:(bs.drop (p0/8)).take (p/8-p0/8)=(bs.take (r.i/8).toNat).drop ((p0:Int)/8).toNat:=by
    rw[<-List.drop_take,eri];congr 2
   rw[Int.toNat_natCast,Int.toNat_natCast,e2]
   have hl:((bs.drop (p0/8)).take (p/8-p0/8)).length=p/8-p0/8:=by rw[List.length_take,List.length_drop];omega
   refine zb.mono (CC (hi.sub H1.sb) 0#32 a2 (c-p0/8) _ (fun x hx=>hb x (List.mem_of_mem_drop (List.mem_of_mem_take hx))) hx2 (by omega) (by omega)) ?_
   rintro _ h2 ⟨rfl,s2⟩
   have H2:=H1.ED s2
   have hcr:0<=qD ((bs.drop (p0/8)).take (p/8-p0/8))/\qD ((bs.drop (p0/8)).take (p/8-p0/8))<4294967296:=by
    have:=(jd 0#32 ((bs.drop (p0/8)).take (p/8-p0/8))).isLt
    unfold qD;omega
   have ea:IntKind.i64.wrap (Go.bits .and .u32 ((jd 0#32 ((bs.drop (p0/8)).take (p/8-p0/8))).toNat:Int) 65535)=qD ((bs.take (r.i/8).toNat).drop ((p0:Int)/8).toNat)%65536:=by
    have e3:=Uv hcr
    have e4:((jd 0#32 ((bs.drop (p0/8)).take (p/8-p0/8))).toNat:Int)=qD ((bs.drop (p0/8)).take (p/8-p0/8)):=rfl
    rw[e4,e3,i64_in _ (by omega),eh]
   refine⟨_,rfl,fun _=>?_⟩
   rw[ea]
   have eF:gF5 bs p0 fl r=bdK 4 ((tk bs 16 r).2 != qD ((bs.take (r.i/8).toNat).drop ((p0:Int)/8).toNat)%65536) (tk bs 16 r).1:=if_pos ⟨hz,hkr⟩
   refine⟨fun hne=>?_,fun heq=>?_⟩
   ·have eF2:gF5 bs p0 fl r=⟨(tk bs (8*2) r).1.i,4⟩:=by rw[eF];unfold bdK;rw[if_pos ⟨hk,hne⟩]
    rw[eF2]at hP
    refine⟨4,(G.sub H2.sb).e4,H2.okE Q hi,fun _ _=>?_⟩
    exact LC Q hi (H2.Xc Q (K:=4) (.inl (by decide))) hP _ _ _ _ _ _ _ _ _ _ _ _ _ _ _ _ _ _ _ _ _ _ _ _ _ _
   ·have eF2:gF5 bs p0 fl r=(tk bs (8*2) r).1:=by rw[eF];unfold bdK;rw[if_neg (fun e=>by rw[heq]at e;cases e.2)]
    rw[eF2]at hP
    intro _ _
    exact LC Q hi H2 hP _ _ _ _ _ _ _ _ _ _ _ _ _ _ _ _ _ _ _ _ _ _ _ _ _ _
  ·have hk:(tk bs (8*2) r).1.k≠0:=by simpa[zu,za]using hk
   have eF2:gF5 bs p0 fl r=(tk bs (8*2) r).1:=by
    unfold gF5
    split
    ·exact if_neg fun e=>hk e.1
    ·rename_i h
     rw[wM (fun e=>h ⟨hz,e⟩)]
   rw[eF2]at hP
   refine fun _=>⟨fun h=>h.elim,fun _ _ _=>?_⟩
   exact LC Q hi H1 hP _ _ _ _ _ _ _ _ _ _ _ _ _ _ _ _ _ _ _ _ _ _ _ _ _ _
 ·have hz:¬fl/2%2=1:=by simpa using hz
  have e:gF5 bs p0 fl r=r:=if_neg (fun h=>hz h.1)
  rw[e]at hP
  intro _
  exact LC Q hi H hP _ _ _ _ _ _ _ _ _ _ _ _ _ _ _ _ _ _ _ _ _ _ _ _ _ _
def gT(bs:List Int)(fl d:Int)(r:Rd):Rd×List Int:=if fl/d%2=1 then txL bs (bs.length+1) r []else(r,[])
theorem Ei:∀ {n:Nat} {r:Rd} {acc:List Int},le2 r (txL bs n r acc).1
 | 0,r,acc=>fun h=>⟨h,by unfold txL;simp⟩
 | n+1,r,acc=>by
  unfold txL
  split
  ·split
   ·exact yd
   ·exact yd.trans Ei
  ·exact fun h=>⟨h,by simp⟩
theorem J0:∀ {n:Nat} {r:Rd} {acc:List Int},le2 r (byL bs n r acc).1
 | 0,r,acc=>fun h=>⟨h,by unfold byL;simp⟩
 | n+1,r,acc=>by
  unfold byL
  split
  ·split
   ·exact yd.trans J0
   ·exact yd
  ·exact fun h=>⟨h,by simp⟩
theorem UA{fl d:Int}:le2 r (gT bs fl d r).1:=by
 unfold gT;split
 ·exact Ei
 ·exact fun h=>⟨h,by simp⟩
theorem Qm(Q:HG h0 hs bm bF bE bM)(hi:Eng.Inv (yo Tryz.prog s) h0)(G:ErrS h0)(hx:zp h0 .u8 a bs)(L:bs.length<=65536)(hc:bs.length<=c)(hb:okB bs)(H:HS h0 hs h bm bF bE bM a c bs m T r fl mt xf os u4 u5 u6 x4 x5 x6)(hfl:0<=fl/\fl<256){p0:Nat}(hle:r.k=0->(p0:Int)<=r.i)
  (hP:∀h',HS h0 hs h' bm bF bE bM a c bs m T (gF5 bs p0 fl r) fl mt xf os u4 u5 u6 x4 x5 x6->Post (z8 (gF5 bs p0 fl r).k) h')
  (e4 e6 e7 e8 e9 e10 e11 e12 e13 e14 e15 e16 e17 e18 e19 e20 e21 e22:Value) :
  gd4.wp Tryz.prog (yo Tryz.prog s) yu Post [.pointer (some ⟨bm,0,none⟩),.pointer (some ⟨bM,0,none⟩),.pointer (some ⟨bF,0,none⟩),.pointer (some ⟨bE,0,none⟩),e4,.int .i64 (p0:Int),e6,e7,e8,e9,e10,e11,e12,e13,e14,e15,e16,e17,e18,e19,e20,e21,e22] h []:=by
 simp only[gd4,Tr.wp,Ex.ev,coerce,zc,zf,zG,yb,zx,zt,vA,vB,vJ,vI,Nat.add_zero,and_true,zo]
 obtain⟨p,q1,q2,M⟩:=id H.mp
 refine⟨_,H.gF,by simp,_,(zX M.hb).2.1,by simp,_,H.gM,?_⟩
 exact XJ Q hi G hx L hc hb H hfl q1 (fun hk=>by have e:=q2 hk;have h2:=hle hk;rw[e]at h2 ⊢;simp only at h2 ⊢;exact⟨trivial,by omega⟩) hP _ _ _ _ _ _ _ _ _ _ _ _ _ _ _ _ _ _ _
theorem Qn(Q:HG h0 hs bm bF bE bM)(hi:Eng.Inv (yo Tryz.prog s) h0)(G:ErrS h0)(hx:zp h0 .u8 a bs)(L:bs.length<=65536)(hc:bs.length<=c)(hb:okB bs)(H:HS h0 hs h bm bF bE bM a c bs m T r fl mt xf os u4 u5 (.slice none 0 0) x4 x5 [])(hfl:0<=fl/\fl<256){p0:Nat}(hle:r.k=0->(p0:Int)<=r.i)
  (hP:∀u6 h',HS h0 hs h' bm bF bE bM a c bs m T (gF5 bs p0 fl (gT bs fl 16 r).1) fl mt xf os u4 u5 u6 x4 x5 (gT bs fl 16 r).2->Post (z8 (gF5 bs p0 fl (gT bs fl 16 r).1).k) h')
  (e4 e6 e7 e8 e9 e10 e11 e12 e13 e14 e15 e16 e17 e18:Value) :
  gd3.wp Tryz.prog (yo Tryz.prog s) yu Post [.pointer (some ⟨bm,0,none⟩),.pointer (some ⟨bM,0,none⟩),.pointer (some ⟨bF,0,none⟩),.pointer (some ⟨bE,0,none⟩),e4,.int .i64 (p0:Int),e6,e7,e8,e9,e10,e11,e12,e13,e14,e15,e16,e17,e18] h []:=by
 simp only[gd3,Tr.wp,zA,Ex.ev,coerce,toInt_int,zc,zg,zk,zh,zf,zG,yb,zB,arith,Cst.val,SV.den,zr,zF,zz,zn,zl,zx,zt,zL,vF,vG,vA,vB,vC,vD,vE,vJ,vI,vK,List.length_cons,List.length_nil,Nat.zero_add,Nat.add_zero,and_true,if_true,if_false,vL,zo]
 have hle2:(gT bs fl 16 r).1.k=0->(p0:Int)<=(gT bs fl 16 r).1.i:=fun hk=>by have:=UA hk;have:=hle this.1;omega
 refine⟨z8 r.k,za,H.gE,fun hk=>?_,fun hk=>?_⟩
 ·have hk:r.k=0:=by simpa[zu,za]using hk
  refine⟨by simp,_,H.gM,fun _=>?_⟩
  rw[(Jz hfl).2.2.1]
  refine⟨fun hz=>?_,fun hz=>?_⟩
  ·have hz:fl/16%2=1:=by simpa using hz
   have eT:gT bs fl 16 r=txL bs (bs.length+1) r []:=if_pos hz
   rw[eT]at hP hle2
   refine⟨_,H.gF,?_⟩
   refine zb.mono (Sr hi G.el.es hx L H.mp hk) ?_
   rintro v h1 B
   obtain⟨a1,l1,c1,rfl,okM,okE,_,_,HH⟩:=H.fill (S:=yo Tryz.prog s) Q hk B
   refine⟨_,_,_,z8 (txL bs (bs.length+1) r []).1.k,za,by rw[za],by simp,okM 6 (by decide) hi,okE 6 (by decide) _ hi,fun _=>?_⟩
   simp only[za]
   exact Qm Q hi G hx L hc hb HH hfl hle2 (hP _) _ _ _ _ _ _ _ _ _ _ _ _ _ _ _ _ _ _
  ·have hz:¬fl/16%2=1:=by simpa using hz
   have eT:gT bs fl 16 r=(r,[]):=if_neg hz
   rw[eT]at hP hle2
   intro _
   exact Qm Q hi G hx L hc hb H hfl hle2 (hP _) _ _ _ _ _ _ _ _ _ _ _ _ _ _ _ _ _ _
 ·have hk:r.k≠0:=by simpa[zu,za]using hk
  have eT:gT bs fl 16 r=(r,[]):=by
   unfold gT;split
   ·exact Km hk
   ·rfl
  rw[eT]at hP hle2
  refine fun _=>⟨fun h=>h.elim,fun _ _=>?_⟩
  exact Qm Q hi G hx L hc hb H hfl hle2 (hP _) _ _ _ _ _ _ _ _ _ _ _ _ _ _ _ _ _ _
theorem Qo(Q:HG h0 hs bm bF bE bM)(hi:Eng.Inv (yo Tryz.prog s) h0)(G:ErrS h0)(hx:zp h0 .u8 a bs)(L:bs.length<=65536)(hc:bs.length<=c)(hb:okB bs)(H:HS h0 hs h bm bF bE bM a c bs m T r fl mt xf os u4 (.slice none 0 0) (.slice none 0 0) x4 [] [])(hfl:0<=fl/\fl<256){p0:Nat}(hle:r.k=0->(p0:Int)<=r.i)
  (hP:∀u5 u6 h',HS h0 hs h' bm bF bE bM a c bs m T (gF5 bs p0 fl (gT bs fl 16 (gT bs fl 8 r).1).1) fl mt xf os u4 u5 u6 x4 (gT bs fl 8 r).2 (gT bs fl 16 (gT bs fl 8 r).1).2->Post (z8 (gF5 bs p0 fl (gT bs fl 16 (gT bs fl 8 r).1).1).k) h')
  (e4 e6 e7 e8 e9 e10 e11 e12 e13 e14:Value) :
  gd2.wp Tryz.prog (yo Tryz.prog s) yu Post [.pointer (some ⟨bm,0,none⟩),.pointer (some ⟨bM,0,none⟩),.pointer (some ⟨bF,0,none⟩),.pointer (some ⟨bE,0,none⟩),e4,.int .i64 (p0:Int),e6,e7,e8,e9,e10,e11,e12,e13,e14] h []:=by
 simp only[gd2,Tr.wp,zA,Ex.ev,coerce,toInt_int,zc,zg,zk,zh,zf,zG,yb,zB,arith,Cst.val,SV.den,zr,zF,zz,zn,zl,zx,zt,zL,vF,vG,vA,vB,vC,vD,vE,vJ,vI,vK,List.length_cons,List.length_nil,Nat.zero_add,Nat.add_zero,and_true,if_true,if_false,vL,zo]
 have hle2:(gT bs fl 8 r).1.k=0->(p0:Int)<=(gT bs fl 8 r).1.i:=fun hk=>by have:=UA hk;have:=hle this.1;omega
 refine⟨z8 r.k,za,H.gE,fun hk=>?_,fun hk=>?_⟩
 ·have hk:r.k=0:=by simpa[zu,za]using hk
  refine⟨by simp,_,H.gM,fun _=>?_⟩
  rw[(Jz hfl).2.1]
  refine⟨fun hz=>?_,fun hz=>?_⟩
  ·have hz:fl/8%2=1:=by simpa using hz
   have eT:gT bs fl 8 r=txL bs (bs.length+1) r []:=if_pos hz
   rw[eT]at hP hle2
   refine⟨_,H.gF,?_⟩
   refine zb.mono (Sr hi G.el.es hx L H.mp hk) ?_
   rintro v h1 B
   obtain⟨a1,l1,c1,rfl,okM,okE,_,HH,_⟩:=H.fill (S:=yo Tryz.prog s) Q hk B
   refine⟨_,_,_,z8 (txL bs (bs.length+1) r []).1.k,za,by rw[za],by simp,okM 5 (by decide) hi,okE 5 (by decide) _ hi,fun _=>?_⟩
   simp only[za]
   exact Qn Q hi G hx L hc hb HH hfl hle2 (hP _) _ _ _ _ _ _ _ _ _ _ _ _ _ _
  ·have hz:¬fl/8%2=1:=by simpa using hz
   have eT:gT bs fl 8 r=(r,[]):=if_neg hz
   rw[eT]at hP hle2
   intro _
   exact Qn Q hi G hx L hc hb H hfl hle2 (hP _) _ _ _ _ _ _ _ _ _ _ _ _ _ _
 ·have hk:r.k≠0:=by simpa[zu,za]using hk
  have eT:gT bs fl 8 r=(r,[]):=by
   unfold gT;split
   ·exact Km hk
   ·rfl
  rw[eT]at hP hle2
  refine fun _=>⟨fun h=>h.elim,fun _ _=>?_⟩
  exact Qn Q hi G hx L hc hb H hfl hle2 (hP _) _ _ _ _ _ _ _ _ _ _ _ _ _ _
def gE(bs:List Int)(fl:Int)(r:Rd):Rd×List Int:=if fl/4%2=1 then byL bs (tk bs 16 r).2.toNat (tk bs 16 r).1 []else(r,[])
theorem XK{fl:Int}:le2 r (gE bs fl r).1:=by
 unfold gE;split
 ·exact yd.trans J0
 ·exact fun h=>⟨h,by simp⟩
theorem XL(Q:HG h0 hs bm bF bE bM)(hi:Eng.Inv (yo Tryz.prog s) h0)(G:ErrS h0)(hx:zp h0 .u8 a bs)(L:bs.length<=65536)(hc:bs.length<=c)(hb:okB bs)(H:HS h0 hs h bm bF bE bM a c bs m T r fl mt xf os (.slice none 0 0) (.slice none 0 0) (.slice none 0 0) [] [] [])(hfl:0<=fl/\fl<256){p0:Nat}(hle:r.k=0->(p0:Int)<=r.i)
  (hP:∀u4 u5 u6 h',HS h0 hs h' bm bF bE bM a c bs m T (gF5 bs p0 fl (gT bs fl 16 (gT bs fl 8 (gE bs fl r).1).1).1) fl mt xf os u4 u5 u6 (gE bs fl r).2 (gT bs fl 8 (gE bs fl r).1).2 (gT bs fl 16 (gT bs fl 8 (gE bs fl r).1).1).2->Post (z8 (gF5 bs p0 fl (gT bs fl 16 (gT bs fl 8 (gE bs fl r).1).1).1).k) h')
  (e4 e6 e7 e8 e9 e10 e11 e12 e13:Value) :
  gd1.wp Tryz.prog (yo Tryz.prog s) yu Post [.pointer (some ⟨bm,0,none⟩),.pointer (some ⟨bM,0,none⟩),.pointer (some ⟨bF,0,none⟩),.pointer (some ⟨bE,0,none⟩),e4,.int .i64 (p0:Int),e6,e7,e8,e9,e10,e11,e12,e13,.int .i64 fl] h []:=by
 simp only[gd1,Tr.wp,zA,Ex.ev,coerce,toInt_int,zc,zg,zk,zh,zf,zG,yb,zB,arith,Cst.val,SV.den,zr,zF,zz,zn,zl,zx,zt,zL,vF,vG,vA,vB,vC,List.getElem?_cons_succ,vD,vE,vJ,vI,vK,List.length_cons,List.length_nil,Nat.zero_add,Nat.add_zero,and_true,if_true,if_false,vL,zo]
 have hle2:(gE bs fl r).1.k=0->(p0:Int)<=(gE bs fl r).1.i:=fun hk=>by have:=XK hk;have:=hle this.1;omega
 rw[(Jz hfl).1]
 refine⟨fun hz=>?_,fun hz=>?_⟩
 ·have hz:fl/4%2=1:=by simpa using hz
  have eT:gE bs fl r=byL bs (tk bs 16 r).2.toNat (tk bs 16 r).1 []:=if_pos hz
  rw[eT]at hP hle2
  refine zb.mono (Ap Q hi G.el.es hx (by omega) H 2 (by omega)) ?_
  rintro _ h1 ⟨rfl,H1⟩
  have nm:=zQ (bs:=bs) (n:=16) (r:=r)
  have e16:(2:Int)^16=65536:=by decide
  rw[e16]at nm
  obtain⟨n,en⟩:=Int.eq_ofNat_of_zero_le nm.1
  have en2:(tk bs (8*2) r).2=(n:Int):=en
  have eN:(tk bs 16 r).2.toNat=n:=by rw[en];rfl
  rw[eN]at hP hle2
  rw[en2]
  refine⟨_,rfl,z8 (tk bs (8*2) r).1.k,za,H1.gE,fun hk=>?_,fun hk=>?_⟩
  ·have hk:(tk bs (8*2) r).1.k=0:=by simpa[zu,za]using hk
   refine⟨_,H1.gF,?_⟩
   refine zb.mono (VF hi G.el.es hx L H1.mp hk n (by omega)) ?_
   rintro v h2 B
   obtain⟨a1,l1,c1,rfl,okM,okE,HH,_,_⟩:=H1.fill (S:=yo Tryz.prog s) Q hk B
   refine⟨_,_,_,z8 (byL bs n (tk bs (8*2) r).1 []).1.k,za,by rw[za],by simp,okM 4 (by decide) hi,okE 4 (by decide) _ hi,fun _ _=>?_⟩
   simp only[za]
   exact Qo Q hi G hx L hc hb HH hfl hle2 (hP _) _ _ _ _ _ _ _ _ _ _
  ·have hk:(tk bs (8*2) r).1.k≠0:=by simpa[zu,za]using hk
   have eB:byL bs n (tk bs 16 r).1 []=((tk bs 16 r).1,[]):=Kn hk
   rw[eB]at hP hle2
   intro _ _
   exact Qo Q hi G hx L hc hb H1 hfl hle2 (hP _) _ _ _ _ _ _ _ _ _ _
 ·have hz:¬fl/4%2=1:=by simpa using hz
  have eT:gE bs fl r=(r,[]):=if_neg hz
  rw[eT]at hP hle2
  intro _
  exact Qo Q hi G hx L hc hb H hfl hle2 (hP _) _ _ _ _ _ _ _ _ _ _
def PHd(h0 h:Eng.Heap)(bm bM:Nat)(a:Option Addr)(c:Nat)(bs:List Int)(m:MC)(T:TypeId)(r:Rd)(v:Value)(h':Eng.Heap):Prop:=
 v=z8 (gHd bs r).k/\∃bF bE u4 u5 u6,HG h0 h bm bF bE bM/\HS h0 h h' bm bF bE bM a c bs m T (gHd bs r) (gFl bs r) (gMt bs r).2 (gXf bs r).2 (gOs bs r).2 u4 u5 u6 (gEx bs r).2 (gNa bs r).2 (gCo bs r).2
theorem Xd(hi:Eng.Inv (yo Tryz.prog s) h0)(G:ErrS h0)(hx:zp h0 .u8 a bs)(L:bs.length<=65536)(hc:bs.length<=c)(hb:okB bs){p0:Nat}(hp0:p0<=8*bs.length)(M:MAt h0 h bm a c bs p0 m T)(hM:h0 bM=none)(ne:bM≠bm){TM:TypeId}
  (cM:h bM=some (.cells #[.int .i64 0,.int .i64 0,.int .i64 0,.int .i64 0,.slice none 0 0,.slice none 0 0,.slice none 0 0,.int .i64 0] TM)) :
  zb Tryz.prog (yo Tryz.prog s) qx #[.pointer (some ⟨bm,0,none⟩),.pointer (some ⟨bM,0,none⟩)] h (PHd h0 h bm bM a c bs m T ⟨p0,0⟩):=by
 refine Ey (vs:=[.pointer (some ⟨bm,0,none⟩),.pointer (some ⟨bM,0,none⟩)]) ⟨rfl,rfl,trivial⟩ (hi.sub M.sb) ?_
 simp only[Bb,Tr.wp,zA,Ex.ev,coerce,toInt_int,zc,zf,zG,yb,zB,Cst.val,SV.den,zr,zF,zz,zn,zl,yp,zx,zt,zL,vF,vG,List.replicate_one,vA,vB,vD,vE,vJ,vI,vK,Nat.zero_add,Nat.add_zero,and_true,if_true,if_false,vL,zo]
 intro bF hbF bE hbE
 have hbm:h bm≠none:=by rw[M.hb];simp
 have hbM:h bM≠none:=by rw[cM];simp
 have nF:bF≠bm:=fun e=>hbm (e▸hbF)
 have nFM:bF≠bM:=fun e=>hbM (e▸hbF)
 have hbE':bE≠bF:=fun e=>by rw[e,upd_same]at hbE;cases hbE
 have hE:h bE=none:=by rw[upd_ne hbE']at hbE;exact hbE
 have nE:bE≠bm:=fun e=>hbm (e▸hE)
 have nEM:bE≠bM:=fun e=>hbM (e▸hE)
 have Q:HG h0 h bm bF bE bM:=⟨zK M.sb hE,hM,hE,hbM,Ne.symm nF,Ne.symm nE,Ne.symm hbE',ne,Ne.symm nEM,Ne.symm nFM⟩
 have s2:Eng.Sub h0 (upd (upd h bF (.cells #[.pointer (some ⟨bm,0,none⟩)] 53)) bE (.cells #[.nilIface] 61)):=ym (ym M.sb (zK M.sb hbF)) (zK M.sb hE)
 have g:∀y,y≠bF->y≠bE->upd (upd h bF (.cells #[.pointer (some ⟨bm,0,none⟩)] 53)) bE (.cells #[.nilIface] 61) y=h y:=fun y h1 h2=>(upd_ne h2).trans (upd_ne h1)
 generalize hh:upd (upd h bF (.cells #[.pointer (some ⟨bm,0,none⟩)] 53)) bE (.cells #[.nilIface] 61)=h1 at s2 g ⊢
 have H0:HS h0 h h1 bm bF bE bM a c bs m T ⟨(p0:Int),0⟩ 0 0 0 0 (.slice none 0 0) (.slice none 0 0) (.slice none 0 0) [] [] []:=
  ⟨⟨p0,hp0,fun _=>rfl,⟨(g bm (Ne.symm nF) (Ne.symm nE)).trans M.hb,M.nb,s2⟩⟩,⟨⟨53,by rw[<-hh];exact(upd_ne (Ne.symm hbE')).trans upd_same⟩,⟨61,by rw[<-hh];exact upd_same⟩⟩,⟨TM,(g bM (Ne.symm nFM) (Ne.symm nEM)).trans cM⟩,MS.nil,MS.nil,MS.nil,fun y h1 _ _=>g y (fun e=>h1 (e▸hbF)) (fun e=>h1 (e▸hE)),fun _=>⟨fun y g=>(by cases g),fun y g=>(by cases g),fun y g=>(by cases g)⟩⟩
 obtain⟨p,q1,q2,M2⟩:=id H0.mp
 obtain rfl:p0=p:=by have:=q2 rfl;simp only[Rd.mk.injEq,and_true]at this;omega
 refine⟨_,H0.gF,by simp,_,(zX M2.hb).2.1,?_⟩
 refine zb.mono (Ap Q hi G.el.es hx (by omega) H0 1 (by decide)) ?_
 rintro _ h2 ⟨rfl,H1⟩
 refine⟨_,rfl,?_⟩
 refine zb.mono (GQ Q hi G.el.es H1 _) ?_
 rintro _ h3 ⟨rfl,H2⟩
 refine⟨rfl,?_⟩
 refine zb.mono (Ap Q hi G.el.es hx (by omega) H2 1 (by decide)) ?_
 rintro _ h4 ⟨rfl,H3⟩
 refine⟨_,rfl,?_⟩
 refine zb.mono (GQ Q hi G.el.es H3 _) ?_
 rintro _ h5 ⟨rfl,H4⟩
 refine⟨rfl,?_⟩
 refine zb.mono (Ap Q hi G.el.es hx (by omega) H4 1 (by decide)) ?_
 rintro _ h6 ⟨rfl,H5⟩
 refine⟨_,rfl,?_⟩
 refine zb.mono (GQ Q hi G.el.es H5 _) ?_
 rintro _ h7 ⟨rfl,H6⟩
 refine⟨rfl,?_⟩
 refine zb.mono (Ap Q hi G.el.es hx (by omega) H6 1 (by decide)) ?_
 rintro _ h8 ⟨rfl,H7⟩
 have H8:=H7.qk Q (tk bs 8 (gh3 bs ⟨(p0:Int),0⟩)).2
 refine⟨_,rfl,by simp,H7.okM Q hi (by decide),by simp,_,H8.gM,?_⟩
 refine zb.mono (GQ Q hi G.el.es H8 _) ?_
 rintro _ h9 ⟨rfl,H9⟩
 refine⟨rfl,?_⟩
 have e4:bd (!decide ((tk bs 8 (gh3 bs ⟨(p0:Int),0⟩)).2<32)) (tk bs 8 (gh3 bs ⟨(p0:Int),0⟩)).1=gh4 bs ⟨(p0:Int),0⟩:=by
  unfold gh4 gFl
  congr 1
  by_cases hx:(tk bs 8 (gh3 bs ⟨(p0:Int),0⟩)).2<32
  ·rw[decide_eq_true hx,decide_eq_false (by omega)];rfl
  ·rw[decide_eq_false hx,decide_eq_true (by omega)];rfl
 have H9:HS h0 h h9 bm bF bE bM a c bs m T (gh4 bs ⟨(p0:Int),0⟩) (gFl bs ⟨(p0:Int),0⟩) 0 0 0 (.slice none 0 0) (.slice none 0 0) (.slice none 0 0) [] [] []:=by rw[<-e4];exact H9
 refine zb.mono (Ap Q hi G.el.es hx (by omega) H9 4 (by decide)) ?_
 rintro _ h10 ⟨rfl,H10⟩
 refine⟨_,rfl,by simp,H10.okM Q hi (by decide),?_⟩
 have H11:=H10.Yu Q (tk bs (8*4) (gh4 bs ⟨(p0:Int),0⟩)).2
 refine zb.mono (Ap Q hi G.el.es hx (by omega) H11 1 (by decide)) ?_
 rintro _ h12 ⟨rfl,H12⟩
 refine⟨_,rfl,by simp,H12.okM Q hi (by decide),?_⟩
 have H13:=H12.Yv Q (tk bs (8*1) (tk bs (8*4) (gh4 bs ⟨(p0:Int),0⟩)).1).2
 refine zb.mono (Ap Q hi G.el.es hx (by omega) H13 1 (by decide)) ?_
 rintro _ h14 ⟨rfl,H14⟩
 refine⟨_,rfl,by simp,H14.okM Q hi (by decide),?_⟩
 have H15:=H14.PD Q (tk bs (8*1) (tk bs (8*1) (tk bs (8*4) (gh4 bs ⟨(p0:Int),0⟩)).1).1).2
 refine⟨by simp,_,H15.gM,?_⟩
 have hle:(gOs bs ⟨(p0:Int),0⟩).1.k=0->(p0:Int)<=(gOs bs ⟨(p0:Int),0⟩).1.i:=fun hk=>by
  have h1:le2 ⟨(p0:Int),0⟩ (gh1 bs ⟨(p0:Int),0⟩):=yd.trans xj
  have h2:le2 (gh1 bs ⟨(p0:Int),0⟩) (gh2 bs ⟨(p0:Int),0⟩):=yd.trans xj
  have h3:le2 (gh2 bs ⟨(p0:Int),0⟩) (gh3 bs ⟨(p0:Int),0⟩):=yd.trans xj
  have h4:le2 (gh3 bs ⟨(p0:Int),0⟩) (gh4 bs ⟨(p0:Int),0⟩):=yd.trans xj
  have h5:le2 (gh4 bs ⟨(p0:Int),0⟩) (gOs bs ⟨(p0:Int),0⟩).1:=(yd.trans yd).trans yd
  exact((((h1.trans h2).trans h3).trans h4).trans h5 hk).2
 exact XL (r:=(gOs bs ⟨(p0:Int),0⟩).1) Q hi G hx L hc hb H15 Eh hle (fun u4 u5 u6 h' H=>⟨rfl,bF,bE,u4,u5,u6,Q,H⟩) _ _ _ _ _ _ _ _ _
end
end
section
section
variable {s : Nat -> Prop} {h h0 hs h' : Eng.Heap} {bm bM bw : Nat} {Post : Value -> Eng.Heap -> Prop}
variable {a : Option Addr} {c : Nat} {bs : List Int} {T TM TW : TypeId} {r : Rd} {xs : List Int} {ao : Option Addr} {co : Nat}
theorem CL{b i:Nat}{vs:Array Value}{v:Value}(hb:h b=some (.cells vs T))(hv:vs[i]? = some v):zw h ⟨b,i,none⟩ v=h:=by
 rw[hset_cells' hb]
 have e:vs.setIfInBounds i v=vs:=by
  apply Array.ext_getElem?
  intro j
  rw[Array.getElem?_setIfInBounds]
  split
  ·rename_i e
   subst e
   rw[hv]
   split
   ·rfl
   ·rename_i h;exact absurd (Array.getElem?_eq_some_iff.1 hv).1 h
  ·rfl
 rw[e,jP hb]
structure MO(h0 h:Eng.Heap)(bm:Nat)(a:Option Addr)(c:Nat)(bs:List Int)(T:TypeId)(r:Rd)(xs:List Int)(ao:Option Addr)(co:Nat):Prop where
 mt:∃(p:Nat) (w:Value) (last:Bool) (l d:Value),p<=8*bs.length/\(r.k=0->r=⟨(p:Int),0⟩)/\h bm=some (zM a c bs p ⟨w,.slice ao xs.length co,100000-(xs.length:Int),last,l,d⟩ T)
 pt:Part .u8 h (.slice ao xs.length co) xs
 nw:∀y,zd (.slice ao xs.length co)=some y->h0 y=none/\y≠bm
 sb:Eng.Sub h0 h
 le:xs.length<=100000
theorem MO.err{r':Rd}(H:MO h0 h bm a c bs T r xs ao co)(hk:r'.k≠0):MO h0 h bm a c bs T r' xs ao co:=by
 obtain⟨p,w,last,l,d,h1,h2,h3⟩:=H.mt
 exact⟨⟨p,w,last,l,d,h1,fun e=>absurd e hk,h3⟩,H.pt,H.nw,H.sb,H.le⟩
def PU(h h':Eng.Heap)(bm:Nat)(w u:Value)(x:List Int):Prop:=Part .u8 h' u x/\∀y,zd u=some y->h y=none/\y≠bm/\zd w≠some y
def PM(h0 h:Eng.Heap)(bm:Nat)(a:Option Addr)(c:Nat)(bs:List Int)(T:TypeId)(r:Rd)(xs:List Int)(ao:Option Addr)(co:Nat)(v:Value)(h':Eng.Heap):Prop:=
 ∃(fl mt xf os:Int) (u4 u5 u6:Value) (sz:Int) (ao':Option Addr) (co':Nat),v=.tuple #[.agg #[.int .i64 fl,.int .i64 mt,.int .i64 xf,.int .i64 os,u4,u5,u6,.int .i64 sz],z8 (gC2 bs xs.length r).k] /\
  MO h0 h' bm a c bs T (gC2 bs xs.length r) (xs++(gSt bs xs.length r).2) ao' co'/\(∀y,h y≠none->y≠bm->zd (.slice ao xs.length co)≠some y->h' y=h y) /\
  (∀y,zd (.slice ao' (xs++(gSt bs xs.length r).2).length co')=some y->h y=none\/zd (.slice ao xs.length co)=some y) /\
  (∃a4 l4 c4 a5 l5 c5 a6 l6 c6,u4=.slice a4 l4 c4/\u5=.slice a5 l5 c5/\u6=.slice a6 l6 c6) /\
  ((gC2 bs xs.length r).k=0->fl=gFl bs r/\mt=(gMt bs r).2/\xf=(gXf bs r).2/\os=(gOs bs r).2/\sz=((gSt bs xs.length r).2.length:Int) /\
   PU h h' bm (.slice ao' (xs++(gSt bs xs.length r).2).length co') u4 (gEx bs r).2/\PU h h' bm (.slice ao' (xs++(gSt bs xs.length r).2).length co') u5 (gNa bs r).2/\PU h h' bm (.slice ao' (xs++(gSt bs xs.length r).2).length co') u6 (gCo bs r).2/\D3 u4 u5 u6)
structure MX(h0 h hB:Eng.Heap)(bm bM:Nat)(bs xs:List Int)(ao:Option Addr)(co:Nat)(TM:TypeId)(fl mt xf os:Int)(u4 u5 u6:Value)(x4 x5 x6:List Int):Prop where
 sB:Eng.Sub h0 hB
 nB:hB bm=none
 nM:h bM=none
 n0:h0 bM=none
 ne:bM≠bm
 fB:∀y,h y≠none->y≠bm->zd (.slice ao xs.length co)≠some y->hB y=h y
 cM:hB bM=some (.cells #[.int .i64 fl,.int .i64 mt,.int .i64 xf,.int .i64 os,u4,u5,u6,.int .i64 0] TM)
 p4:Part .u8 hB u4 x4/\∀y,zd u4=some y->h y=none/\y≠bm/\y≠bM
 p5:Part .u8 hB u5 x5/\∀y,zd u5=some y->h y=none/\y≠bm/\y≠bM
 p6:Part .u8 hB u6 x6/\∀y,zd u6=some y->h y=none/\y≠bm/\y≠bM
 f4:∃a4 l4 c4 a5 l5 c5 a6 l6 c6,u4=.slice a4 l4 c4/\u5=.slice a5 l5 c5/\u6=.slice a6 l6 c6
 le:xs.length<=100000
 dj:D3 u4 u5 u6
abbrev kcG(a:Option Addr)(c:Nat)(bs xs:List Int)(T TW:TypeId)(bm bw:Nat):KC:=⟨a,c,bs,0,100000-xs.length,32768,T,TW,bm,bw,xs⟩
section
variable {hB hb : Eng.Heap} {fl mt xf os : Int} {u4 u5 u6 : Value} {x4 x5 x6 : List Int} {r2 : Rd} {al : List Int} {last : Bool} {l d : Value}
theorem IM.mo(X:MX h0 h hB bm bM bs xs ao co TM fl mt xf os u4 u5 u6 x4 x5 x6)(s1:Eng.Sub hB hb)(I:IM hb h' (kcG a c bs xs T TW bm bw) r2 al last l d) :
  ∃ao' co',MO h0 h' bm a c bs T r2 (xs++al) ao' co'/\(∀y,zd (.slice ao' (xs++al).length co')=some y->hB y=none)/\(∀y,zd (.slice ao' (xs++al).length co')=some y->h y=none\/zd (.slice ao xs.length co)=some y):=by
 obtain⟨p,ao',co',hp,hr,hm,P,N⟩:=I.mt
 have eo:(kcG a c bs xs T TW bm bw).otl al=xs++al:=by simp[KC.otl]
 rw[eo]at hm P N
 have out:∀y,zd (.slice ao' (xs++al).length co')=some y->y≠bm/\hB y=none:=fun y hy=>⟨(IM.xz N hy).1,zK s1 (IM.xz N hy).2.2⟩
 have hle:=I.le
 simp only[Nat.zero_add]at hle
 refine⟨ao',co',⟨⟨p,.pointer (some ⟨bw,0,none⟩),last,l,d,hp,fun hk=>Ql (hr hk) hk,?_⟩,P,fun y hy=>⟨zK X.sB (out y hy).2,(out y hy).1⟩,X.sB.trans (s1.trans I.sb),by rw[List.length_append];have:=X.le;omega⟩,fun y hy=>(out y hy).2,fun y hy=>?_⟩
 ·have er:((100000-xs.length:Nat):Int)-((al.length-0:Nat):Int)=100000-((xs++al).length:Int):=by rw[List.length_append];have:=X.le;omega
  rw[hm,<-er];rfl
 ·by_cases h1:h y=none
  ·exact .inl h1
  ·by_cases h2:zd (.slice ao xs.length co)=some y
   ·exact .inr h2
   ·have:=X.fB y h1 (out y hy).1 h2
    rw[(out y hy).2]at this
    exact absurd this.symm h1
theorem ld8{b:Nat}{v0 v1 v2 v3 v4 v5 v6 v7:Value}(hb:h b=some (.cells #[v0,v1,v2,v3,v4,v5,v6,v7] T)):ze h ⟨b,0,none⟩=some v0/\ze h ⟨b,1,none⟩=some v1/\ze h ⟨b,1+1,none⟩=some v2/\ze h ⟨b,1+1+1,none⟩=some v3/\ze h ⟨b,1+1+1+1,none⟩=some v4/\ze h ⟨b,1+1+1+1+1,none⟩=some v5/\ze h ⟨b,1+1+1+1+1+1,none⟩=some v6/\ze h ⟨b,1+1+1+1+1+1+1,none⟩=some v7:=by
 simp[ze,hb]
theorem PM.bad(X:MX h0 h hB bm bM bs xs ao co TM fl mt xf os u4 u5 u6 x4 x5 x6)(s1:Eng.Sub hB hb)(I:IM hb h' (kcG a c bs xs T TW bm bw) r2 al last l d)(eS:(gSt bs xs.length r).2=al){K:Int}(hK:K≠0)(eC:(gC2 bs xs.length r).k=K) :
  PM h0 h bm a c bs T r xs ao co (.tuple #[.agg #[.int .i64 fl,.int .i64 mt,.int .i64 xf,.int .i64 os,u4,u5,u6,.int .i64 0],z8 K]) h':=by
 obtain⟨ao',co',M,oB,oh⟩:=IM.mo X s1 I
 have sb:Eng.Sub hB h':=s1.trans I.sb
 rw[<-eC]at hK
 refine⟨fl,mt,xf,os,u4,u5,u6,0,ao',co',by rw[eC],by rw[eS];exact M.err hK,fun y g1 g2 g3=>?_,by rw[eS];exact oh,X.f4,fun e=>absurd e hK⟩
 have e:=X.fB y g1 g2 g3
 cases ho:h y with
 | none=>exact absurd ho g1
 | some o=>exact sb y o (e.trans ho)
theorem MX.cM'(X:MX h0 h hB bm bM bs xs ao co TM fl mt xf os u4 u5 u6 x4 x5 x6)(sb:Eng.Sub hB h'):h' bM=some (.cells #[.int .i64 fl,.int .i64 mt,.int .i64 xf,.int .i64 os,u4,u5,u6,.int .i64 0] TM):=sb _ _ X.cM
theorem PM.wD(X:MX h0 h hB bm bM bs xs ao co TM (gFl bs r) (gMt bs r).2 (gXf bs r).2 (gOs bs r).2 u4 u5 u6 (gEx bs r).2 (gNa bs r).2 (gCo bs r).2)(s1:Eng.Sub hB hb)(I:IM hb h' (kcG a c bs xs T TW bm bw) r2 al last l d)(eS:(gSt bs xs.length r).2=al)(eC:gC2 bs xs.length r=r2)(hk:r2.k=0) :
  PM h0 h bm a c bs T r xs ao co (.tuple #[.agg #[.int .i64 (gFl bs r),.int .i64 (gMt bs r).2,.int .i64 (gXf bs r).2,.int .i64 (gOs bs r).2,u4,u5,u6,.int .i64 (al.length:Int)],.nilIface]) (upd h' bM (.cells #[.int .i64 (gFl bs r),.int .i64 (gMt bs r).2,.int .i64 (gXf bs r).2,.int .i64 (gOs bs r).2,u4,u5,u6,.int .i64 (al.length:Int)] TM)):=by
 obtain⟨ao',co',M,oB,oh⟩:=IM.mo X s1 I
 have sb:Eng.Sub hB h':=s1.trans I.sb
 have oM:∀y,zd (.slice ao' (xs++al).length co')=some y->y≠bM:=fun y hy e=>by have:=oB y hy;rw[e,X.cM]at this;cases this
 have pu:∀ {u:Value} {x:List Int},(Part .u8 hB u x/\∀y,zd u=some y->h y=none/\y≠bm/\y≠bM)->PU h (upd h' bM (.cells #[.int .i64 (gFl bs r),.int .i64 (gMt bs r).2,.int .i64 (gXf bs r).2,.int .i64 (gOs bs r).2,u4,u5,u6,.int .i64 (al.length:Int)] TM)) bm (.slice ao' (xs++al).length co') u x:=fun H=>by
  refine⟨(H.1.sub sb).keep fun y hy=>upd_ne (H.2 y hy).2.2,fun y hy=>⟨(H.2 y hy).1,(H.2 y hy).2.1,fun e=>?_⟩⟩
  exact H.1.held y hy (oB y e)
 obtain⟨p,w,last',l',d',q1,q2,q3⟩:=M.mt
 refine⟨_,_,_,_,u4,u5,u6,(al.length:Int),ao',co',?_,?_,fun y g1 g2 g3=>?_,by rw[eS];exact oh,X.f4,fun _=>⟨rfl,rfl,rfl,rfl,by rw[eS],?_⟩⟩
 ·rw[eC,hk];rfl
 ·rw[eC,eS]
  exact⟨⟨p,w,last',l',d',q1,q2,(upd_ne (Ne.symm X.ne)).trans q3⟩,M.pt.keep fun y hy=>upd_ne (oM y hy),M.nw,ym M.sb X.n0,M.le⟩
 ·rw[upd_ne (fun e=>g1 (by rw[e];exact X.nM))]
  have e:=X.fB y g1 g2 g3
  cases ho:h y with
  | none=>exact absurd ho g1
  | some o=>exact sb y o (e.trans ho)
 ·rw[eS];exact⟨pu X.p4,pu X.p5,pu X.p6,X.dj⟩
theorem XM(hi:Eng.Inv (yo Tryz.prog s) h0)(hiB:Eng.Inv (yo Tryz.prog s) hB)(G:ErrS h0)(hx:zp h0 .u8 a bs)(L:bs.length<=65536)(X:MX h0 h hB bm bM bs xs ao co TM (gFl bs r) (gMt bs r).2 (gXf bs r).2 (gOs bs r).2 u4 u5 u6 (gEx bs r).2 (gNa bs r).2 (gCo bs r).2)(s1:Eng.Sub hB hb)(I:IM hb h' (kcG a c bs xs T TW bm bw) r2 al last l d)(hk:r2.k=0)
  (eS:(gSt bs xs.length r).2=al)(eC:gC1 bs xs.length r=r2){a6:Option Addr}{c6:Nat}(hc6:(xs++al).length<=c6)(Ks:List Kt)(e2 e3 e5 e7 e8 e9:Value) :
  gm4.wp Tryz.prog (yo Tryz.prog s) yu (PM h0 h bm a c bs T r xs ao co) [.pointer (some ⟨bm,0,none⟩),.pointer (some ⟨bM,0,none⟩),e2,e3,.slice ao xs.length co,e5,.slice a6 (xs++al).length c6,e7,e8,e9] h' Ks:=by
 obtain⟨a4,l4,c4,a5,l5,c5,a7,l7,c7,rfl,rfl,rfl⟩:=X.f4
 simp only[gm4,Tr.wp,zA,Ex.ev,coerce,toInt_int,zc,zg,zk,zh,zf,zG,yb,jO,kW,zB,Cst.val,SV.den,zr,zF,zz,zn,zl,zx,zt,zL,vF,vG,vA,vB,vD,vE,vJ,vI,vK,List.length_cons,List.length_nil,Nat.zero_add,Nat.add_zero,and_true,if_true,if_false,vL,zo]
 have hib:=hiB.sub s1
 have eT:gT2 bs xs.length r=tk bs 32 r2:=by unfold gT2;rw[eC]
 have eC2:gC2 bs xs.length r=bdK 4 ((tk bs 32 r2).2 != (al.length:Int)) (tk bs 32 r2).1:=by unfold gC2;rw[eT,eS]
 refine⟨by simp,?_⟩
 refine zb.mono (Bn (k:=kcG a c bs xs T TW bm bw) hib (G.el.es.sub (X.sB.trans s1)) (hx.sub (X.sB.trans s1)) (by show bs.length<=1048576;omega) I hk 32 (by decide)) ?_
 rintro _ h3 ⟨rfl,I3⟩
 have sb3:=s1.trans I3.sb
 refine⟨(tk bs 32 r2).2,z8 (tk bs 32 r2).1.k,za,by rw[za],fun hz=>?_,fun hz=>?_⟩
 ·have hz:(tk bs 32 r2).1.k≠0:=by simpa[zu,za]using hz
  refine⟨_,_,_,_,_,_,_,_,_,_,_,_,_,_,ld8 (X.cM' sb3),?_⟩
  rw[za]
  exact PM.bad X s1 I3 eS hz (by rw[eC2];unfold bdK;rw[if_neg (fun e=>hz e.1)])
 ·have hz:(tk bs 32 r2).1.k=0:=by simpa[zu,za]using hz
  have el:((slL (j8 1 a6 ((xs.length:Int)).toNat (xs++al).length c6):Nat):Int)=(al.length:Int):=by
   have:slL (j8 1 a6 ((xs.length:Int)).toNat (xs++al).length c6)=(xs++al).length-((xs.length:Int)).toNat:=by
    unfold j8;split <;> rfl
   rw[this,List.length_append];omega
  rw[el]
  refine⟨fun hne=>?_,fun heq=>?_⟩
  ·refine⟨_,_,_,_,_,_,_,_,_,_,_,_,_,_,ld8 (X.cM' sb3),4,(G.sub (X.sB.trans sb3)).e4,?_⟩
   exact PM.bad (K:=4) X s1 I3 eS (by decide) (by rw[eC2];unfold bdK;rw[if_pos ⟨hz,hne⟩])
  ·have h6:=X.cM' sb3
   have heq:(tk bs 32 r2).2=(al.length:Int):=by simpa using heq
   rw[heq]
   refine⟨⟨⟨_,(ld8 h6).2.2.2.2.2.2.2⟩,by simp[yf,h6],fun hs=>hi bM hs X.n0⟩,?_⟩
   rw[hset_cells' h6]
   refine⟨_,_,_,_,_,_,_,_,_,_,_,_,_,_,ld8 upd_same,?_⟩
   exact PM.wD X s1 I3 eS (by rw[eC2,heq];unfold bdK;rw[if_neg (by simp)]) hz
theorem IM.ED{k:KC}{h3:Eng.Heap}(I:IM hb h' k r2 al last l d)(s:Eng.Sub h' h3):IM hb h3 k r2 al last l d:=by
 obtain⟨p,ao,co,h1,h2,h4,P,N⟩:=I.mt
 obtain⟨dd,at_,n,g1,g2,g3,g4⟩:=I.rg
 exact⟨⟨p,ao,co,h1,h2,s _ _ h4,P.sub s,N⟩,⟨dd,at_,n,s _ _ g1,g2,g3.trans s,g4⟩,I.nm,I.ne,I.sb.trans s,I.le⟩
theorem XN(hi:Eng.Inv (yo Tryz.prog s) h0)(hiB:Eng.Inv (yo Tryz.prog s) hB)(G:ErrS h0)(hx:zp h0 .u8 a bs)(L:bs.length<=65536)(X:MX h0 h hB bm bM bs xs ao co TM (gFl bs r) (gMt bs r).2 (gXf bs r).2 (gOs bs r).2 u4 u5 u6 (gEx bs r).2 (gNa bs r).2 (gCo bs r).2)(s1:Eng.Sub hB hb)(I:IM hb h' (kcG a c bs xs T TW bm bw) r2 al last l d)(hk:r2.k=0)
  (eS:(gSt bs xs.length r).2=al)(eA:alg (gSt bs xs.length r).1=r2)(hal:okB al)(Ks:List Kt)(e2 e3 e5:Value) :
  gm3.wp Tryz.prog (yo Tryz.prog s) yu (PM h0 h bm a c bs T r xs ao co) [.pointer (some ⟨bm,0,none⟩),.pointer (some ⟨bM,0,none⟩),e2,e3,.slice ao xs.length co,e5] h' Ks:=by
 obtain⟨a4,l4,c4,a5,l5,c5,a7,l7,c7,rfl,rfl,rfl⟩:=X.f4
 simp only[gm3,Tr.wp,zA,Ex.ev,coerce,toInt_int,zc,zg,zk,zh,zf,zG,yb,jO,kW,zB,Cst.val,SV.den,zr,zF,zz,zn,zl,zx,zt,vF,vG,vA,vB,decide_eq_true_eq,vD,vE,vJ,vI,vK,List.length_cons,List.length_nil,Nat.zero_add,Nat.add_zero,and_true,if_true,if_false,vL,zo]
 have hib:=hiB.sub s1
 obtain⟨p,a6,c6,hp,hr,hm,P,N⟩:=id I.mt
 have eo:(kcG a c bs xs T TW bm bw).otl al=xs++al:=by simp[KC.otl]
 have P':=P
 rw[eo]at P'
 have hm':h' bm=some (zM a c bs p (yX (kcG a c bs xs T TW bm bw) al (.slice a6 (xs++al).length c6) last l d) T):=by rw[<-eo];exact hm
 obtain⟨_,_,e6,hc6,_⟩:=P'.ints
 cases e6
 have er2:r2=⟨(p:Int),0⟩:=Ql (hr hk) hk
 have eT:gT1 bs xs.length r=tk bs 32 r2:=by unfold gT1;rw[eA]
 have eC1:gC1 bs xs.length r=bdK 4 ((tk bs 32 r2).2 != qD al) (tk bs 32 r2).1:=by unfold gC1;rw[eT,eS]
 have hle:=I.le
 simp only[Nat.zero_add]at hle
 have hlx:=X.le
 refine⟨by simp,_,_,_,(zX hm').2.2.2.1,by omega,by rw[List.length_append];omega,by simp,?_⟩
 have M:MAt hb h' bm a c bs p (yX (kcG a c bs xs T TW bm bw) al (.slice a6 (xs++al).length c6) last l d) T:=⟨hm',I.nm,I.sb⟩
 refine zb.mono (EA hib (G.el.es.sub (X.sB.trans s1)) (hx.sub (X.sB.trans s1)) (by omega) p hp 32 (by decide) M) ?_
 rintro _ h3 ⟨rfl,rfl⟩
 rw[<-er2]
 obtain⟨q,hq,eq⟩:=Nf (bs:=bs) (n:=32) hp
 rw[<-er2]at eq
 have I3:=IM.JY I (r':=(tk bs 32 r2).1) (last':=last) (l':=l) (d':=d) hq (fun _=>eq) P N
 rw[eo]at I3
 have I3:IM hb (upd h' bm (zM a c bs (tk bs 32 r2).1.i (yX (kcG a c bs xs T TW bm bw) al (.slice a6 (xs++al).length c6) last l d) T)) (kcG a c bs xs T TW bm bw) (tk bs 32 r2).1 al last l d:=by rw[eq];exact I3
 have P3:Part .u8 (upd h' bm (zM a c bs (tk bs 32 r2).1.i (yX (kcG a c bs xs T TW bm bw) al (.slice a6 (xs++al).length c6) last l d) T)) (.slice a6 (xs++al).length c6) (xs++al):=P'.keep fun y hy=>upd_ne (by rw[eo]at N;exact(IM.xz N hy).1)
 generalize upd h' bm (zM a c bs (tk bs 32 r2).1.i (yX (kcG a c bs xs T TW bm bw) al (.slice a6 (xs++al).length c6) last l d) T)=h3 at I3 P3 ⊢
 have sb3:=s1.trans I3.sb
 refine⟨(tk bs 32 r2).2,z8 (tk bs 32 r2).1.k,za,by rw[za],fun hz=>?_,fun hz=>?_⟩
 ·have hz:(tk bs 32 r2).1.k≠0:=by simpa[zu,za]using hz
  refine⟨_,_,_,_,_,_,_,_,_,_,_,_,_,_,ld8 (X.cM' sb3),?_⟩
  rw[za]
  have eC:gC1 bs xs.length r=(tk bs 32 r2).1:=by rw[eC1];unfold bdK;rw[if_neg (fun e=>hz e.1)]
  refine PM.bad X s1 I3 eS hz ?_
  have e2:gT2 bs xs.length r=((tk bs 32 r2).1,0):=by unfold gT2;rw[eC,wM hz]
  unfold gC2;rw[e2];unfold bdK;rw[if_neg (fun e=>hz e.1)]
 ·have hz:(tk bs 32 r2).1.k=0:=by simpa[zu,za]using hz
  obtain⟨_,_,e7,_,hx6⟩:=P3.ints
  cases e7
  obtain⟨a8,e8,hx8⟩:=kB hx6 (lo:=xs.length) (hi:=(xs++al).length) (m:=c6) (by rw[List.length_append];omega) (Nat.le_refl _) hc6
  have ed:((xs++al).drop xs.length).take ((xs++al).length-xs.length)=al:=by
   rw[List.drop_left,List.take_of_length_le (by rw[List.length_append];omega)]
  rw[ed]at e8 hx8
  rw[Int.toNat_natCast,e8]
  refine zb.mono (CC (hiB.sub sb3) 0#32 a8 (c6-xs.length) al hal hx8 (by rw[List.length_append]at hc6;omega) (by omega)) ?_
  rintro _ h4 ⟨rfl,s4⟩
  have I4:=IM.ED I3 s4
  have sb4:=s1.trans I4.sb
  have nm:=zQ (bs:=bs) (n:=32) (r:=r2)
  have e32:(2:Int)^32=4294967296:=by decide
  rw[e32]at nm
  have wu:IntKind.u32.wrap (tk bs 32 r2).2=(tk bs 32 r2).2:=by rw[IntKind.wrap_u32];omega
  rw[wu]
  refine⟨_,rfl,fun hne=>?_,fun heq=>?_⟩
  ·refine⟨_,_,_,_,_,_,_,_,_,_,_,_,_,_,ld8 (X.cM' sb4),4,(G.sub (X.sB.trans sb4)).e4,?_⟩
   have eC:gC1 bs xs.length r=⟨(tk bs 32 r2).1.i,4⟩:=by rw[eC1];unfold bdK;rw[if_pos ⟨hz,hne⟩]
   refine PM.bad (K:=4) X s1 I4 eS (by decide) ?_
   have e2:gT2 bs xs.length r=(⟨(tk bs 32 r2).1.i,4⟩,0):=by unfold gT2;rw[eC];exact wM (by show(4:Int)≠0;decide)
   unfold gC2;rw[e2];unfold bdK;rw[if_neg (fun e=>by cases e.1)]
  ·have eC:gC1 bs xs.length r=(tk bs 32 r2).1:=by rw[eC1];unfold bdK;rw[if_neg (fun e=>by have h:=e.2;unfold qD at h;rw[heq]at h;cases h)]
   exact XM hi hiB G hx L X s1 I4 hz eS eC hc6 _ _ _ _ _ _ _
theorem XO(hi:Eng.Inv (yo Tryz.prog s) h0)(hiB:Eng.Inv (yo Tryz.prog s) hB)(G:ErrS h0)(hx:zp h0 .u8 a bs)(L:bs.length<=65536)(X:MX h0 h hB bm bM bs xs ao co TM (gFl bs r) (gMt bs r).2 (gXf bs r).2 (gOs bs r).2 u4 u5 u6 (gEx bs r).2 (gNa bs r).2 (gCo bs r).2)(I:IM hB h' (kcG a c bs xs T TW bm bw) (gHd bs r) [] last l d)(hk:(gHd bs r).k=0)(okr:okR bs (gHd bs r))
  (ho:ze h' ⟨bm,3,none⟩=some (.slice ao xs.length co))(Ks:List Kt)(e2:Value) :
  gm2.wp Tryz.prog (yo Tryz.prog s) yu (PM h0 h bm a c bs T r xs ao co) [.pointer (some ⟨bm,0,none⟩),.pointer (some ⟨bM,0,none⟩),e2,.pointer (some ⟨bw,0,none⟩)] h' Ks:=by
 obtain⟨a4,l4,c4,a5,l5,c5,a7,l7,c7,rfl,rfl,rfl⟩:=X.f4
 simp only[gm2,Tr.wp,zA,Ex.ev,coerce,toInt_int,zc,zg,zk,zh,zf,zG,yb,SV.den,zr,zF,zz,zn,zl,zx,zt,vF,vG,vA,vB,vD,vE,vJ,vI,vK,Nat.zero_add,Nat.add_zero,and_true,if_true,if_false,vL,zo]
 refine⟨by simp,_,_,_,ho,?_⟩
 have hlx:=X.le
 have RA:AO hB (kcG a c bs xs T TW bm bw) (8*bs.length+1) (gSt bs xs.length r) (fnV (kcG a c bs xs T TW bm bw) yl) h' (mz (kcG a c bs xs T TW bm bw) (gHd bs r)+0):=
  ⟨gHd bs r,[],hB,last,_,_,fun _ _ e=>e,I,hk,okr,8*bs.length+1,by have:=(okr hk).1;show 8*(bs.length:Int)+1<=(gHd bs r).i+((8*bs.length+1:Nat):Int);omega,.inl ⟨rfl,rfl,rfl⟩⟩
 have K:=Us (S:=yo Tryz.prog s) hiB (G.el.sub X.sB) (by show 100000-xs.length<=200000;omega) (by show 0<=40000;omega) (by show 1<=32768/\32768<=32768;omega) (hx.sub X.sB) (by show bs.length<=1048576;omega) (Nat.le_refl _) RA
 refine zb.mono K ?_
 rintro _ h4 ⟨hb4,last4,l4,d4,rfl,sb4,I4,ok4⟩
 have sbB:=sb4.trans I4.sb
 refine⟨z8 (gSt bs xs.length r).1.k,za,by rw[za],fun hz=>?_,fun hz=>?_⟩
 ·have hz:(gSt bs xs.length r).1.k≠0:=by simpa[zu,za]using hz
  refine⟨_,_,_,_,_,_,_,_,_,_,_,_,_,_,ld8 (X.cM' sbB),?_⟩
  rw[za]
  have ea:alg (gSt bs xs.length r).1=(gSt bs xs.length r).1:=by unfold alg;rw[if_neg hz]
  have e1:gT1 bs xs.length r=((gSt bs xs.length r).1,0):=by unfold gT1;rw[ea,wM hz]
  have e2:gC1 bs xs.length r=(gSt bs xs.length r).1:=by unfold gC1;rw[e1];unfold bdK;rw[if_neg (fun e=>hz e.1)]
  have e3:gT2 bs xs.length r=((gSt bs xs.length r).1,0):=by unfold gT2;rw[e2,wM hz]
  refine PM.bad X sb4 I4 rfl hz ?_
  unfold gC2;rw[e3];unfold bdK;rw[if_neg (fun e=>hz e.1)]
 ·have hz:(gSt bs xs.length r).1.k=0:=by simpa[zu,za]using hz
  refine⟨by simp,?_⟩
  refine zb.mono (ON (k:=kcG a c bs xs T TW bm bw) (r:=(gSt bs xs.length r).1) (al:=(gSt bs xs.length r).2) (hiB.sub sb4) (by show bs.length<=1048576;omega) I4 hz) ?_
  rintro _ h5 ⟨rfl,I5⟩
  refine⟨rfl,?_⟩
  have hka:(alg (gSt bs xs.length r).1).k=0:=by unfold alg;rw[if_pos hz]
  exact XN hi hiB G hx L X sb4 I5 hka rfl rfl (Kc OO) _ _ _ _
end
theorem Ni(hi:Eng.Inv (yo Tryz.prog s) h0)(G:ErrS h0)(hx:zp h0 .u8 a bs)(L:bs.length<=65536)(hc:bs.length<=c)(hb:okB bs)(nb:h0 bm=none){r:Rd}(H:MO h0 h bm a c bs T r xs ao co)(hk:r.k=0) :
  zb Tryz.prog (yo Tryz.prog s) kD #[.pointer (some ⟨bm,0,none⟩)] h (PM h0 h bm a c bs T r xs ao co):=by
 refine Du (vs:=[.pointer (some ⟨bm,0,none⟩)]) ⟨rfl,trivial⟩ (hi.sub H.sb) ?_
 simp only[Af,Tr.wp,zA,Ex.ev,coerce,toInt_int,zc,zg,zk,zh,zf,zG,Cst.val,SV.den,zr,zF,zz,zn,zl,yp,zx,zt,zL,vF,vG,List.replicate_one,vA,vB,vD,vE,vJ,vI,vK,Nat.zero_add,Nat.add_zero,and_true,if_true,if_false,vL,zo]
 intro bM hbM
 obtain⟨p0,w,last,l,d,hp0,hr0,hm⟩:=H.mt
 obtain rfl:=hr0 hk
 have hbm:h bm≠none:=by rw[hm];simp
 have ne:bM≠bm:=fun e=>hbm (e▸hbM)
 have hM0:h0 bM=none:=zK H.sb hbM
 have outh:∀y,zd (.slice ao xs.length co)=some y->h y≠none:=fun y hy=>H.pt.held y hy
 have eA:(List.replicate 4 (Value.int .i64 0)++(List.replicate 3 (Value.slice none 0 0)++[Value.int .i64 0])).toArray=#[.int .i64 0,.int .i64 0,.int .i64 0,.int .i64 0,.slice none 0 0,.slice none 0 0,.slice none 0 0,.int .i64 0]:=rfl
 rw[eA]
 have cA:upd h bM (.cells #[.int .i64 0,.int .i64 0,.int .i64 0,.int .i64 0,.slice none 0 0,.slice none 0 0,.slice none 0 0,.int .i64 0] 65) bM=some (.cells #[.int .i64 0,.int .i64 0,.int .i64 0,.int .i64 0,.slice none 0 0,.slice none 0 0,.slice none 0 0,.int .i64 0] 65):=upd_same
 have fA:∀y,y≠bM->upd h bM (.cells #[.int .i64 0,.int .i64 0,.int .i64 0,.int .i64 0,.slice none 0 0,.slice none 0 0,.slice none 0 0,.int .i64 0] 65) y=h y:=fun y hy=>upd_ne hy
 have sA:Eng.Sub h0 (upd h bM (.cells #[.int .i64 0,.int .i64 0,.int .i64 0,.int .i64 0,.slice none 0 0,.slice none 0 0,.slice none 0 0,.int .i64 0] 65)):=ym H.sb hM0
 generalize upd h bM (.cells #[.int .i64 0,.int .i64 0,.int .i64 0,.int .i64 0,.slice none 0 0,.slice none 0 0,.slice none 0 0,.int .i64 0] 65)=hA at cA fA sA ⊢
 have ky:∀(i:Nat) (v:Value),(#[.int .i64 0,.int .i64 0,.int .i64 0,.int .i64 0,.slice none 0 0,.slice none 0 0,.slice none 0 0,.int .i64 0]:Array Value)[i]? = some v->zw hA ⟨bM,i,none⟩ v=hA:=fun i v hv=>CL cA hv
 rw[ky (0) (.int .i64 0) rfl,ky (1) (.int .i64 0) rfl,ky (1+1) (.int .i64 0) rfl,ky (1+1+1) (.int .i64 0) rfl,ky (1+1+1+1) (.slice none 0 0) rfl,ky (1+1+1+1+1) (.slice none 0 0) rfl,ky (1+1+1+1+1+1) (.slice none 0 0) rfl,ky (1+1+1+1+1+1+1) (.int .i64 0) rfl]
 have okc:∀(i:Nat) (v:Value),ze hA ⟨bM,i,none⟩=some v->yC (yo Tryz.prog s) hA ⟨bM,i,none⟩:=fun i v hv=>⟨⟨v,hv⟩,by simp[yf,cA],fun hs=>hi bM hs hM0⟩
 obtain⟨z0,z1,z2,z3,z4,z5,z6,z7⟩:=ld8 cA
 refine⟨okc _ _ z0,okc _ _ z1,okc _ _ z2,okc _ _ z3,okc _ _ z4,okc _ _ z5,okc _ _ z6,okc _ _ z7,?_⟩
 have MA:MAt h0 hA bm a c bs p0 ⟨w,.slice ao xs.length co,100000-(xs.length:Int),last,l,d⟩ T:=⟨(fA bm (Ne.symm ne)).trans hm,nb,sA⟩
 refine zb.mono (Xd hi G hx L hc hb hp0 MA hM0 ne cA) ?_
 rintro _ hH ⟨rfl,bF,bE,u4,u5,u6,Q,HH⟩
 have hAs:∀y,hA y=none->y≠bM->h y=none:=fun y h1 h2=>by rw[<-fA y h2];exact h1
 have fH:∀y,h y≠none->y≠bm->hH y=h y:=fun y h1 h2=>by
  have h3:y≠bM:=fun e=>h1 (e▸hbM)
  exact(HH.fr y (by rw[fA y h3];exact h1) h2 h3).trans (fA y h3)
 have PH:Part .u8 hH (.slice ao xs.length co) xs:=H.pt.keep fun y hy=>fH y (outh y hy) (H.nw y hy).2
 obtain⟨pH,qH1,qH2,MH⟩:=id HH.mp
 obtain⟨TM,cH⟩:=HH.mc
 obtain⟨⟨a4,l4,c4,rfl⟩,m4⟩:=HH.s4
 obtain⟨⟨a5,l5,c5,rfl⟩,m5⟩:=HH.s5
 obtain⟨⟨a6,l6,c6,rfl⟩,m6⟩:=HH.s6
 refine⟨z8 (gHd bs ⟨(p0:Int),0⟩).k,za,by rw[za],fun hz=>?_,fun hz=>?_⟩
 ·have hz:(gHd bs ⟨(p0:Int),0⟩).k≠0:=by simpa[zu,za]using hz
  refine⟨_,_,_,_,_,_,_,_,_,_,_,_,_,_,ld8 cH,?_⟩
  rw[za]
  have e0:gSt bs xs.length ⟨(p0:Int),0⟩=(gHd bs ⟨(p0:Int),0⟩,[]):=by unfold gSt blF;rw[if_neg hz]
  have ea:alg (gHd bs ⟨(p0:Int),0⟩)=gHd bs ⟨(p0:Int),0⟩:=by unfold alg;rw[if_neg hz]
  have e1:gT1 bs xs.length ⟨(p0:Int),0⟩=(gHd bs ⟨(p0:Int),0⟩,0):=by unfold gT1;rw[e0,ea,wM hz]
  have e2:gC1 bs xs.length ⟨(p0:Int),0⟩=gHd bs ⟨(p0:Int),0⟩:=by unfold gC1;rw[e1];unfold bdK;rw[if_neg (fun e=>hz e.1)]
  have e3:gT2 bs xs.length ⟨(p0:Int),0⟩=(gHd bs ⟨(p0:Int),0⟩,0):=by unfold gT2;rw[e2,wM hz]
  have e4:gC2 bs xs.length ⟨(p0:Int),0⟩=gHd bs ⟨(p0:Int),0⟩:=by unfold gC2;rw[e3];unfold bdK;rw[if_neg (fun e=>hz e.1)]
  unfold PM
  rw[e4,e0]
  simp only[vK]
  exact⟨_,_,_,_,_,_,_,0,ao,co,rfl,⟨⟨pH,w,last,l,d,qH1,fun h=>absurd h hz,MH.hb⟩,PH,H.nw,HH.sb,H.le⟩,fun y g1 g2 _=>fH y g1 g2,fun y hy=>.inr hy,⟨_,_,_,_,_,_,_,_,_,rfl,rfl,rfl⟩,fun h=>absurd h hz⟩
 ·have hz:(gHd bs ⟨(p0:Int),0⟩).k=0:=by simpa[zu,za]using hz
  obtain⟨P4,N4⟩:=m4 hz
  obtain⟨P5,N5⟩:=m5 hz
  obtain⟨P6,N6⟩:=m6 hz
  obtain⟨hB,ehB⟩:∃hB:Eng.Heap,hB=fun y=>if y=bm\/zd (.slice ao xs.length co)=some y then none else hH y:=⟨_,rfl⟩
  have b1:∀y,y≠bm->zd (.slice ao xs.length co)≠some y->hB y=hH y:=fun y g1 g2=>by rw[ehB];exact if_neg (fun e=>e.elim g1 g2)
  have b2:∀y,(y=bm\/zd (.slice ao xs.length co)=some y)->hB y=none:=fun y g=>by rw[ehB];exact if_pos g
  have sB:Eng.Sub h0 hB:=fun y o ho=>by
   rw[b1 y (fun e=>by rw[e,nb]at ho;cases ho) (fun e=>by rw[(H.nw y e).1]at ho;cases ho)]
   exact HH.sb y o ho
  have hiB:Eng.Inv (yo Tryz.prog s) hB:=hi.sub sB
  have sBH:Eng.Sub hB hH:=fun y o ho=>by
   by_cases g:y=bm\/zd (.slice ao xs.length co)=some y
   ·rw[b2 y g]at ho;cases ho
   ·rw[<-b1 y (fun e=>g (.inl e)) (fun e=>g (.inr e))];exact ho
  have nMo:zd (.slice ao xs.length co)≠some bM:=fun e=>outh bM e hbM
  have pk:∀ {u:Value} {x:List Int},Part .u8 hH u x->(∀y,zd u=some y->hA y=none/\y≠bm/\y≠bE/\y≠bM)->Part .u8 hB u x/\∀y,zd u=some y->h y=none/\y≠bm/\y≠bM:=fun P N=>
   ⟨P.keep fun y hy=>b1 y (N y hy).2.1 (fun e=>outh y e (hAs y (N y hy).1 (N y hy).2.2.2)),fun y hy=>⟨hAs y (N y hy).1 (N y hy).2.2.2,(N y hy).2.1,(N y hy).2.2.2⟩⟩
  have X:MX h0 h hB bm bM bs xs ao co TM (gFl bs ⟨(p0:Int),0⟩) (gMt bs ⟨(p0:Int),0⟩).2 (gXf bs ⟨(p0:Int),0⟩).2 (gOs bs ⟨(p0:Int),0⟩).2 _ _ _ (gEx bs ⟨(p0:Int),0⟩).2 (gNa bs ⟨(p0:Int),0⟩).2 (gCo bs ⟨(p0:Int),0⟩).2:=
   ⟨sB,b2 bm (.inl rfl),hbM,hM0,ne,fun y g1 g2 g3=>(b1 y g2 g3).trans (fH y g1 g2),(b1 bM ne nMo).trans cH,pk P4 N4,pk P5 N5,pk P6 N6,⟨_,_,_,_,_,_,_,_,_,rfl,rfl,rfl⟩,H.le,HH.d hz⟩
  simp only[gm1,Tr.wp,zA,Ex.ev,coerce,zc,zf,zG,yb,Cst.val,SV.den,zr,zF,zz,zn,zl,zx,zL,vF,vG,vA,vB,vD,vE,vJ,vI,vK,Nat.zero_add,Nat.add_zero,if_false,vL,zo]
  have KR:=Tw (S:=yo Tryz.prog s) (sz:=32768) (hi.sub HH.sb) none 0 [] (Nat.le_refl _) (by decide) (fun i x hx=>by simp at hx) (by decide) (by decide)
  refine zb.mono KR ?_
  rintro _ h2 ⟨bw,TW,rfl,RW⟩
  obtain⟨dd,at_,nn,hbw,R,s2,hnw⟩:=RW
  have hm2:=s2 _ _ MH.hb
  have nw:bm≠bw:=fun e=>by rw[<-e,MH.hb]at hnw;cases hnw
  refine⟨_,rfl,by simp,ko hm2 (fun hs=>hi bm hs nb) (zX hm2).2.2.1,?_⟩
  have eh:zw h2 ⟨bm,2,none⟩ (.pointer (some ⟨bw,0,none⟩))=upd h2 bm (zM a c bs pH ⟨.pointer (some ⟨bw,0,none⟩),.slice ao xs.length co,100000-(xs.length:Int),last,l,d⟩ T):=by rw[hset_cells' hm2];rfl
  rw[eh]
  have onb:∀y,zd (.slice ao xs.length co)=some y->y≠bm/\y≠bw:=fun y hy=>⟨(H.nw y hy).2,fun e=>by subst e;have:=PH.held y hy;exact this hnw⟩
  have sB3:Eng.Sub hB (upd h2 bm (zM a c bs pH ⟨.pointer (some ⟨bw,0,none⟩),.slice ao xs.length co,100000-(xs.length:Int),last,l,d⟩ T)):=ym (sBH.trans s2) X.nB
  have er:(((100000-xs.length:Nat):Int)-(((([]:List Int).length-0:Nat)):Int))=100000-(xs.length:Int):=by have:=H.le;simp only[List.length_nil];omega
  have I:IM hB (upd h2 bm (zM a c bs pH ⟨.pointer (some ⟨bw,0,none⟩),.slice ao xs.length co,100000-(xs.length:Int),last,l,d⟩ T)) (kcG a c bs xs T TW bm bw) (gHd bs ⟨(p0:Int),0⟩) [] last l d:=by
   have eo:(kcG a c bs xs T TW bm bw).otl []=xs:=by simp[KC.otl]
   refine⟨⟨pH,ao,co,qH1,fun hk=>by rw[qH2 hk],?_,?_,?_⟩,⟨dd,at_,nn,(upd_ne (Ne.symm nw)).trans hbw,R,sB3,zK sBH hnw⟩,X.nB,nw,sB3,⟨Nat.le_refl _,Nat.zero_le _,H.le⟩⟩
   ·rw[eo]
    show upd h2 bm _ bm=_
    rw[upd_same]
    show some (zM a c bs pH ⟨_,_,100000-(xs.length:Int),_,_,_⟩ T)=_
    rw[<-er];rfl
   ·rw[eo];exact(PH.sub s2).keep fun y hy=>upd_ne (onb y hy).1
   ·rw[eo];intro y hy;exact qA.2 ⟨by simp[(onb y hy).1,(onb y hy).2],b2 y (.inr hy)⟩
  exact XO hi hiB G hx L X I hz (Nc (fun _=>⟨by simp only;omega,by simp only;omega⟩)) (zX upd_same).2.2.2.1 _ _
end
end
end Go.Proofs.YtmnialmphlbmaaaGreatDoor
section
namespace Go.Eng
open Go
def yE(sz:Nat)(h:Heap)(v:Value)(n:Nat)(vs:List Value):Prop:=
 vs.length=n*sz/\((v=.slice none 0 0/\n=0)\/∃b sp T m,v=.slice (some ⟨b,0,none⟩) n (n+m)/\sp.length=m*sz/\h b=some (.cells (vs++sp).toArray T))
section
variable {h h0 h' : Heap} {v : Value} {vs us : List Value} {sz n : Nat}
theorem yE.nil:yE sz h (.slice none 0 0) 0 []:=⟨by simp,.inl ⟨rfl,rfl⟩⟩
theorem yE.keep(H:yE sz h v n vs)(hk:∀b,zd v=some b->h' b=h b):yE sz h' v n vs:=by
 obtain⟨hl,⟨rfl,rfl⟩ | ⟨b,sp,T,m,rfl,hs,hb⟩⟩:=H
 ·exact⟨hl,.inl ⟨rfl,rfl⟩⟩
 ·exact⟨hl,.inr ⟨b,sp,T,m,rfl,hs,by rw[hk b rfl];exact hb⟩⟩
theorem yE.held(H:yE sz h v n vs):∀b,zd v=some b->h b≠none:=by
 obtain⟨hl,⟨rfl,rfl⟩ | ⟨b,sp,T,m,rfl,hs,hb⟩⟩:=H
 ·intro b hb;cases hb
 ·intro b' hb';cases hb';rw[hb];simp
theorem yE.form(H:yE sz h v n vs):∃a c,v=.slice a n c:=by
 obtain⟨hl,⟨rfl,rfl⟩ | ⟨b,sp,T,m,rfl,hs,hb⟩⟩:=H
 ·exact⟨_,_,rfl⟩
 ·exact⟨_,_,rfl⟩
theorem yE.cell{a:Option Addr}{l c:Nat}(H:yE sz h (.slice a l c) n vs){i:Nat}{x:Value}(hx:vs[i]? = some x):ze h ((a.getD default).add i)=some x/\a.isSome=true/\l=n:=by
 obtain⟨hl,⟨e,rfl⟩ | ⟨b,sp,T,m,e,hs,hb⟩⟩:=H
 ·have:=(List.getElem?_eq_some_iff.1 hx).1
  simp at hl;rw[hl]at this;simp at this
 ·cases e
  refine⟨?_,rfl,rfl⟩
  rw[Option.getD_some,zS]
  simp only[ze,hb,List.getElem?_toArray]
  rw[List.getElem?_append_left (List.getElem?_eq_some_iff.1 hx).1];exact hx
theorem Lo(z:List Value)(k:Nat):(Builtin.zeroCells z.toArray k).toList.length=k*z.length:=by
 simp[Builtin.zeroCells]
theorem Gp{S:Shared}{ty:TypeId}{byt c bu:Nat}{z:List Value}{K:Value->Heap->Prop}(hi:Inv S h0)(hsub:Sub h0 h)(hs:yE sz h v n vs)(hn:New h0 v)(hx:∀(j:Nat) x,us[j]? = some x->ze h ((⟨bu,0,none⟩:Addr).add j)=some x)(hu:us.length=sz)(h1:∀x∈us,BI x)(hz:z.length=sz)
  (hl:(n+1)*byt<=140737488355328)
  (hK:∀v' h',yE sz h' v' (n+1) (vs++us)->New h0 v'->Sub h0 h'->(∀b,h b≠none->zd v≠some b->h' b=h b)->(zd v'=zd v\/New h v')->K v' h') :
  appW S ty sz byt z v (.slice (some ⟨bu,0,none⟩) 1 c) h K:=by
 obtain⟨hvl,hs⟩:=hs
 have hlen:(vs++us).length=(n+1)*sz:=by rw[List.length_append,hvl,hu,Nat.add_mul,Nat.one_mul]
 have grown:∀nc d,n+1<=nc->h d=none->K (.slice (some ⟨d,0,none⟩) (n+1) nc) (upd h d (.cells (vs.toArray++us.toArray++Builtin.zeroCells z.toArray (nc-(n+1))) ty)):=by
  intro nc d hnc hd
  have hd0:h0 d=none:=by
   cases hh:h0 d with
   | none=>rfl
   | some o=>rw[hsub d o hh]at hd;cases hd
  have e1:(vs.toArray++us.toArray++Builtin.zeroCells z.toArray (nc-(n+1)))=((vs++us)++(Builtin.zeroCells z.toArray (nc-(n+1))).toList).toArray:=by simp
  rw[e1]
  refine hK _ _ ⟨hlen,.inr ⟨d,(Builtin.zeroCells z.toArray (nc-(n+1))).toList,ty,nc-(n+1),?_,?_,by simp[upd]⟩⟩ (New.of hd0) ?_ (fun x hx hne=>?_) (.inr (New.of hd))
  ·congr 1;omega
  ·rw[Lo,hz]
  ·intro x o hx
   have:x≠d:=fun e=>by rw[e,hd0]at hx;cases hx
   rw[upd_ne this];exact hsub x o hx
  ·have:x≠d:=fun e=>hx (e▸hd)
   exact upd_ne this
 refine⟨us,by rw[slL,Nat.one_mul,hu],AK _ 0 fun j x hj=>by rw[Nat.zero_add];exact hx j x hj,h1,?_⟩
 obtain⟨rfl,rfl⟩ | ⟨b,sp,T,m,rfl,hsp,hb⟩:=hs
 ·have e:vs=[]:=by simpa using hvl
  subst e
  refine⟨fun hroom=>by simp only[slL,slC]at hroom;omega,fun hgrow=>⟨?_,[],by simp[slL],rfl,fun nc d hnc hd=>?_⟩⟩
  ·simp only[slL,slC]at hgrow ⊢
   exact growslice_fits (by omega) hl
  ·simp only[slL]at hnc ⊢
   exact grown nc d hnc hd
 ·have hb0:h0 b=none:=hn b rfl
  have hsb:¬S b:=fun hs=>hi b hs hb0
  refine⟨fun hroom=>?_,fun hgrow=>?_⟩
  ·simp only[slA,slL,slC]at hroom ⊢
   have e0:(⟨b,0,none⟩:Addr).add (n*sz)=⟨b,vs.length,none⟩:=by rw[<-hvl,zS]
   rw[e0]
   have hm:1<=m:=by omega
   have hsl:us.length<=sp.length:=by rw[hu,hsp];exact Nat.le_mul_of_pos_left _ hm
   refine Dm hsb us 0 h (vs++sp) hb (by rw[List.length_append];omega) ?_
   have e1:kj (vs++sp) (vs.length+0) us=(vs++us)++sp.drop us.length:=by
    simp[kj,List.drop_append,List.append_assoc]
   rw[e1]
   refine hK _ _ ⟨hlen,.inr ⟨b,sp.drop us.length,T,m-1,?_,?_,upd_same⟩⟩ (New.of hb0) ?_ (fun x hx hne=>upd_ne fun e=>hne (by rw[e];rfl)) (.inl rfl)
   ·congr 1;omega
   ·rw[List.length_drop,hu,hsp,Nat.sub_mul,Nat.one_mul]
   ·intro x o hx
    rw[upd_ne (fun e=>by rw[e,hb0]at hx;cases hx)];exact hsub x o hx
  ·simp only[slA,slL,slC]at hgrow ⊢
   refine⟨growslice_fits (by omega) hl,vs,hvl,AK _ 0 fun j x hj=>?_,fun nc d hnc hd=>grown nc d hnc hd⟩
   rw[zS,Nat.zero_add]
   simp only[ze,hb,List.getElem?_toArray]
   rw[List.getElem?_append_left (List.getElem?_eq_some_iff.1 hj).1];exact hj
end
end Go.Eng
end
