import Derived.Conc.WgGenN3
import Derived.Conc.WgWords
import Derived.Conc.DeferLaws
import Derived.Test.YtnhbgoiihgoneaaGreatDoorChecked
import Derived.Conc.LeavingOf
import Derived.SevenTiedAt
import Derived.IntWalk
import Derived.Test.YtnhbgoiihgoneaaGreatDoorPa3
import Derived.Test.YtnhbgoiihgoneaaGreatDoorPa4
import Derived.Test.YtnhbgoiihgoneaaGreatDoorPa5
import Derived.Test.YtnhbgoiihgoneaaGreatDoorPa6
import Derived.Test.YtnhbgoiihgoneaaGreatDoorPa7
import Derived.Test.YtnhbgoiihgoneaaGreatDoorPa8
import Derived.Test.YtnhbgoiihgoneaaGreatDoorPa9
set_option maxRecDepth 100000
set_option maxHeartbeats 8000000
set_option linter.unusedVariables false
set_option linter.unusedSimpArgs false
set_option linter.unusedSectionVars false
section
namespace Go.Eng
open Go Go.Conc Go.RowKit Go.Conc.Lib Go.ConcR.Gen Go.ConcN.Gen
open Go.ConcN hiding upd upd_same upd_ne AtD4 AtD3 AtD2 AtD1 AtK1 AtR0 AtAcq AtKe AtW4 AtW3 AtW2 AtW1 AtKd WSit AtA1
open Go.ConcR (KK wgBlock WgAt stA smA rd wr DC0 Payload)
section
variable [Payload] {P : Program} {L : WgLink} {Φ : Ph} {cs : List Frame} {qt : Nat}
theorem jl{w w₁:World}(_:Φ.J w)(h:Φ.J w₁):Φ.J w₁:=h
theorem J.cell0{w:World}(h:Φ.J w):∃v,w.cell? ⟨Φ.Wg,0,none⟩=some v:=WgLive.cell0 h.1
theorem J.cell1{w:World}(h:Φ.J w):∃v,w.cell? ⟨Φ.Wg,1,none⟩=some v:=WgLive.cell1 h.1
variable {b₀ : Frame} {a₀ : Act} {ops₀ : Array Oper} {i₀ : Nat} {rest₀ : List Nat} {k₀ : List Item}
theorem J.setSt(hCW:Φ.C≠Φ.Wg){w:World}(h:Φ.J w){st sm:Int}(hw:WgAt Φ.ty Φ.Wg w st sm)(v:Int):Φ.J (w.setCell (stA Φ.Wg) (.int .u64 v)):=by
 obtain⟨cs,h1,h2⟩:=h.2
 exact⟨⟨v,sm,hw.setSt v⟩,cs,((aside_setCell w (stA Φ.Wg) _).block _ hCW).trans h1,h2⟩
theorem J.setSm(hCW:Φ.C≠Φ.Wg){w:World}(h:Φ.J w){st sm:Int}(hw:WgAt Φ.ty Φ.Wg w st sm)(v:Int):Φ.J (w.setCell (smA Φ.Wg) (.int .u32 v)):=by
 obtain⟨cs,h1,h2⟩:=h.2
 exact⟨⟨st,v,hw.setSm v⟩,cs,((aside_setCell w (smA Φ.Wg) _).block _ hCW).trans h1,h2⟩
theorem V3(H:WgLib P L)(hCW:Φ.C≠Φ.Wg){Nx:Frame→List Frame→Prop}(hN:Nx (b₀.at (a₀.put ((ops₀[i₀]?).bind (·.dst)) (.tuple #[])) (.inRegion ops₀ rest₀::k₀)) cs)(w:World)(hK:Φ.J w) :
  Goes P true (fun _ w₁=>Φ.J w₁) DC0 (Kk P Φ Nx) 100
   (G ((base L.add).at ⟨#[.pointer (some ⟨Φ.Wg,0,none⟩),.int .i64 1,undef,undef,undef,undef,undef,undef,undef,undef,undef,undef,undef,undef,undef,undef,undef,undef,undef,undef,undef,undef,undef,undef,undef,undef,undef,undef,undef,undef,undef,undef,undef,undef,undef,undef,undef,undef,undef,undef,undef,undef,undef,undef,undef,undef,undef,undef,undef,undef,undef,undef,undef,undef,undef,undef,undef,undef,undef,undef,undef,undef,undef,undef,undef,undef,undef,undef,undef,undef,undef,undef,undef,undef,undef,undef,undef,undef,undef,undef,undef,undef,undef,undef,undef,undef,undef,undef,undef,undef,undef,undef,undef,undef,undef,undef,undef,undef,undef,undef,undef,undef,undef,undef,undef,undef,undef,undef,undef,undef,undef,undef,undef,undef,undef,undef,undef],[]⟩ [.code (body_add L)]) (b₀.at a₀ (.inRegion ops₀ (i₀::rest₀)::k₀)::cs)) w:=by
 lib_facts
 simp only[body_add,addFn,Option.getD_some]
 u_c stepG_seq jl hK
 u_cond true jl hK
 u_c stepG_seq jl hK
 u_c stepG_seq jl hK
 u_reg jl hK
 u_op jl hK
 u_op jl hK
 u_c stepG_region_end jl hK
 u_cond false jl hK
 u_c stepG_skip jl hK
 u_c stepG_seq jl hK
 u_reg jl hK
 refine Goes.stop (fun w₁ h₁=>?_)
 replace hK:=jl hK h₁
 clear h₁
 refine⟨rfl,_,stepG_mark0 .disable (by simp) rfl rfl (by k_ne) rfl H.f_disable (x_disable_n L) (x_disable_b L) (x_disable_x L) (x_disable_f L),100,Sil.of (w:=w₁) ?_⟩
 walk_nrm
 u_c stepG_region_end jl hK
 u_reg jl hK
 u_defer jl hK
 u_c stepG_region_end jl hK
 u_c stepG_seq jl hK
 u_reg jl hK
 u_op jl hK
 u_c stepG_region_end jl hK
 u_c stepG_seq jl hK
 u_c stepG_seq jl hK
 u_reg jl hK
 u_bub jl hK
 u_c stepG_region_end jl hK
 u_cond false jl hK
 u_c stepG_skip jl hK
 u_c stepG_seq jl hK
 u_reg jl hK
 u_op jl hK
 u_op jl hK
 u_op jl hK
 u_op jl hK
 u_op jl hK
 u_op jl hK
 u_call H.f_uAdd (nm_uAdd L) uAddFn jl hK
 u_c stepG_seq jl hK
 u_reg jl hK
 u_op jl hK
 u_c stepG_region_end jl hK
 u_c stepG_seq jl hK
 u_reg jl hK
 u_op jl hK
 u_op jl hK
 u_op jl hK
 u_op jl hK
 refine Goes.stop (fun w₁ h₁=>?_)
 replace hK:=jl hK h₁
 clear h₁
 refine⟨rfl,fun v hv hw=>?_⟩
 have e0:IntKind.u64.wrap ((v:Int)*KK+4294967296)=((v:Int)+1)*KK:=by rw[IntKind.wrap_u64];simp only[KK];omega
 refine⟨_,(stepG_add_atomic rfl rfl (by k_ne) rfl H.f_addU64 (x_addU64_n L) (x_addU64_b L) (x_addU64_x L) .u64 (x_addU64_f L) rfl rfl hw.cellSt (hw.thaw 0)).trans (by rw[e0];rfl),fun hv0=>⟨200,?_⟩,fun hv0=>⟨200,?_⟩⟩
 ·subst hv0
  replace hK:=J.setSt hCW hK hw ((((0:Nat):Int)+1)*KK)
  refine Sil.of (w:=w₁.setCell (stA Φ.Wg) (.int .u64 ((((0:Nat):Int)+1)*KK))) ?_
  generalize w₁.setCell (stA Φ.Wg) (.int .u64 ((((0:Nat):Int)+1)*KK))=w₂ at hK
  clear hw
  have z:(((0:Nat):Int)+1)*KK=4294967296:=by simp[KK]
  rw[z]
  walk_nrm
  u_op jl hK
  u_c stepG_region_end jl hK
  u_c stepG_ret' jl hK
  u_leave1 H.f_uAdd jl hK
  u_op jl hK
  u_c stepG_region_end jl hK
  u_c stepG_seq jl hK
  u_c stepG_seq jl hK
  u_reg jl hK
  u_op jl hK
  u_op jl hK
  u_op jl hK
  u_op jl hK
  u_skip jl hK
  u_skip jl hK
  u_op jl hK
  u_c stepG_region_end jl hK
  u_cond false jl hK
  u_c stepG_skip jl hK
  u_c stepG_seq jl hK
  u_reg jl hK
  u_op jl hK
  u_op jl hK
  u_op jl hK
  u_op jl hK
  u_c stepG_region_end jl hK
  u_c stepG_seq jl hK
  u_reg jl hK
  u_op jl hK
  u_op jl hK
  u_op jl hK
  u_op jl hK
  u_c stepG_region_end jl hK
  u_c stepG_seq jl hK
  u_c stepG_seq jl hK
  u_reg jl hK
  u_op jl hK
  u_op jl hK
  u_op jl hK
  u_op jl hK
  u_op jl hK
  u_op jl hK
  u_op jl hK
  u_op jl hK
  u_op jl hK
  u_op jl hK
  u_c stepG_region_end jl hK
  u_cond true jl hK
  u_reg jl hK
  u_op jl hK
  u_op jl hK
  u_op jl hK
  u_conv H.underlying_tPU32 H.room_tU32 (J.cell1 hK).choose_spec jl hK
  refine Goes.stop (fun w₁ h₁=>?_)
  replace hK:=jl hK h₁
  clear h₁
  refine⟨rfl,_,stepG_markAt .read (by simp) rfl rfl (by k_ne) rfl H.f_raceRead (x_raceRead_n L) (x_raceRead_b L) (x_raceRead_x L) (x_raceRead_f L) (ad:=⟨Φ.Wg,1,none⟩) (by simp[Act.eval]),200,Sil.of (w:=w₁) ?_⟩
  walk_nrm
  u_c stepG_region_end jl hK
  u_c stepG_seq jl hK
  u_c stepG_seq jl hK
  u_reg jl hK
  u_op jl hK
  u_op jl hK
  u_c stepG_region_end jl hK
  u_cond false jl hK
  u_c stepG_skip jl hK
  u_c stepG_seq jl hK
  u_c stepG_seq jl hK
  u_reg jl hK
  u_op jl hK
  u_op jl hK
  u_op jl hK
  u_skip jl hK
  u_skip jl hK
  u_op jl hK
  u_op jl hK
  u_skip jl hK
  u_skip jl hK
  u_skip jl hK
  u_skip jl hK
  u_op jl hK
  u_c stepG_region_end jl hK
  u_cond false jl hK
  u_c stepG_skip jl hK
  u_c stepG_seq jl hK
  u_c stepG_seq jl hK
  u_reg jl hK
  u_op jl hK
  u_op jl hK
  u_op jl hK
  u_skip jl hK
  u_skip jl hK
  u_op jl hK
  u_c stepG_region_end jl hK
  u_cond true jl hK
  u_c stepG_ret' jl hK
  refine Goes.stop (fun w₁ h₁=>?_)
  replace hK:=jl hK h₁
  clear h₁
  refine⟨rfl,_,stepG_unwind_entry (v:=.tuple #[]) (evs:=#[Go.ConcR.mk .enable]) rfl H.f_enable (x_enable_n L) (x_enable_b L) (x_enable_x L) (x_enable_f L) (by simp[Extern.Race.none_]) (by simp[Go.ConcR.mk]) (by simp[Go.ConcR.mk]),10,Sil.of (w:=w₁) ?_⟩
  u_leave0 H.f_add jl hK
  exact Goes.stop fun _ _=>⟨_,_,rfl,hN⟩
 ·replace hK:=J.setSt hCW hK hw (((v:Int)+1)*KK)
  refine Sil.of (w:=w₁.setCell (stA Φ.Wg) (.int .u64 (((v:Int)+1)*KK))) ?_
  generalize w₁.setCell (stA Φ.Wg) (.int .u64 (((v:Int)+1)*KK))=w₂ at hK
  clear hw e0
  obtain⟨V,hV⟩:∃V:Int,(v:Int)+1=V:=⟨_,rfl⟩
  obtain⟨S,hS⟩:∃S:Int,V*KK=S:=⟨_,rfl⟩
  have a1:S/4294967296=V:=by rw[←hS];simp only[KK];omega
  have b1:bits .and .u64 S 2147483648=0:=by rw[←hS,←hV];have:=st_flag (v+1) 0 (by omega) (by omega);simpa[KK]using this
  have b2:bits .and .u64 S 2147483647=0:=by rw[←hS,←hV];have:=st_waiters (v+1) 0 (by omega) (by omega);simpa[KK]using this
  have c1:IntKind.i32.wrap V=V:=by rw[IntKind.wrap_i32];omega
  have q3:decide (V<0)=false:=decide_eq_false (by omega)
  have q4:decide (0<V)=true:=decide_eq_true (by omega)
  have q5:(V==1)=false:=by simp;omega
  have q6:decide (V=1)=false:=decide_eq_false (by omega)
  rw[hV,hS]
  walk_nrm
  u_op jl hK
  u_c stepG_region_end jl hK
  u_c stepG_ret' jl hK
  u_leave1 H.f_uAdd jl hK
  u_op jl hK
  u_c stepG_region_end jl hK
  u_c stepG_seq jl hK
  u_c stepG_seq jl hK
  u_reg jl hK
  u_op jl hK
  u_op jl hK
  u_op jl hK
  u_op jl hK
  u_skip jl hK
  u_skip jl hK
  u_op jl hK
  u_c stepG_region_end jl hK
  u_cnd false jl hK
  u_c stepG_skip jl hK
  u_c stepG_seq jl hK
  u_reg jl hK
  u_op jl hK
  u_op jl hK
  u_op jl hK
  u_op jl hK
  u_c stepG_region_end jl hK
  u_c stepG_seq jl hK
  u_reg jl hK
  u_op jl hK
  u_op jl hK
  u_op jl hK
  u_op jl hK
  u_c stepG_region_end jl hK
  u_c stepG_seq jl hK
  u_c stepG_seq jl hK
  u_reg jl hK
  u_op jl hK
  u_op jl hK
  u_op jl hK
  u_op jl hK
  u_op jl hK
  u_op jl hK
  u_op jl hK
  u_op jl hK
  u_op jl hK
  u_op jl hK
  u_c stepG_region_end jl hK
  u_cnd false jl hK
  u_c stepG_skip jl hK
  u_c stepG_seq jl hK
  u_c stepG_seq jl hK
  u_reg jl hK
  u_op jl hK
  u_op jl hK
  u_c stepG_region_end jl hK
  u_cnd false jl hK
  u_c stepG_skip jl hK
  u_c stepG_seq jl hK
  u_c stepG_seq jl hK
  u_reg jl hK
  u_op jl hK
  u_op jl hK
  u_op jl hK
  u_skip jl hK
  u_skip jl hK
  u_op jl hK
  u_op jl hK
  u_skip jl hK
  u_skip jl hK
  u_skip jl hK
  u_skip jl hK
  u_op jl hK
  u_c stepG_region_end jl hK
  u_cnd false jl hK
  u_c stepG_skip jl hK
  u_c stepG_seq jl hK
  u_c stepG_seq jl hK
  u_reg jl hK
  u_op jl hK
  u_op jl hK
  u_op jl hK
  u_skip jl hK
  u_skip jl hK
  u_op jl hK
  u_c stepG_region_end jl hK
  u_cnd true jl hK
  u_c stepG_ret' jl hK
  refine Goes.stop (fun w₁ h₁=>?_)
  replace hK:=jl hK h₁
  clear h₁
  refine⟨rfl,_,stepG_unwind_entry (v:=.tuple #[]) (evs:=#[Go.ConcR.mk .enable]) rfl H.f_enable (x_enable_n L) (x_enable_b L) (x_enable_x L) (x_enable_f L) (by simp[Extern.Race.none_]) (by simp[Go.ConcR.mk]) (by simp[Go.ConcR.mk]),10,Sil.of (w:=w₁) ?_⟩
  u_leave0 H.f_add jl hK
  exact Goes.stop fun _ _=>⟨_,_,rfl,hN⟩
end
end Go.Eng
namespace Go.Eng
open Go Go.Conc Go.RowKit Go.Conc.Lib Go.ConcR.Gen Go.ConcN.Gen
open Go.ConcN hiding upd upd_same upd_ne AtD4 AtD3 AtD2 AtD1 AtK1 AtR0 AtAcq AtKe AtW4 AtW3 AtW2 AtW1 AtKd WSit AtA1
open Go.ConcR (KK wgBlock WgAt stA smA rd wr DC0 Payload)
section
variable [Payload] {P : Program} {L : WgLink} {Φ : Ph} {cs : List Frame} {qt : Nat}
variable {b₀ : Frame} {a₀ : Act} {ops₀ : Array Oper} {i₀ : Nat} {rest₀ : List Nat} {k₀ : List Item}
theorem V4(H:WgLib P L)(hCW:Φ.C≠Φ.Wg)(hT:QuitsD P qt 0 (G (b₀.at (a₀.put ((ops₀[i₀]?).bind (·.dst)) (.tuple #[])) (.inRegion ops₀ rest₀::k₀)) cs))(w:World)(hK:Φ.J w) :
  Goes P false (fun _ w₁=>Φ.J w₁) DC0 (AtR0 P Φ) 100
   (G ((base L.add).at ⟨#[.pointer (some ⟨Φ.Wg,0,none⟩),.int .i64 (-1),undef,undef,undef,undef,undef,undef,undef,undef,undef,undef,undef,undef,undef,undef,undef,undef,undef,undef,undef,undef,undef,undef,undef,undef,undef,undef,undef,undef,undef,undef,undef,undef,undef,undef,undef,undef,undef,undef,undef,undef,undef,undef,undef,undef,undef,undef,undef,undef,undef,undef,undef,undef,undef,undef,undef,undef,undef,undef,undef,undef,undef,undef,undef,undef,undef,undef,undef,undef,undef,undef,undef,undef,undef,undef,undef,undef,undef,undef,undef,undef,undef,undef,undef,undef,undef,undef,undef,undef,undef,undef,undef,undef,undef,undef,undef,undef,undef,undef,undef,undef,undef,undef,undef,undef,undef,undef,undef,undef,undef,undef,undef,undef,undef,undef,undef],[]⟩ [.code (body_add L)]) (b₀.at a₀ (.inRegion ops₀ (i₀::rest₀)::k₀)::cs)) w:=by
 lib_facts
 simp only[body_add,addFn,Option.getD_some]
 u_c stepG_seq jl hK
 u_cond true jl hK
 u_c stepG_seq jl hK
 u_c stepG_seq jl hK
 u_reg jl hK
 u_op jl hK
 u_op jl hK
 u_c stepG_region_end jl hK
 u_cond true jl hK
 u_reg jl hK
 u_op jl hK
 u_conv H.underlying_tWgP H.room_tWg (J.cell0 hK).choose_spec jl hK
 refine Goes.stop (fun w₁ h₁=>?_)
 replace hK:=jl hK h₁
 clear h₁
 refine⟨rfl,_,stepG_markAt .releaseMerge (by simp) rfl rfl (by k_ne) rfl H.f_relMerge (x_relMerge_n L) (x_relMerge_b L) (x_relMerge_x L) (x_relMerge_f L) (by simp[Act.eval,stA]),100,Sil.of (w:=w₁) ?_⟩
 walk_nrm
 u_c stepG_region_end jl hK
 u_c stepG_seq jl hK
 u_reg jl hK
 refine Goes.stop (fun w₁ h₁=>?_)
 replace hK:=jl hK h₁
 clear h₁
 refine⟨rfl,_,stepG_mark0 .disable (by simp) rfl rfl (by k_ne) rfl H.f_disable (x_disable_n L) (x_disable_b L) (x_disable_x L) (x_disable_f L),100,Sil.of (w:=w₁) ?_⟩
 walk_nrm
 u_c stepG_region_end jl hK
 u_reg jl hK
 u_defer jl hK
 u_c stepG_region_end jl hK
 u_c stepG_seq jl hK
 u_reg jl hK
 u_op jl hK
 u_c stepG_region_end jl hK
 u_c stepG_seq jl hK
 u_c stepG_seq jl hK
 u_reg jl hK
 u_bub jl hK
 u_c stepG_region_end jl hK
 u_cond false jl hK
 u_c stepG_skip jl hK
 u_c stepG_seq jl hK
 u_reg jl hK
 u_op jl hK
 u_op jl hK
 u_op jl hK
 u_op jl hK
 u_op jl hK
 u_op jl hK
 u_call H.f_uAdd (nm_uAdd L) uAddFn jl hK
 u_c stepG_seq jl hK
 u_reg jl hK
 u_op jl hK
 u_c stepG_region_end jl hK
 u_c stepG_seq jl hK
 u_reg jl hK
 u_op jl hK
 u_op jl hK
 u_op jl hK
 u_op jl hK
 refine Goes.stop (fun w₁ h₁=>?_)
 replace hK:=jl hK h₁
 clear h₁
 refine⟨rfl,fun v wt hwt hv hw=>?_⟩
 have e0:IntKind.u64.wrap (((v:Int)+1)*KK+wt+18446744069414584320)=(v:Int)*KK+wt:=by rw[IntKind.wrap_u64];simp only[KK];omega
 refine⟨_,(stepG_add_atomic rfl rfl (by k_ne) rfl H.f_addU64 (x_addU64_n L) (x_addU64_b L) (x_addU64_x L) .u64 (x_addU64_f L) rfl rfl hw.cellSt (hw.thaw 0)).trans (by rw[e0];rfl),fun hl=>?_,fun hl=>?_⟩
 ·obtain⟨rfl,rfl⟩:=hl
  have z:((0:Nat):Int)*KK+((1:Nat):Int)=1:=by simp
  replace hK:=J.setSt hCW hK hw (((0:Nat):Int)*KK+((1:Nat):Int))
  refine⟨200,Sil.of (w:=w₁.setCell (stA Φ.Wg) (.int .u64 (((0:Nat):Int)*KK+((1:Nat):Int)))) ?_⟩
  generalize w₁.setCell (stA Φ.Wg) (.int .u64 (((0:Nat):Int)*KK+((1:Nat):Int)))=w₂ at hK
  clear hw e0
  rw[z]
  walk_nrm
  u_op jl hK
  u_c stepG_region_end jl hK
  u_c stepG_ret' jl hK
  u_leave1 H.f_uAdd jl hK
  u_op jl hK
  u_c stepG_region_end jl hK
  u_c stepG_seq jl hK
  u_c stepG_seq jl hK
  u_reg jl hK
  u_op jl hK
  u_op jl hK
  u_op jl hK
  u_op jl hK
  u_skip jl hK
  u_skip jl hK
  u_op jl hK
  u_c stepG_region_end jl hK
  u_cond false jl hK
  u_c stepG_skip jl hK
  u_c stepG_seq jl hK
  u_reg jl hK
  u_op jl hK
  u_op jl hK
  u_op jl hK
  u_op jl hK
  u_c stepG_region_end jl hK
  u_c stepG_seq jl hK
  u_reg jl hK
  u_op jl hK
  u_op jl hK
  u_op jl hK
  u_op jl hK
  u_c stepG_region_end jl hK
  u_c stepG_seq jl hK
  u_c stepG_seq jl hK
  u_reg jl hK
  u_op jl hK
  u_op jl hK
  u_op jl hK
  u_op jl hK
  u_op jl hK
  u_skip jl hK
  u_skip jl hK
  u_skip jl hK
  u_skip jl hK
  u_op jl hK
  u_c stepG_region_end jl hK
  u_cond false jl hK
  u_c stepG_skip jl hK
  u_c stepG_seq jl hK
  u_c stepG_seq jl hK
  u_reg jl hK
  u_op jl hK
  u_op jl hK
  u_c stepG_region_end jl hK
  u_cond false jl hK
  u_c stepG_skip jl hK
  u_c stepG_seq jl hK
  u_c stepG_seq jl hK
  u_reg jl hK
  u_op jl hK
  u_op jl hK
  u_op jl hK
  u_op jl hK
  u_op jl hK
  u_op jl hK
  u_op jl hK
  u_skip jl hK
  u_skip jl hK
  u_skip jl hK
  u_skip jl hK
  u_op jl hK
  u_c stepG_region_end jl hK
  u_cond false jl hK
  u_c stepG_skip jl hK
  u_c stepG_seq jl hK
  u_c stepG_seq jl hK
  u_reg jl hK
  u_op jl hK
  u_op jl hK
  u_op jl hK
  u_op jl hK
  u_op jl hK
  u_op jl hK
  u_c stepG_region_end jl hK
  u_cond false jl hK
  u_c stepG_skip jl hK
  u_c stepG_seq jl hK
  u_c stepG_seq jl hK
  u_reg jl hK
  u_op jl hK
  u_op jl hK
  u_op jl hK
  u_call H.f_uLoad (nm_uLoad L) uLoadFn jl hK
  u_c stepG_seq jl hK
  u_reg jl hK
  u_op jl hK
  u_c stepG_region_end jl hK
  u_c stepG_seq jl hK
  u_reg jl hK
  u_op jl hK
  u_op jl hK
  u_op jl hK
  refine Goes.stop (fun w₁ h₁=>?_)
  replace hK:=jl hK h₁
  clear h₁
  refine⟨rfl,fun hw=>⟨_,stepG_load_atomic rfl rfl (by k_ne) rfl H.f_loadU64 (x_loadU64_n L) (x_loadU64_b L) (x_loadU64_x L) .u64 (x_loadU64_f L) rfl hw.cellSt,200,Sil.of (w:=w₁) ?_⟩⟩
  clear hw
  walk_nrm
  u_op jl hK
  u_c stepG_region_end jl hK
  u_c stepG_ret' jl hK
  u_leave1 H.f_uLoad jl hK
  u_op jl hK
  u_op jl hK
  u_c stepG_region_end jl hK
  u_cond false jl hK
  u_c stepG_skip jl hK
  u_c stepG_seq jl hK
  u_reg jl hK
  u_op jl hK
  u_op jl hK
  u_op jl hK
  u_call H.f_uStore (nm_uStore L) uStoreFn jl hK
  u_reg jl hK
  u_op jl hK
  u_op jl hK
  u_op jl hK
  u_op jl hK
  refine Goes.stop (fun w₁ h₁=>?_)
  replace hK:=jl hK h₁
  clear h₁
  refine⟨rfl,fun hw=>⟨_,stepG_store_atomic rfl rfl (by k_ne) rfl H.f_storeU64 (x_storeU64_n L) (x_storeU64_b L) (x_storeU64_x L) (x_storeU64_f L) rfl rfl hw.cellSt (hw.thaw 0),200,Sil.of (w:=w₁.setCell (stA Φ.Wg) (.int .u64 0)) ?_⟩⟩
  replace hK:=J.setSt hCW hK hw 0
  generalize w₁.setCell (stA Φ.Wg) (.int .u64 0)=w₂ at hK
  clear hw
  walk_nrm
  u_c stepG_region_end jl hK
  u_c stepG_end jl hK
  u_leave0 H.f_uStore jl hK
  u_c stepG_region_end jl hK
  u_c stepG_seq jl hK
  u_c stepG_seq jl hK
  u_reg jl hK
  u_op jl hK
  u_c stepG_region_end jl hK
  u_cond false jl hK
  u_c stepG_skip jl hK
  u_c stepG_block jl hK
  u_c stepG_loop jl hK
  u_c stepG_seq jl hK
  u_c stepG_seq jl hK
  u_reg jl hK
  u_op jl hK
  u_op jl hK
  u_c stepG_region_end jl hK
  u_cond true jl hK
  u_c stepG_skip jl hK
  u_c stepG_seq jl hK
  u_c stepG_block jl hK
  u_reg jl hK
  u_op jl hK
  u_op jl hK
  u_op jl hK
  refine Goes.stop (fun w₁ h₁=>?_)
  replace hK:=jl hK h₁
  clear h₁
  refine⟨rfl,mayWake_entry rfl rfl H.f_semrelease (x_semrelease_b L),fun hw=>⟨_,(stepG_semrelease rfl rfl (by k_ne) rfl H.f_semrelease (x_semrelease_n L) (x_semrelease_b L) (x_semrelease_x L) (x_semrelease_f L) (by simp[Act.eval,smA]) hw.cellSm (hw.thaw 1)).trans (by rfl),qt+19,?_⟩⟩
  clear hw
  have q3:True:=trivial
  have q4:True:=trivial
  have q5:True:=trivial
  have c1:True:=trivial
  have c3:IntKind.u32.wrap 0=0:=by decide
  have c4:IntKind.u32.wrap 1=1:=by decide
  walk_nrm
  q_c stepG_region_end
  q_c stepG_inBlock
  q_reg
  (apply QuitsD.value;(case ho=>rfl);(case hw=>rfl);(case hk=>k_ne);(case hr=>intro w;go_simp;(try simp only[q3,q4,q5,c1,c3,c4]);first | rfl | (w_num;rfl));(case he=>intro w;simp[go_sem, *]);walk_nrm)
  (apply QuitsD.value;(case ho=>rfl);(case hw=>rfl);(case hk=>k_ne);(case hr=>intro w;go_simp;(try simp only[q3,q4,q5,c1,c3,c4]);first | rfl | (w_num;rfl));(case he=>intro w;simp[go_sem, *]);walk_nrm)
  (apply QuitsD.value;(case ho=>rfl);(case hw=>rfl);(case hk=>k_ne);(case hr=>intro w;go_simp;(try simp only[q3,q4,q5,c1,c3,c4]);first | rfl | (w_num;rfl));(case he=>intro w;simp[go_sem, *]);walk_nrm)
  q_c stepG_region_end
  q_c stepG_inLoop
  q_c stepG_seq
  q_c stepG_seq
  q_reg
  (apply QuitsD.value;(case ho=>rfl);(case hw=>rfl);(case hk=>k_ne);(case hr=>intro w;go_simp;(try simp only[q3,q4,q5,c1,c3,c4]);first | rfl | (w_num;rfl));(case he=>intro w;simp[go_sem, *]);walk_nrm)
  (apply QuitsD.value;(case ho=>rfl);(case hw=>rfl);(case hk=>k_ne);(case hr=>intro w;go_simp;(try simp only[q3,q4,q5,c1,c3,c4]);first | rfl | (w_num;rfl));(case he=>intro w;simp[go_sem, *]);walk_nrm)
  q_c stepG_region_end
  q_cond false
  q_exit
  q_c stepG_end
  q_enable
  q_leave0 H.f_add
  exact hT
 ·refine⟨qt+89,?_⟩
  clear e0 hw hK
  obtain⟨S,hS⟩:∃S:Int,(v:Int)*KK+wt=S:=⟨_,rfl⟩
  have a1:S/4294967296=(v:Int):=by rw[←hS];simp only[KK];omega
  have b1:bits .and .u64 S 2147483648=0:=by rw[←hS];have:=st_flag v wt (by omega) (by omega);simpa[KK]using this
  have b2:bits .and .u64 S 2147483647=(wt:Int):=by rw[←hS];have:=st_waiters v wt (by omega) (by omega);simpa[KK]using this
  have c1:IntKind.i32.wrap (v:Int)=(v:Int):=by rw[IntKind.wrap_i32];omega
  have c2:IntKind.u32.wrap (wt:Int)=(wt:Int):=by rw[IntKind.wrap_u32];omega
  have q3:decide ((v:Int)<0)=false:=decide_eq_false (by omega)
  rw[hS]
  have c3:IntKind.u32.wrap 0=0:=by decide
  have c4:IntKind.u32.wrap 1=1:=by decide
  have hcase:wt=0∨wt=1:=by omega
  rcases hcase with rfl | rfl
  ·replace b2:bits .and .u64 S 2147483647=0:=b2
   clear c2
   rcases Nat.eq_zero_or_pos v with rfl | hvp
   ·have z:S=0:=by rw[←hS];simp
    subst z
    have q4:True:=trivial
    have q5:True:=trivial
    simp only[Int.natCast_zero]at c1 q3 a1 b1 b2
    walk_nrm
    (apply QuitsD.value;(case ho=>rfl);(case hw=>rfl);(case hk=>k_ne);(case hr=>intro w;go_simp;(try simp only[q3,q4,q5,c1,c3,c4]);first | rfl | (w_num;rfl));(case he=>intro w;simp[go_sem, *]);walk_nrm)
    q_c stepG_region_end
    q_c stepG_ret'
    q_leave1 H.f_uAdd
    (apply QuitsD.value;(case ho=>rfl);(case hw=>rfl);(case hk=>k_ne);(case hr=>intro w;go_simp;(try simp only[q3,q4,q5,c1,c3,c4]);first | rfl | (w_num;rfl));(case he=>intro w;simp[go_sem, *]);walk_nrm)
    q_c stepG_region_end
    q_c stepG_seq
    q_c stepG_seq
    q_reg
    (apply QuitsD.value;(case ho=>rfl);(case hw=>rfl);(case hk=>k_ne);(case hr=>intro w;go_simp;(try simp only[q3,q4,q5,c1,c3,c4]);first | rfl | (w_num;rfl));(case he=>intro w;simp[go_sem, *]);walk_nrm)
    (apply QuitsD.value;(case ho=>rfl);(case hw=>rfl);(case hk=>k_ne);(case hr=>intro w;go_simp;(try simp only[q3,q4,q5,c1,c3,c4]);first | rfl | (w_num;rfl));(case he=>intro w;simp[go_sem, *]);walk_nrm)
    (apply QuitsD.value;(case ho=>rfl);(case hw=>rfl);(case hk=>k_ne);(case hr=>intro w;go_simp;(try simp only[q3,q4,q5,c1,c3,c4]);first | rfl | (w_num;rfl));(case he=>intro w;simp[go_sem, *]);walk_nrm)
    (apply QuitsD.value;(case ho=>rfl);(case hw=>rfl);(case hk=>k_ne);(case hr=>intro w;go_simp;(try simp only[q3,q4,q5,c1,c3,c4]);first | rfl | (w_num;rfl));(case he=>intro w;simp[go_sem, *]);walk_nrm)
    q_skip
    q_skip
    (apply QuitsD.value;(case ho=>rfl);(case hw=>rfl);(case hk=>k_ne);(case hr=>intro w;go_simp;(try simp only[q3,q4,q5,c1,c3,c4]);first | rfl | (w_num;rfl));(case he=>intro w;simp[go_sem, *]);walk_nrm)
    q_c stepG_region_end
    q_cond false
    q_c stepG_skip
    q_c stepG_seq
    q_reg
    (apply QuitsD.value;(case ho=>rfl);(case hw=>rfl);(case hk=>k_ne);(case hr=>intro w;go_simp;(try simp only[q3,q4,q5,c1,c3,c4]);first | rfl | (w_num;rfl));(case he=>intro w;simp[go_sem, *]);walk_nrm)
    (apply QuitsD.value;(case ho=>rfl);(case hw=>rfl);(case hk=>k_ne);(case hr=>intro w;go_simp;(try simp only[q3,q4,q5,c1,c3,c4]);first | rfl | (w_num;rfl));(case he=>intro w;simp[go_sem, *]);walk_nrm)
    (apply QuitsD.value;(case ho=>rfl);(case hw=>rfl);(case hk=>k_ne);(case hr=>intro w;go_simp;(try simp only[q3,q4,q5,c1,c3,c4]);first | rfl | (w_num;rfl));(case he=>intro w;simp[go_sem, *]);walk_nrm)
    (apply QuitsD.value;(case ho=>rfl);(case hw=>rfl);(case hk=>k_ne);(case hr=>intro w;go_simp;(try simp only[q3,q4,q5,c1,c3,c4]);first | rfl | (w_num;rfl));(case he=>intro w;simp[go_sem, *]);walk_nrm)
    q_c stepG_region_end
    q_c stepG_seq
    q_reg
    (apply QuitsD.value;(case ho=>rfl);(case hw=>rfl);(case hk=>k_ne);(case hr=>intro w;go_simp;(try simp only[q3,q4,q5,c1,c3,c4]);first | rfl | (w_num;rfl));(case he=>intro w;simp[go_sem, *]);walk_nrm)
    (apply QuitsD.value;(case ho=>rfl);(case hw=>rfl);(case hk=>k_ne);(case hr=>intro w;go_simp;(try simp only[q3,q4,q5,c1,c3,c4]);first | rfl | (w_num;rfl));(case he=>intro w;simp[go_sem, *]);walk_nrm)
    (apply QuitsD.value;(case ho=>rfl);(case hw=>rfl);(case hk=>k_ne);(case hr=>intro w;go_simp;(try simp only[q3,q4,q5,c1,c3,c4]);first | rfl | (w_num;rfl));(case he=>intro w;simp[go_sem, *]);walk_nrm)
    (apply QuitsD.value;(case ho=>rfl);(case hw=>rfl);(case hk=>k_ne);(case hr=>intro w;go_simp;(try simp only[q3,q4,q5,c1,c3,c4]);first | rfl | (w_num;rfl));(case he=>intro w;simp[go_sem, *]);walk_nrm)
    q_c stepG_region_end
    q_c stepG_seq
    q_c stepG_seq
    q_reg
    (apply QuitsD.value;(case ho=>rfl);(case hw=>rfl);(case hk=>k_ne);(case hr=>intro w;go_simp;(try simp only[q3,q4,q5,c1,c3,c4]);first | rfl | (w_num;rfl));(case he=>intro w;simp[go_sem, *]);walk_nrm)
    (apply QuitsD.value;(case ho=>rfl);(case hw=>rfl);(case hk=>k_ne);(case hr=>intro w;go_simp;(try simp only[q3,q4,q5,c1,c3,c4]);first | rfl | (w_num;rfl));(case he=>intro w;simp[go_sem, *]);walk_nrm)
    (apply QuitsD.value;(case ho=>rfl);(case hw=>rfl);(case hk=>k_ne);(case hr=>intro w;go_simp;(try simp only[q3,q4,q5,c1,c3,c4]);first | rfl | (w_num;rfl));(case he=>intro w;simp[go_sem, *]);walk_nrm)
    (apply QuitsD.value;(case ho=>rfl);(case hw=>rfl);(case hk=>k_ne);(case hr=>intro w;go_simp;(try simp only[q3,q4,q5,c1,c3,c4]);first | rfl | (w_num;rfl));(case he=>intro w;simp[go_sem, *]);walk_nrm)
    (apply QuitsD.value;(case ho=>rfl);(case hw=>rfl);(case hk=>k_ne);(case hr=>intro w;go_simp;(try simp only[q3,q4,q5,c1,c3,c4]);first | rfl | (w_num;rfl));(case he=>intro w;simp[go_sem, *]);walk_nrm)
    q_skip
    q_skip
    q_skip
    q_skip
    (apply QuitsD.value;(case ho=>rfl);(case hw=>rfl);(case hk=>k_ne);(case hr=>intro w;go_simp;(try simp only[q3,q4,q5,c1,c3,c4]);first | rfl | (w_num;rfl));(case he=>intro w;simp[go_sem, *]);walk_nrm)
    q_c stepG_region_end
    q_cond false
    q_c stepG_skip
    q_c stepG_seq
    q_c stepG_seq
    q_reg
    (apply QuitsD.value;(case ho=>rfl);(case hw=>rfl);(case hk=>k_ne);(case hr=>intro w;go_simp;(try simp only[q3,q4,q5,c1,c3,c4]);first | rfl | (w_num;rfl));(case he=>intro w;simp[go_sem, *]);walk_nrm)
    (apply QuitsD.value;(case ho=>rfl);(case hw=>rfl);(case hk=>k_ne);(case hr=>intro w;go_simp;(try simp only[q3,q4,q5,c1,c3,c4]);first | rfl | (w_num;rfl));(case he=>intro w;simp[go_sem, *]);walk_nrm)
    q_c stepG_region_end
    q_cond false
    q_c stepG_skip
    q_c stepG_seq
    q_c stepG_seq
    q_reg
    (apply QuitsD.value;(case ho=>rfl);(case hw=>rfl);(case hk=>k_ne);(case hr=>intro w;go_simp;(try simp only[q3,q4,q5,c1,c3,c4]);first | rfl | (w_num;rfl));(case he=>intro w;simp[go_sem, *]);walk_nrm)
    (apply QuitsD.value;(case ho=>rfl);(case hw=>rfl);(case hk=>k_ne);(case hr=>intro w;go_simp;(try simp only[q3,q4,q5,c1,c3,c4]);first | rfl | (w_num;rfl));(case he=>intro w;simp[go_sem, *]);walk_nrm)
    (apply QuitsD.value;(case ho=>rfl);(case hw=>rfl);(case hk=>k_ne);(case hr=>intro w;go_simp;(try simp only[q3,q4,q5,c1,c3,c4]);first | rfl | (w_num;rfl));(case he=>intro w;simp[go_sem, *]);walk_nrm)
    q_skip
    q_skip
    (apply QuitsD.value;(case ho=>rfl);(case hw=>rfl);(case hk=>k_ne);(case hr=>intro w;go_simp;(try simp only[q3,q4,q5,c1,c3,c4]);first | rfl | (w_num;rfl));(case he=>intro w;simp[go_sem, *]);walk_nrm)
    (apply QuitsD.value;(case ho=>rfl);(case hw=>rfl);(case hk=>k_ne);(case hr=>intro w;go_simp;(try simp only[q3,q4,q5,c1,c3,c4]);first | rfl | (w_num;rfl));(case he=>intro w;simp[go_sem, *]);walk_nrm)
    q_skip
    q_skip
    q_skip
    q_skip
    (apply QuitsD.value;(case ho=>rfl);(case hw=>rfl);(case hk=>k_ne);(case hr=>intro w;go_simp;(try simp only[q3,q4,q5,c1,c3,c4]);first | rfl | (w_num;rfl));(case he=>intro w;simp[go_sem, *]);walk_nrm)
    q_c stepG_region_end
    q_cond false
    q_c stepG_skip
    q_c stepG_seq
    q_c stepG_seq
    q_reg
    (apply QuitsD.value;(case ho=>rfl);(case hw=>rfl);(case hk=>k_ne);(case hr=>intro w;go_simp;(try simp only[q3,q4,q5,c1,c3,c4]);first | rfl | (w_num;rfl));(case he=>intro w;simp[go_sem, *]);walk_nrm)
    (apply QuitsD.value;(case ho=>rfl);(case hw=>rfl);(case hk=>k_ne);(case hr=>intro w;go_simp;(try simp only[q3,q4,q5,c1,c3,c4]);first | rfl | (w_num;rfl));(case he=>intro w;simp[go_sem, *]);walk_nrm)
    (apply QuitsD.value;(case ho=>rfl);(case hw=>rfl);(case hk=>k_ne);(case hr=>intro w;go_simp;(try simp only[q3,q4,q5,c1,c3,c4]);first | rfl | (w_num;rfl));(case he=>intro w;simp[go_sem, *]);walk_nrm)
    (apply QuitsD.value;(case ho=>rfl);(case hw=>rfl);(case hk=>k_ne);(case hr=>intro w;go_simp;(try simp only[q3,q4,q5,c1,c3,c4]);first | rfl | (w_num;rfl));(case he=>intro w;simp[go_sem, *]);walk_nrm)
    (apply QuitsD.value;(case ho=>rfl);(case hw=>rfl);(case hk=>k_ne);(case hr=>intro w;go_simp;(try simp only[q3,q4,q5,c1,c3,c4]);first | rfl | (w_num;rfl));(case he=>intro w;simp[go_sem, *]);walk_nrm)
    (apply QuitsD.value;(case ho=>rfl);(case hw=>rfl);(case hk=>k_ne);(case hr=>intro w;go_simp;(try simp only[q3,q4,q5,c1,c3,c4]);first | rfl | (w_num;rfl));(case he=>intro w;simp[go_sem, *]);walk_nrm)
    q_c stepG_region_end
    q_cond true
    q_c stepG_ret'
    q_enable
    q_leave0 H.f_add
    exact hT
   ·have q4:decide (0<(v:Int))=true:=decide_eq_true (by omega)
    have q5:((v:Int)==0)=false:=by simp;omega
    walk_nrm
    (apply QuitsD.value;(case ho=>rfl);(case hw=>rfl);(case hk=>k_ne);(case hr=>intro w;go_simp;(try simp only[q3,q4,q5,c1,c3,c4]);first | rfl | (w_num;rfl));(case he=>intro w;simp[go_sem, *]);walk_nrm)
    q_c stepG_region_end
    q_c stepG_ret'
    q_leave1 H.f_uAdd
    (apply QuitsD.value;(case ho=>rfl);(case hw=>rfl);(case hk=>k_ne);(case hr=>intro w;go_simp;(try simp only[q3,q4,q5,c1,c3,c4]);first | rfl | (w_num;rfl));(case he=>intro w;simp[go_sem, *]);walk_nrm)
    q_c stepG_region_end
    q_c stepG_seq
    q_c stepG_seq
    q_reg
    (apply QuitsD.value;(case ho=>rfl);(case hw=>rfl);(case hk=>k_ne);(case hr=>intro w;go_simp;(try simp only[q3,q4,q5,c1,c3,c4]);first | rfl | (w_num;rfl));(case he=>intro w;simp[go_sem, *]);walk_nrm)
    (apply QuitsD.value;(case ho=>rfl);(case hw=>rfl);(case hk=>k_ne);(case hr=>intro w;go_simp;(try simp only[q3,q4,q5,c1,c3,c4]);first | rfl | (w_num;rfl));(case he=>intro w;simp[go_sem, *]);walk_nrm)
    (apply QuitsD.value;(case ho=>rfl);(case hw=>rfl);(case hk=>k_ne);(case hr=>intro w;go_simp;(try simp only[q3,q4,q5,c1,c3,c4]);first | rfl | (w_num;rfl));(case he=>intro w;simp[go_sem, *]);walk_nrm)
    (apply QuitsD.value;(case ho=>rfl);(case hw=>rfl);(case hk=>k_ne);(case hr=>intro w;go_simp;(try simp only[q3,q4,q5,c1,c3,c4]);first | rfl | (w_num;rfl));(case he=>intro w;simp[go_sem, *]);walk_nrm)
    q_skip
    q_skip
    (apply QuitsD.value;(case ho=>rfl);(case hw=>rfl);(case hk=>k_ne);(case hr=>intro w;go_simp;(try simp only[q3,q4,q5,c1,c3,c4]);first | rfl | (w_num;rfl));(case he=>intro w;simp[go_sem, *]);walk_nrm)
    q_c stepG_region_end
    q_cond false
    q_c stepG_skip
    q_c stepG_seq
    q_reg
    (apply QuitsD.value;(case ho=>rfl);(case hw=>rfl);(case hk=>k_ne);(case hr=>intro w;go_simp;(try simp only[q3,q4,q5,c1,c3,c4]);first | rfl | (w_num;rfl));(case he=>intro w;simp[go_sem, *]);walk_nrm)
    (apply QuitsD.value;(case ho=>rfl);(case hw=>rfl);(case hk=>k_ne);(case hr=>intro w;go_simp;(try simp only[q3,q4,q5,c1,c3,c4]);first | rfl | (w_num;rfl));(case he=>intro w;simp[go_sem, *]);walk_nrm)
    (apply QuitsD.value;(case ho=>rfl);(case hw=>rfl);(case hk=>k_ne);(case hr=>intro w;go_simp;(try simp only[q3,q4,q5,c1,c3,c4]);first | rfl | (w_num;rfl));(case he=>intro w;simp[go_sem, *]);walk_nrm)
    (apply QuitsD.value;(case ho=>rfl);(case hw=>rfl);(case hk=>k_ne);(case hr=>intro w;go_simp;(try simp only[q3,q4,q5,c1,c3,c4]);first | rfl | (w_num;rfl));(case he=>intro w;simp[go_sem, *]);walk_nrm)
    q_c stepG_region_end
    q_c stepG_seq
    q_reg
    (apply QuitsD.value;(case ho=>rfl);(case hw=>rfl);(case hk=>k_ne);(case hr=>intro w;go_simp;(try simp only[q3,q4,q5,c1,c3,c4]);first | rfl | (w_num;rfl));(case he=>intro w;simp[go_sem, *]);walk_nrm)
    (apply QuitsD.value;(case ho=>rfl);(case hw=>rfl);(case hk=>k_ne);(case hr=>intro w;go_simp;(try simp only[q3,q4,q5,c1,c3,c4]);first | rfl | (w_num;rfl));(case he=>intro w;simp[go_sem, *]);walk_nrm)
    (apply QuitsD.value;(case ho=>rfl);(case hw=>rfl);(case hk=>k_ne);(case hr=>intro w;go_simp;(try simp only[q3,q4,q5,c1,c3,c4]);first | rfl | (w_num;rfl));(case he=>intro w;simp[go_sem, *]);walk_nrm)
    (apply QuitsD.value;(case ho=>rfl);(case hw=>rfl);(case hk=>k_ne);(case hr=>intro w;go_simp;(try simp only[q3,q4,q5,c1,c3,c4]);first | rfl | (w_num;rfl));(case he=>intro w;simp[go_sem, *]);walk_nrm)
    q_c stepG_region_end
    q_c stepG_seq
    q_c stepG_seq
    q_reg
    (apply QuitsD.value;(case ho=>rfl);(case hw=>rfl);(case hk=>k_ne);(case hr=>intro w;go_simp;(try simp only[q3,q4,q5,c1,c3,c4]);first | rfl | (w_num;rfl));(case he=>intro w;simp[go_sem, *]);walk_nrm)
    (apply QuitsD.value;(case ho=>rfl);(case hw=>rfl);(case hk=>k_ne);(case hr=>intro w;go_simp;(try simp only[q3,q4,q5,c1,c3,c4]);first | rfl | (w_num;rfl));(case he=>intro w;simp[go_sem, *]);walk_nrm)
    (apply QuitsD.value;(case ho=>rfl);(case hw=>rfl);(case hk=>k_ne);(case hr=>intro w;go_simp;(try simp only[q3,q4,q5,c1,c3,c4]);first | rfl | (w_num;rfl));(case he=>intro w;simp[go_sem, *]);walk_nrm)
    (apply QuitsD.value;(case ho=>rfl);(case hw=>rfl);(case hk=>k_ne);(case hr=>intro w;go_simp;(try simp only[q3,q4,q5,c1,c3,c4]);first | rfl | (w_num;rfl));(case he=>intro w;simp[go_sem, *]);walk_nrm)
    (apply QuitsD.value;(case ho=>rfl);(case hw=>rfl);(case hk=>k_ne);(case hr=>intro w;go_simp;(try simp only[q3,q4,q5,c1,c3,c4]);first | rfl | (w_num;rfl));(case he=>intro w;simp[go_sem, *]);walk_nrm)
    q_skip
    q_skip
    q_skip
    q_skip
    (apply QuitsD.value;(case ho=>rfl);(case hw=>rfl);(case hk=>k_ne);(case hr=>intro w;go_simp;(try simp only[q3,q4,q5,c1,c3,c4]);first | rfl | (w_num;rfl));(case he=>intro w;simp[go_sem, *]);walk_nrm)
    q_c stepG_region_end
    q_cond false
    q_c stepG_skip
    q_c stepG_seq
    q_c stepG_seq
    q_reg
    (apply QuitsD.value;(case ho=>rfl);(case hw=>rfl);(case hk=>k_ne);(case hr=>intro w;go_simp;(try simp only[q3,q4,q5,c1,c3,c4]);first | rfl | (w_num;rfl));(case he=>intro w;simp[go_sem, *]);walk_nrm)
    (apply QuitsD.value;(case ho=>rfl);(case hw=>rfl);(case hk=>k_ne);(case hr=>intro w;go_simp;(try simp only[q3,q4,q5,c1,c3,c4]);first | rfl | (w_num;rfl));(case he=>intro w;simp[go_sem, *]);walk_nrm)
    q_c stepG_region_end
    q_cond false
    q_c stepG_skip
    q_c stepG_seq
    q_c stepG_seq
    q_reg
    (apply QuitsD.value;(case ho=>rfl);(case hw=>rfl);(case hk=>k_ne);(case hr=>intro w;go_simp;(try simp only[q3,q4,q5,c1,c3,c4]);first | rfl | (w_num;rfl));(case he=>intro w;simp[go_sem, *]);walk_nrm)
    (apply QuitsD.value;(case ho=>rfl);(case hw=>rfl);(case hk=>k_ne);(case hr=>intro w;go_simp;(try simp only[q3,q4,q5,c1,c3,c4]);first | rfl | (w_num;rfl));(case he=>intro w;simp[go_sem, *]);walk_nrm)
    (apply QuitsD.value;(case ho=>rfl);(case hw=>rfl);(case hk=>k_ne);(case hr=>intro w;go_simp;(try simp only[q3,q4,q5,c1,c3,c4]);first | rfl | (w_num;rfl));(case he=>intro w;simp[go_sem, *]);walk_nrm)
    q_skip
    q_skip
    (apply QuitsD.value;(case ho=>rfl);(case hw=>rfl);(case hk=>k_ne);(case hr=>intro w;go_simp;(try simp only[q3,q4,q5,c1,c3,c4]);first | rfl | (w_num;rfl));(case he=>intro w;simp[go_sem, *]);walk_nrm)
    (apply QuitsD.value;(case ho=>rfl);(case hw=>rfl);(case hk=>k_ne);(case hr=>intro w;go_simp;(try simp only[q3,q4,q5,c1,c3,c4]);first | rfl | (w_num;rfl));(case he=>intro w;simp[go_sem, *]);walk_nrm)
    q_skip
    q_skip
    q_skip
    q_skip
    (apply QuitsD.value;(case ho=>rfl);(case hw=>rfl);(case hk=>k_ne);(case hr=>intro w;go_simp;(try simp only[q3,q4,q5,c1,c3,c4]);first | rfl | (w_num;rfl));(case he=>intro w;simp[go_sem, *]);walk_nrm)
    q_c stepG_region_end
    q_cond false
    q_c stepG_skip
    q_c stepG_seq
    q_c stepG_seq
    q_reg
    (apply QuitsD.value;(case ho=>rfl);(case hw=>rfl);(case hk=>k_ne);(case hr=>intro w;go_simp;(try simp only[q3,q4,q5,c1,c3,c4]);first | rfl | (w_num;rfl));(case he=>intro w;simp[go_sem, *]);walk_nrm)
    (apply QuitsD.value;(case ho=>rfl);(case hw=>rfl);(case hk=>k_ne);(case hr=>intro w;go_simp;(try simp only[q3,q4,q5,c1,c3,c4]);first | rfl | (w_num;rfl));(case he=>intro w;simp[go_sem, *]);walk_nrm)
    (apply QuitsD.value;(case ho=>rfl);(case hw=>rfl);(case hk=>k_ne);(case hr=>intro w;go_simp;(try simp only[q3,q4,q5,c1,c3,c4]);first | rfl | (w_num;rfl));(case he=>intro w;simp[go_sem, *]);walk_nrm)
    q_skip
    q_skip
    (apply QuitsD.value;(case ho=>rfl);(case hw=>rfl);(case hk=>k_ne);(case hr=>intro w;go_simp;(try simp only[q3,q4,q5,c1,c3,c4]);first | rfl | (w_num;rfl));(case he=>intro w;simp[go_sem, *]);walk_nrm)
    q_c stepG_region_end
    q_cond true
    q_c stepG_ret'
    q_enable
    q_leave0 H.f_add
    exact hT
  ·replace b2:bits .and .u64 S 2147483647=1:=b2
   clear c2
   have hvp:0<v:=by omega
   have q4:decide (0<(v:Int))=true:=decide_eq_true (by omega)
   have q5:((v:Int)==0)=false:=by simp;omega
   walk_nrm
   (apply QuitsD.value;(case ho=>rfl);(case hw=>rfl);(case hk=>k_ne);(case hr=>intro w;go_simp;(try simp only[q3,q4,q5,c1,c3,c4]);first | rfl | (w_num;rfl));(case he=>intro w;simp[go_sem, *]);walk_nrm)
   q_c stepG_region_end
   q_c stepG_ret'
   q_leave1 H.f_uAdd
   (apply QuitsD.value;(case ho=>rfl);(case hw=>rfl);(case hk=>k_ne);(case hr=>intro w;go_simp;(try simp only[q3,q4,q5,c1,c3,c4]);first | rfl | (w_num;rfl));(case he=>intro w;simp[go_sem, *]);walk_nrm)
   q_c stepG_region_end
   q_c stepG_seq
   q_c stepG_seq
   q_reg
   (apply QuitsD.value;(case ho=>rfl);(case hw=>rfl);(case hk=>k_ne);(case hr=>intro w;go_simp;(try simp only[q3,q4,q5,c1,c3,c4]);first | rfl | (w_num;rfl));(case he=>intro w;simp[go_sem, *]);walk_nrm)
   (apply QuitsD.value;(case ho=>rfl);(case hw=>rfl);(case hk=>k_ne);(case hr=>intro w;go_simp;(try simp only[q3,q4,q5,c1,c3,c4]);first | rfl | (w_num;rfl));(case he=>intro w;simp[go_sem, *]);walk_nrm)
   (apply QuitsD.value;(case ho=>rfl);(case hw=>rfl);(case hk=>k_ne);(case hr=>intro w;go_simp;(try simp only[q3,q4,q5,c1,c3,c4]);first | rfl | (w_num;rfl));(case he=>intro w;simp[go_sem, *]);walk_nrm)
   (apply QuitsD.value;(case ho=>rfl);(case hw=>rfl);(case hk=>k_ne);(case hr=>intro w;go_simp;(try simp only[q3,q4,q5,c1,c3,c4]);first | rfl | (w_num;rfl));(case he=>intro w;simp[go_sem, *]);walk_nrm)
   q_skip
   q_skip
   (apply QuitsD.value;(case ho=>rfl);(case hw=>rfl);(case hk=>k_ne);(case hr=>intro w;go_simp;(try simp only[q3,q4,q5,c1,c3,c4]);first | rfl | (w_num;rfl));(case he=>intro w;simp[go_sem, *]);walk_nrm)
   q_c stepG_region_end
   q_cond false
   q_c stepG_skip
   q_c stepG_seq
   q_reg
   (apply QuitsD.value;(case ho=>rfl);(case hw=>rfl);(case hk=>k_ne);(case hr=>intro w;go_simp;(try simp only[q3,q4,q5,c1,c3,c4]);first | rfl | (w_num;rfl));(case he=>intro w;simp[go_sem, *]);walk_nrm)
   (apply QuitsD.value;(case ho=>rfl);(case hw=>rfl);(case hk=>k_ne);(case hr=>intro w;go_simp;(try simp only[q3,q4,q5,c1,c3,c4]);first | rfl | (w_num;rfl));(case he=>intro w;simp[go_sem, *]);walk_nrm)
   (apply QuitsD.value;(case ho=>rfl);(case hw=>rfl);(case hk=>k_ne);(case hr=>intro w;go_simp;(try simp only[q3,q4,q5,c1,c3,c4]);first | rfl | (w_num;rfl));(case he=>intro w;simp[go_sem, *]);walk_nrm)
   (apply QuitsD.value;(case ho=>rfl);(case hw=>rfl);(case hk=>k_ne);(case hr=>intro w;go_simp;(try simp only[q3,q4,q5,c1,c3,c4]);first | rfl | (w_num;rfl));(case he=>intro w;simp[go_sem, *]);walk_nrm)
   q_c stepG_region_end
   q_c stepG_seq
   q_reg
   (apply QuitsD.value;(case ho=>rfl);(case hw=>rfl);(case hk=>k_ne);(case hr=>intro w;go_simp;(try simp only[q3,q4,q5,c1,c3,c4]);first | rfl | (w_num;rfl));(case he=>intro w;simp[go_sem, *]);walk_nrm)
   (apply QuitsD.value;(case ho=>rfl);(case hw=>rfl);(case hk=>k_ne);(case hr=>intro w;go_simp;(try simp only[q3,q4,q5,c1,c3,c4]);first | rfl | (w_num;rfl));(case he=>intro w;simp[go_sem, *]);walk_nrm)
   (apply QuitsD.value;(case ho=>rfl);(case hw=>rfl);(case hk=>k_ne);(case hr=>intro w;go_simp;(try simp only[q3,q4,q5,c1,c3,c4]);first | rfl | (w_num;rfl));(case he=>intro w;simp[go_sem, *]);walk_nrm)
   (apply QuitsD.value;(case ho=>rfl);(case hw=>rfl);(case hk=>k_ne);(case hr=>intro w;go_simp;(try simp only[q3,q4,q5,c1,c3,c4]);first | rfl | (w_num;rfl));(case he=>intro w;simp[go_sem, *]);walk_nrm)
   q_c stepG_region_end
   q_c stepG_seq
   q_c stepG_seq
   q_reg
   (apply QuitsD.value;(case ho=>rfl);(case hw=>rfl);(case hk=>k_ne);(case hr=>intro w;go_simp;(try simp only[q3,q4,q5,c1,c3,c4]);first | rfl | (w_num;rfl));(case he=>intro w;simp[go_sem, *]);walk_nrm)
   (apply QuitsD.value;(case ho=>rfl);(case hw=>rfl);(case hk=>k_ne);(case hr=>intro w;go_simp;(try simp only[q3,q4,q5,c1,c3,c4]);first | rfl | (w_num;rfl));(case he=>intro w;simp[go_sem, *]);walk_nrm)
   (apply QuitsD.value;(case ho=>rfl);(case hw=>rfl);(case hk=>k_ne);(case hr=>intro w;go_simp;(try simp only[q3,q4,q5,c1,c3,c4]);first | rfl | (w_num;rfl));(case he=>intro w;simp[go_sem, *]);walk_nrm)
   (apply QuitsD.value;(case ho=>rfl);(case hw=>rfl);(case hk=>k_ne);(case hr=>intro w;go_simp;(try simp only[q3,q4,q5,c1,c3,c4]);first | rfl | (w_num;rfl));(case he=>intro w;simp[go_sem, *]);walk_nrm)
   (apply QuitsD.value;(case ho=>rfl);(case hw=>rfl);(case hk=>k_ne);(case hr=>intro w;go_simp;(try simp only[q3,q4,q5,c1,c3,c4]);first | rfl | (w_num;rfl));(case he=>intro w;simp[go_sem, *]);walk_nrm)
   q_skip
   q_skip
   q_skip
   q_skip
   (apply QuitsD.value;(case ho=>rfl);(case hw=>rfl);(case hk=>k_ne);(case hr=>intro w;go_simp;(try simp only[q3,q4,q5,c1,c3,c4]);first | rfl | (w_num;rfl));(case he=>intro w;simp[go_sem, *]);walk_nrm)
   q_c stepG_region_end
   q_cond false
   q_c stepG_skip
   q_c stepG_seq
   q_c stepG_seq
   q_reg
   (apply QuitsD.value;(case ho=>rfl);(case hw=>rfl);(case hk=>k_ne);(case hr=>intro w;go_simp;(try simp only[q3,q4,q5,c1,c3,c4]);first | rfl | (w_num;rfl));(case he=>intro w;simp[go_sem, *]);walk_nrm)
   (apply QuitsD.value;(case ho=>rfl);(case hw=>rfl);(case hk=>k_ne);(case hr=>intro w;go_simp;(try simp only[q3,q4,q5,c1,c3,c4]);first | rfl | (w_num;rfl));(case he=>intro w;simp[go_sem, *]);walk_nrm)
   q_c stepG_region_end
   q_cond false
   q_c stepG_skip
   q_c stepG_seq
   q_c stepG_seq
   q_reg
   (apply QuitsD.value;(case ho=>rfl);(case hw=>rfl);(case hk=>k_ne);(case hr=>intro w;go_simp;(try simp only[q3,q4,q5,c1,c3,c4]);first | rfl | (w_num;rfl));(case he=>intro w;simp[go_sem, *]);walk_nrm)
   (apply QuitsD.value;(case ho=>rfl);(case hw=>rfl);(case hk=>k_ne);(case hr=>intro w;go_simp;(try simp only[q3,q4,q5,c1,c3,c4]);first | rfl | (w_num;rfl));(case he=>intro w;simp[go_sem, *]);walk_nrm)
   (apply QuitsD.value;(case ho=>rfl);(case hw=>rfl);(case hk=>k_ne);(case hr=>intro w;go_simp;(try simp only[q3,q4,q5,c1,c3,c4]);first | rfl | (w_num;rfl));(case he=>intro w;simp[go_sem, *]);walk_nrm)
   (apply QuitsD.value;(case ho=>rfl);(case hw=>rfl);(case hk=>k_ne);(case hr=>intro w;go_simp;(try simp only[q3,q4,q5,c1,c3,c4]);first | rfl | (w_num;rfl));(case he=>intro w;simp[go_sem, *]);walk_nrm)
   (apply QuitsD.value;(case ho=>rfl);(case hw=>rfl);(case hk=>k_ne);(case hr=>intro w;go_simp;(try simp only[q3,q4,q5,c1,c3,c4]);first | rfl | (w_num;rfl));(case he=>intro w;simp[go_sem, *]);walk_nrm)
   (apply QuitsD.value;(case ho=>rfl);(case hw=>rfl);(case hk=>k_ne);(case hr=>intro w;go_simp;(try simp only[q3,q4,q5,c1,c3,c4]);first | rfl | (w_num;rfl));(case he=>intro w;simp[go_sem, *]);walk_nrm)
   (apply QuitsD.value;(case ho=>rfl);(case hw=>rfl);(case hk=>k_ne);(case hr=>intro w;go_simp;(try simp only[q3,q4,q5,c1,c3,c4]);first | rfl | (w_num;rfl));(case he=>intro w;simp[go_sem, *]);walk_nrm)
   q_skip
   q_skip
   q_skip
   q_skip
   (apply QuitsD.value;(case ho=>rfl);(case hw=>rfl);(case hk=>k_ne);(case hr=>intro w;go_simp;(try simp only[q3,q4,q5,c1,c3,c4]);first | rfl | (w_num;rfl));(case he=>intro w;simp[go_sem, *]);walk_nrm)
   q_c stepG_region_end
   q_cond false
   q_c stepG_skip
   q_c stepG_seq
   q_c stepG_seq
   q_reg
   (apply QuitsD.value;(case ho=>rfl);(case hw=>rfl);(case hk=>k_ne);(case hr=>intro w;go_simp;(try simp only[q3,q4,q5,c1,c3,c4]);first | rfl | (w_num;rfl));(case he=>intro w;simp[go_sem, *]);walk_nrm)
   (apply QuitsD.value;(case ho=>rfl);(case hw=>rfl);(case hk=>k_ne);(case hr=>intro w;go_simp;(try simp only[q3,q4,q5,c1,c3,c4]);first | rfl | (w_num;rfl));(case he=>intro w;simp[go_sem, *]);walk_nrm)
   (apply QuitsD.value;(case ho=>rfl);(case hw=>rfl);(case hk=>k_ne);(case hr=>intro w;go_simp;(try simp only[q3,q4,q5,c1,c3,c4]);first | rfl | (w_num;rfl));(case he=>intro w;simp[go_sem, *]);walk_nrm)
   q_skip
   q_skip
   (apply QuitsD.value;(case ho=>rfl);(case hw=>rfl);(case hk=>k_ne);(case hr=>intro w;go_simp;(try simp only[q3,q4,q5,c1,c3,c4]);first | rfl | (w_num;rfl));(case he=>intro w;simp[go_sem, *]);walk_nrm)
   q_c stepG_region_end
   q_cond true
   q_c stepG_ret'
   q_enable
   q_leave0 H.f_add
   exact hT
end
end Go.Eng
namespace Go.Eng
open Go Go.Conc Go.RowKit Go.Conc.Lib Go.ConcR.Gen Go.ConcN.Gen
open Go.ConcN hiding upd upd_same upd_ne AtD4 AtD3 AtD2 AtD1 AtK1 AtR0 AtAcq AtKe AtW4 AtW3 AtW2 AtW1 AtKd WSit AtA1
open Go.ConcR (KK wgBlock WgAt stA smA rd wr DC0 Payload)
section
variable [Payload] {P : Program} {L : WgLink} {Φ : Ph} {cs : List Frame} {qt : Nat}
theorem W8(fr:Frame)(cs:List Frame):gor fr cs=G fr cs:=rfl
theorem TD(H:WgLib P L)(hCW:Φ.C≠Φ.Wg){c:Frame}(hcm:c.mode=.returning)(hT:QuitsD P qt 0 (G c cs))(w:World)(hK:Φ.J w) :
  Goes P false (fun _ w₁=>Φ.J w₁) DC0 (AtR0 P Φ) 103 (G ((baseD L.done).at ⟨#[.pointer (some ⟨Φ.Wg,0,none⟩),undef,undef,undef],[]⟩ [.code (body_done L)]) (c::cs)) w:=by
 lib_facts
 have hA:=@V4 _ P L Φ
 simp only[body_done,body_add,doneFn,addFn,Option.getD_some]at hA ⊢
 u_reg jl hK
 u_op jl hK
 u_in jl hK
 refine goes_call rfl rfl (by k_ne) rfl H.f_add (nm_add L) rfl ⟨by u_nil,?_⟩
 walk_nrmf addFn
 refine hA (qt:=qt+3) H hCW ?_ _ hK
 q_c stepG_region_end
 q_c stepG_end
 exact QuitsD.leaveD rfl rfl H.f_done rfl hcm hT
variable {b₀ : Frame} {a₀ : Act} {ops₀ : Array Oper} {i₀ : Nat} {rest₀ : List Nat} {k₀ : List Item}
def MI(P:Program)(fr₁:Frame)(cs₁:List Frame)(fr:Frame)(cs:List Frame):Prop:=
 ∀(S:Shared) (Post:Frame→List Frame→Heap→Prop) (h:Heap),Safe P S Post fr₁ cs₁ h→Safe P S Post fr cs h
section
variable {S : Shared} {Post : Frame → List Frame → Heap → Prop} {h : Heap} {b : Frame} {a : Act} {k : List Item}
theorem j8{ops:Array Oper}{i:Nat}{rest:List Nat}{o:Oper}(v:Value)(ho:ops[i]? = some o)(hw:Region.wanted o (yielded ops a.tmps)=true)(hk:b.kind ≠ .early)
  (hr:∀w,(execOp a.eval o).run P w=.ok (.value v) w)(he:∀w,(execOp a.eval o).events P w #[]=#[])
  (K:Safe P S Post (b.at (a.put o.dst v) (.inRegion ops rest::k)) cs h):Safe P S Post (b.at a (.inRegion ops (i::rest)::k)) cs h:=
 .yb (fun w m=>by show stepG P m (G _ _) w=_;rw[stepG_value ho hw hk (hr w)];unfold listed;rw[he w,seen_none];rfl) K
theorem HP{ops:Array Oper}{i:Nat}{rest:List Nat}{o:Oper}(ho:ops[i]? = some o)(hw:Region.wanted o (yielded ops a.tmps)=false)
  (K:Safe P S Post (b.at (a.put o.dst undef) (.inRegion ops rest::k)) cs h):Safe P S Post (b.at a (.inRegion ops (i::rest)::k)) cs h:=
 .yb (fun _ _=>stepG_unwanted ho hw) K
theorem KX{fn:Func}{b₀:Frame}{a₀:Act}{ops:Array Oper}{i:Nat}{rest:List Nat}{todo:List Item}(hn:b.kind=.normal)(hd:a.defers=[])(hf:P.funcs[b.fn]? = some fn)(hr:fn.results=#[])
  (K:Safe P S Post (b₀.at (a₀.put ((ops[i]?).bind (·.dst)) (.tuple #[])) (.inRegion ops rest::k)) cs h):Safe P S Post { b.at a todo with mode:=.returning } (b₀.at a₀ (.inRegion ops (i::rest)::k)::cs) h:=
 .yb (fun w m=>by show stepG P m (G _ _) w=_;rw[stepG_leave hn hd hf (results_none hr _ P w) (events_results_none hr _ _),Frame.finish_at];rfl) K
end
def P0(L:WgLink)(Wg:Nat)(c:Frame)(cs:List Frame)(g:Goroutine):Prop:=
 ∃T:Array Value,g=G ((base L.wait).at ⟨T,[]⟩ [.code (L7 L),.inLoop (L7 L),.inBlock 0]) (c::cs)∧T.size=84∧T[0]? = some (.pointer (some ⟨Wg,0,none⟩))
theorem R8(H:WgLib P L)(hCW:Φ.C≠Φ.Wg)(g:Goroutine)(h:P0 L Φ.Wg (b₀.at a₀ (.inRegion ops₀ (i₀::rest₀)::k₀)) cs g)(w:World)(hK:Φ.J w) :
  Goes P true (fun _ w₁=>Φ.J w₁) DC0 (AtW1 P Φ (MI P (b₀.at (a₀.put ((ops₀[i₀]?).bind (·.dst)) (.tuple #[])) (.inRegion ops₀ rest₀::k₀)) cs) (P0 L Φ.Wg (b₀.at a₀ (.inRegion ops₀ (i₀::rest₀)::k₀)) cs)) 100 g w:=by
 lib_facts
 obtain⟨T,rfl,hT84,t0⟩:=h
 obtain⟨v0,v1,v2,v3,v4,v5,v6,v7,v8,v9,v10,v11,v12,v13,v14,v15,v16,v17,v18,v19,v20,v21,v22,v23,v24,v25,v26,v27,v28,v29,v30,v31,v32,v33,v34,v35,v36,v37,v38,v39,v40,v41,v42,v43,v44,v45,v46,v47,v48,v49,v50,v51,v52,v53,v54,v55,v56,v57,v58,v59,v60,v61,v62,v63,v64,v65,v66,v67,v68,v69,v70,v71,v72,v73,v74,v75,v76,v77,v78,v79,v80,v81,v82,v83,rfl⟩:=array84 T hT84
 simp only[List.getElem?_toArray,List.getElem?_cons_zero,Option.some.injEq]at t0
 subst t0
 simp only[L7,body_wait,waitFn,Option.getD_some]
 u_c stepG_block jl hK
 u_c stepG_seq jl hK
 u_reg jl hK
 u_op jl hK
 u_op jl hK
 u_op jl hK
 u_call H.f_uLoad (nm_uLoad L) uLoadFn jl hK
 u_c stepG_seq jl hK
 u_reg jl hK
 u_op jl hK
 u_c stepG_region_end jl hK
 u_c stepG_seq jl hK
 u_reg jl hK
 u_op jl hK
 u_op jl hK
 u_op jl hK
 refine Goes.stop (fun w₁ h₁=>?_)
 replace hK:=jl hK h₁
 clear h₁
 refine⟨rfl,fun v hv hw=>?_⟩
 rcases Nat.eq_zero_or_pos v with rfl | hvp
 ·replace hw:WgAt Φ.ty Φ.Wg w₁ 0 0:=by simpa using hw
  refine⟨_,stepG_load_atomic (v:=0) rfl rfl (by k_ne) rfl H.f_loadU64 (x_loadU64_n L) (x_loadU64_b L) (x_loadU64_x L) .u64 (x_loadU64_f L) rfl hw.cellSt,fun _=>⟨100,Sil.of (w:=w₁) ?_⟩,fun h=>absurd rfl h⟩
  clear hw
  walk_nrm
  u_op jl hK
  u_c stepG_region_end jl hK
  u_c stepG_ret' jl hK
  u_leave1 H.f_uLoad jl hK
  u_op jl hK
  u_c stepG_region_end jl hK
  u_c stepG_seq jl hK
  u_reg jl hK
  u_op jl hK
  u_op jl hK
  u_op jl hK
  u_op jl hK
  u_c stepG_region_end jl hK
  u_c stepG_seq jl hK
  u_reg jl hK
  u_op jl hK
  u_op jl hK
  u_op jl hK
  u_op jl hK
  u_c stepG_region_end jl hK
  u_c stepG_seq jl hK
  u_c stepG_seq jl hK
  u_reg jl hK
  u_op jl hK
  u_op jl hK
  u_c stepG_region_end jl hK
  u_cond true jl hK
  u_c stepG_seq jl hK
  u_cond true jl hK
  u_c stepG_seq jl hK
  u_reg jl hK
  refine Goes.stop (fun w₁ h₁=>?_)
  replace hK:=jl hK h₁
  clear h₁
  refine⟨rfl,_,stepG_mark0 .enable (by simp) rfl rfl (by k_ne) rfl H.f_enable (x_enable_n L) (x_enable_b L) (x_enable_x L) (x_enable_f L),100,Sil.of (w:=w₁) ?_⟩
  walk_nrm
  u_c stepG_region_end jl hK
  u_reg jl hK
  u_op jl hK
  u_conv H.underlying_tWgP H.room_tWg (J.cell0 hK).choose_spec jl hK
  refine Goes.stop (fun w₁ h₁=>?_)
  replace hK:=jl hK h₁
  clear h₁
  refine⟨rfl,_,_,stepG_markAt .acquire (by simp) rfl rfl (by k_ne) rfl H.f_acquire (x_acquire_n L) (x_acquire_b L) (x_acquire_x L) (x_acquire_f L) (by simp[Act.eval,stA]),fun S Post hh K=>?_⟩
  clear hK
  walk_nrm
  refine Safe.yb (fun _ _=>stepG_region_end) ?_
  refine Safe.yb (fun _ _=>stepG_seq) ?_
  refine Safe.yb (fun _ _=>stepG_seq) ?_
  (refine Safe.yb (fun _ _=>stepG_region) ?_;simp only[List.size_toArray,List.length_cons,List.length_nil,Nat.reduceAdd,Nat.zero_add,List.range,List.range.loop])
  (apply j8;(case ho=>rfl);(case hw=>rfl);(case hk=>k_ne);(case hr=>intro w;go_simp;(try simp only[q3,q4,q5,q6,a1,b1,b2,c1,c3,c4]);first | rfl | (w_num;rfl));(case he=>intro w;simp[go_sem, *]);walk_nrm)
  (apply j8;(case ho=>rfl);(case hw=>rfl);(case hk=>k_ne);(case hr=>intro w;go_simp;(try simp only[q3,q4,q5,q6,a1,b1,b2,c1,c3,c4]);first | rfl | (w_num;rfl));(case he=>intro w;simp[go_sem, *]);walk_nrm)
  (apply j8;(case ho=>rfl);(case hw=>rfl);(case hk=>k_ne);(case hr=>intro w;go_simp;(try simp only[q3,q4,q5,q6,a1,b1,b2,c1,c3,c4]);first | rfl | (w_num;rfl));(case he=>intro w;simp[go_sem, *]);walk_nrm)
  (apply j8;(case ho=>rfl);(case hw=>rfl);(case hk=>k_ne);(case hr=>intro w;go_simp;(try simp only[q3,q4,q5,q6,a1,b1,b2,c1,c3,c4]);first | rfl | (w_num;rfl));(case he=>intro w;simp[go_sem, *]);walk_nrm)
  (apply j8;(case ho=>rfl);(case hw=>rfl);(case hk=>k_ne);(case hr=>intro w;go_simp;(try simp only[q3,q4,q5,q6,a1,b1,b2,c1,c3,c4]);first | rfl | (w_num;rfl));(case he=>intro w;simp[go_sem, *]);walk_nrm)
  (apply j8;(case ho=>rfl);(case hw=>rfl);(case hk=>k_ne);(case hr=>intro w;go_simp;(try simp only[q3,q4,q5,q6,a1,b1,b2,c1,c3,c4]);first | rfl | (w_num;rfl));(case he=>intro w;simp[go_sem, *]);walk_nrm)
  (apply j8;(case ho=>rfl);(case hw=>rfl);(case hk=>k_ne);(case hr=>intro w;go_simp;(try simp only[q3,q4,q5,q6,a1,b1,b2,c1,c3,c4]);first | rfl | (w_num;rfl));(case he=>intro w;simp[go_sem, *]);walk_nrm)
  (apply j8;(case ho=>rfl);(case hw=>rfl);(case hk=>k_ne);(case hr=>intro w;go_simp;(try simp only[q3,q4,q5,q6,a1,b1,b2,c1,c3,c4]);first | rfl | (w_num;rfl));(case he=>intro w;simp[go_sem, *]);walk_nrm)
  (refine HP rfl rfl ?_;walk_nrm)
  (refine HP rfl rfl ?_;walk_nrm)
  (apply j8;(case ho=>rfl);(case hw=>rfl);(case hk=>k_ne);(case hr=>intro w;go_simp;(try simp only[q3,q4,q5,q6,a1,b1,b2,c1,c3,c4]);first | rfl | (w_num;rfl));(case he=>intro w;simp[go_sem, *]);walk_nrm)
  refine Safe.yb (fun _ _=>stepG_region_end) ?_
  (refine Safe.yb (fun _ _=>stepG_cond (t:=false) rfl) ?_;simp only[if_true,if_false,Bool.false_eq_true,↓reduceIte])
  refine Safe.yb (fun _ _=>stepG_skip) ?_
  refine Safe.yb (fun _ _=>stepG_ret') ?_
  refine KX rfl rfl H.f_wait rfl ?_
  exact K
 ·obtain⟨S,hS⟩:∃S:Int,(v:Int)*KK=S:=⟨_,rfl⟩
  have a1:S/4294967296=(v:Int):=by rw[←hS];simp only[KK];omega
  have b1:bits .and .u64 S 2147483648=0:=by rw[←hS];have:=st_flag v 0 (by omega) (by omega);simpa[KK]using this
  have b2:bits .and .u64 S 2147483647=0:=by rw[←hS];have:=st_waiters v 0 (by omega) (by omega);simpa[KK]using this
  have c1:IntKind.i32.wrap (v:Int)=(v:Int):=by rw[IntKind.wrap_i32];omega
  have w1:IntKind.u64.wrap (S+1)=S+1:=by rw[IntKind.wrap_u64,←hS];simp only[KK];omega
  have q3:decide ((v:Int)<0)=false:=decide_eq_false (by omega)
  have q4:decide (0<(v:Int))=true:=decide_eq_true (by omega)
  have q5:((v:Int)==0)=false:=by simp;omega
  have q6:decide ((v:Int)=0)=false:=decide_eq_false (by omega)
  rw[hS]at hw
  refine⟨_,stepG_load_atomic (v:=S) rfl rfl (by k_ne) rfl H.f_loadU64 (x_loadU64_n L) (x_loadU64_b L) (x_loadU64_x L) .u64 (x_loadU64_f L) rfl hw.cellSt,fun h0=>absurd h0 (by omega),fun _=>⟨200,Sil.of (w:=w₁) ?_⟩⟩
  clear hw
  walk_nrm
  u_op jl hK
  u_c stepG_region_end jl hK
  u_c stepG_ret' jl hK
  u_leave1 H.f_uLoad jl hK
  u_op jl hK
  u_c stepG_region_end jl hK
  u_c stepG_seq jl hK
  u_reg jl hK
  u_op jl hK
  u_op jl hK
  u_op jl hK
  u_op jl hK
  u_c stepG_region_end jl hK
  u_c stepG_seq jl hK
  u_reg jl hK
  u_op jl hK
  u_op jl hK
  u_op jl hK
  u_op jl hK
  u_c stepG_region_end jl hK
  u_c stepG_seq jl hK
  u_c stepG_seq jl hK
  u_reg jl hK
  u_op jl hK
  u_op jl hK
  u_c stepG_region_end jl hK
  u_cnd false jl hK
  u_c stepG_skip jl hK
  u_c stepG_seq jl hK
  u_reg jl hK
  u_op jl hK
  u_op jl hK
  u_op jl hK
  u_op jl hK
  u_op jl hK
  u_op jl hK
  u_call H.f_uCas (nm_uCas L) uCasFn jl hK
  u_c stepG_seq jl hK
  u_reg jl hK
  u_op jl hK
  u_c stepG_region_end jl hK
  u_c stepG_seq jl hK
  u_reg jl hK
  u_op jl hK
  u_op jl hK
  u_op jl hK
  u_op jl hK
  u_op jl hK
  refine Goes.stop (fun w₁ h₁=>?_)
  replace hK:=jl hK h₁
  clear h₁
  refine⟨rfl,fun v' hv' hw=>⟨fun e=>?_,fun e=>?_⟩⟩
  ·subst e
   rw[hS]at hw ⊢
   refine⟨_,(stepG_cas_hit (v:=S) (n:=S+1) rfl rfl (by k_ne) rfl H.f_casU64 (x_casU64_n L) (x_casU64_b L) (x_casU64_x L) .u64 (x_casU64_f L) rfl rfl rfl hw.cellSt (hw.thaw 0)).trans (by rfl),200,Sil.of (w:=w₁.setCell (stA Φ.Wg) (.int .u64 (S+1))) ?_⟩
   replace hK:=J.setSt hCW hK hw (S+1)
   generalize w₁.setCell (stA Φ.Wg) (.int .u64 (S+1))=w₂ at hK
   clear hw
   walk_nrm
   u_op jl hK
   u_c stepG_region_end jl hK
   u_c stepG_ret' jl hK
   u_leave1 H.f_uCas jl hK
   u_c stepG_region_end jl hK
   u_cond true jl hK
   u_c stepG_seq jl hK
   u_c stepG_seq jl hK
   u_reg jl hK
   u_op jl hK
   u_op jl hK
   u_op jl hK
   u_op jl hK
   u_c stepG_region_end jl hK
   u_cond true jl hK
   u_reg jl hK
   u_op jl hK
   u_op jl hK
   u_op jl hK
   u_conv H.underlying_tPU32 H.room_tU32 (J.cell1 hK).choose_spec jl hK
   refine Goes.stop (fun w₁ h₁=>?_)
   replace hK:=jl hK h₁
   clear h₁
   refine⟨rfl,_,stepG_markAt .write (by simp) rfl rfl (by k_ne) rfl H.f_raceWrite (x_raceWrite_n L) (x_raceWrite_b L) (x_raceWrite_x L) (x_raceWrite_f L) (ad:=⟨Φ.Wg,1,none⟩) (by simp[Act.eval]),200,Sil.of (w:=w₁) ?_⟩
   walk_nrm
   u_c stepG_region_end jl hK
   u_c stepG_seq jl hK
   u_reg jl hK
   u_op jl hK
   u_c stepG_region_end jl hK
   u_c stepG_seq jl hK
   u_c stepG_seq jl hK
   u_reg jl hK
   u_op jl hK
   u_op jl hK
   u_op jl hK
   u_op jl hK
   u_skip jl hK
   u_op jl hK
   u_c stepG_region_end jl hK
   u_cond false jl hK
   u_c stepG_skip jl hK
   u_c stepG_seq jl hK
   u_reg jl hK
   u_op jl hK
   u_op jl hK
   u_op jl hK
   u_op jl hK
   refine Goes.stop (fun w₁ h₁=>?_)
   replace hK:=jl hK h₁
   clear h₁
   refine⟨rfl,rfl,fun⟨st,hw⟩=>stepG_semacquire_wait rfl rfl rfl H.f_semacquire (x_semacquire_n L) (x_semacquire_b L) (x_semacquire_x L) (x_semacquire_f L) (by simp[Act.eval,smA]) hw.cellSm,fun hf=>?_⟩
   refine⟨_,(stepG_semacquire (n:=1) rfl rfl (by k_ne) rfl H.f_semacquire (x_semacquire_n L) (x_semacquire_b L) (x_semacquire_x L) (x_semacquire_f L) (by simp[Act.eval,smA]) hf.cellSm (by k_ne) (hf.thaw 1)).trans (by rfl),200,Sil.of (w:=w₁.setCell (smA Φ.Wg) (.int .u32 0)) ?_⟩
   replace hK:=J.setSm hCW hK hf 0
   generalize w₁.setCell (smA Φ.Wg) (.int .u32 0)=w₂ at hK
   clear hf
   walk_nrm
   u_c stepG_region_end jl hK
   u_c stepG_seq jl hK
   u_reg jl hK
   u_op jl hK
   u_op jl hK
   u_op jl hK
   u_call H.f_uLoad (nm_uLoad L) uLoadFn jl hK
   u_c stepG_seq jl hK
   u_reg jl hK
   u_op jl hK
   u_c stepG_region_end jl hK
   u_c stepG_seq jl hK
   u_reg jl hK
   u_op jl hK
   u_op jl hK
   u_op jl hK
   refine Goes.stop (fun w₁ h₁=>?_)
   replace hK:=jl hK h₁
   clear h₁
   refine⟨rfl,fun hw=>⟨_,stepG_load_atomic (v:=0) rfl rfl (by k_ne) rfl H.f_loadU64 (x_loadU64_n L) (x_loadU64_b L) (x_loadU64_x L) .u64 (x_loadU64_f L) rfl hw.cellSt,200,Sil.of (w:=w₁) ?_⟩⟩
   clear hw
   walk_nrm
   u_op jl hK
   u_c stepG_region_end jl hK
   u_c stepG_ret' jl hK
   u_leave1 H.f_uLoad jl hK
   u_op jl hK
   u_op jl hK
   u_c stepG_region_end jl hK
   u_c stepG_seq jl hK
   u_cond true jl hK
   u_c stepG_seq jl hK
   u_reg jl hK
   refine Goes.stop (fun w₁ h₁=>?_)
   replace hK:=jl hK h₁
   clear h₁
   refine⟨rfl,_,stepG_mark0 .enable (by simp) rfl rfl (by k_ne) rfl H.f_enable (x_enable_n L) (x_enable_b L) (x_enable_x L) (x_enable_f L),100,Sil.of (w:=w₁) ?_⟩
   walk_nrm
   u_c stepG_region_end jl hK
   u_reg jl hK
   u_op jl hK
   u_conv H.underlying_tWgP H.room_tWg (J.cell0 hK).choose_spec jl hK
   refine Goes.stop (fun w₁ h₁=>?_)
   replace hK:=jl hK h₁
   clear h₁
   refine⟨rfl,_,_,stepG_markAt .acquire (by simp) rfl rfl (by k_ne) rfl H.f_acquire (x_acquire_n L) (x_acquire_b L) (x_acquire_x L) (x_acquire_f L) (by simp[Act.eval,stA]),fun S Post hh K=>?_⟩
   clear hK
   walk_nrm
   refine Safe.yb (fun _ _=>stepG_region_end) ?_
   refine Safe.yb (fun _ _=>stepG_seq) ?_
   refine Safe.yb (fun _ _=>stepG_seq) ?_
   (refine Safe.yb (fun _ _=>stepG_region) ?_;simp only[List.size_toArray,List.length_cons,List.length_nil,Nat.reduceAdd,Nat.zero_add,List.range,List.range.loop])
   (apply j8;(case ho=>rfl);(case hw=>rfl);(case hk=>k_ne);(case hr=>intro w;go_simp;(try simp only[q3,q4,q5,q6,a1,b1,b2,c1,c3,c4]);first | rfl | (w_num;rfl));(case he=>intro w;simp[go_sem, *]);walk_nrm)
   refine Safe.yb (fun _ _=>stepG_region_end) ?_
   (refine Safe.yb (fun _ _=>stepG_cond (t:=false) rfl) ?_;simp only[if_true,if_false,Bool.false_eq_true,↓reduceIte])
   refine Safe.yb (fun _ _=>stepG_skip) ?_
   refine Safe.yb (fun _ _=>stepG_ret') ?_
   refine KX rfl rfl H.f_wait rfl ?_
   exact K
  ·refine⟨_,stepG_cas_miss (v:=(v':Int)*KK) (old:=S) (n:=S+1) rfl rfl (by k_ne) rfl H.f_casU64 (x_casU64_n L) (x_casU64_b L) (x_casU64_x L) .u64 (x_casU64_f L) rfl rfl rfl hw.cellSt (hw.thaw 0) (by rw[←hS];simp only[KK];omega),100,Sil.of (w:=w₁) ?_⟩
   clear hw
   walk_nrm
   u_op jl hK
   u_c stepG_region_end jl hK
   u_c stepG_ret' jl hK
   u_leave1 H.f_uCas jl hK
   u_c stepG_region_end jl hK
   u_cond false jl hK
   u_c stepG_skip jl hK
   u_c stepG_inBlock jl hK
   u_c stepG_inLoop jl hK
   exact Goes.stop fun _ _=>⟨_,rfl,by simp,by simp⟩
theorem TG(H:WgLib P L)(hCW:Φ.C≠Φ.Wg)(w:World)(hK:Φ.J w) :
  kA P Φ (MI P (b₀.at (a₀.put ((ops₀[i₀]?).bind (·.dst)) (.tuple #[])) (.inRegion ops₀ rest₀::k₀)) cs)
   ((base L.wait).at ⟨#[.pointer (some ⟨Φ.Wg,0,none⟩),undef,undef,undef,undef,undef,undef,undef,undef,undef,undef,undef,undef,undef,undef,undef,undef,undef,undef,undef,undef,undef,undef,undef,undef,undef,undef,undef,undef,undef,undef,undef,undef,undef,undef,undef,undef,undef,undef,undef,undef,undef,undef,undef,undef,undef,undef,undef,undef,undef,undef,undef,undef,undef,undef,undef,undef,undef,undef,undef,undef,undef,undef,undef,undef,undef,undef,undef,undef,undef,undef,undef,undef,undef,undef,undef,undef,undef,undef,undef,undef,undef,undef,undef],[]⟩ [.code (body_wait L)]) (b₀.at a₀ (.inRegion ops₀ (i₀::rest₀)::k₀)::cs):=by
 refine⟨P0 L Φ.Wg (b₀.at a₀ (.inRegion ops₀ (i₀::rest₀)::k₀)) cs,fun g hg=>⟨100,Sil.of (R8 H hCW g hg w hK)⟩,100,Sil.of (w:=w) ?_⟩
 lib_facts
 simp only[W8]
 simp only[body_wait,waitFn,Option.getD_some]
 u_c stepG_seq jl hK
 u_cond true jl hK
 u_reg jl hK
 refine Goes.stop (fun w₁ h₁=>?_)
 replace hK:=jl hK h₁
 clear h₁
 refine⟨rfl,_,stepG_mark0 .disable (by simp) rfl rfl (by k_ne) rfl H.f_disable (x_disable_n L) (x_disable_b L) (x_disable_x L) (x_disable_f L),3,Sil.of (w:=w₁) ?_⟩
 walk_nrm
 u_c stepG_region_end jl hK
 u_c stepG_block jl hK
 u_c stepG_loop jl hK
 exact Goes.stop (fun w₂ h₂=>⟨_,rfl,by simp,by simp⟩)
end
end Go.Eng
namespace Go.Eng
open Go
section
variable {P : Program} {S : Shared} {ops : Array Oper} {Q : Act → Heap → Heap → Prop}
theorem TH{Post:Frame→List Frame→Heap→Prop}{b:Frame}{k:List Item}{cs:List Frame}(hp:Up S Post)(r:List Nat) :
  ∀(l:List Nat) (a:Act) (L h:Heap),Ok S h L→qC P S ops Q l a L h→(∀a' L' h',Ok S h' L'→Q a' L' h'→Safe P S Post (b.at a' (.inRegion ops r::k)) cs (plus h' L')) →
   Safe P S Post (b.at a (.inRegion ops (l++r)::k)) cs (plus h L):=by
 intro l
 induction l with
 | nil=>intro a L h ha H K;exact K a L h ha H
 | cons i rest ih=>
  intro a L h ha H K
  simp only[qC,kH]at H
  cases ho:ops[i]? with
  | none=>
   simp only[ho]at H
   refine .IA (by simp[ho]) ?_
   simp only[ho,Option.bind_none,Act.put]
   exact ih a L h ha H K
  | some o=>
   simp only[ho]at H
   by_cases hw:Region.wanted o (yielded ops a.tmps)=true
   ·simp only[hw,if_true]at H
    cases H with
    | step H=>exact .op ho hw fun w hh=>kG _ (H w hh) fun n w' ⟨v,L',h',h1,h2,h3,_,_,h5⟩=>⟨v,plus h' L',h1,h3,ih _ L' h' h2 h5 K⟩
    | call f args R hx hc H=>exact .PZ hp ho hw hx hc ha.apart fun v h' hr hi hap=>ih _ L h' ⟨hap,hi⟩ (H v h' hr ⟨hap,hi⟩).2 K
   ·simp only[hw,if_false,Bool.false_eq_true]at H
    refine .IA (by simp[ho];simpa using hw) ?_
    simp only[ho,Option.bind_some]
    exact ih _ L h ha H K
theorem put_defers(a:Act)(d:Option Tmp)(v:Value):(a.put d v).defers=a.defers:=by cases d <;> rfl
theorem NJ:∀(l:List Nat) (a:Act) (L h:Heap),qC P S ops Q l a L h→qC P S ops (fun a' L' h'=>a'.defers=a.defers∧Q a' L' h') l a L h:=by
 have mono:∀(l:List Nat) (a:Act) (L h:Heap) {Q Q':Act→Heap→Heap→Prop},(∀a L h,Q a L h→Q' a L h)→qC P S ops Q l a L h→qC P S ops Q' l a L h:=by
  intro l
  induction l with
  | nil=>intro a L h Q Q' hk H;exact hk _ _ _ H
  | cons i rest ih=>
   intro a L h Q Q' hk H
   simp only[qC,kH]at H ⊢
   cases ho:ops[i]? with
   | none=>simp only[ho]at H ⊢;exact ih _ _ _ hk H
   | some o=>
    simp only[ho]at H ⊢
    by_cases hw:Region.wanted o (yielded ops a.tmps)=true
    ·simp only[hw,if_true]at H ⊢
     exact H.mono fun v L' h' _ _ ⟨h1,h2⟩=>⟨h1,ih _ _ _ hk h2⟩
    ·simp only[hw,if_false,Bool.false_eq_true]at H ⊢
     exact ih _ _ _ hk H
 intro l
 induction l with
 | nil=>intro a L h H;exact⟨rfl,H⟩
 | cons i rest ih=>
  intro a L h H
  simp only[qC,kH]at H ⊢
  cases ho:ops[i]? with
  | none=>simp only[ho]at H ⊢;exact ih _ _ _ H
  | some o=>
   simp only[ho]at H ⊢
   by_cases hw:Region.wanted o (yielded ops a.tmps)=true
   ·simp only[hw,if_true]at H ⊢
    exact H.mono fun v L' h' _ _ ⟨h1,h2⟩=>⟨h1,mono _ _ _ _ (fun a' L' h' ⟨e,hq⟩=>⟨e.trans (put_defers ..),hq⟩) (ih _ _ _ h2)⟩
   ·simp only[hw,if_false,Bool.false_eq_true]at H ⊢
    exact mono _ _ _ _ (fun a' L' h' ⟨e,hq⟩=>⟨e.trans (put_defers ..),hq⟩) (ih _ _ _ H)
theorem P7{z:Nat}(hn:ops.size=z+1)(h3:∀i o,ops[i]? = some o→∀e∈o.after,Region.binds .any e=true→e.on<i)
  (h2:∀o,ops[z]? = some o→∀i<z,∃e∈o.after,Region.binds .any e=true∧e.on=i){listed:Array Bool}(hs:listed.size=z+1)(hz:listed.getD z true=false)
  (hu:∃i<z,listed.getD i true=false):Region.ready .any ops listed=Region.ready .any ops (listed.setIfInBounds z true)∧Region.ready .any ops listed ≠ []:=by
 have gd:∀i:Nat,i≠z→∀d,(listed.setIfInBounds z true).getD i d=listed.getD i d:=fun i hi d=>by
  simp only[Array.getD_eq_getD_getElem?,Array.getElem?_setIfInBounds_ne (Ne.symm hi)]
 have gz:∀d,(listed.setIfInBounds z true).getD z d=true:=fun d=>by
  simp[Array.getD_eq_getD_getElem?,Array.getElem?_setIfInBounds,hs]
 have dd:∀i<z,listed.getD i true=listed.getD i false:=fun i hi=>by
  simp[Array.getD_eq_getD_getElem?,Array.getElem?_eq_getElem (show i<listed.size by omega)]
 constructor
 ·unfold Region.ready
  refine List.filter_congr fun i hi=>?_
  rw[List.mem_range,hn]at hi
  by_cases e:i=z
  ·subst e
   rw[gz,hz]
   obtain⟨j,hj,hju⟩:=hu
   cases ho:ops[i]? with
   | none=>simp
   | some o=>
    obtain⟨ed,he,hb,hon⟩:=h2 o ho j hj
    have:(o.after.all fun e => !Region.binds .any e||listed.getD e.on false)=false:=by
     rw[Bool.eq_false_iff]
     intro hall
     have h4:=Array.all_eq_true'.1 hall ed he
     rw[hb,hon,←dd j hj,hju]at h4
     cases h4
    simp only[Option.map_some,Option.getD_some,this,Bool.not_true,Bool.false_and,Bool.and_false]
  ·rw[gd i e]
   congr 1
   cases ho:ops[i]? with
   | none=>simp
   | some o=>
    simp only[Option.map_some,Option.getD_some]
    rw[Bool.eq_iff_iff,Array.all_eq_true',Array.all_eq_true']
    refine forall_congr' fun ed=>forall_congr' fun hed=>?_
    cases hb:Region.binds .any ed with
    | false=>simp
    | true=>
     have:=h3 i o ho ed hed hb
     rw[gd ed.on (by omega)]
 ·intro hnil
  have all:∀n i,i<n→i<z→listed.getD i true=true:=by
   intro n
   induction n with
   | zero=>intro i h;omega
   | succ n ih=>
    intro i hin hiz
    cases hl:listed.getD i true with
    | true=>rfl
    | false=>
     have hi:i<ops.size:=by omega
     have:i∈Region.ready .any ops listed:=mem_ready.2 ⟨hl,ops[i],Array.getElem?_eq_getElem hi,fun ed hed hb=>by
      have h5:=h3 i _ (Array.getElem?_eq_getElem hi) ed hed hb
      rw[←dd ed.on (by omega)]
      exact ih ed.on (by omega) (by omega)⟩
     rw[hnil]at this
     cases this
  obtain⟨j,hj,hju⟩:=hu
  rw[all (j+1) j (by omega) hj]at hju
  cases hju
theorem Km{z:Nat}(hn:ops.size=z+1)(h3:∀i o,ops[i]? = some o→∀e∈o.after,Region.binds .any e=true→e.on<i)
  (h2:∀o,ops[z]? = some o→∀i<z,∃e∈o.after,Region.binds .any e=true∧e.on=i):∀(fuel t:Nat) (listed:Array Bool),listed.size=z+1→listed.getD z true=false →
   ((List.range z).filter fun i => !listed.getD i true).length=fuel →
   ∃t',Region.linearise.go .any ops (fuel+1) t listed []=Region.linearise.go .any ops fuel t (listed.setIfInBounds z true) []++[z]∧t'=t:=by
 intro fuel
 induction fuel with
 | zero=>
  intro t listed hs hz hc
  refine⟨t,?_,rfl⟩
  have hall:∀i<z,listed.getD i true=true:=fun i hi=>by
   cases h:listed.getD i true with
   | true=>rfl
   | false=>
    have:i∈(List.range z).filter fun i => !listed.getD i true:=List.mem_filter.2 ⟨List.mem_range.2 hi,by simp[h]⟩
    rw[List.length_eq_zero_iff.1 hc]at this
    cases this
  have hr:Region.ready .any ops listed=[z]:=by
   unfold Region.ready
   rw[hn,List.range_succ,List.filter_append]
   have e1:(List.range z).filter (fun i => !listed.getD i true&&((ops[i]?).map (·.after.all fun e => !Region.binds .any e||listed.getD e.on false)).getD false)=[]:=by
    rw[List.filter_eq_nil_iff]
    intro i hi
    rw[hall i (List.mem_range.1 hi)]
    simp
   rw[e1,List.nil_append]
   have hzl:z<ops.size:=by omega
   have e2:((ops[z]?).map (·.after.all fun e => !Region.binds .any e||listed.getD e.on false)).getD false=true:=by
    rw[Array.getElem?_eq_getElem hzl]
    simp only[Option.map_some,Option.getD_some]
    rw[Array.all_eq_true']
    intro ed hed
    cases hb:Region.binds .any ed with
    | false=>simp
    | true=>
     have h5:=h3 z _ (Array.getElem?_eq_getElem hzl) ed hed hb
     have h6:=hall ed.on h5
     simp[Array.getD_eq_getD_getElem?,Array.getElem?_eq_getElem (show ed.on<listed.size by omega)]at h6 ⊢
     exact h6
   exact List.filter_eq_self.2 fun i hi=>by cases List.mem_singleton.1 hi;rw[hz,e2];rfl
  simp only[Region.linearise.go]
  change (match(Region.ready .any ops listed)[t%(Region.ready .any ops listed).length]? with
   | some i=>Region.linearise.go .any ops 0 (t/(Region.ready .any ops listed).length) (listed.setIfInBounds i true) [i]
   | none=>[].reverse)=_
  rw[hr]
  simp[Nat.mod_one,Region.linearise.go]
 | succ fuel ih=>
  intro t listed hs hz hc
  refine⟨t,?_,rfl⟩
  have hu:∃i<z,listed.getD i true=false:=by
   cases hl:(List.range z).filter fun i => !listed.getD i true with
   | nil=>rw[hl]at hc;cases hc
   | cons i r=>
    have:i∈(List.range z).filter fun i => !listed.getD i true:=by rw[hl];exact List.mem_cons_self
    obtain⟨h4,h5⟩:=List.mem_filter.1 this
    exact⟨i,List.mem_range.1 h4,by simpa using h5⟩
  obtain⟨he,hne⟩:=P7 hn h3 h2 hs hz hu
  have A:∀(f t:Nat) (l:Array Bool),Region.linearise.go .any ops (f+1) t l []=(match(Region.ready .any ops l)[t%(Region.ready .any ops l).length]? with
   | some i=>Region.linearise.go .any ops f (t/(Region.ready .any ops l).length) (l.setIfInBounds i true) [i]
   | none=>[]):=fun f t l=>by simp only[Region.linearise.go];rfl
  rw[A,A,←he]
  have hlt:t%(Region.ready .any ops listed).length<(Region.ready .any ops listed).length:=Nat.mod_lt _ (by
   cases hr:Region.ready .any ops listed with
   | nil=>exact absurd hr hne
   | cons x xs=>simp)
  rw[List.getElem?_eq_getElem hlt]
  simp only[]
  have hmem:=List.getElem_mem hlt
  generalize (Region.ready .any ops listed)[t%(Region.ready .any ops listed).length]=i at hmem
  have hi1:=(mem_ready.1 hmem).1
  have hiz:i≠z:=fun e=>by
   subst e
   rw[he]at hmem
   have:=(mem_ready.1 hmem).1
   simp[Array.getD_eq_getD_getElem?,Array.getElem?_setIfInBounds,hs]at this
  have hilt:i<z:=by
   rcases Nat.lt_or_ge i listed.size with h | h
   ·omega
   ·simp[Array.getD_eq_getD_getElem?,Array.getElem?_eq_none h]at hi1
  rw[linearise_go_acc,linearise_go_acc _ _ _ _ _ [i]]
  have gi:∀j:Nat,(listed.setIfInBounds i true).getD j true=(if j=i then true else listed.getD j true):=fun j=>by
   by_cases e:j=i
   ·subst e
    simp only[if_true,Array.getD_eq_getD_getElem?,Array.getElem?_setIfInBounds]
    split <;> simp
   ·simp only[if_neg e,Array.getD_eq_getD_getElem?,Array.getElem?_setIfInBounds_ne (Ne.symm e)]
  obtain⟨_,h6,_⟩:=ih (t/(Region.ready .any ops listed).length) (listed.setIfInBounds i true) (by simp[hs]) (by rw[gi,if_neg (Ne.symm hiz)];exact hz) (by
   have key:∀l:List Nat,l.Nodup→i∈l→(l.filter fun j => !(listed.setIfInBounds i true).getD j true).length+1=(l.filter fun j => !listed.getD j true).length:=by
    intro l
    induction l with
    | nil=>intro _ h;cases h
    | cons x xs ihl=>
     intro hnd hm
     obtain⟨hx,hnd⟩:=List.nodup_cons.1 hnd
     rw[List.filter_cons,List.filter_cons]
     rcases List.mem_cons.1 hm with rfl | hm
     ·have e5:(xs.filter fun j => !(listed.setIfInBounds i true).getD j true)=xs.filter fun j => !listed.getD j true:=
       List.filter_congr fun j hj=>by rw[gi,if_neg (fun e=>hx (by rw[←e];exact hj))]
      rw[gi,if_pos rfl,hi1,e5];simp
     ·have hxi:x≠i:=fun e=>hx (by rw[e];exact hm)
      rw[gi,if_neg hxi]
      have:=ihl hnd hm
      cases listed.getD x true <;> simp only[Bool.not_true,Bool.not_false,Bool.false_eq_true,if_true,if_false,List.length_cons,↓reduceIte] <;> omega
   have:=key (List.range z) List.nodup_range (List.mem_range.2 hilt)
   omega)
  rw[h6,Array.setIfInBounds_comm _ _ hiz]
  simp
end
end Go.Eng
namespace Go.Eng
open Go
def MJ(ops:Array Oper)(z:Nat):Bool:=
 ops.size==z+1&&((List.range (z+1)).all fun i=>match ops[i]? with | some o=>o.after.all (fun e => !Region.binds .any e||decide (e.on<i)) | none=>true) &&
  (match ops[z]? with | some o=>(List.range z).all fun i=>o.after.any fun e=>Region.binds .any e&&e.on==i | none=>true)
theorem linearise_last'{ops:Array Oper}{z:Nat}(h:MJ ops z=true)(t:Nat) :
  Region.linearise.go .any ops (z+1) t (Array.replicate (z+1) false) []=Region.linearise.go .any ops z t ((Array.replicate (z+1) false).setIfInBounds z true) []++[z]:=by
 unfold MJ at h
 simp only[Bool.and_eq_true,beq_iff_eq]at h
 obtain⟨⟨h1,h2⟩,h3⟩:=h
 refine(Km h1 (fun i o ho e he hb=>?_) (fun o ho i hi=>?_) z t _ (by simp) (by simp[Array.getD_eq_getD_getElem?]) ?_).choose_spec.1
 ·have hlt:i<z+1:=by
   rcases Nat.lt_or_ge i ops.size with h | h
   ·omega
   ·rw[Array.getElem?_eq_none h]at ho;cases ho
  have h4:=List.all_eq_true.1 h2 i (List.mem_range.2 hlt)
  rw[ho]at h4
  have h5:=Array.all_eq_true'.1 h4 e he
  rw[hb]at h5
  simpa using h5
 ·rw[ho]at h3
  have h4:=List.all_eq_true.1 h3 i (List.mem_range.2 hi)
  obtain⟨e,he,h5⟩:=Array.any_eq_true'.1 h4
  simp only[Bool.and_eq_true,beq_iff_eq]at h5
  exact⟨e,he,h5.1,h5.2⟩
 ·have:(List.range z).filter (fun i => !(Array.replicate (z+1) false).getD i true)=List.range z:=List.filter_eq_self.2 fun i hi=>by
   have:=List.mem_range.1 hi
   simp[Array.getD_eq_getD_getElem?,Array.getElem?_replicate,show i<z+1 by omega]
  rw[this,List.length_range]
end Go.Eng
namespace Go.Eng
open Go
def Kn(l:List (Option (Sh×Nat))):List GV:=l.map fun | some (s,j)=>⟨[],.x (.var s j)⟩ | none=>⟨[],.junk⟩
theorem TJ{env:List Value}{nums:List Nat}{s:Sh}{j:Nat}{u:Value}(h:env[j]? = some u)(hc:coerce s u=u):Good env nums (.var s j) u:=fun xs ys=>by
 have hlt:j<env.length:=(List.getElem?_eq_some_iff.1 h).1
 simp only[Ex.ev,List.getD_eq_getElem?_getD,List.getElem?_append_left hlt,h,Option.getD_some,hc]
theorem Rel.init{l:List (Option (Sh×Nat))}{env:List Value}{a:Act}{n d:Nat}{dv:Bool}(hn:n=env.length)(hl:l.length=a.tmps.size)(hd:dv=false→a.defers=[])
  (hv:∀(i:Nat) s j,l[i]? = some (some (s,j))→∃u,env[j]? = some u∧a.tmps.getD i undef=u∧coerce s u=u) :
  Rel { tmps:=Kn l,loc:=[],n:=n,known:=[],d:=d,dv:=dv } env [] a (fun _=>none):=by
 have key:∀(i:Nat) gv,(Kn l)[i]? = some gv→gv=⟨[],.junk⟩∨∃s j,l[i]? = some (some (s,j))∧gv=⟨[],.x (.var s j)⟩:=by
  intro i gv h
  unfold Kn at h
  rw[List.getElem?_map]at h
  obtain⟨x,h1,rfl⟩:=Option.map_eq_some_iff.1 h
  cases x with
  | none=>exact .inl rfl
  | some p=>exact .inr ⟨p.1,p.2,h1,rfl⟩
 refine⟨hn,rfl,by simp[Kn,hl],hd,?_,?_,?_,by simp,by simp,by simp⟩
 ·intro i g v h e he
  rcases key i _ h with h | ⟨s,j,_,h⟩ <;> cases h <;> cases he
 ·intro i g v h _
  rcases key i _ h with h | ⟨s,j,h1,h⟩
  ·cases h;trivial
  ·cases h
   obtain⟨u,h2,h3,h4⟩:=hv i s j h1
   rw[h3]
   exact TJ h2 h4
 ·rintro i g v h ⟨e,he,_⟩
  rcases key i _ h with h | ⟨s,j,_,h⟩ <;> cases h <;> cases he
end Go.Eng
namespace Go.Eng
open Go
def sxs(cfg:Cfg):List Code→St→Option Tr
 | [],st=>some (.leaf (.norm st))
 | r::rs,st=>match r with
  | .region _ ops draw=>(match sxR cfg ops draw st with | some t=>IH t (sxs cfg rs) | none=>none)
  | _=>none
def nest:List Code→Code→Code
 | [],c=>c
 | r::rs,c=>.seq r (nest rs c)
section
variable {P : Program} {S : Shared} {cfg : Cfg} {Λ : Hand} {Q : Value → Heap → Prop} {Ks : List Kt} {Post : Frame → List Frame → Heap → Prop} {b : Frame} {k : List Item} {cs : List Frame} {c : Code}
theorem W9(hT:zD P cfg.tab)(hm:P.follows .mixedOrders=true)(hp:Up S Post)(hΛ:Λ.D1):∀(rs:List Code) (st:St) (t:Tr) (env:List Value) (nums:List Nat) (a:Act) (L h:Heap),
  sxs cfg rs st=some t→t.wp P S Λ Q env h Ks→Rel st env nums a L→Ok S h L →
  (∀st' vs ms a' L' h',Λ (.norm st') (env++vs) h' Ks→Rel st' (env++vs) (nums++ms) a' L'→Ok S h' L'→Safe P S Post (b.at a' (.code c::k)) cs (plus h' L')) →
  Safe P S Post (b.at a (.code (nest rs c)::k)) cs (plus h L):=by
 intro rs
 induction rs with
 | nil=>
  intro st t env nums a L h ht hw H ha hf
  simp only[sxs]at ht
  cases ht
  exact hf st [] [] a L h (by simpa[Tr.wp]using hw) (by simpa using H) ha
 | cons r rs ih=>
  intro st t env nums a L h ht hw H ha hf
  simp only[sxs]at ht
  split at ht
  ·rename_i id ops draw
   split at ht
   ·rename_i t1 ht1
    have hw1:=Tr.wp_bind hΛ t1 t ht env h Ks hw
    refine .seq (FW hT hm hp ht1 hw1 H ha ?_)
    rintro st' vs ms a' L' h' ⟨u,hu,huw⟩ H' ha' _
    refine ih st' u _ _ a' L' h' hu huw H' ha' fun st2 vs2 ms2 a2 L2 h2 h3 h4 h5=>?_
    rw[List.append_assoc]at h3 h4
    rw[List.append_assoc]at h4
    exact hf st2 _ _ a2 L2 h2 h3 h4 h5
   ·cases ht
  ·cases ht
def got(st:St)(env:List Value)(i:Nat):Value:=match st.tmps[i]? with | some ⟨[],.x e⟩=>e.ev env [] | _=>undef
def isX(st:St)(i:Nat):Bool:=match st.tmps[i]? with | some ⟨[],.x _⟩=>true | _=>false
def jC(n:Nat)(is:List Nat)(R:(Nat→Value)→Heap→Prop):Hand:=fun l env h _=>∃st,l=.norm st∧st.loc=[]∧st.dv=false∧st.tmps.length=n∧is.all (isX st)=true∧R (got st env) h
theorem jC.mono{n:Nat}{is:List Nat}{R:(Nat→Value)→Heap→Prop}:(jC n is R).D1:=fun _ _ _ _ _ _ h=>h
def Reach(S:Shared)(b:Frame)(n:Nat)(k:List Item)(cs:List Frame)(is:List Nat)(R:(Nat→Value)→Heap→Prop)(fr:Frame)(cs':List Frame)(H:Heap):Prop:=
 cs'=cs∧∃a f h',fr=b.at a k∧a.tmps.size=n∧a.defers=[]∧(∀i∈is,a.tmps.getD i undef=f i)∧R f h'∧Sub h' H∧Inv S h'
theorem Reach.up{n:Nat}{is:List Nat}{R:(Nat→Value)→Heap→Prop}:Up S (Reach S b n k cs is R):=
 fun _ _ _ _ ⟨h1,a,f,h',h2,h3,h4,h5,h6,h7,h8⟩ hs _=>⟨h1,a,f,h',h2,h3,h4,h5,h6,h7.trans hs,h8⟩
def lOf(n:Nat)(ps:List (Nat×Sh)):List (Option (Sh×Nat)):=(List.range n).map fun i=>(ps.zipIdx.find? fun p=>p.1.1==i).map fun p=>(p.1.2,p.2)
def DU(n:Nat)(ps:List (Nat×Sh)):St:={ tmps:=Kn (lOf n ps),loc:=[],n:=ps.length,known:=[],d:=0,dv:=false }
def qU(a:Act):List (Nat×Sh)→List Value→Prop
 | [],[]=>True
 | p::ps,u::us=>a.tmps.getD p.1 undef=u∧coerce p.2 u=u∧qU a ps us
 | _,_=>False
theorem qU.get{a:Act}:∀ {ps:List (Nat×Sh)} {us:List Value},qU a ps us→ps.length=us.length∧∀(j:Nat) (p:Nat×Sh),ps[j]? = some p→∃u,us[j]? = some u∧a.tmps.getD p.1 undef=u∧coerce p.2 u=u
 | [],[],_=>⟨rfl,fun j p h=>by simp at h⟩
 | p::ps,u::us,⟨h1,h2,h3⟩=>by
  obtain⟨e,ih⟩:=qU.get h3
  refine⟨by simp[e],fun j q h=>?_⟩
  cases j with
  | zero=>simp at h;subst h;exact⟨u,rfl,h1,h2⟩
  | succ j=>exact ih j q (by simpa using h)
 | [],_::_,h=>h.elim
 | _::_,[],h=>h.elim
theorem Rel.of{n:Nat}{ps:List (Nat×Sh)}{env:List Value}{a:Act}(hs:qU a ps env)(hn:a.tmps.size=n)(hd:a.defers=[]):Rel (DU n ps) env [] a (fun _=>none):=by
 obtain⟨e,hg⟩:=hs.get
 refine Rel.init e (by simp[lOf,hn]) (fun _=>hd) fun i s j h=>?_
 unfold lOf at h
 rw[List.getElem?_map]at h
 obtain⟨i',h1,h2⟩:=Option.map_eq_some_iff.1 h
 have hii:i'=i:=by
  have:=(List.getElem?_eq_some_iff.1 h1).2
  simpa using this.symm
 subst hii
 obtain⟨⟨p,j'⟩,h3,h4⟩:=Option.map_eq_some_iff.1 h2
 simp only[Prod.mk.injEq]at h4
 obtain⟨rfl,rfl⟩:=h4
 have h5:=List.find?_some h3
 have h6:=List.mem_zipIdx_iff_getElem?.1 (List.mem_of_find?_eq_some h3)
 simp only[beq_iff_eq]at h5 h6
 obtain⟨u,k1,k2,k3⟩:=hg _ _ h6
 exact⟨u,k1,by rw[←h5];exact k2,k3⟩
theorem Fj(hT:zD P cfg.tab)(hm:P.follows .mixedOrders=true){rs:List Code}{n:Nat}{ps:List (Nat×Sh)}{t:Tr}{env:List Value}{a:Act}{h:Heap}{is:List Nat}{R:(Nat→Value)→Heap→Prop}
  (ht:sxs cfg rs (DU n ps)=some t)(hs:qU a ps env)(hn:a.tmps.size=n)(hd:a.defers=[])(hi:Inv S h)(hw:t.wp P S (jC n is R) (fun _ _=>True) env h []) :
  Safe P S (Reach S b n (.code c::k) cs is R) (b.at a (.code (nest rs c)::k)) cs h:=by
 have ha:Ok S h (fun _=>none):=⟨fun b hb=>absurd rfl hb,hi⟩
 rw[←xw h]
 refine W9 (Q:=fun _ _=>True) (Ks:=[]) hT hm Reach.up jC.mono rs _ t env [] a _ h ht hw (Rel.of hs hn hd) ha ?_
 rintro st' vs ms a' L' h' ⟨st,e,hl,hdv,hsz,his,hR⟩ H' ha'
 cases e
 have hms:ms=[]:=by
  have:=H'.m
  rw[hl]at this
  simpa using this.symm
 subst hms
 refine .done ⟨rfl,a',_,h',rfl,?_,H'.df hdv,fun i hi=>?_,hR,fun x o hx=>by simp[plus,hx],ha'.inv⟩
 ·rw[←H'.sz];exact hsz
 ·have hx:=List.all_eq_true.1 his i hi
  unfold isX at hx
  unfold got
  split at hx
  ·rename_i e he
   have:=Good.at (H'.vl i [] _ he (by simp))
   simpa using this.symm
  ·cases hx
theorem WA(hT:zD P cfg.tab)(hm:P.follows .mixedOrders=true){r:Code}{n:Nat}{ps:List (Nat×Sh)}{t:Tr}{env:List Value}{a:Act}{h:Heap}{is:List Nat}{R:(Nat→Value)→Heap→Prop}
  (ht:sxs cfg [r] (DU n ps)=some t)(hs:qU a ps env)(hn:a.tmps.size=n)(hd:a.defers=[])(hi:Inv S h)(hw:t.wp P S (jC n is R) (fun _ _=>True) env h []) :
  Safe P S (Reach S b n k cs is R) (b.at a (.code r::k)) cs h:=by
 have ha:Ok S h (fun _=>none):=⟨fun b hb=>absurd rfl hb,hi⟩
 rw[←xw h]
 simp only[sxs]at ht
 split at ht
 ·rename_i id ops draw
  split at ht
  ·rename_i t1 ht1
   have hw1:=Tr.wp_bind jC.mono t1 t ht env h [] hw
   refine FW (Ks:=[]) hT hm Reach.up ht1 hw1 (Rel.of hs hn hd) ha ?_
   rintro st' vs ms a' L' h' ⟨u,hu,huw⟩ H' ha' _
   cases hu
   obtain⟨st,e,hl,hdv,hsz,his,hR⟩:=huw
   cases e
   have hms:ms=[]:=by
    have:=H'.m
    rw[hl]at this
    simpa using this.symm
   subst hms
   refine .done ⟨rfl,a',_,h',rfl,by rw[←H'.sz];exact hsz,H'.df hdv,fun i hi=>?_,hR,fun x o hx=>by simp[plus,hx],ha'.inv⟩
   have hx:=List.all_eq_true.1 his i hi
   unfold isX at hx
   unfold got
   split at hx
   ·rename_i e he
    have:=Good.at (H'.vl i [] _ he (by simp))
    simpa using this.symm
   ·cases hx
  ·cases ht
 ·cases ht
end
section
open Go.Conc Go.ConcR
variable {P : Program} {Φ : Ph} {cs cs' : List Frame} {fr fr' : Frame}
theorem Sil.step{main:Bool}{J:World→Prop}{Stop:Goroutine→World→Prop}{n:Nat}{g g':Goroutine}(hr:g.status=.running)(hs:∀w,stepG P main g w=.go g' w #[])(H:Sil P main J Stop n g'):Sil P main J Stop (n+1) g:=
 fun w=>Goes.step hr fun w₁ h₁=>by
  rw[hs w₁]
  exact⟨⟨rfl,rfl⟩,H w₁⟩
theorem A9.step{Nx:Frame→List Frame→Prop}(hs:∀w,stepG P true (gor fr cs) w=.go (gor fr' cs') w #[])(H:A9 P Φ Nx fr' cs'):A9 P Φ Nx fr cs:=
 let⟨m,h⟩:=H
 ⟨m+1,Sil.step rfl hs h⟩
theorem kA.step{Nx:Frame→List Frame→Prop}(hs:∀w,stepG P true (gor fr cs) w=.go (gor fr' cs') w #[])(H:kA P Φ Nx fr' cs'):kA P Φ Nx fr cs:=
 let⟨Anch,h1,m,h⟩:=H
 ⟨Anch,h1,m+1,Sil.step rfl hs h⟩
theorem MK{s:GStep}{g:Goroutine}{w:World}{es:Array Event}(h:s.goes (fun g' w' es'=>g'=g∧w'=w∧es'=es)):s=.go g w es:=by
 cases s <;> simp only[GStep.goes]at h
 obtain⟨rfl,rfl,rfl⟩:=h;rfl
theorem Sp.pre{Q:Frame→List Frame→Heap→Prop}{r:Nat}{h:Heap}(H:Safe P Φ.S (fun fr cs h=>Sp P Φ Q r fr cs h) fr cs h):Sp P Φ Q r fr cs h:=by
 cases r with
 | zero=>exact H.bind fun _ _ _ x=>x
 | succ r=>exact H.bind fun _ _ _ x=>x
end
end Go.Eng
end
section
namespace Go.Proofs.YtnhbgoiihgoneaaGreatDoor
open Go Go.Eng Go.Conc Go.RowKit Go.Conc.Lib Go.ConcR.Gen
open Go.ConcR (KK wgBlock WgAt stA smA rd wr DC0 Payload)
instance:Payload:=⟨43⟩
noncomputable def J3:Code:=Tryz.f53.body.getD .skip
noncomputable def I0:Array Oper:=match J3 with | .seq (.region _ ops _) _=>ops | _=>#[]
noncomputable def wT:Array Oper:=match J3 with | .seq _ (.region _ ops _)=>ops | _=>#[]
theorem TK:J3=.seq (.region 0 I0 false) (.region 1 wT true):=by kernel_rfl
def WB:List (TypeId×TyD):=[(0,⟨.oth,1,0,[],none,some []⟩),(3,⟨(.int .i64),1,8,[.int .i64],some [(1,(.int .i64 0))],none⟩),(5,⟨(.int .u8),1,1,[.int .u8],some [(1,(.int .u8 0))],none⟩),(43,⟨(.int .u32),1,4,[.int .u32],some [(1,(.int .u32 0))],none⟩),(22,⟨(.sl 5),1,24,[.slice],some [(1,.nilSl)],none⟩),(67,⟨(.sl 43),1,24,[.slice],some [(1,.nilSl)],none⟩),(71,⟨.fnk,1,8,[.fnv],some [(1,.nilFn)],none⟩)]
theorem WC:zD Tryz.prog WB:=Ie (by kernel_rfl)
theorem WE:Tryz.prog.follows .mixedOrders=true:=by kernel_rfl
def cW:Cfg:=⟨WB,[],[],[]⟩
def stW:St:={ tmps:=[⟨[],.x (.var .addr 0)⟩,⟨[],.x (.var .addr 1)⟩,⟨[],.x (.var .addr 2)⟩,⟨[],.x (.var .addr 3)⟩,⟨[],.x (.var .addr 4)⟩]++List.replicate 6 ⟨[],.junk⟩,loc:=[],n:=5,known:=[],d:=0,dv:=true }
def stW':St:={ tmps:=[⟨[],.x (.var .addr 0)⟩,⟨[],.x (.var .addr 1)⟩,⟨[],.x (.var .addr 2)⟩,⟨[],.x (.var .addr 3)⟩,⟨[],.x (.var .addr 4)⟩,⟨[],.x (.var .slice 5)⟩,⟨[],.x (.var (.int .i64) 6)⟩,⟨[],.x (.var .fnv 7)⟩,⟨[],.x (.var .slice 8)⟩,⟨[],.x (.var (.int .u32) 9)⟩,⟨[],.x (.ix 1 (.var .slice 5) (.var (.int .i64) 6))⟩],loc:=[],n:=10,known:=[],d:=0,dv:=true }
def tW:Tr:=
(.load (.var (.addr) 3) [.slice]
(.load (.var (.addr) 4) [.int .i64]
(.load (.var (.addr) 1) [.fnv]
(.load (.var (.addr) 2) [.slice]
(.callv (.var (.fnv) 7) [(.x (.var (.slice) 8))] false [(false,[.int .u32])]
(.still [((.var (.addr) 4),(.var (.int .i64) 6)),((.var (.addr) 3),(.var (.slice) 5))]
(.need (.nt (.nn (.var (.slice) 5)))
(.need (.cm .leq (.cst (.int .i64 0)) (.var (.int .i64) 6))
(.need (.cm .lss (.var (.int .i64) 6) (.ln (.var (.slice) 5)))
(.leaf (.norm stW')))))))))))
def Hm:Array Bool:=(Array.replicate 7 false).setIfInBounds 6 true
theorem sW:sxA cW wT 6 Hm [] stW=some tW:=by kernel_rfl
theorem XN:MJ wT 6=true:=by kernel_rfl
theorem Yv:Region.noSelect wT=true:=by kernel_rfl
theorem XO:wT.size=7:=by kernel_rfl
theorem Yw:wT[6]? = some { dst:=none,op:=.store 43 (.tmp 10) (.tmp 9),type:=0,pos:=(wT[6]?.map (·.pos)).getD "",after:=(wT[6]?.map (·.after)).getD #[],guard:=none }:=by kernel_rfl
theorem WG:(Tryz.prog.funcs[(baseD 53).fn]?).any (·.norace)=false:=by kernel_rfl
noncomputable def bot:Frame:={ (default:Frame)with fn:=Tryz.prog.funcs.size,defers:=[],mode:=.panicking [goexitEntry] }
def E9(wg fb pb sb ib:Nat):Deferred:={ target:=.fn (.func 53) #[.pointer (some ⟨wg,0,none⟩),.pointer (some ⟨fb,0,none⟩),.pointer (some ⟨pb,0,none⟩),.pointer (some ⟨sb,0,none⟩),.pointer (some ⟨ib,0,none⟩)],args:=#[] }
noncomputable def L4(d:Deferred):Frame:={ (default:Frame)with fn:=Tryz.prog.funcs.size,defers:=[d],mode:=.panicking [goexitEntry] }
def qc(wg fb pb sb ib:Nat):Array Value:=#[.pointer (some ⟨wg,0,none⟩),.pointer (some ⟨fb,0,none⟩),.pointer (some ⟨pb,0,none⟩),.pointer (some ⟨sb,0,none⟩),.pointer (some ⟨ib,0,none⟩)]
theorem R9(wg fb pb sb ib:Nat)(m:Bool)(w:World):stepG Tryz.prog m (gor (L4 (E9 wg fb pb sb ib)) []) w =
  .go (gor ((baseD 53).at ⟨qc wg fb pb sb ib++#[undef,undef,undef,undef,undef,undef],[]⟩ [.code J3]) [bot]) w #[]:=by
 simp[gor,L4,qc,E9,stepG,unwind,callDeferred,invoke,callFunc,Tryz.func53,Tryz.f53,seen,GStep.after,Frame.enter,Frame.at,baseD,bot,J3]
section
variable {Φ : Ph} {i : Nat}
theorem TL:Up Φ.S (Hj Tryz.prog Φ i):=fun fr cs h1 h2 H hs _ w hw hJ=>H w (fun b o hb=>hw b o (hs b o hb)) hJ
theorem WH(T:Array Value)(td:List Item):QuitsD Tryz.prog 2 0 (G { (baseD 53).at ⟨T,[]⟩ td with mode:=.returning } [bot]):=by
 refine QuitsD.ctl (g':=G bot []) rfl (fun w=>?_) ?_
 ·simp[G,stepG,unwind,doReturn,results,Frame.at,baseD,bot,Tryz.func53,Tryz.f53,seen,GStep.after,goexitEntry]
 refine QuitsD.ctl (g':={ G bot []with status:=.finished }) rfl (fun w=>?_) ⟨rfl,rfl⟩
 simp[G,stepG,unwind,bot,goexitEntry,Frame.catches]
 rfl
theorem XP(hty:Φ.ty=Tryz.link.tWg)(hCW:Φ.C≠Φ.Wg)(hi:i<Φ.n){x:Int}(hval:Φ.val i=.int .u32 x){a:Act}(hd:a.defers=[dcall 54 #[.pointer (some ⟨Φ.Wg,0,none⟩)]])
  (h9:a.tmps.getD 9 undef=.int .u32 x)(h10:a.tmps.getD 10 undef=.pointer (some ⟨Φ.C,i,none⟩))(h:Eng.Heap) :
  Hj Tryz.prog Φ i ((baseD 53).at a [.inRegion wT [6]]) [bot] h:=by
 intro w hw hJ
 obtain⟨arr,p1,p2⟩:=hJ.2
 have hc:w.cell? ⟨Φ.C,i,none⟩=some (arr[i]'(by omega)):=by simp[World.cell?,p1,p2,hi]
 have hz:w.frozen? ⟨Φ.C,i,none⟩=false:=by simp[World.frozen?,p1]
 have hr:(execOp a.eval { dst:=none,op:=.store 43 (.tmp 10) (.tmp 9),type:=0,pos:=(wT[6]?.map (·.pos)).getD "",after:=(wT[6]?.map (·.after)).getD #[],guard:=none }).run Tryz.prog w=.ok .skip (w.setCell ⟨Φ.C,i,none⟩ (.int .u32 x)):=by
  unfold execOp
  simp only[Act.eval,h9,h10]
  simp[go_sem,stored,hc,hz]
 have he:(execOp a.eval { dst:=none,op:=.store 43 (.tmp 10) (.tmp 9),type:=0,pos:=(wT[6]?.map (·.pos)).getD "",after:=(wT[6]?.map (·.after)).getD #[],guard:=none }).events Tryz.prog w #[]=#[⟨.cell ⟨Φ.C,i,none⟩,true,false⟩]:=by
  unfold execOp
  simp only[Act.eval,h9,h10]
  simp[go_sem,storedEv,hc,hz]
 have st:=stepG_none (P:=Tryz.prog) (main:=false) (b:=baseD 53) (a:=a) (k:=[]) (cs:=[bot]) (w:=w) (rest:=[]) Yw rfl (by decide) hr
 unfold listed at st
 rw[he,seen_eq WG (by simp)]at st
 rw[hval]
 refine⟨_,st,200,?_⟩
 have hK:Φ.J (w.setCell ⟨Φ.C,i,none⟩ (.int .u32 x)):=by
  refine⟨let⟨st,sm,y⟩:=hJ.1;⟨st,sm,y.of_block ((aside_setCell _ ⟨Φ.C,i,none⟩ _).block _ (Ne.symm hCW))⟩,arr.setIfInBounds i (.int .u32 x),?_,by simpa using p2⟩
  rw[setCell_eq_setRow w Φ.C i arr _ (0,0) _ p1,setRow_heap w Φ.C _ _ _ _ p1]
 generalize w.setCell ⟨Φ.C,i,none⟩ (.int .u32 x)=w₁ at hK
 clear st he hr hc hz p1 hw hJ
 refine Sil.of (w:=w₁) ?_
 obtain⟨T,D⟩:=a
 simp only at hd
 subst hd
 simp only[Act.put]
 u_c stepG_region_end jl hK
 u_c stepG_end jl hK
 u_in jl hK
 rw[stepG_unwind_enter rfl Tryz.func54 (nm_done Tryz.link) rfl]
 simp only[goes_go]
 refine⟨by u_nil,?_⟩
 walk_nrmf Tryz.f54
 have hA:=@TD _ Tryz.prog Tryz.link Φ [bot] 2 Tryz.Jw hCW _ rfl (WH T []) _ hK
 simp only[body_done,doneFn,Option.getD_some]at hA
 exact Goes.mono hA (by omega)
theorem V5:(I0[0]?.map fun o=>(o.dst,o.guard))=some (none,none):=by kernel_rfl
theorem V6:(I0[0]?.map fun o=>o.op)=some (.defer { callee:=.value (.func 54),args:=#[.tmp 0],argTypes:=((I0[0]?.map fun o=>match o.op with | .defer c=>c.argTypes | _=>#[]).getD #[]) }):=by kernel_rfl
theorem WI:∃o ats,I0[0]? = some o∧o.dst=none∧o.guard=none∧o.op=.defer { callee:=.value (.func 54),args:=#[.tmp 0],argTypes:=ats }:=by
 have h1:=V5
 have h2:=V6
 cases h:I0[0]? with
 | none=>rw[h]at h1;cases h1
 | some o=>
  rw[h]at h1 h2
  simp only[Option.map_some,Option.some.injEq,Prod.mk.injEq]at h1 h2
  exact⟨o,_,rfl,h1.1,h1.2,h2⟩
theorem XQ:I0.size=1:=by kernel_rfl
def lW:List (Option (Sh×Nat)):=[some (.addr,0),some (.addr,1),some (.addr,2),some (.addr,3),some (.addr,4),none,none,none,none,none,none]
theorem WJ:stW={ tmps:=Kn lW,loc:=[],n:=5,known:=[],d:=0,dv:=true }:=rfl
def WK(C:Nat)(i:Nat)(x:Int):Hand:=fun l env _ _=>l=.norm stW'∧(∃n c,env[5]? = some (.slice (some ⟨C,0,none⟩) n c))∧env[6]? = some (.int .i64 i)∧env[9]? = some (.int .u32 x)
theorem XR(hnb:∀fr cs h Q,¬Φ.S.big fr cs h Q)(hty:Φ.ty=Tryz.link.tWg)(hCW:Φ.C≠Φ.Wg)(hi:i<Φ.n){x:Int}(hval:Φ.val i=.int .u32 x){hc:Eng.Heap}(hin:Inv Φ.S hc)
  {fb pb sb ib:Nat}{g:FuncId}{pa:Option Addr}{pl pc:Nat}
  (hf:zd hc ⟨fb,0,none⟩=some (.func (.func g) #[] #[]))(hp:zd hc ⟨pb,0,none⟩=some (.slice pa pl pc))(hs:zd hc ⟨sb,0,none⟩=some (.slice (some ⟨Φ.C,0,none⟩) Φ.n Φ.n))
  (hib:zd hc ⟨ib,0,none⟩=some (.int .i64 i))(hsum:zc Tryz.prog Φ.S g #[.slice pa pl pc] hc (fun v h'=>v=.int .u32 x∧Eng.Sub hc h')) :
  Works Tryz.prog Φ i (L4 (E9 Φ.Wg fb pb sb ib)) [] hc:=by
 refine Safe.Ys hnb false Φ.J ?_
 refine Safe.yb (fun w m=>R9 _ _ _ _ _ m w) ?_
 rw[TK]
 refine .seq (.region ?_)
 rw[XQ]
 obtain⟨oD,ats,d1,d2,d3,d4⟩:=WI
 refine Safe.yb (fun w m=>stepG_defer (rest:=[]) d1 (by simp[Region.wanted,d3]) (by decide) d4) ?_
 rw[d2]
 refine .Bj (.I9 fun t'=>?_)
 have e:Region.schedule (Tryz.prog.follows .mixedOrders) wT t'=Region.linearise.go .any wT 6 t' Hm []++[6]:=by
  simp only[Region.schedule,WE,Region.linearise,XO,Bool.true_or,if_true]
  exact linearise_last' XN t'
 rw[e,←xw hc]
 have ha:Ok Φ.S hc (fun _=>none):=⟨fun b hb=>absurd rfl hb,hin⟩
 have env:List Value:=[]
 have H:Rel stW [.pointer (some ⟨Φ.Wg,0,none⟩),.pointer (some ⟨fb,0,none⟩),.pointer (some ⟨pb,0,none⟩),.pointer (some ⟨sb,0,none⟩),.pointer (some ⟨ib,0,none⟩)] []
   (Act.put ⟨qc Φ.Wg fb pb sb ib++#[undef,undef,undef,undef,undef,undef],[dcall 54 (#[.tmp 0].map (Act.eval ⟨qc Φ.Wg fb pb sb ib++#[undef,undef,undef,undef,undef,undef],[]⟩))]⟩ none undef) (fun _=>none):=by
  rw[WJ]
  refine Rel.init rfl rfl (fun h=>by cases h) fun i s j h=>?_
  match i,h with
  | 0,h=>cases h;exact⟨_,rfl,rfl,rfl⟩
  | 1,h=>cases h;exact⟨_,rfl,rfl,rfl⟩
  | 2,h=>cases h;exact⟨_,rfl,rfl,rfl⟩
  | 3,h=>cases h;exact⟨_,rfl,rfl,rfl⟩
  | 4,h=>cases h;exact⟨_,rfl,rfl,rfl⟩
  | 5,h=>cases h
  | 6,h=>cases h
  | 7,h=>cases h
  | 8,h=>cases h
  | 9,h=>cases h
  | 10,h=>cases h
  | _+11,h=>cases h
 refine TH TL [6] _ _ _ _ ha (NJ _ _ _ _ (IC 6 t' [] Hm _ _ _ ha (Qw WC Yv (R:=fun a' _ _=>a'.tmps.getD 9 undef=.int .u32 x∧a'.tmps.getD 10 undef=.pointer (some ⟨Φ.C,i,none⟩))
  (Λ:=WK Φ.C i x) (Q:=fun _ _=>True) (Ks:=[]) 6 Hm [] stW tW _ [] _ _ hc [] sW ?_ H ha (fun q hq=>by cases hq) (.nil _) ?_))) ?_
 ·have hn:∀ {a:Addr} {v:Value} {h':Eng.Heap},Eng.Sub hc h'→zd hc a=some v→zd h' a=some v:=fun s hv=>by
   unfold zd at hv ⊢
   cases e:hc _ with
   | none=>rw[e]at hv;cases hv
   | some o=>rw[e]at hv;rw[s _ o e];exact hv
  simp only[tW,Tr.wp,zG,Ex.ev,coerce,toInt_int,zb,zf,zi,zg,zh,yi,zI,Cst.val,SV.den,zq,zL,zE,zo,zn,z9,zp,List.flatMap_cons,List.flatMap_nil,List.getD_cons_zero,List.getD_cons_succ,List.getElem?_cons_zero,List.getElem?_cons_succ,decide_eq_true_eq,List.map_cons,List.map_nil,List.cons_append,List.nil_append,List.append_nil,and_true,true_and,if_false,Bool.false_eq_true,WK]
  refine⟨_,_,_,hs,_,hib,_,rfl,hf,_,_,_,hp,g,#[],#[],rfl,?_⟩
  refine hsum.mono ?_
  rintro _ h' ⟨rfl,sub⟩
  refine⟨x,rfl,fun p hp=>?_,rfl,by omega,by omega,⟨_,_,rfl⟩,rfl,rfl⟩
  rcases List.mem_cons.1 hp with rfl | hp
  ·exact hn sub hib
  ·cases List.mem_singleton.1 hp
   exact hn sub hs
 ·rintro st' vs ms a' L' h' ⟨e1,⟨n5,c5,e5⟩,e6,e9⟩ H' _ _
  cases e1
  have v9:=H'.vl 9 [] _ rfl (by simp)
  have v10:=H'.vl 10 [] _ rfl (by simp)
  generalize ([.pointer (some ⟨Φ.Wg,0,none⟩),.pointer (some ⟨fb,0,none⟩),.pointer (some ⟨pb,0,none⟩),.pointer (some ⟨sb,0,none⟩),.pointer (some ⟨ib,0,none⟩)]++vs:List Value)=en at e5 e6 e9 v9 v10
  have w9:=Good.at v9
  have w10:=Good.at v10
  simp only[Ex.ev,List.getD_eq_getElem?_getD,e5,e6,e9,Option.getD_some,coerce,toInt_int,zg,zf,zi]at w9 w10
  refine⟨w9.symm,w10.symm.trans ?_⟩
  simp[Addr.add];omega
 ·rintro a' L' h' _ ⟨hd,h9,h10⟩
  exact .done (XP hty hCW hi hval (hd.trans (by simp[Act.put,Act.eval,qc])) h9 h10 _)
end
end Go.Proofs.YtnhbgoiihgoneaaGreatDoor
end
section
namespace Go.Proofs.YtnhbgoiihgoneaaGreatDoor
open Go Go.Eng
def WL:List (TypeId×TyD):=[(0,⟨.oth,1,0,[],none,some []⟩),(1,⟨.fnk,1,8,[.fnv],some [(1,.nilFn)],none⟩),(2,⟨(.int .i64),1,8,[.int .i64],some [(1,(.int .i64 0))],none⟩),(3,⟨(.int .i64),1,8,[.int .i64],some [(1,(.int .i64 0))],none⟩),(4,⟨.bool,1,1,[.bool],some [(1,(.bool false))],none⟩),(5,⟨(.int .u8),1,1,[.int .u8],some [(1,(.int .u8 0))],none⟩),(22,⟨(.sl 5),1,24,[.slice],some [(1,.nilSl)],none⟩),(42,⟨(.int .u64),1,8,[.int .u64],some [(1,(.int .u64 0))],none⟩),(43,⟨(.int .u32),1,4,[.int .u32],some [(1,(.int .u32 0))],none⟩),(67,⟨(.sl 43),1,24,[.slice],some [(1,.nilSl)],none⟩),(68,⟨(.sl 2),1,24,[.slice],some [(1,.nilSl)],none⟩),(71,⟨.fnk,1,8,[.fnv],some [(1,.nilFn)],none⟩),(95,⟨(.st []),0,0,[],some [],none⟩),(96,⟨(.st []),0,0,[],some [],none⟩),(97,⟨(.st []),0,0,[],some [],none⟩),(99,⟨(.st [(0,96),(0,97),(0,42)]),1,8,[.int .u64],some [(1,(.int .u64 0))],none⟩),(101,⟨(.st [(0,95),(0,99),(1,43)]),2,16,[.int .u64,.int .u32],some [(1,(.int .u64 0)),(1,(.int .u32 0))],none⟩)]
theorem EA:zD Tryz.prog WL:=Ie (by kernel_rfl)
theorem EB:Tryz.prog.follows .mixedOrders=true:=by kernel_rfl
def cP:Cfg:=⟨WL,[],[3,7,9,10,11],[.tmp 4,.tmp 5]⟩
noncomputable def L5:Code:=Tryz.f32.body.getD .skip
noncomputable def WM:List Code:=match L5 with
 | .seq r0 (.seq r1 (.seq r2 (.seq r3 (.seq (.seq r4 (.block 0 (.loop (.seq r5 (.seq _ (.seq (.block 1 (.seq r6 (.seq r7 (.seq r8 (.seq r9 r10))))) r11)))))) (.seq r12 z)))))=>[r0,r1,r2,r3,r4,r5,r6,r7,r8,r9,r10,r11,r12,z]
 | _=>[]
noncomputable def rP(i:Nat):Code:=WM.getD i .skip
noncomputable def L6:Code:=.seq (rP 5) (.seq (.cond (.tmp 24) .skip (.exit 0)) (.seq (.block 1 (nest [rP 6,rP 7,rP 8] (.seq (rP 9) (rP 10)))) (rP 11)))
theorem TN:L5=nest [rP 0,rP 1,rP 2,rP 3] (.seq (.seq (rP 4) (.block 0 (.loop L6))) (.seq (rP 12) (rP 13))):=by kernel_rfl
def TO:St:={ tmps:=[⟨[],(.x (.var (.slice) 0))⟩,⟨[],(.x (.var (.fnv) 1))⟩,⟨[],.junk⟩,⟨[],(.x (.var (.addr) 2))⟩,⟨[],(.x (.cst .nilSl))⟩,⟨[],(.x (.cst .nilSl))⟩,⟨[],(.x (.ar .quo .i64 (.ar .sub .i64 (.ar .add .i64 (.ln (.var (.slice) 0)) (.cst (.int .i64 32768))) (.cst (.int .i64 1))) (.cst (.int .i64 32768))))⟩,⟨[],(.x (.var (.addr) 5))⟩,⟨[],(.x (.var (.slice) 4))⟩,⟨[],(.x (.var (.addr) 6))⟩,⟨[],.junk⟩,⟨[],.junk⟩,⟨[],(.x (.var (.slice) 0))⟩,⟨[],(.x (.ln (.var (.slice) 0)))⟩,⟨[],(.x (.ar .add .i64 (.ln (.var (.slice) 0)) (.cst (.int .i64 32768))))⟩,⟨[],(.x (.ar .sub .i64 (.ar .add .i64 (.ln (.var (.slice) 0)) (.cst (.int .i64 32768))) (.cst (.int .i64 1))))⟩,⟨[],(.x (.ar .quo .i64 (.ar .sub .i64 (.ar .add .i64 (.ln (.var (.slice) 0)) (.cst (.int .i64 32768))) (.cst (.int .i64 1))) (.cst (.int .i64 32768))))⟩,⟨[],(.x (.ar .quo .i64 (.ar .sub .i64 (.ar .add .i64 (.ln (.var (.slice) 0)) (.cst (.int .i64 32768))) (.cst (.int .i64 1))) (.cst (.int .i64 32768))))⟩,⟨[],(.x (.var (.slice) 3))⟩,⟨[],(.x (.ar .quo .i64 (.ar .sub .i64 (.ar .add .i64 (.ln (.var (.slice) 0)) (.cst (.int .i64 32768))) (.cst (.int .i64 1))) (.cst (.int .i64 32768))))⟩,⟨[],(.x (.var (.slice) 4))⟩,⟨[],(.agg [(.cst (.int .u64 0)),(.cst (.int .u32 0))])⟩,⟨[],.junk⟩,⟨[],.junk⟩,⟨[],.junk⟩,⟨[],.junk⟩,⟨[],.junk⟩,⟨[],.junk⟩,⟨[],.junk⟩,⟨[],.junk⟩,⟨[],.junk⟩,⟨[],.junk⟩,⟨[],.junk⟩,⟨[],.junk⟩,⟨[],.junk⟩,⟨[],.junk⟩,⟨[],.junk⟩,⟨[],.junk⟩,⟨[],.junk⟩,⟨[],.junk⟩,⟨[],.junk⟩,⟨[],.junk⟩,⟨[],.junk⟩,⟨[],.junk⟩,⟨[],.junk⟩,⟨[],.junk⟩,⟨[],.junk⟩],loc:=[],n:=7,known:=[],d:=0 }
def TP:St:={ tmps:=[⟨[],(.x (.var (.slice) 0))⟩,⟨[],(.x (.var (.fnv) 1))⟩,⟨[],.junk⟩,⟨[],(.x (.var (.addr) 2))⟩,⟨[],(.x (.cst .nilSl))⟩,⟨[],(.x (.cst .nilSl))⟩,⟨[],(.x (.ar .quo .i64 (.ar .sub .i64 (.ar .add .i64 (.ln (.var (.slice) 0)) (.cst (.int .i64 32768))) (.cst (.int .i64 1))) (.cst (.int .i64 32768))))⟩,⟨[],(.x (.var (.addr) 4))⟩,⟨[],(.x (.var (.slice) 5))⟩,⟨[],(.x (.var (.addr) 6))⟩,⟨[],.junk⟩,⟨[],.junk⟩,⟨[],(.x (.var (.slice) 0))⟩,⟨[],(.x (.ln (.var (.slice) 0)))⟩,⟨[],(.x (.ar .add .i64 (.ln (.var (.slice) 0)) (.cst (.int .i64 32768))))⟩,⟨[],(.x (.ar .sub .i64 (.ar .add .i64 (.ln (.var (.slice) 0)) (.cst (.int .i64 32768))) (.cst (.int .i64 1))))⟩,⟨[],(.x (.ar .quo .i64 (.ar .sub .i64 (.ar .add .i64 (.ln (.var (.slice) 0)) (.cst (.int .i64 32768))) (.cst (.int .i64 1))) (.cst (.int .i64 32768))))⟩,⟨[],(.x (.ar .quo .i64 (.ar .sub .i64 (.ar .add .i64 (.ln (.var (.slice) 0)) (.cst (.int .i64 32768))) (.cst (.int .i64 1))) (.cst (.int .i64 32768))))⟩,⟨[],(.x (.var (.slice) 3))⟩,⟨[],(.x (.ar .quo .i64 (.ar .sub .i64 (.ar .add .i64 (.ln (.var (.slice) 0)) (.cst (.int .i64 32768))) (.cst (.int .i64 1))) (.cst (.int .i64 32768))))⟩,⟨[],(.x (.var (.slice) 5))⟩,⟨[],(.agg [(.cst (.int .u64 0)),(.cst (.int .u32 0))])⟩,⟨[],.junk⟩,⟨[],.junk⟩,⟨[],.junk⟩,⟨[],.junk⟩,⟨[],.junk⟩,⟨[],.junk⟩,⟨[],.junk⟩,⟨[],.junk⟩,⟨[],.junk⟩,⟨[],.junk⟩,⟨[],.junk⟩,⟨[],.junk⟩,⟨[],.junk⟩,⟨[],.junk⟩,⟨[],.junk⟩,⟨[],.junk⟩,⟨[],.junk⟩,⟨[],.junk⟩,⟨[],.junk⟩,⟨[],.junk⟩,⟨[],.junk⟩,⟨[],.junk⟩,⟨[],.junk⟩,⟨[],.junk⟩,⟨[],.junk⟩],loc:=[],n:=7,known:=[],d:=0 }
def TQ:St:={ tmps:=[⟨[],(.x (.var (.slice) 0))⟩,⟨[],(.x (.var (.fnv) 1))⟩,⟨[],.junk⟩,⟨[],(.x (.var (.addr) 2))⟩,⟨[],(.x (.cst .nilSl))⟩,⟨[],(.x (.cst .nilSl))⟩,⟨[],(.x (.ar .quo .i64 (.ar .sub .i64 (.ar .add .i64 (.ln (.var (.slice) 0)) (.cst (.int .i64 32768))) (.cst (.int .i64 1))) (.cst (.int .i64 32768))))⟩,⟨[],(.x (.var (.addr) 4))⟩,⟨[],(.x (.var (.slice) 5))⟩,⟨[],(.x (.var (.addr) 6))⟩,⟨[],.junk⟩,⟨[],.junk⟩,⟨[],(.x (.var (.slice) 0))⟩,⟨[],(.x (.ln (.var (.slice) 0)))⟩,⟨[],(.x (.ar .add .i64 (.ln (.var (.slice) 0)) (.cst (.int .i64 32768))))⟩,⟨[],(.x (.ar .sub .i64 (.ar .add .i64 (.ln (.var (.slice) 0)) (.cst (.int .i64 32768))) (.cst (.int .i64 1))))⟩,⟨[],(.x (.ar .quo .i64 (.ar .sub .i64 (.ar .add .i64 (.ln (.var (.slice) 0)) (.cst (.int .i64 32768))) (.cst (.int .i64 1))) (.cst (.int .i64 32768))))⟩,⟨[],(.x (.ar .quo .i64 (.ar .sub .i64 (.ar .add .i64 (.ln (.var (.slice) 0)) (.cst (.int .i64 32768))) (.cst (.int .i64 1))) (.cst (.int .i64 32768))))⟩,⟨[],(.x (.var (.slice) 3))⟩,⟨[],(.x (.ar .quo .i64 (.ar .sub .i64 (.ar .add .i64 (.ln (.var (.slice) 0)) (.cst (.int .i64 32768))) (.cst (.int .i64 1))) (.cst (.int .i64 32768))))⟩,⟨[],(.x (.var (.slice) 5))⟩,⟨[],(.agg [(.cst (.int .u64 0)),(.cst (.int .u32 0))])⟩,⟨[],.junk⟩,⟨[],.junk⟩,⟨[],.junk⟩,⟨[],.junk⟩,⟨[],.junk⟩,⟨[],.junk⟩,⟨[],.junk⟩,⟨[],.junk⟩,⟨[],.junk⟩,⟨[],.junk⟩,⟨[],.junk⟩,⟨[],.junk⟩,⟨[],.junk⟩,⟨[],.junk⟩,⟨[],.junk⟩,⟨[],.junk⟩,⟨[],.junk⟩,⟨[],.junk⟩,⟨[],.junk⟩,⟨[],.junk⟩,⟨[],.junk⟩,⟨[],.junk⟩,⟨[],.junk⟩,⟨[],.junk⟩,⟨[],.junk⟩],loc:=[],n:=7,known:=[],d:=0 }
def TR:St:={ tmps:=[⟨[],(.x (.var (.slice) 0))⟩,⟨[],(.x (.var (.fnv) 1))⟩,⟨[],.junk⟩,⟨[],(.x (.var (.addr) 2))⟩,⟨[],(.x (.cst .nilSl))⟩,⟨[],(.x (.cst .nilSl))⟩,⟨[],(.x (.ar .quo .i64 (.ar .sub .i64 (.ar .add .i64 (.ln (.var (.slice) 0)) (.cst (.int .i64 32768))) (.cst (.int .i64 1))) (.cst (.int .i64 32768))))⟩,⟨[],(.x (.var (.addr) 5))⟩,⟨[],(.x (.var (.slice) 3))⟩,⟨[],(.x (.var (.addr) 6))⟩,⟨[],.junk⟩,⟨[],.junk⟩,⟨[],(.x (.var (.slice) 0))⟩,⟨[],(.x (.ln (.var (.slice) 0)))⟩,⟨[],(.x (.ar .add .i64 (.ln (.var (.slice) 0)) (.cst (.int .i64 32768))))⟩,⟨[],(.x (.ar .sub .i64 (.ar .add .i64 (.ln (.var (.slice) 0)) (.cst (.int .i64 32768))) (.cst (.int .i64 1))))⟩,⟨[],(.x (.ar .quo .i64 (.ar .sub .i64 (.ar .add .i64 (.ln (.var (.slice) 0)) (.cst (.int .i64 32768))) (.cst (.int .i64 1))) (.cst (.int .i64 32768))))⟩,⟨[],(.x (.ar .quo .i64 (.ar .sub .i64 (.ar .add .i64 (.ln (.var (.slice) 0)) (.cst (.int .i64 32768))) (.cst (.int .i64 1))) (.cst (.int .i64 32768))))⟩,⟨[],(.x (.var (.slice) 4))⟩,⟨[],(.x (.ar .quo .i64 (.ar .sub .i64 (.ar .add .i64 (.ln (.var (.slice) 0)) (.cst (.int .i64 32768))) (.cst (.int .i64 1))) (.cst (.int .i64 32768))))⟩,⟨[],(.x (.var (.slice) 3))⟩,⟨[],(.agg [(.cst (.int .u64 0)),(.cst (.int .u32 0))])⟩,⟨[],.junk⟩,⟨[],.junk⟩,⟨[],.junk⟩,⟨[],.junk⟩,⟨[],.junk⟩,⟨[],.junk⟩,⟨[],.junk⟩,⟨[],.junk⟩,⟨[],.junk⟩,⟨[],.junk⟩,⟨[],.junk⟩,⟨[],.junk⟩,⟨[],.junk⟩,⟨[],.junk⟩,⟨[],.junk⟩,⟨[],.junk⟩,⟨[],.junk⟩,⟨[],.junk⟩,⟨[],.junk⟩,⟨[],.junk⟩,⟨[],.junk⟩,⟨[],.junk⟩,⟨[],.junk⟩,⟨[],.junk⟩,⟨[],.junk⟩],loc:=[],n:=7,known:=[],d:=0 }
def TS:St:={ tmps:=[⟨[],(.x (.var (.slice) 0))⟩,⟨[],(.x (.var (.fnv) 1))⟩,⟨[],.junk⟩,⟨[],(.x (.var (.addr) 2))⟩,⟨[],(.x (.cst .nilSl))⟩,⟨[],(.x (.cst .nilSl))⟩,⟨[],(.x (.ar .quo .i64 (.ar .sub .i64 (.ar .add .i64 (.ln (.var (.slice) 0)) (.cst (.int .i64 32768))) (.cst (.int .i64 1))) (.cst (.int .i64 32768))))⟩,⟨[],(.x (.var (.addr) 4))⟩,⟨[],(.x (.var (.slice) 3))⟩,⟨[],(.x (.var (.addr) 6))⟩,⟨[],.junk⟩,⟨[],.junk⟩,⟨[],(.x (.var (.slice) 0))⟩,⟨[],(.x (.ln (.var (.slice) 0)))⟩,⟨[],(.x (.ar .add .i64 (.ln (.var (.slice) 0)) (.cst (.int .i64 32768))))⟩,⟨[],(.x (.ar .sub .i64 (.ar .add .i64 (.ln (.var (.slice) 0)) (.cst (.int .i64 32768))) (.cst (.int .i64 1))))⟩,⟨[],(.x (.ar .quo .i64 (.ar .sub .i64 (.ar .add .i64 (.ln (.var (.slice) 0)) (.cst (.int .i64 32768))) (.cst (.int .i64 1))) (.cst (.int .i64 32768))))⟩,⟨[],(.x (.ar .quo .i64 (.ar .sub .i64 (.ar .add .i64 (.ln (.var (.slice) 0)) (.cst (.int .i64 32768))) (.cst (.int .i64 1))) (.cst (.int .i64 32768))))⟩,⟨[],(.x (.var (.slice) 5))⟩,⟨[],(.x (.ar .quo .i64 (.ar .sub .i64 (.ar .add .i64 (.ln (.var (.slice) 0)) (.cst (.int .i64 32768))) (.cst (.int .i64 1))) (.cst (.int .i64 32768))))⟩,⟨[],(.x (.var (.slice) 3))⟩,⟨[],(.agg [(.cst (.int .u64 0)),(.cst (.int .u32 0))])⟩,⟨[],.junk⟩,⟨[],.junk⟩,⟨[],.junk⟩,⟨[],.junk⟩,⟨[],.junk⟩,⟨[],.junk⟩,⟨[],.junk⟩,⟨[],.junk⟩,⟨[],.junk⟩,⟨[],.junk⟩,⟨[],.junk⟩,⟨[],.junk⟩,⟨[],.junk⟩,⟨[],.junk⟩,⟨[],.junk⟩,⟨[],.junk⟩,⟨[],.junk⟩,⟨[],.junk⟩,⟨[],.junk⟩,⟨[],.junk⟩,⟨[],.junk⟩,⟨[],.junk⟩,⟨[],.junk⟩,⟨[],.junk⟩,⟨[],.junk⟩],loc:=[],n:=7,known:=[],d:=0 }
def TU:St:={ tmps:=[⟨[],(.x (.var (.slice) 0))⟩,⟨[],(.x (.var (.fnv) 1))⟩,⟨[],.junk⟩,⟨[],(.x (.var (.addr) 2))⟩,⟨[],(.x (.cst .nilSl))⟩,⟨[],(.x (.cst .nilSl))⟩,⟨[],(.x (.ar .quo .i64 (.ar .sub .i64 (.ar .add .i64 (.ln (.var (.slice) 0)) (.cst (.int .i64 32768))) (.cst (.int .i64 1))) (.cst (.int .i64 32768))))⟩,⟨[],(.x (.var (.addr) 3))⟩,⟨[],(.x (.var (.slice) 5))⟩,⟨[],(.x (.var (.addr) 6))⟩,⟨[],.junk⟩,⟨[],.junk⟩,⟨[],(.x (.var (.slice) 0))⟩,⟨[],(.x (.ln (.var (.slice) 0)))⟩,⟨[],(.x (.ar .add .i64 (.ln (.var (.slice) 0)) (.cst (.int .i64 32768))))⟩,⟨[],(.x (.ar .sub .i64 (.ar .add .i64 (.ln (.var (.slice) 0)) (.cst (.int .i64 32768))) (.cst (.int .i64 1))))⟩,⟨[],(.x (.ar .quo .i64 (.ar .sub .i64 (.ar .add .i64 (.ln (.var (.slice) 0)) (.cst (.int .i64 32768))) (.cst (.int .i64 1))) (.cst (.int .i64 32768))))⟩,⟨[],(.x (.ar .quo .i64 (.ar .sub .i64 (.ar .add .i64 (.ln (.var (.slice) 0)) (.cst (.int .i64 32768))) (.cst (.int .i64 1))) (.cst (.int .i64 32768))))⟩,⟨[],(.x (.var (.slice) 4))⟩,⟨[],(.x (.ar .quo .i64 (.ar .sub .i64 (.ar .add .i64 (.ln (.var (.slice) 0)) (.cst (.int .i64 32768))) (.cst (.int .i64 1))) (.cst (.int .i64 32768))))⟩,⟨[],(.x (.var (.slice) 5))⟩,⟨[],(.agg [(.cst (.int .u64 0)),(.cst (.int .u32 0))])⟩,⟨[],.junk⟩,⟨[],.junk⟩,⟨[],.junk⟩,⟨[],.junk⟩,⟨[],.junk⟩,⟨[],.junk⟩,⟨[],.junk⟩,⟨[],.junk⟩,⟨[],.junk⟩,⟨[],.junk⟩,⟨[],.junk⟩,⟨[],.junk⟩,⟨[],.junk⟩,⟨[],.junk⟩,⟨[],.junk⟩,⟨[],.junk⟩,⟨[],.junk⟩,⟨[],.junk⟩,⟨[],.junk⟩,⟨[],.junk⟩,⟨[],.junk⟩,⟨[],.junk⟩,⟨[],.junk⟩,⟨[],.junk⟩,⟨[],.junk⟩],loc:=[],n:=7,known:=[],d:=0 }
def TX:St:={ tmps:=[⟨[],(.x (.var (.slice) 0))⟩,⟨[],(.x (.var (.fnv) 1))⟩,⟨[],.junk⟩,⟨[],(.x (.var (.addr) 2))⟩,⟨[],(.x (.cst .nilSl))⟩,⟨[],(.x (.cst .nilSl))⟩,⟨[],(.x (.ar .quo .i64 (.ar .sub .i64 (.ar .add .i64 (.ln (.var (.slice) 0)) (.cst (.int .i64 32768))) (.cst (.int .i64 1))) (.cst (.int .i64 32768))))⟩,⟨[],(.x (.var (.addr) 3))⟩,⟨[],(.x (.var (.slice) 5))⟩,⟨[],(.x (.var (.addr) 6))⟩,⟨[],.junk⟩,⟨[],.junk⟩,⟨[],(.x (.var (.slice) 0))⟩,⟨[],(.x (.ln (.var (.slice) 0)))⟩,⟨[],(.x (.ar .add .i64 (.ln (.var (.slice) 0)) (.cst (.int .i64 32768))))⟩,⟨[],(.x (.ar .sub .i64 (.ar .add .i64 (.ln (.var (.slice) 0)) (.cst (.int .i64 32768))) (.cst (.int .i64 1))))⟩,⟨[],(.x (.ar .quo .i64 (.ar .sub .i64 (.ar .add .i64 (.ln (.var (.slice) 0)) (.cst (.int .i64 32768))) (.cst (.int .i64 1))) (.cst (.int .i64 32768))))⟩,⟨[],(.x (.ar .quo .i64 (.ar .sub .i64 (.ar .add .i64 (.ln (.var (.slice) 0)) (.cst (.int .i64 32768))) (.cst (.int .i64 1))) (.cst (.int .i64 32768))))⟩,⟨[],(.x (.var (.slice) 4))⟩,⟨[],(.x (.ar .quo .i64 (.ar .sub .i64 (.ar .add .i64 (.ln (.var (.slice) 0)) (.cst (.int .i64 32768))) (.cst (.int .i64 1))) (.cst (.int .i64 32768))))⟩,⟨[],(.x (.var (.slice) 5))⟩,⟨[],(.agg [(.cst (.int .u64 0)),(.cst (.int .u32 0))])⟩,⟨[],.junk⟩,⟨[],.junk⟩,⟨[],.junk⟩,⟨[],.junk⟩,⟨[],.junk⟩,⟨[],.junk⟩,⟨[],.junk⟩,⟨[],.junk⟩,⟨[],.junk⟩,⟨[],.junk⟩,⟨[],.junk⟩,⟨[],.junk⟩,⟨[],.junk⟩,⟨[],.junk⟩,⟨[],.junk⟩,⟨[],.junk⟩,⟨[],.junk⟩,⟨[],.junk⟩,⟨[],.junk⟩,⟨[],.junk⟩,⟨[],.junk⟩,⟨[],.junk⟩,⟨[],.junk⟩,⟨[],.junk⟩,⟨[],.junk⟩],loc:=[],n:=7,known:=[],d:=0 }
def TZ:St:={ tmps:=[⟨[],(.x (.var (.slice) 0))⟩,⟨[],(.x (.var (.fnv) 1))⟩,⟨[],.junk⟩,⟨[],(.x (.var (.addr) 2))⟩,⟨[],(.x (.cst .nilSl))⟩,⟨[],(.x (.cst .nilSl))⟩,⟨[],(.x (.ar .quo .i64 (.ar .sub .i64 (.ar .add .i64 (.ln (.var (.slice) 0)) (.cst (.int .i64 32768))) (.cst (.int .i64 1))) (.cst (.int .i64 32768))))⟩,⟨[],(.x (.var (.addr) 3))⟩,⟨[],(.x (.var (.slice) 4))⟩,⟨[],(.x (.var (.addr) 6))⟩,⟨[],.junk⟩,⟨[],.junk⟩,⟨[],(.x (.var (.slice) 0))⟩,⟨[],(.x (.ln (.var (.slice) 0)))⟩,⟨[],(.x (.ar .add .i64 (.ln (.var (.slice) 0)) (.cst (.int .i64 32768))))⟩,⟨[],(.x (.ar .sub .i64 (.ar .add .i64 (.ln (.var (.slice) 0)) (.cst (.int .i64 32768))) (.cst (.int .i64 1))))⟩,⟨[],(.x (.ar .quo .i64 (.ar .sub .i64 (.ar .add .i64 (.ln (.var (.slice) 0)) (.cst (.int .i64 32768))) (.cst (.int .i64 1))) (.cst (.int .i64 32768))))⟩,⟨[],(.x (.ar .quo .i64 (.ar .sub .i64 (.ar .add .i64 (.ln (.var (.slice) 0)) (.cst (.int .i64 32768))) (.cst (.int .i64 1))) (.cst (.int .i64 32768))))⟩,⟨[],(.x (.var (.slice) 5))⟩,⟨[],(.x (.ar .quo .i64 (.ar .sub .i64 (.ar .add .i64 (.ln (.var (.slice) 0)) (.cst (.int .i64 32768))) (.cst (.int .i64 1))) (.cst (.int .i64 32768))))⟩,⟨[],(.x (.var (.slice) 4))⟩,⟨[],(.agg [(.cst (.int .u64 0)),(.cst (.int .u32 0))])⟩,⟨[],.junk⟩,⟨[],.junk⟩,⟨[],.junk⟩,⟨[],.junk⟩,⟨[],.junk⟩,⟨[],.junk⟩,⟨[],.junk⟩,⟨[],.junk⟩,⟨[],.junk⟩,⟨[],.junk⟩,⟨[],.junk⟩,⟨[],.junk⟩,⟨[],.junk⟩,⟨[],.junk⟩,⟨[],.junk⟩,⟨[],.junk⟩,⟨[],.junk⟩,⟨[],.junk⟩,⟨[],.junk⟩,⟨[],.junk⟩,⟨[],.junk⟩,⟨[],.junk⟩,⟨[],.junk⟩,⟨[],.junk⟩,⟨[],.junk⟩],loc:=[],n:=7,known:=[],d:=0 }
def tA : Tr :=
(.hall 71 [(1, (.var (.fnv) 1))]
(.both
 (.mks 43 1 4 [(.int .u32 0)] (.ar .quo .i64 (.ar .sub .i64 (.ar .add .i64 (.ln (.var (.slice) 0)) (.cst (.int .i64 32768))) (.cst (.int .i64 1))) (.cst (.int .i64 32768))) (.ar .quo .i64 (.ar .sub .i64 (.ar .add .i64 (.ln (.var (.slice) 0)) (.cst (.int .i64 32768))) (.cst (.int .i64 1))) (.cst (.int .i64 32768)))
 (.both
  (.mks 2 1 8 [(.int .i64 0)] (.ar .quo .i64 (.ar .sub .i64 (.ar .add .i64 (.ln (.var (.slice) 0)) (.cst (.int .i64 32768))) (.cst (.int .i64 1))) (.cst (.int .i64 32768))) (.ar .quo .i64 (.ar .sub .i64 (.ar .add .i64 (.ln (.var (.slice) 0)) (.cst (.int .i64 32768))) (.cst (.int .i64 1))) (.cst (.int .i64 32768)))
  (.hall 67 [(1, (.cst .nilSl))]
  (.hsto (.var (.addr) 5) [(.var (.slice) 3)]
  (.hall 101 [(1, (.cst (.int .u64 0))), (1, (.cst (.int .u32 0)))]
  (.hsto (.var (.addr) 6) [(.cst (.int .u64 0)), (.cst (.int .u32 0))]
  (.leaf (.norm TO)))))))
  (.hall 67 [(1, (.cst .nilSl))]
  (.both
   (.mks 2 1 8 [(.int .i64 0)] (.ar .quo .i64 (.ar .sub .i64 (.ar .add .i64 (.ln (.var (.slice) 0)) (.cst (.int .i64 32768))) (.cst (.int .i64 1))) (.cst (.int .i64 32768))) (.ar .quo .i64 (.ar .sub .i64 (.ar .add .i64 (.ln (.var (.slice) 0)) (.cst (.int .i64 32768))) (.cst (.int .i64 1))) (.cst (.int .i64 32768)))
   (.hsto (.var (.addr) 4) [(.var (.slice) 3)]
   (.hall 101 [(1, (.cst (.int .u64 0))), (1, (.cst (.int .u32 0)))]
   (.hsto (.var (.addr) 6) [(.cst (.int .u64 0)), (.cst (.int .u32 0))]
   (.leaf (.norm TP))))))
   (.hsto (.var (.addr) 4) [(.var (.slice) 3)]
   (.mks 2 1 8 [(.int .i64 0)] (.ar .quo .i64 (.ar .sub .i64 (.ar .add .i64 (.ln (.var (.slice) 0)) (.cst (.int .i64 32768))) (.cst (.int .i64 1))) (.cst (.int .i64 32768))) (.ar .quo .i64 (.ar .sub .i64 (.ar .add .i64 (.ln (.var (.slice) 0)) (.cst (.int .i64 32768))) (.cst (.int .i64 1))) (.cst (.int .i64 32768)))
   (.hall 101 [(1, (.cst (.int .u64 0))), (1, (.cst (.int .u32 0)))]
   (.hsto (.var (.addr) 6) [(.cst (.int .u64 0)), (.cst (.int .u32 0))]
   (.leaf (.norm TQ))))))))))
 (.both
  (.mks 2 1 8 [(.int .i64 0)] (.ar .quo .i64 (.ar .sub .i64 (.ar .add .i64 (.ln (.var (.slice) 0)) (.cst (.int .i64 32768))) (.cst (.int .i64 1))) (.cst (.int .i64 32768))) (.ar .quo .i64 (.ar .sub .i64 (.ar .add .i64 (.ln (.var (.slice) 0)) (.cst (.int .i64 32768))) (.cst (.int .i64 1))) (.cst (.int .i64 32768)))
  (.both
   (.mks 43 1 4 [(.int .u32 0)] (.ar .quo .i64 (.ar .sub .i64 (.ar .add .i64 (.ln (.var (.slice) 0)) (.cst (.int .i64 32768))) (.cst (.int .i64 1))) (.cst (.int .i64 32768))) (.ar .quo .i64 (.ar .sub .i64 (.ar .add .i64 (.ln (.var (.slice) 0)) (.cst (.int .i64 32768))) (.cst (.int .i64 1))) (.cst (.int .i64 32768)))
   (.hall 67 [(1, (.cst .nilSl))]
   (.hsto (.var (.addr) 5) [(.var (.slice) 4)]
   (.hall 101 [(1, (.cst (.int .u64 0))), (1, (.cst (.int .u32 0)))]
   (.hsto (.var (.addr) 6) [(.cst (.int .u64 0)), (.cst (.int .u32 0))]
   (.leaf (.norm TR)))))))
   (.hall 67 [(1, (.cst .nilSl))]
   (.mks 43 1 4 [(.int .u32 0)] (.ar .quo .i64 (.ar .sub .i64 (.ar .add .i64 (.ln (.var (.slice) 0)) (.cst (.int .i64 32768))) (.cst (.int .i64 1))) (.cst (.int .i64 32768))) (.ar .quo .i64 (.ar .sub .i64 (.ar .add .i64 (.ln (.var (.slice) 0)) (.cst (.int .i64 32768))) (.cst (.int .i64 1))) (.cst (.int .i64 32768)))
   (.hsto (.var (.addr) 4) [(.var (.slice) 5)]
   (.hall 101 [(1, (.cst (.int .u64 0))), (1, (.cst (.int .u32 0)))]
   (.hsto (.var (.addr) 6) [(.cst (.int .u64 0)), (.cst (.int .u32 0))]
   (.leaf (.norm TS)))))))))
  (.hall 67 [(1, (.cst .nilSl))]
  (.both
   (.mks 43 1 4 [(.int .u32 0)] (.ar .quo .i64 (.ar .sub .i64 (.ar .add .i64 (.ln (.var (.slice) 0)) (.cst (.int .i64 32768))) (.cst (.int .i64 1))) (.cst (.int .i64 32768))) (.ar .quo .i64 (.ar .sub .i64 (.ar .add .i64 (.ln (.var (.slice) 0)) (.cst (.int .i64 32768))) (.cst (.int .i64 1))) (.cst (.int .i64 32768)))
   (.both
    (.mks 2 1 8 [(.int .i64 0)] (.ar .quo .i64 (.ar .sub .i64 (.ar .add .i64 (.ln (.var (.slice) 0)) (.cst (.int .i64 32768))) (.cst (.int .i64 1))) (.cst (.int .i64 32768))) (.ar .quo .i64 (.ar .sub .i64 (.ar .add .i64 (.ln (.var (.slice) 0)) (.cst (.int .i64 32768))) (.cst (.int .i64 1))) (.cst (.int .i64 32768)))
    (.hsto (.var (.addr) 3) [(.var (.slice) 4)]
    (.hall 101 [(1, (.cst (.int .u64 0))), (1, (.cst (.int .u32 0)))]
    (.hsto (.var (.addr) 6) [(.cst (.int .u64 0)), (.cst (.int .u32 0))]
    (.leaf (.norm TU))))))
    (.hsto (.var (.addr) 3) [(.var (.slice) 4)]
    (.mks 2 1 8 [(.int .i64 0)] (.ar .quo .i64 (.ar .sub .i64 (.ar .add .i64 (.ln (.var (.slice) 0)) (.cst (.int .i64 32768))) (.cst (.int .i64 1))) (.cst (.int .i64 32768))) (.ar .quo .i64 (.ar .sub .i64 (.ar .add .i64 (.ln (.var (.slice) 0)) (.cst (.int .i64 32768))) (.cst (.int .i64 1))) (.cst (.int .i64 32768)))
    (.hall 101 [(1, (.cst (.int .u64 0))), (1, (.cst (.int .u32 0)))]
    (.hsto (.var (.addr) 6) [(.cst (.int .u64 0)), (.cst (.int .u32 0))]
    (.leaf (.norm TX))))))))
   (.mks 2 1 8 [(.int .i64 0)] (.ar .quo .i64 (.ar .sub .i64 (.ar .add .i64 (.ln (.var (.slice) 0)) (.cst (.int .i64 32768))) (.cst (.int .i64 1))) (.cst (.int .i64 32768))) (.ar .quo .i64 (.ar .sub .i64 (.ar .add .i64 (.ln (.var (.slice) 0)) (.cst (.int .i64 32768))) (.cst (.int .i64 1))) (.cst (.int .i64 32768)))
   (.mks 43 1 4 [(.int .u32 0)] (.ar .quo .i64 (.ar .sub .i64 (.ar .add .i64 (.ln (.var (.slice) 0)) (.cst (.int .i64 32768))) (.cst (.int .i64 1))) (.cst (.int .i64 32768))) (.ar .quo .i64 (.ar .sub .i64 (.ar .add .i64 (.ln (.var (.slice) 0)) (.cst (.int .i64 32768))) (.cst (.int .i64 1))) (.cst (.int .i64 32768)))
   (.hsto (.var (.addr) 3) [(.var (.slice) 5)]
   (.hall 101 [(1, (.cst (.int .u64 0))), (1, (.cst (.int .u32 0)))]
   (.hsto (.var (.addr) 6) [(.cst (.int .u64 0)), (.cst (.int .u32 0))]
   (.leaf (.norm TZ))))))))))))
theorem sA:sxs cP [rP 0,rP 1,rP 2,rP 3] (DU 47 [(0,.slice),(1,.fnv)])=some tA:=by kernel_rfl
def WN:St:={ tmps:=[⟨[],(.x (.var (.slice) 0))⟩,⟨[],.junk⟩,⟨[],.junk⟩,⟨[],(.x (.var (.addr) 1))⟩,⟨[],.junk⟩,⟨[],.junk⟩,⟨[],(.x (.var (.int .i64) 5))⟩,⟨[],(.x (.var (.addr) 2))⟩,⟨[],(.x (.var (.slice) 3))⟩,⟨[],(.x (.var (.addr) 4))⟩,⟨[],.junk⟩,⟨[],.junk⟩,⟨[],.junk⟩,⟨[],.junk⟩,⟨[],.junk⟩,⟨[],.junk⟩,⟨[],.junk⟩,⟨[],.junk⟩,⟨[],.junk⟩,⟨[],.junk⟩,⟨[],.junk⟩,⟨[],.junk⟩,⟨[],(.x (.var (.int .i64) 5))⟩,⟨[],(.x (.cst (.int .i64 0)))⟩,⟨[],.junk⟩,⟨[],.junk⟩,⟨[],.junk⟩,⟨[],.junk⟩,⟨[],.junk⟩,⟨[],.junk⟩,⟨[],.junk⟩,⟨[],.junk⟩,⟨[],.junk⟩,⟨[],.junk⟩,⟨[],.junk⟩,⟨[],.junk⟩,⟨[],.junk⟩,⟨[],.junk⟩,⟨[],.junk⟩,⟨[],.junk⟩,⟨[],.junk⟩,⟨[],.junk⟩,⟨[],.junk⟩,⟨[],.junk⟩,⟨[],.junk⟩,⟨[],.junk⟩,⟨[],.junk⟩],loc:=[],n:=6,known:=[],d:=0 }
def t4:Tr:=
(.leaf (.norm WN))
theorem s4:sxs cP [rP 4] (DU 47 [(0,.slice),(3,.addr),(7,.addr),(8,.slice),(9,.addr),(6,.int .i64)])=some t4:=by kernel_rfl
def Ua:St:={ tmps:=[⟨[],(.x (.var (.slice) 0))⟩,⟨[],.junk⟩,⟨[],.junk⟩,⟨[],(.x (.var (.addr) 1))⟩,⟨[],.junk⟩,⟨[],.junk⟩,⟨[],.junk⟩,⟨[],(.x (.var (.addr) 2))⟩,⟨[],(.x (.var (.slice) 3))⟩,⟨[],(.x (.var (.addr) 4))⟩,⟨[],.junk⟩,⟨[],.junk⟩,⟨[],.junk⟩,⟨[],.junk⟩,⟨[],.junk⟩,⟨[],.junk⟩,⟨[],.junk⟩,⟨[],.junk⟩,⟨[],.junk⟩,⟨[],.junk⟩,⟨[],.junk⟩,⟨[],.junk⟩,⟨[],(.x (.var (.int .i64) 5))⟩,⟨[],(.x (.var (.int .i64) 6))⟩,⟨[],(.x (.cm .lss (.var (.int .i64) 6) (.var (.int .i64) 5)))⟩,⟨[],.junk⟩,⟨[],.junk⟩,⟨[],.junk⟩,⟨[],.junk⟩,⟨[],.junk⟩,⟨[],.junk⟩,⟨[],.junk⟩,⟨[],.junk⟩,⟨[],.junk⟩,⟨[],.junk⟩,⟨[],.junk⟩,⟨[],.junk⟩,⟨[],.junk⟩,⟨[],.junk⟩,⟨[],.junk⟩,⟨[],.junk⟩,⟨[],.junk⟩,⟨[],.junk⟩,⟨[],.junk⟩,⟨[],.junk⟩,⟨[],.junk⟩,⟨[],.junk⟩],loc:=[],n:=7,known:=[],d:=0 }
def t5:Tr:=
(.leaf (.norm Ua))
theorem s5:sxs cP [rP 5] (DU 47 [(0,.slice),(3,.addr),(7,.addr),(8,.slice),(9,.addr),(22,.int .i64),(23,.int .i64)])=some t5:=by kernel_rfl
def U0:St:={ tmps:=[⟨[],(.x (.var (.slice) 0))⟩,⟨[],.junk⟩,⟨[],.junk⟩,⟨[],(.x (.var (.addr) 1))⟩,⟨[],.junk⟩,⟨[],.junk⟩,⟨[],.junk⟩,⟨[],(.x (.var (.addr) 2))⟩,⟨[],(.x (.var (.slice) 3))⟩,⟨[],(.x (.var (.addr) 4))⟩,⟨[],(.x (.var (.addr) 7))⟩,⟨[],(.x (.var (.addr) 10))⟩,⟨[],.junk⟩,⟨[],.junk⟩,⟨[],.junk⟩,⟨[],.junk⟩,⟨[],.junk⟩,⟨[],.junk⟩,⟨[],.junk⟩,⟨[],.junk⟩,⟨[],.junk⟩,⟨[],.junk⟩,⟨[],(.x (.var (.int .i64) 5))⟩,⟨[],(.x (.var (.int .i64) 6))⟩,⟨[],.junk⟩,⟨[],(.x (.var (.int .i64) 6))⟩,⟨[],(.x (.var (.slice) 0))⟩,⟨[],(.x (.var (.int .i64) 8))⟩,⟨[],(.x (.ar .mul .i64 (.var (.int .i64) 8) (.cst (.int .i64 32768))))⟩,⟨[],(.x (.var (.int .i64) 9))⟩,⟨[],(.x (.ar .add .i64 (.var (.int .i64) 9) (.cst (.int .i64 1))))⟩,⟨[],(.x (.ar .mul .i64 (.ar .add .i64 (.var (.int .i64) 9) (.cst (.int .i64 1))) (.cst (.int .i64 32768))))⟩,⟨[],(.x (.var (.slice) 0))⟩,⟨[],(.x (.ln (.var (.slice) 0)))⟩,⟨[],(.x (.mn (.ar .mul .i64 (.ar .add .i64 (.var (.int .i64) 9) (.cst (.int .i64 1))) (.cst (.int .i64 32768))) (.ln (.var (.slice) 0))))⟩,⟨[],(.x (.sub 1 (.var (.slice) 0) (.ar .mul .i64 (.var (.int .i64) 8) (.cst (.int .i64 32768))) (.mn (.ar .mul .i64 (.ar .add .i64 (.var (.int .i64) 9) (.cst (.int .i64 1))) (.cst (.int .i64 32768))) (.ln (.var (.slice) 0))) .nl))⟩,⟨[],(.x (.var (.slice) 3))⟩,⟨[],(.x (.var (.int .i64) 11))⟩,⟨[],(.x (.var (.slice) 12))⟩,⟨[],(.x (.ln (.var (.slice) 12)))⟩,⟨[],(.x (.ix 1 (.var (.slice) 3) (.var (.int .i64) 11)))⟩,⟨[],.junk⟩,⟨[],.junk⟩,⟨[],.junk⟩,⟨[],.junk⟩,⟨[],.junk⟩,⟨[],.junk⟩],loc:=[],n:=13,known:=[],d:=0 }
def tBk:Tr:=
(.hall 3 [(1,(.cst (.int .i64 0)))]
(.hsto (.var (.addr) 7) [(.var (.int .i64) 6)]
(.load (.var (.addr) 7) [.int .i64]
(.load (.var (.addr) 7) [.int .i64]
(.need (.cm .leq (.cst (.int .i64 0)) (.mn (.ar .mul .i64 (.ar .add .i64 (.var (.int .i64) 9) (.cst (.int .i64 1))) (.cst (.int .i64 32768))) (.ln (.var (.slice) 0))))
(.need (.cm .leq (.mn (.ar .mul .i64 (.ar .add .i64 (.var (.int .i64) 9) (.cst (.int .i64 1))) (.cst (.int .i64 32768))) (.ln (.var (.slice) 0))) (.cp (.var (.slice) 0)))
(.need (.cm .leq (.cst (.int .i64 0)) (.ar .mul .i64 (.var (.int .i64) 8) (.cst (.int .i64 32768))))
(.need (.cm .leq (.ar .mul .i64 (.var (.int .i64) 8) (.cst (.int .i64 32768))) (.mn (.ar .mul .i64 (.ar .add .i64 (.var (.int .i64) 9) (.cst (.int .i64 1))) (.cst (.int .i64 32768))) (.ln (.var (.slice) 0))))
(.hall 22 [(1,(.cst .nilSl))]
(.hsto (.var (.addr) 10) [(.sub 1 (.var (.slice) 0) (.ar .mul .i64 (.var (.int .i64) 8) (.cst (.int .i64 32768))) (.mn (.ar .mul .i64 (.ar .add .i64 (.var (.int .i64) 9) (.cst (.int .i64 1))) (.cst (.int .i64 32768))) (.ln (.var (.slice) 0))) .nl)]
(.load (.var (.addr) 7) [.int .i64]
(.load (.var (.addr) 10) [.slice]
(.need (.nt (.nn (.var (.slice) 3)))
(.need (.cm .leq (.cst (.int .i64 0)) (.var (.int .i64) 11))
(.need (.cm .lss (.var (.int .i64) 11) (.ln (.var (.slice) 3)))
(.hsto (.ix 1 (.var (.slice) 3) (.var (.int .i64) 11)) [(.ln (.var (.slice) 12))]
(.leaf (.norm U0))))))))))))))))))
theorem sBk:sxs cP [rP 6,rP 7,rP 8] (DU 47 [(0,.slice),(3,.addr),(7,.addr),(8,.slice),(9,.addr),(22,.int .i64),(23,.int .i64)])=some tBk:=by kernel_rfl
def P8:St:={ tmps:=[⟨[],(.x (.var (.slice) 0))⟩,⟨[],.junk⟩,⟨[],.junk⟩,⟨[],(.x (.var (.addr) 1))⟩,⟨[],.junk⟩,⟨[],.junk⟩,⟨[],.junk⟩,⟨[],(.x (.var (.addr) 2))⟩,⟨[],(.x (.var (.slice) 3))⟩,⟨[],(.x (.var (.addr) 4))⟩,⟨[],.junk⟩,⟨[],.junk⟩,⟨[],.junk⟩,⟨[],.junk⟩,⟨[],.junk⟩,⟨[],.junk⟩,⟨[],.junk⟩,⟨[],.junk⟩,⟨[],.junk⟩,⟨[],.junk⟩,⟨[],.junk⟩,⟨[],.junk⟩,⟨[],(.x (.var (.int .i64) 5))⟩,⟨[],(.x (.ar .add .i64 (.var (.int .i64) 6) (.cst (.int .i64 1))))⟩,⟨[],.junk⟩,⟨[],.junk⟩,⟨[],.junk⟩,⟨[],.junk⟩,⟨[],.junk⟩,⟨[],.junk⟩,⟨[],.junk⟩,⟨[],.junk⟩,⟨[],.junk⟩,⟨[],.junk⟩,⟨[],.junk⟩,⟨[],.junk⟩,⟨[],.junk⟩,⟨[],.junk⟩,⟨[],.junk⟩,⟨[],.junk⟩,⟨[],.junk⟩,⟨[],.junk⟩,⟨[],.junk⟩,⟨[],(.x (.ar .add .i64 (.var (.int .i64) 6) (.cst (.int .i64 1))))⟩,⟨[],.junk⟩,⟨[],.junk⟩,⟨[],.junk⟩],loc:=[],n:=7,known:=[],d:=0 }
def t11:Tr:=
(.leaf (.norm P8))
theorem s11:sxs cP [rP 11] (DU 47 [(0,.slice),(3,.addr),(7,.addr),(8,.slice),(9,.addr),(22,.int .i64),(23,.int .i64)])=some t11:=by kernel_rfl
def tZ:Tr:=
(.load (.var (.addr) 0) [.slice]
(.ret (.tup [(false,[(.var (.slice) 2)]),(false,[(.var (.slice) 1)])])))
theorem sZ:sxC cP (rP 13) (DU 47 [(7,.addr),(8,.slice)])=some tZ:=by kernel_rfl
end Go.Proofs.YtnhbgoiihgoneaaGreatDoor
end
section
namespace Go.Proofs.YtnhbgoiihgoneaaGreatDoor
open Go Go.Eng Go.Conc Go.RowKit Go.Conc.Lib Go.ConcR.Gen
open Go.ConcR (KK wgBlock WgAt stA smA rd wr DC0 Payload)
section
variable {S : Shared} {h : Eng.Heap}
theorem yJ{h:Eng.Heap}{b x:Nat}{o:Obj}:upd h b o x=none↔x≠b∧h x=none:=by
 unfold upd;by_cases e:x=b <;> simp[e]
theorem yG{h:Eng.Heap}{b:Nat}{o:Obj}:upd h b o b=some o:=by simp[upd]
theorem y9{h:Eng.Heap}{b x:Nat}{o:Obj}(e:x≠b):upd h b o x=h x:=by simp[upd,e]
theorem DW{b:Nat}{u v:Value}{T:TypeId}{K:Eng.Heap→Prop}(hb:h b=some (.cells #[u] T))(hS:¬S b)(k:K (upd h b (.cells #[v] T))):zO S ⟨b,0,none⟩ 0 [v] h K:=by
 have e:zy h (Addr.add ⟨b,0,none⟩ 0) v=upd h b (.cells #[v] T):=by
  funext x
  by_cases hx:x=b
  ·subst hx;simp[zy,upd,Addr.add,hb]
  ·simp[zy,upd,Addr.add,hx]
 refine⟨⟨⟨u,by simp[zd,Addr.add,hb]⟩,by simp[yd,Addr.add,hb],by simpa[Addr.add]using hS⟩,?_⟩
 rw[e];exact k
theorem G8{b:Nat}{u u2 v v2:Value}{T:TypeId}{K:Eng.Heap→Prop}(hb:h b=some (.cells #[u,u2] T))(hS:¬S b)(k:K (upd h b (.cells #[v,v2] T))):zO S ⟨b,0,none⟩ 0 [v,v2] h K:=by
 have e:zy (zy h (Addr.add ⟨b,0,none⟩ 0) v) (Addr.add ⟨b,0,none⟩ 1) v2=upd h b (.cells #[v,v2] T):=by
  funext x
  by_cases hx:x=b
  ·subst hx;simp[zy,upd,Addr.add,hb]
  ·simp[zy,upd,Addr.add,hx]
 refine⟨⟨⟨u,by simp[zd,Addr.add,hb]⟩,by simp[yd,Addr.add,hb],by simpa[Addr.add]using hS⟩,⟨⟨u2,by simp[zy,zd,Addr.add,hb]⟩,by simp[zy,yd,Addr.add,hb],by simpa[Addr.add]using hS⟩,?_⟩
 rw[e];exact k
theorem Yx{b j:Nat}{cs:Array Value}{v:Value}{T:TypeId}{K:Eng.Heap→Prop}(hb:h b=some (.cells cs T))(hj:j<cs.size)(hS:¬S b)(k:K (upd h b (.cells (cs.setIfInBounds j v) T))) :
  zO S (((some (⟨b,0,none⟩:Addr)).getD default).add (((j:Int).toNat)*1)) 0 [v] h K:=by
 have ea:(((some (⟨b,0,none⟩:Addr)).getD default).add (((j:Int).toNat)*1)).add 0=⟨b,j,none⟩:=by
  have e0:∀(x:Addr),x.add 0=x:=fun x=>by simp[Addr.add]
  rw[e0,Int.toNat_natCast,Nat.mul_one,Option.getD_some,zm,Nat.zero_add]
 refine⟨⟨⟨cs[j],by rw[ea];simp[zd,hb,hj]⟩,by rw[ea];simp[yd,hb],by rw[ea];exact hS⟩,?_⟩
 have e:zy h ((((some (⟨b,0,none⟩:Addr)).getD default).add (((j:Int).toNat)*1)).add 0) v=upd h b (.cells (cs.setIfInBounds j v) T):=by
  rw[ea]
  funext x
  by_cases hx:x=b
  ·subst hx;simp[zy,upd,hb]
  ·simp[zy,upd,hx]
 rw[e];exact k
theorem jC.intro{n:Nat}{is:List Nat}{R:(Nat→Value)→Eng.Heap→Prop}{env:List Value}{Ks:List Kt}(st:St)(h1:st.loc=[])(h2:st.dv=false)(h3:st.tmps.length=n)(h4:is.all (isX st)=true)(h5:R (got st env) h) :
  jC n is R (.norm st) env h Ks:=⟨st,rfl,h1,h2,h3,h4,h5⟩
def RA(h:Eng.Heap)(da:Value)(fv:Value)(n:Nat)(f:Nat→Value)(h':Eng.Heap):Prop:=
 ∃fb bC bS sb wg:Nat,f 0=da∧f 3=.pointer (some ⟨fb,0,none⟩)∧f 6=.int .i64 n∧f 7=.pointer (some ⟨sb,0,none⟩)∧f 8=.slice (some ⟨bS,0,none⟩) n n∧f 9=.pointer (some ⟨wg,0,none⟩) ∧
  [fb,bC,bS,sb,wg].Nodup∧(∀b ∈ [fb,bC,bS,sb,wg],h b=none)∧Eng.Sub h h' ∧
  h' fb=some (.cells #[fv] 71)∧h' bC=some (.cells (yh n #[.int .u32 0]) 43)∧h' bS=some (.cells (yh n #[.int .i64 0]) 2) ∧
  h' sb=some (.cells #[.slice (some ⟨bC,0,none⟩) n n] 67)∧h' wg=some (wgBlock 101 0 0)
theorem wpA{a:Option Addr}{l c:Nat}{fv:Value}(hfv:wO fv=fv)(hi:Inv S h)(hl:l<2^40){n:Nat}(hn:n=(l+32767)/32768) :
  tA.wp Tryz.prog S (jC 47 [0,3,6,7,8,9] (RA h (.slice a l c) fv n)) (fun _ _=>True) [.slice a l c,fv] h []:=by
 have ns:∀b,h b=none→¬S b:=fun b hb hS=>hi b hS hb
 have e1:IntKind.i64.wrap ((IntKind.i64.wrap (IntKind.i64.wrap ((l:Int)+32768)-1)).tdiv 32768)=(n:Int):=by
  have w1:IntKind.i64.wrap ((l:Int)+32768)=(l:Int)+32768:=by rw[IntKind.wrap_i64];omega
  have w2:IntKind.i64.wrap ((l:Int)+32768-1)=(l:Int)+32767:=by rw[IntKind.wrap_i64];omega
  rw[w1,w2,Int.tdiv_eq_ediv_of_nonneg (by omega),IntKind.wrap_i64];omega
 have e2:IntKind.i64.wrap (n:Int)=(n:Int):=by rw[IntKind.wrap_i64];omega
 have hb4:((4:Nat):Int)*(n:Int)≤2^48:=by omega
 have hb8:((8:Nat):Int)*(n:Int)≤2^48:=by omega
 simp only[tA,Tr.wp,FI,Ex.ev,coerce,toInt_int,zf,zi,zg,zh,arith,Cst.val,yo,List.flatMap_cons,List.flatMap_nil,List.replicate_one,List.getD_cons_zero,List.getD_cons_succ,List.map_cons,List.map_nil,List.cons_append,List.nil_append,List.append_nil,e1,e2,Int.toNat_natCast,Nat.mul_one,hfv]
 have nn:(0:Int)≤(n:Int):=by omega
 have sub5:∀ {h':Eng.Heap},(∀x,(∀b,h b=none→x≠b)→h' x=h x)→Eng.Sub h h':=by
  intro h' hx x o ho
  rw[hx x (fun b hb e=>by subst e;rw[hb]at ho;cases ho)]
  exact ho
 intro fb g0
 refine⟨⟨nn,Int.le_refl _,hb4,fun b1 g1=>⟨⟨nn,Int.le_refl _,hb8,fun b2 g2 b3 g3=>?_⟩,fun b2 g2=>⟨⟨nn,Int.le_refl _,hb8,fun b3 g3=>?_⟩,?_⟩⟩⟩,
  ⟨⟨nn,Int.le_refl _,hb8,fun b1 g1=>⟨⟨nn,Int.le_refl _,hb4,fun b2 g2 b3 g3=>?_⟩,fun b2 g2=>⟨nn,Int.le_refl _,hb4,fun b3 g3=>?_⟩⟩⟩,
   fun b1 g1=>⟨⟨nn,Int.le_refl _,hb4,fun b2 g2=>⟨⟨nn,Int.le_refl _,hb8,fun b3 g3=>?_⟩,?_⟩⟩,⟨nn,Int.le_refl _,hb8,fun b2 g2=>⟨nn,Int.le_refl _,hb4,fun b3 g3=>?_⟩⟩⟩⟩⟩
 have so:∀ {T:TypeId} {b b':Nat} {h:Eng.Heap} {o:Obj} {v:Value},b'≠b→(upd h b (.cells #[v] T)) b'=h b':=fun e=>y9 e
 ·simp only[yJ]at g1 g2 g3
  refine DW (b:=b3) yG (ns _ (by first | exact g1.2 | exact g2.2.2 | exact g3.2.2.2)) ?_
  intro b4 g4
  simp only[yJ]at g4
  refine G8 yG (ns _ (by simp only[g4])) ?_
  refine jC.intro TO rfl rfl rfl rfl ⟨fb,b1,b2,b3,b4,rfl,rfl,?_,rfl,rfl,rfl,?_,?_,?_,?_,?_,?_,?_,?_⟩
  all_goals first
   | (simp only[got,TO,Ex.ev,coerce,toInt_int,zf,zi,zg,arith,Cst.val,List.getD_cons_zero,List.getElem?_cons_zero,List.getElem?_cons_succ];rw[e1];done)
   | (simp only[List.nodup_cons,List.mem_cons,List.not_mem_nil,or_false,not_or,not_false_eq_true,List.nodup_nil,and_true];omega)
   | (intro b hb;simp only[List.mem_cons,List.not_mem_nil,or_false]at hb;rcases hb with rfl | rfl | rfl | rfl | rfl <;> first | exact g0 | exact g1.2 | exact g2.2.2 | exact g3.2.2.2 | exact g4.2.2.2.2.2 | exact g2.2.2.2 | exact g3.2.2.2.2)
   | (refine sub5 fun x hx=>?_;simp only[upd];repeat rw[if_neg (hx _ (by first | exact g0 | exact g1.2 | exact g2.2.2 | exact g3.2.2.2 | exact g4.2.2.2.2.2 | exact g3.2.2.2.2))])
   | (simp only[upd,wgBlock];repeat first | rw[if_pos trivial] | rw[if_pos rfl] | rw[if_neg (by omega)])
 ·simp only[yJ]at g1 g2 g3
  refine DW (b:=b2) ((y9 (by omega)).trans yG) (ns _ (by first | exact g1.2 | exact g2.2.2 | exact g3.2.2.2)) ?_
  intro b4 g4
  simp only[yJ]at g4
  refine G8 yG (ns _ (by simp only[g4])) ?_
  refine jC.intro TP rfl rfl rfl rfl ⟨fb,b1,b3,b2,b4,rfl,rfl,?_,rfl,rfl,rfl,?_,?_,?_,?_,?_,?_,?_,?_⟩
  all_goals first
   | (simp only[got,TP,Ex.ev,coerce,toInt_int,zf,zi,zg,arith,Cst.val,List.getD_cons_zero,List.getElem?_cons_zero,List.getElem?_cons_succ];rw[e1];done)
   | (simp only[List.nodup_cons,List.mem_cons,List.not_mem_nil,or_false,not_or,not_false_eq_true,List.nodup_nil,and_true];omega)
   | (intro b hb;simp only[List.mem_cons,List.not_mem_nil,or_false]at hb;rcases hb with rfl | rfl | rfl | rfl | rfl <;> first | exact g0 | exact g1.2 | exact g2.2.2 | exact g3.2.2.2 | exact g4.2.2.2.2.2 | exact g2.2.2.2 | exact g3.2.2.2.2)
   | (refine sub5 fun x hx=>?_;simp only[upd];repeat rw[if_neg (hx _ (by first | exact g0 | exact g1.2 | exact g2.2.2 | exact g3.2.2.2 | exact g4.2.2.2.2.2 | exact g3.2.2.2.2))])
   | (simp only[upd,wgBlock];repeat first | rw[if_pos trivial] | rw[if_pos rfl] | rw[if_neg (by omega)])
 ·simp only[yJ]at g1 g2
  refine DW (b:=b2) yG (ns _ (by first | exact g1.2 | exact g2.2.2)) ⟨nn,Int.le_refl _,hb8,fun b3 g3=>?_⟩
  simp only[yJ]at g3
  intro b4 g4
  simp only[yJ]at g4
  refine G8 yG (ns _ (by simp only[g4])) ?_
  refine jC.intro TQ rfl rfl rfl rfl ⟨fb,b1,b3,b2,b4,rfl,rfl,?_,rfl,rfl,rfl,?_,?_,?_,?_,?_,?_,?_,?_⟩
  all_goals first
   | (simp only[got,TQ,Ex.ev,coerce,toInt_int,zf,zi,zg,arith,Cst.val,List.getD_cons_zero,List.getElem?_cons_zero,List.getElem?_cons_succ];rw[e1];done)
   | (simp only[List.nodup_cons,List.mem_cons,List.not_mem_nil,or_false,not_or,not_false_eq_true,List.nodup_nil,and_true];omega)
   | (intro b hb;simp only[List.mem_cons,List.not_mem_nil,or_false]at hb;rcases hb with rfl | rfl | rfl | rfl | rfl <;> first | exact g0 | exact g1.2 | exact g2.2.2 | exact g3.2.2.2 | exact g4.2.2.2.2.2 | exact g2.2.2.2 | exact g3.2.2.2.2)
   | (refine sub5 fun x hx=>?_;simp only[upd];repeat rw[if_neg (hx _ (by first | exact g0 | exact g1.2 | exact g2.2.2 | exact g3.2.2.2 | exact g4.2.2.2.2.2 | exact g3.2.2.2.2))])
   | (simp only[upd,wgBlock];repeat first | rw[if_pos trivial] | rw[if_pos rfl] | rw[if_neg (by omega)])
 ·simp only[yJ]at g1 g2 g3
  refine DW (b:=b3) yG (ns _ (by first | exact g1.2 | exact g2.2.2 | exact g3.2.2.2)) ?_
  intro b4 g4
  simp only[yJ]at g4
  refine G8 yG (ns _ (by simp only[g4])) ?_
  refine jC.intro TR rfl rfl rfl rfl ⟨fb,b2,b1,b3,b4,rfl,rfl,?_,rfl,rfl,rfl,?_,?_,?_,?_,?_,?_,?_,?_⟩
  all_goals first
   | (simp only[got,TR,Ex.ev,coerce,toInt_int,zf,zi,zg,arith,Cst.val,List.getD_cons_zero,List.getElem?_cons_zero,List.getElem?_cons_succ];rw[e1];done)
   | (simp only[List.nodup_cons,List.mem_cons,List.not_mem_nil,or_false,not_or,not_false_eq_true,List.nodup_nil,and_true];omega)
   | (intro b hb;simp only[List.mem_cons,List.not_mem_nil,or_false]at hb;rcases hb with rfl | rfl | rfl | rfl | rfl <;> first | exact g0 | exact g1.2 | exact g2.2.2 | exact g3.2.2.2 | exact g4.2.2.2.2.2 | exact g2.2.2.2 | exact g3.2.2.2.2)
   | (refine sub5 fun x hx=>?_;simp only[upd];repeat rw[if_neg (hx _ (by first | exact g0 | exact g1.2 | exact g2.2.2 | exact g3.2.2.2 | exact g4.2.2.2.2.2 | exact g3.2.2.2.2))])
   | (simp only[upd,wgBlock];repeat first | rw[if_pos trivial] | rw[if_pos rfl] | rw[if_neg (by omega)])
 ·simp only[yJ]at g1 g2 g3
  refine DW (b:=b2) ((y9 (by omega)).trans yG) (ns _ (by first | exact g1.2 | exact g2.2.2 | exact g3.2.2.2)) ?_
  intro b4 g4
  simp only[yJ]at g4
  refine G8 yG (ns _ (by simp only[g4])) ?_
  refine jC.intro TS rfl rfl rfl rfl ⟨fb,b3,b1,b2,b4,rfl,rfl,?_,rfl,rfl,rfl,?_,?_,?_,?_,?_,?_,?_,?_⟩
  all_goals first
   | (simp only[got,TS,Ex.ev,coerce,toInt_int,zf,zi,zg,arith,Cst.val,List.getD_cons_zero,List.getElem?_cons_zero,List.getElem?_cons_succ];rw[e1];done)
   | (simp only[List.nodup_cons,List.mem_cons,List.not_mem_nil,or_false,not_or,not_false_eq_true,List.nodup_nil,and_true];omega)
   | (intro b hb;simp only[List.mem_cons,List.not_mem_nil,or_false]at hb;rcases hb with rfl | rfl | rfl | rfl | rfl <;> first | exact g0 | exact g1.2 | exact g2.2.2 | exact g3.2.2.2 | exact g4.2.2.2.2.2 | exact g2.2.2.2 | exact g3.2.2.2.2)
   | (refine sub5 fun x hx=>?_;simp only[upd];repeat rw[if_neg (hx _ (by first | exact g0 | exact g1.2 | exact g2.2.2 | exact g3.2.2.2 | exact g4.2.2.2.2.2 | exact g3.2.2.2.2))])
   | (simp only[upd,wgBlock];repeat first | rw[if_pos trivial] | rw[if_pos rfl] | rw[if_neg (by omega)])
 ·simp only[yJ]at g1 g2 g3
  refine DW (b:=b1) ((y9 (by omega)).trans ((y9 (by omega)).trans yG)) (ns _ (by first | exact g1.2 | exact g2.2.2 | exact g3.2.2.2)) ?_
  intro b4 g4
  simp only[yJ]at g4
  refine G8 yG (ns _ (by simp only[g4])) ?_
  refine jC.intro TU rfl rfl rfl rfl ⟨fb,b2,b3,b1,b4,rfl,rfl,?_,rfl,rfl,rfl,?_,?_,?_,?_,?_,?_,?_,?_⟩
  all_goals first
   | (simp only[got,TU,Ex.ev,coerce,toInt_int,zf,zi,zg,arith,Cst.val,List.getD_cons_zero,List.getElem?_cons_zero,List.getElem?_cons_succ];rw[e1];done)
   | (simp only[List.nodup_cons,List.mem_cons,List.not_mem_nil,or_false,not_or,not_false_eq_true,List.nodup_nil,and_true];omega)
   | (intro b hb;simp only[List.mem_cons,List.not_mem_nil,or_false]at hb;rcases hb with rfl | rfl | rfl | rfl | rfl <;> first | exact g0 | exact g1.2 | exact g2.2.2 | exact g3.2.2.2 | exact g4.2.2.2.2.2 | exact g2.2.2.2 | exact g3.2.2.2.2)
   | (refine sub5 fun x hx=>?_;simp only[upd];repeat rw[if_neg (hx _ (by first | exact g0 | exact g1.2 | exact g2.2.2 | exact g3.2.2.2 | exact g4.2.2.2.2.2 | exact g3.2.2.2.2))])
   | (simp only[upd,wgBlock];repeat first | rw[if_pos trivial] | rw[if_pos rfl] | rw[if_neg (by omega)])
 ·simp only[yJ]at g1 g2
  refine DW (b:=b1) ((y9 (by omega)).trans yG) (ns _ (by first | exact g1.2 | exact g2.2.2)) ⟨nn,Int.le_refl _,hb8,fun b3 g3=>?_⟩
  simp only[yJ]at g3
  intro b4 g4
  simp only[yJ]at g4
  refine G8 yG (ns _ (by simp only[g4])) ?_
  refine jC.intro TX rfl rfl rfl rfl ⟨fb,b2,b3,b1,b4,rfl,rfl,?_,rfl,rfl,rfl,?_,?_,?_,?_,?_,?_,?_,?_⟩
  all_goals first
   | (simp only[got,TX,Ex.ev,coerce,toInt_int,zf,zi,zg,arith,Cst.val,List.getD_cons_zero,List.getElem?_cons_zero,List.getElem?_cons_succ];rw[e1];done)
   | (simp only[List.nodup_cons,List.mem_cons,List.not_mem_nil,or_false,not_or,not_false_eq_true,List.nodup_nil,and_true];omega)
   | (intro b hb;simp only[List.mem_cons,List.not_mem_nil,or_false]at hb;rcases hb with rfl | rfl | rfl | rfl | rfl <;> first | exact g0 | exact g1.2 | exact g2.2.2 | exact g3.2.2.2 | exact g4.2.2.2.2.2 | exact g2.2.2.2 | exact g3.2.2.2.2)
   | (refine sub5 fun x hx=>?_;simp only[upd];repeat rw[if_neg (hx _ (by first | exact g0 | exact g1.2 | exact g2.2.2 | exact g3.2.2.2 | exact g4.2.2.2.2.2 | exact g3.2.2.2.2))])
   | (simp only[upd,wgBlock];repeat first | rw[if_pos trivial] | rw[if_pos rfl] | rw[if_neg (by omega)])
 ·simp only[yJ]at g1 g2 g3
  refine DW (b:=b1) ((y9 (by omega)).trans ((y9 (by omega)).trans yG)) (ns _ (by first | exact g1.2 | exact g2.2.2 | exact g3.2.2.2)) ?_
  intro b4 g4
  simp only[yJ]at g4
  refine G8 yG (ns _ (by simp only[g4])) ?_
  refine jC.intro TZ rfl rfl rfl rfl ⟨fb,b3,b2,b1,b4,rfl,rfl,?_,rfl,rfl,rfl,?_,?_,?_,?_,?_,?_,?_,?_⟩
  all_goals first
   | (simp only[got,TZ,Ex.ev,coerce,toInt_int,zf,zi,zg,arith,Cst.val,List.getD_cons_zero,List.getElem?_cons_zero,List.getElem?_cons_succ];rw[e1];done)
   | (simp only[List.nodup_cons,List.mem_cons,List.not_mem_nil,or_false,not_or,not_false_eq_true,List.nodup_nil,and_true];omega)
   | (intro b hb;simp only[List.mem_cons,List.not_mem_nil,or_false]at hb;rcases hb with rfl | rfl | rfl | rfl | rfl <;> first | exact g0 | exact g1.2 | exact g2.2.2 | exact g3.2.2.2 | exact g4.2.2.2.2.2 | exact g2.2.2.2 | exact g3.2.2.2.2)
   | (refine sub5 fun x hx=>?_;simp only[upd];repeat rw[if_neg (hx _ (by first | exact g0 | exact g1.2 | exact g2.2.2 | exact g3.2.2.2 | exact g4.2.2.2.2.2 | exact g3.2.2.2.2))])
   | (simp only[upd,wgBlock];repeat first | rw[if_pos trivial] | rw[if_pos rfl] | rw[if_neg (by omega)])
def qm(l i:Nat):Nat:=min ((i+1)*32768) l-i*32768
def partOf(xs:List Int)(i:Nat):List Int:=(xs.drop (i*32768)).take (qm xs.length i)
theorem BH(xs:List Int)(i:Nat):(partOf xs i).length=qm xs.length i:=by
 unfold partOf qm;rw[List.length_take,List.length_drop];omega
def szv(n l j:Nat):Array Value:=((List.range n).map fun i=>if i<j then Value.int .i64 (qm l i)else .int .i64 0).toArray
theorem Ub(n l j:Nat):(szv n l j).size=n:=by simp[szv]
theorem Uc(n l:Nat):yh n #[.int .i64 0]=szv n l 0:=by
 apply Array.ext
 ·simp[yh,szv]
 ·intro i h1 h2
  simp[yh,szv,Nat.mod_one]
theorem V7{n l j:Nat}(hj:j<n):(szv n l j).setIfInBounds j (.int .i64 (qm l j))=szv n l (j+1):=by
 apply Array.ext
 ·simp[szv]
 ·intro i h1 h2
  simp only[szv]
  by_cases e:j=i
  ·subst e;simp
  ·have e2:(i<j+1)=(i<j):=by apply propext;omega
   simp[e,e2]
def RB(h0 h:Eng.Heap)(xs:List Int)(da:Value)(fb sb bS wg n j:Nat)(f:Nat→Value)(h':Eng.Heap):Prop:=
 ∃(ib pb:Nat) (a':Option Addr) (c':Nat),f 0=da∧f 3=.pointer (some ⟨fb,0,none⟩)∧f 7=.pointer (some ⟨sb,0,none⟩)∧f 8=.slice (some ⟨bS,0,none⟩) n n∧f 9=.pointer (some ⟨wg,0,none⟩) ∧
  f 10=.pointer (some ⟨ib,0,none⟩)∧f 11=.pointer (some ⟨pb,0,none⟩)∧f 22=.int .i64 n∧f 23=.int .i64 j ∧
  h ib=none∧h pb=none∧ib≠pb∧zj h0 .u8 a' (partOf xs j)∧h' ib=some (.cells #[.int .i64 j] 3)∧h' pb=some (.cells #[.slice a' (partOf xs j).length c'] 22) ∧
  h' bS=some (.cells (szv n xs.length (j+1)) 2)∧∀x,x≠ib→x≠pb→x≠bS→h' x=h x
theorem wpB{h0:Eng.Heap}{a:Option Addr}{c:Nat}{xs:List Int}(hx:zj h0 .u8 a xs)(hc:xs.length≤c)(hl:xs.length<2^40)(hi:Inv S h){n j:Nat}(hn:n=(xs.length+32767)/32768)(hj:j<n)
  {fb sb bS wg:Nat}(hS:¬S bS)(hbS:h bS=some (.cells (szv n xs.length j) 2)) :
  tBk.wp Tryz.prog S (jC 47 [0,3,7,8,9,10,11,22,23] (RB h0 h xs (.slice a xs.length c) fb sb bS wg n j)) (fun _ _=>True)
   [.slice a xs.length c,.pointer (some ⟨fb,0,none⟩),.pointer (some ⟨sb,0,none⟩),.slice (some ⟨bS,0,none⟩) n n,.pointer (some ⟨wg,0,none⟩),.int .i64 n,.int .i64 j] h []:=by
 have ns:∀b,h b=none→¬S b:=fun b hb hS=>hi b hS hb
 have w1:IntKind.i64.wrap ((j:Int)*32768)=((j*32768:Nat):Int):=by rw[IntKind.wrap_i64];omega
 have w2:IntKind.i64.wrap ((j:Int)+1)=(j:Int)+1:=by rw[IntKind.wrap_i64];omega
 have w3:IntKind.i64.wrap (((j:Int)+1)*32768)=(((j+1)*32768:Nat):Int):=by rw[IntKind.wrap_i64];omega
 simp only[tBk,Tr.wp,Ex.ev,coerce,toInt_int,zb,zf,zi,zg,zh,yi,IZ,AQ,BY,zI,arith,Cst.val,yo,z9,zp,List.flatMap_cons,List.flatMap_nil,List.replicate_one,List.getD_cons_zero,List.getD_cons_succ,decide_eq_true_eq,List.map_cons,List.map_nil,List.cons_append,List.nil_append,List.append_nil,and_true]
 intro ib g0
 refine DW yG (ns _ g0) ?_
 have eM:(if(xs.length:Int)<(((j+1)*32768:Nat):Int)then(xs.length:Int)else(((j+1)*32768:Nat):Int))=((min ((j+1)*32768) xs.length:Nat):Int):=by split <;> omega
 have cell1:∀ {h:Eng.Heap} {b:Nat} {v:Value} {T:TypeId},h b=some (.cells #[v] T)→zd h (Addr.add ⟨b,0,none⟩ 0)=some v:=fun hb=>by simp[zd,Addr.add,hb]
 refine⟨j,cell1 yG,j,cell1 yG,?_⟩
 simp only[w1,w2,w3,eM,Int.toNat_natCast]
 obtain⟨a',es,hp⟩:=BP hx (lo:=j*32768) (hi:=min ((j+1)*32768) xs.length) (m:=c) (by omega) (by omega) (by omega)
 rw[es]
 have ep:(xs.drop (j*32768)).take (min ((j+1)*32768) xs.length-j*32768)=partOf xs j:=rfl
 rw[ep]at hp ⊢
 refine⟨by omega,by omega,by omega,by omega,fun pb g1=>?_⟩
 simp only[yJ]at g1
 have hbi:bS≠ib:=fun e=>by subst e;rw[g0]at hbS;cases hbS
 have hbp:bS≠pb:=fun e=>by subst e;rw[g1.2.2]at hbS;cases hbS
 refine DW yG (ns _ g1.2.2) ?_
 refine⟨j,cell1 ((y9 (Ne.symm g1.1)).trans ((y9 (Ne.symm g1.1)).trans yG)),a',_,_,cell1 yG,rfl,by omega,by omega,?_⟩
 refine Yx (cs:=szv n xs.length j) (T:=2) ?_ (by rw[Ub];exact hj) hS ?_
 ·rw[y9 hbp,y9 hbp,y9 hbi,y9 hbi];exact hbS
 refine jC.intro U0 rfl rfl rfl rfl ⟨ib,pb,a',c-j*32768,rfl,rfl,rfl,rfl,rfl,rfl,rfl,rfl,rfl,g0,g1.2.2,Ne.symm g1.1,hp,?_,?_,?_,?_⟩
 ·rw[y9 (Ne.symm hbi),y9 (Ne.symm g1.1),y9 (Ne.symm g1.1),yG]
 ·rw[y9 (Ne.symm hbp),yG]
 ·rw[yG,BH,V7 hj]
 ·intro x h1 h2 h3
  rw[y9 h3,y9 h2,y9 h2,y9 h1,y9 h1]
end
end Go.Proofs.YtnhbgoiihgoneaaGreatDoor
end
section
namespace Go.Proofs.YtnhbgoiihgoneaaGreatDoor
open Go Go.Eng Go.Conc Go.RowKit Go.Conc.Lib Go.ConcR.Gen
open Go.ConcR (KK wgBlock WgAt stA smA rd wr DC0 Payload)
def P9:List (Nat×Sh):=[(0,.slice),(3,.addr),(7,.addr),(8,.slice),(9,.addr),(22,.int .i64),(23,.int .i64)]
def Ud(da:Value)(fb sb bS wg n j:Nat):List Value:=[da,.pointer (some ⟨fb,0,none⟩),.pointer (some ⟨sb,0,none⟩),.slice (some ⟨bS,0,none⟩) n n,.pointer (some ⟨wg,0,none⟩),.int .i64 n,.int .i64 j]
structure AtL(a:Act)(da:Value)(fb sb bS wg n j:Nat):Prop where
 sz:a.tmps.size=47
 df:a.defers=[]
 s0:a.tmps.getD 0 undef=da
 s3:a.tmps.getD 3 undef=.pointer (some ⟨fb,0,none⟩)
 s7:a.tmps.getD 7 undef=.pointer (some ⟨sb,0,none⟩)
 s8:a.tmps.getD 8 undef=.slice (some ⟨bS,0,none⟩) n n
 s9:a.tmps.getD 9 undef=.pointer (some ⟨wg,0,none⟩)
 s22:a.tmps.getD 22 undef=.int .i64 n
 s23:a.tmps.getD 23 undef=.int .i64 j
theorem AtL.Hn{a:Act}{x:Option Addr}{l c fb sb bS wg n j:Nat}(A:AtL a (.slice x l c) fb sb bS wg n j):qU a P9 (Ud (.slice x l c) fb sb bS wg n j):=
 ⟨A.s0,rfl,A.s3,rfl,A.s7,rfl,A.s8,rfl,A.s9,rfl,A.s22,rfl,A.s23,rfl,trivial⟩
theorem I1(a:Act)(d i:Nat)(v:Value)(hd:d<a.tmps.size):(a.put (some d) v).tmps.getD i undef=if i=d then v else a.tmps.getD i undef:=by
 by_cases e:i=d
 ·subst e;simp[Act.put,Array.getD_eq_getD_getElem?,hd]
 ·simp only[Act.put,Array.getD_eq_getD_getElem?,Array.getElem?_setIfInBounds_ne (Ne.symm e),if_neg e]
theorem Ue(a:Act)(d:Nat)(v:Value):(a.put (some d) v).tmps.size=a.tmps.size:=by simp[Act.put]
theorem AtL.put{a:Act}{da:Value}{fb sb bS wg n j:Nat}(A:AtL a da fb sb bS wg n j)(d:Nat)(v:Value)(hd:d=41∨d=42∨d=44):AtL (a.put (some d) v) da fb sb bS wg n j:=by
 have hs:d<a.tmps.size:=by rw[A.sz];omega
 have g:∀i,i≠d→(a.put (some d) v).tmps.getD i undef=a.tmps.getD i undef:=fun i hi=>by rw[I1 a d i v hs,if_neg hi]
 exact⟨by rw[Ue];exact A.sz,A.df,(g 0 (by omega)).trans A.s0,(g 3 (by omega)).trans A.s3,(g 7 (by omega)).trans A.s7,(g 8 (by omega)).trans A.s8,(g 9 (by omega)).trans A.s9,(g 22 (by omega)).trans A.s22,(g 23 (by omega)).trans A.s23⟩
def RS(h:Eng.Heap)(da:Value)(fb sb bS wg n j:Nat)(f:Nat→Value)(h':Eng.Heap):Prop:=
 f 0=da∧f 3=.pointer (some ⟨fb,0,none⟩)∧f 7=.pointer (some ⟨sb,0,none⟩)∧f 8=.slice (some ⟨bS,0,none⟩) n n∧f 9=.pointer (some ⟨wg,0,none⟩)∧f 22=.int .i64 n∧f 23=.int .i64 j∧h'=h
noncomputable def xA(i:Nat):Array Oper:=match rP i with | .region _ ops _=>ops | _=>#[]
theorem rP9:rP 9=.region 9 (xA 9) false:=by kernel_rfl
theorem Yy:rP 10=.region 10 (xA 10) false:=by kernel_rfl
theorem Yz:rP 12=.region 12 (xA 12) false:=by kernel_rfl
theorem XS:(xA 9).size=1:=by kernel_rfl
theorem WO:(xA 10).size=2:=by kernel_rfl
theorem WQ:(xA 12).size=1:=by kernel_rfl
theorem L8{ops:Array Oper}{i:Nat}{d:Option Tmp}{p:Op→Bool}(h1:(ops[i]?.map fun o=>(o.dst,o.guard))=some (d,none)){q:Op}(h2:(ops[i]?.map fun o=>o.op)=some q) :
  ∃o,ops[i]? = some o∧o.dst=d∧o.guard=none∧o.op=q:=by
 cases h:ops[i]? with
 | none=>rw[h]at h1;cases h1
 | some o=>
  rw[h]at h1 h2
  simp only[Option.map_some,Option.some.injEq,Prod.mk.injEq]at h1 h2
  exact⟨o,rfl,h1.1,h1.2,h2⟩
def PC(o:Option Oper):Array TypeId:=match o with | some o=>(match o.op with | .call c=>c.argTypes | .go c=>c.argTypes | _=>#[]) | none=>#[]
theorem c9a:((xA 9)[0]?.map fun o=>(o.dst,o.guard))=some (some 41,none):=by kernel_rfl
theorem c9b:((xA 9)[0]?.map fun o=>o.op)=some (.call { callee:=.value (.func 52),args:=#[.tmp 9,.const (.int .i64 1)],argTypes:=PC (xA 9)[0]? }):=by kernel_rfl
theorem Y0:((xA 12)[0]?.map fun o=>(o.dst,o.guard))=some (some 44,none):=by kernel_rfl
theorem Y1:((xA 12)[0]?.map fun o=>o.op)=some (.call { callee:=.value (.func 55),args:=#[.tmp 9],argTypes:=PC (xA 12)[0]? }):=by kernel_rfl
theorem Y2:((xA 10)[0]?.map fun o=>(o.dst,o.guard))=some (some 42,none):=by kernel_rfl
theorem Y3:((xA 10)[0]?.map fun o=>o.op)=some (.makeFunc (.func 53) #[] #[.tmp 9,.tmp 3,.tmp 11,.tmp 7,.tmp 10]):=by kernel_rfl
theorem Y4:((xA 10)[1]?.map fun o=>(o.dst,o.guard))=some (none,none):=by kernel_rfl
theorem Y5:((xA 10)[1]?.map fun o=>o.op)=some (.go { callee:=.value (.tmp 42),args:=#[],argTypes:=PC (xA 10)[1]? }):=by kernel_rfl
theorem J4{P:Program}{b:Frame}{a:Act}{k:List Item}{cs:List Frame}{ops:Array Oper}{i:Nat}{rest:List Nat}{o:Oper}{f:FuncId}{fn:Func}{c:Code}{args:Array Operand}{ats:Array TypeId}
  (ho:ops[i]? = some o)(hw:Region.wanted o (yielded ops a.tmps)=true)(hk:b.kind ≠ .early)(hop:o.op=.call { callee:=.value (.func f),args,argTypes:=ats })
  (hf:P.funcs[f]? = some fn)(hname:(fn.name == "runtime.NumGoroutine")=false)(hb:fn.body=some c)(main:Bool)(w:World) :
  stepG P main (gor (b.at a (.inRegion ops (i::rest)::k)) cs) w=.go (gor ((base f).at { tmps:=args.map a.eval++Array.replicate (fn.ntmps-(args.map a.eval).size) undef,defers:=[] } [.code c]) (b.at a (.inRegion ops (i::rest)::k)::cs)) w #[]:=
 MK (goes_call ho hw hk hop hf hname hb ⟨rfl,rfl,rfl⟩)
theorem XT(L:WgLink):(addFn L).body=some (body_add L):=rfl
theorem WR(L:WgLink):(waitFn L).body=some (body_wait L):=rfl
theorem XU(L:WgLink)(x y:Value):#[x,y]++Array.replicate ((addFn L).ntmps-(#[x,y]:Array Value).size) undef=#[x,y,undef,undef,undef,undef,undef,undef,undef,undef,undef,undef,undef,undef,undef,undef,undef,undef,undef,undef,undef,undef,undef,undef,undef,undef,undef,undef,undef,undef,undef,undef,undef,undef,undef,undef,undef,undef,undef,undef,undef,undef,undef,undef,undef,undef,undef,undef,undef,undef,undef,undef,undef,undef,undef,undef,undef,undef,undef,undef,undef,undef,undef,undef,undef,undef,undef,undef,undef,undef,undef,undef,undef,undef,undef,undef,undef,undef,undef,undef,undef,undef,undef,undef,undef,undef,undef,undef,undef,undef,undef,undef,undef,undef,undef,undef,undef,undef,undef,undef,undef,undef,undef,undef,undef,undef,undef,undef,undef,undef,undef,undef,undef,undef,undef,undef,undef]:=by kernel_rfl
theorem WT(L:WgLink)(x:Value):#[x]++Array.replicate ((waitFn L).ntmps-(#[x]:Array Value).size) undef=#[x,undef,undef,undef,undef,undef,undef,undef,undef,undef,undef,undef,undef,undef,undef,undef,undef,undef,undef,undef,undef,undef,undef,undef,undef,undef,undef,undef,undef,undef,undef,undef,undef,undef,undef,undef,undef,undef,undef,undef,undef,undef,undef,undef,undef,undef,undef,undef,undef,undef,undef,undef,undef,undef,undef,undef,undef,undef,undef,undef,undef,undef,undef,undef,undef,undef,undef,undef,undef,undef,undef,undef,undef,undef,undef,undef,undef,undef,undef,undef,undef,undef,undef,undef]:=by kernel_rfl
section
variable {Φ : Ph} {b : Frame} {k : List Item} {cs : List Frame}
theorem Y6(hty:Φ.ty=Tryz.link.tWg)(hCW:Φ.C≠Φ.Wg)(hk:b.kind ≠ .early){a:Act}(h9:a.tmps.getD 9 undef=.pointer (some ⟨Φ.Wg,0,none⟩)){Nx:Frame→List Frame→Prop}
  (hN:Nx (b.at (a.put (some 41) (.tuple #[])) (.inRegion (xA 9) []::k)) cs):A9 Tryz.prog Φ Nx (b.at a (.inRegion (xA 9) [0]::k)) cs:=by
 obtain⟨o,d1,d2,d3,d4⟩:=L8 (p:=fun _=>true) c9a c9b
 by_cases hJ:∃w,Φ.J w
 ·obtain⟨w,hw⟩:=hJ
  refine A9.step (fun w=>J4 d1 (by simp[Region.wanted,d3]) hk d4 Tryz.Jw.f_add (nm_add Tryz.link) (XT Tryz.link) true w) ⟨100,?_⟩
  have e:(#[Operand.tmp 9,.const (.int .i64 1)].map a.eval)=#[.pointer (some ⟨Φ.Wg,0,none⟩),.int .i64 1]:=by simp[Act.eval,h9]
  rw[e,XU]
  have W:=@V3 _ Tryz.prog Tryz.link Φ cs b a (xA 9) 0 [] k Tryz.Jw hCW Nx (by rw[d1];simp only[Option.bind_some,d2];exact hN) w hw
  exact Sil.of (w:=w) W
 ·exact⟨0,fun w w₁ h=>absurd ⟨w₁,h⟩ hJ⟩
theorem WU(hty:Φ.ty=Tryz.link.tWg)(hCW:Φ.C≠Φ.Wg)(hk:b.kind ≠ .early){a:Act}(h9:a.tmps.getD 9 undef=.pointer (some ⟨Φ.Wg,0,none⟩)) :
  kA Tryz.prog Φ (MI Tryz.prog (b.at (a.put (some 44) (.tuple #[])) (.inRegion (xA 12) []::k)) cs) (b.at a (.inRegion (xA 12) [0]::k)) cs:=by
 obtain⟨o,d1,d2,d3,d4⟩:=L8 (p:=fun _=>true) Y0 Y1
 by_cases hJ:∃w,Φ.J w
 ·obtain⟨w,hw⟩:=hJ
  refine kA.step (fun w=>J4 d1 (by simp[Region.wanted,d3]) hk d4 Tryz.Jw.f_wait (nm_wait Tryz.link) (WR Tryz.link) true w) ?_
  have e:(#[Operand.tmp 9].map a.eval)=#[.pointer (some ⟨Φ.Wg,0,none⟩)]:=by simp[Act.eval,h9]
  rw[e,WT]
  have W:=@TG _ Tryz.prog Tryz.link Φ cs b a (xA 12) 0 [] k Tryz.Jw hCW w hw
  rw[d1]at W
  simp only[Option.bind_some,d2]at W
  exact W
 ·exact⟨fun _=>True,fun g _=>⟨0,fun w w₁ h=>absurd ⟨w₁,h⟩ hJ⟩,0,fun w w₁ h=>absurd ⟨w₁,h⟩ hJ⟩
end
end Go.Proofs.YtnhbgoiihgoneaaGreatDoor
end
section
namespace Go.Proofs.YtnhbgoiihgoneaaGreatDoor
open Go Go.Eng Go.Conc Go.RowKit Go.Conc.Lib Go.ConcR.Gen
open Go.ConcR (KK wgBlock WgAt stA smA rd wr DC0 Payload)
section
variable {S : Shared} {Φ : Ph} {b : Frame} {k : List Item} {cs : List Frame}
theorem V8{i fb pb sb ib:Nat}(hk:b.kind ≠ .early){a:Act}(h42:a.tmps.getD 42 undef=.func (.func 53) #[] (qc Φ.Wg fb pb sb ib)){Nx:Frame→List Frame→Eng.Heap→Prop}{hh h1 hc:Eng.Heap}
  (s1:Eng.Sub h1 hh)(sc:Eng.Sub hc hh)(hap:∀x,¬Φ.S x→hc x≠none→h1 x=none)(hro:∀x,Φ.S x→h1 x=hh x)(hW:Works Tryz.prog Φ i (L4 (E9 Φ.Wg fb pb sb ib)) [] hc)
  (hN:Nx (b.at a (.inRegion (xA 10) []::k)) cs h1):Cc Tryz.prog Φ i Nx (b.at a (.inRegion (xA 10) [1]::k)) cs hh:=by
 obtain⟨o,d1,d2,d3,d4⟩:=L8 (p:=fun _=>true) Y4 Y5
 refine⟨h1,hc,s1,sc,hap,hro,fun w hw hJ=>⟨_,_,_,_,?_,hW,hN⟩⟩
 have hr:(execOp a.eval o).run Tryz.prog w=.ok (.spawn (E9 Φ.Wg fb pb sb ib)) w:=by
  unfold execOp
  simp only[d4,resolve,Deferred.ofValue,Act.eval,h42]
  simp[E9,qc,go_sem]
 have he:(execOp a.eval o).events Tryz.prog w #[]=#[]:=by
  unfold execOp
  simp only[d4,resolve,Deferred.ofValue,Act.eval,h42]
  simp[qc,go_sem]
 have st:=stepG_spawn (P:=Tryz.prog) (main:=true) (b:=b) (a:=a) (k:=k) (cs:=cs) (w:=w) (rest:=[]) d1 (by simp[Region.wanted,d3]) hk hr rfl
 unfold listed at st
 rw[he,seen_none,d2]at st
 exact st
theorem WV(hk:b.kind ≠ .early){a:Act}{fb pb sb ib wg:Nat}{rest:List Nat}{Post:Frame→List Frame→Eng.Heap→Prop}{h:Eng.Heap}
  (h9:a.tmps.getD 9 undef=.pointer (some ⟨wg,0,none⟩))(h3:a.tmps.getD 3 undef=.pointer (some ⟨fb,0,none⟩))(h11:a.tmps.getD 11 undef=.pointer (some ⟨pb,0,none⟩))(h7:a.tmps.getD 7 undef=.pointer (some ⟨sb,0,none⟩))(h10:a.tmps.getD 10 undef=.pointer (some ⟨ib,0,none⟩))
  (K:Eng.Safe Tryz.prog S Post (b.at (a.put (some 42) (.func (.func 53) #[] (qc wg fb pb sb ib))) (.inRegion (xA 10) rest::k)) cs h):Eng.Safe Tryz.prog S Post (b.at a (.inRegion (xA 10) (0::rest)::k)) cs h:=by
 obtain⟨o,d1,d2,d3,d4⟩:=L8 (p:=fun _=>true) Y2 Y3
 refine j8 (.func (.func 53) #[] (qc wg fb pb sb ib)) d1 (by simp[Region.wanted,d3]) hk (fun w=>?_) (fun w=>?_) (by rw[d2];exact K)
 ·unfold execOp
  simp[d4,Act.eval,h9,h3,h11,h7,h10,qc,go_sem]
 ·unfold execOp
  simp[d4,Act.eval,h9,h3,h11,h7,h10,go_sem]
theorem go5{h:Eng.Heap}{x:Option Addr}{l c fb sb bS wg n j:Nat}{a:Act}{c0:Code}(A:AtL a (.slice x l c) fb sb bS wg n j)(hi:Inv S h) :
  Eng.Safe Tryz.prog S (Eng.Reach S b 47 (.code c0::k) cs [0,3,7,8,9,22,23,24] (fun f h'=>RS h (.slice x l c) fb sb bS wg n j f h'∧f 24=.bool (decide ((j:Int)<n)))) (b.at a (.code (.seq (rP 5) c0)::k)) cs h:=by
 refine Fj (rs:=[rP 5]) (ps:=P9) EA EB s5 A.Hn A.sz A.df hi ?_
 simp only[t5,Tr.wp]
 exact jC.intro Ua rfl rfl rfl rfl ⟨⟨rfl,rfl,rfl,rfl,rfl,rfl,rfl,rfl⟩,by simp only[got,Ua,Ud,Ex.ev,coerce,toInt_int,zI,List.getD_cons_zero,List.getD_cons_succ,List.getElem?_cons_zero,List.getElem?_cons_succ]⟩
theorem Y7{h:Eng.Heap}{x:Option Addr}{l c fb sb bS wg n j:Nat}{a:Act}(A:AtL a (.slice x l c) fb sb bS wg n j)(hi:Inv S h)(hj:j<2^40) :
  Eng.Safe Tryz.prog S (Eng.Reach S b 47 k cs [0,3,7,8,9,22,23] (RS h (.slice x l c) fb sb bS wg n (j+1))) (b.at a (.code (rP 11)::k)) cs h:=by
 refine WA (ps:=P9) EA EB s11 A.Hn A.sz A.df hi ?_
 simp only[t11,Tr.wp]
 have w2:IntKind.i64.wrap ((j:Int)+1)=((j+1:Nat):Int):=by rw[IntKind.wrap_i64];omega
 exact jC.intro P8 rfl rfl rfl rfl ⟨rfl,rfl,rfl,rfl,rfl,rfl,by simp only[got,P8,Ud,Ex.ev,coerce,toInt_int,arith,Cst.val,List.getD_cons_zero,List.getD_cons_succ,List.getElem?_cons_zero,List.getElem?_cons_succ,w2],rfl⟩
theorem AtL.reach{x:Value}{fb sb bS wg n j:Nat}{a:Act}{f:Nat→Value}{h h':Eng.Heap}{is:List Nat}(hs:a.tmps.size=47)(hd:a.defers=[])(hf:∀i∈is,a.tmps.getD i undef=f i)
  (hi:[0,3,7,8,9,22,23].all (fun i=>is.contains i)=true)(R:RS h x fb sb bS wg n j f h'):AtL a x fb sb bS wg n j:=by
 obtain⟨r0,r3,r7,r8,r9,r22,r23,_⟩:=R
 have g:∀i,i∈([0,3,7,8,9,22,23]:List Nat)→a.tmps.getD i undef=f i:=fun i h=>hf i (by simpa using List.all_eq_true.1 hi i h)
 exact⟨hs,hd,(g 0 (by simp)).trans r0,(g 3 (by simp)).trans r3,(g 7 (by simp)).trans r7,(g 8 (by simp)).trans r8,(g 9 (by simp)).trans r9,(g 22 (by simp)).trans r22,(g 23 (by simp)).trans r23⟩
end
end Go.Proofs.YtnhbgoiihgoneaaGreatDoor
end
section
namespace Go.Proofs.YtnhbgoiihgoneaaGreatDoor
open Go Go.Eng Go.Conc Go.RowKit Go.Conc.Lib Go.ConcR.Gen
open Go.ConcR (KK wgBlock WgAt stA smA rd wr DC0 Payload)
section
variable {Φ : Ph} {b : Frame} {cs : List Frame}
theorem Uf{h h':Eng.Heap}{k:IntKind}{a:Option Addr}{xs:List Int}(H:zj h k a xs)(s:Eng.Sub h h'):zj h' k a xs:=fun i x hx=>by
 obtain⟨ad,h1,h2⟩:=H i x hx
 refine⟨ad,h1,?_⟩
 unfold zd at h2 ⊢
 cases e:h (ad.add i).block with
 | none=>rw[e]at h2;cases h2
 | some o=>rw[e]at h2;rw[s _ _ e];exact h2
theorem WW{H h0:Eng.Heap}{n:Nat}(hty:Φ.ty=Tryz.link.tWg)(hCW:Φ.C≠Φ.Wg)(hnb:∀fr cs h Q,¬Φ.S.big fr cs h Q)(hΦn:Φ.n=n){x:Option Addr}{c:Nat}{xs:List Int}(hx:zj h0 .u8 x xs)(hc:xs.length≤c)
  (hl:xs.length<2^40)(hn:n=(xs.length+32767)/32768){fb sb bS:Nat}{g:FuncId}{F:List Int→Int}(hSd:∀y,Φ.S y→H y≠none)(h0S:∀y o,h0 y=some o→Φ.S y∧H y=some o)(hSb:¬Φ.S bS)
  (hfS:Φ.S fb)(hsS:Φ.S sb)(hfb:H fb=some (.cells #[.func (.func g) #[] #[]] 71))(hsb:H sb=some (.cells #[.slice (some ⟨Φ.C,0,none⟩) n n] 67))
  (hval:∀i,i<n→Φ.val i=.int .u32 (F (partOf xs i)))
  (hsum:∀(h':Eng.Heap) (a':Option Addr) (c':Nat) (ys:List Int),Inv Φ.S h'→zj h' .u8 a' ys→ys.length≤32768→(∀y∈ys,y∈xs)→zc Tryz.prog Φ.S g #[.slice a' ys.length c'] h' (fun v h''=>v=.int .u32 (F ys)∧Eng.Sub h' h''))
  (hk:b.kind ≠ .early){Q:Frame→List Frame→Eng.Heap→Prop}
  (hQ:∀a hh,AtL a (.slice x xs.length c) fb sb bS Φ.Wg n n→(∀y,Φ.S y→hh y=H y)→hh bS=some (.cells (szv n xs.length n) 2) →
   ∀fr' cs',MI Tryz.prog (b.at (a.put (some 44) (.tuple #[])) [.inRegion (xA 12) [],.code (rP 13)]) cs fr' cs'→Q fr' cs' hh) :
  ∀r j,j+r=n→∀a hh,AtL a (.slice x xs.length c) fb sb bS Φ.Wg n j→(∀y,Φ.S y→hh y=H y)→hh bS=some (.cells (szv n xs.length j) 2) →
   Sp Tryz.prog Φ Q r (b.at a [.code L6,.inLoop L6,.inBlock 0,.code (.seq (rP 12) (rP 13))]) cs hh:=by
 have inv:∀ {hh:Eng.Heap},(∀y,Φ.S y→hh y=H y)→Inv Φ.S hh:=fun hro y hy=>by rw[hro y hy];exact hSd y hy
 have agr:∀ {h' H':Eng.Heap},Eng.Sub h' H'→Inv Φ.S h'→∀y,Φ.S y→H' y=h' y:=by
  intro h' H' s hi y hy
  cases e:h' y with
  | none=>exact absurd e (hi y hy)
  | some o=>exact s y o e
 intro r
 induction r with
 | zero=>
  intro j hj a hh A hro hbS
  have hjn:j=n:=by omega
  subst hjn
  unfold Sp
  refine(go5 (c0:=_) A (inv hro)).bind ?_
  rintro _ _ H' ⟨rfl,a',f,h',rfl,hsz,hdf,hf,⟨R,f24⟩,hsub,hinv⟩
  have A':=AtL.reach hsz hdf hf rfl R
  obtain⟨_,_,_,_,_,_,_,rfl⟩:=R
  have e24:a'.eval (.tmp 24)=.bool false:=by
   show a'.tmps.getD 24 undef=_
   rw[hf 24 (by simp),f24];simp
  refine .seq (.cond (t:=false) e24 ?_)
  simp only[Bool.false_eq_true,if_false]
  refine .exit (k':=[.code (.seq (rP 12) (rP 13))]) (by simp[exitTo]) (.seq ?_)
  rw[Yz]
  refine .region ?_
  rw[WQ]
  have hro':∀y,Φ.S y→H' y=H y:=fun y hy=>(agr hsub hinv y hy).trans (hro y hy)
  refine .done (kA.mono (fun fr' cs' hB=>?_) (WU hty hCW hk A'.s9))
  exact hQ a' H' A' hro' (hsub _ _ hbS) fr' cs' hB
 | succ r ih=>
  intro j hj a hh A hro hbS
  have hjn:j<n:=by omega
  unfold Sp
  refine(go5 (c0:=_) A (inv hro)).bind ?_
  rintro _ _ H1 ⟨rfl,a1,f1,h1,rfl,hsz1,hdf1,hf1,⟨R1,f24⟩,hsub1,hinv1⟩
  have A1:=AtL.reach hsz1 hdf1 hf1 rfl R1
  obtain⟨_,_,_,_,_,_,_,rfl⟩:=R1
  have e24:a1.eval (.tmp 24)=.bool true:=by
   show a1.tmps.getD 24 undef=_
   rw[hf1 24 (by simp),f24]
   simp only[Value.bool.injEq,decide_eq_true_eq]
   omega
  have hro1:∀y,Φ.S y→H1 y=H y:=fun y hy=>(agr hsub1 hinv1 y hy).trans (hro y hy)
  have hbS1:=hsub1 _ _ hbS
  refine .seq (.cond (t:=true) e24 ?_)
  simp only[if_true]
  refine .skip (.seq (.block ?_))
  refine(Fj (rs:=[rP 6,rP 7,rP 8]) (ps:=P9) EA EB sBk A1.Hn A1.sz A1.df (inv hro1) (wpB (S:=Φ.S) (h:=H1) (h0:=h0) (n:=n) (j:=j) (fb:=fb) (sb:=sb) (wg:=Φ.Wg) hx hc hl (inv hro1) hn hjn hSb hbS1)).bind ?_
  rintro _ _ H2 ⟨rfl,a2,f2,h2,rfl,hsz2,hdf2,hf2,⟨ib,pb,xa,xc,r0,r3,r7,r8,r9,r10,r11,r22,r23,nib,npb,hne,hpi,cib,cpb,cbS,crest⟩,hsub2,hinv2⟩
  have A2:AtL a2 (.slice x xs.length c) fb sb bS Φ.Wg n j:=⟨hsz2,hdf2,(hf2 0 (by simp)).trans r0,(hf2 3 (by simp)).trans r3,(hf2 7 (by simp)).trans r7,(hf2 8 (by simp)).trans r8,(hf2 9 (by simp)).trans r9,(hf2 22 (by simp)).trans r22,(hf2 23 (by simp)).trans r23⟩
  have t10:=(hf2 10 (by simp)).trans r10
  have t11:=(hf2 11 (by simp)).trans r11
  have sne:∀y,Φ.S y→y≠ib∧y≠pb∧y≠bS:=fun y hy=>
   ⟨fun e=>by subst e;exact inv hro1 y hy nib,fun e=>by subst e;exact inv hro1 y hy npb,fun e=>by subst e;exact hSb hy⟩
  have hro2:∀y,Φ.S y→H2 y=H y:=fun y hy=>by
   obtain⟨e1,e2,e3⟩:=sne y hy
   rw[agr hsub2 hinv2 y hy,crest y e1 e2 e3,hro1 y hy]
  have hib2:=hsub2 _ _ cib
  have hpb2:=hsub2 _ _ cpb
  have hbS2:=hsub2 _ _ cbS
  have bne:bS≠ib∧bS≠pb:=⟨fun e=>(by rw[e,nib]at hbS1;cases hbS1),fun e=>(by rw[e,npb]at hbS1;cases hbS1)⟩
  refine .seq ?_
  rw[rP9]
  refine .region ?_
  rw[XS]
  refine .done (Y6 hty hCW hk A2.s9 ?_)
  have A3:=A2.put 41 (.tuple #[]) (.inl rfl)
  have hs2:41<a2.tmps.size:=by rw[hsz2];omega
  have g3:∀i,i≠41→(a2.put (some 41) (.tuple #[])).tmps.getD i undef=a2.tmps.getD i undef:=fun i hi=>by rw[I1 _ _ _ _ hs2,if_neg hi]
  have u10:=(g3 10 (by omega)).trans t10
  have u11:=(g3 11 (by omega)).trans t11
  generalize a2.put (some 41) (.tuple #[])=a3 at A3 u10 u11
  refine .Bj ?_
  rw[Yy]
  refine .region ?_
  rw[WO]
  refine WV hk A3.s9 A3.s3 u11 A3.s7 u10 (.done ?_)
  have A4:=A3.put 42 (.func (.func 53) #[] (qc Φ.Wg fb pb sb ib)) (.inr (.inl rfl))
  have h42:(a3.put (some 42) (.func (.func 53) #[] (qc Φ.Wg fb pb sb ib))).tmps.getD 42 undef=.func (.func 53) #[] (qc Φ.Wg fb pb sb ib):=by
   rw[I1 _ _ _ _ (by rw[A3.sz];omega),if_pos rfl]
  generalize a3.put (some 42) (.func (.func 53) #[] (qc Φ.Wg fb pb sb ib))=a4 at A4 h42
  have ej:Φ.n-(r+1)=j:=by rw[hΦn];omega
  rw[ej]
  classical
  let hcw:Eng.Heap:=fun y=>if Φ.S y∨y=ib∨y=pb then H2 y else none
  let hm:Eng.Heap:=fun y=>if y=ib∨y=pb then none else H2 y
  have hcS:∀y,Φ.S y→hcw y=H y:=fun y hy=>by show(if _ then _ else _)=_;rw[if_pos (.inl hy)];exact hro2 y hy
  have sub0:Eng.Sub h0 hcw:=fun y o ho=>by
   obtain⟨e1,e2⟩:=h0S y o ho
   rw[hcS y e1];exact e2
  have c1:∀ {y:Nat} {v:Value} {T:TypeId},hcw y=some (.cells #[v] T)→zd hcw ⟨y,0,none⟩=some v:=fun e=>by simp[zd,e]
  refine V8 (ib:=ib) (pb:=pb) (fb:=fb) (sb:=sb) (h1:=hm) (hc:=hcw) hk h42 (fun y o ho=>?_) (fun y o ho=>?_) (fun y hS hy=>?_) (fun y hy=>?_) ?_ ?_
  ·simp only[hm]at ho
   split at ho
   ·cases ho
   ·exact ho
  ·simp only[hcw]at ho
   split at ho
   ·exact ho
   ·cases ho
  ·simp only[hcw]at hy
   split at hy
   ·rename_i hor
    show(if _ then _ else _)=_
    rw[if_pos (hor.resolve_left hS)]
   ·exact absurd rfl hy
  ·show(if _ then _ else _)=_
   obtain⟨e1,e2,_⟩:=sne y hy
   rw[if_neg (by simp[e1,e2])]
  ·refine XR hnb hty hCW (by rw[hΦn];exact hjn) (hval j hjn) (fun y hy=>?_) (c1 ((hcS fb hfS).trans hfb)) (c1 (T:=22) ?_) ?_ (c1 (T:=3) ?_) (hsum hcw xa xc _ (fun y hy=>?_) (Uf hpi sub0) (by rw[BH];unfold qm;omega) (fun y hy=>List.mem_of_mem_drop (List.mem_of_mem_take (by unfold partOf at hy;exact hy))))
   ·rw[hcS y hy];exact hSd y hy
   ·show(if _ then _ else _)=_
    rw[if_pos (.inr (.inr rfl))];exact hpb2
   ·rw[hΦn];exact c1 ((hcS sb hsS).trans hsb)
   ·show(if _ then _ else _)=_
    rw[if_pos (.inr (.inl rfl))];exact hib2
   ·rw[hcS y hy];exact hSd y hy
  ·refine Sp.pre (.Bj (.inBlock ?_))
   have hrom:∀y,Φ.S y→hm y=H y:=fun y hy=>by
    obtain⟨e1,e2,_⟩:=sne y hy
    show(if _ then _ else _)=_
    rw[if_neg (by simp[e1,e2])];exact hro2 y hy
   have hbm:hm bS=some (.cells (szv n xs.length (j+1)) 2):=by
    show(if _ then _ else _)=_
    rw[if_neg (by simp[bne.1,bne.2])];exact hbS2
   refine(Y7 A4 (inv hrom) (by omega)).bind ?_
   rintro _ _ H5 ⟨rfl,a5,f5,h5,rfl,hsz5,hdf5,hf5,R5,hsub5,hinv5⟩
   have A5:=AtL.reach hsz5 hdf5 hf5 rfl R5
   obtain⟨_,_,_,_,_,_,_,rfl⟩:=R5
   refine .inLoop (.done ?_)
   exact ih (j+1) (by omega) a5 H5 A5 (fun y hy=>(agr hsub5 hinv5 y hy).trans (hrom y hy)) (hsub5 _ _ hbm)
end
end Go.Proofs.YtnhbgoiihgoneaaGreatDoor
end
section
namespace Go.Proofs.YtnhbgoiihgoneaaGreatDoor
open Go Go.Eng Go.Conc Go.RowKit Go.Conc.Lib Go.ConcR.Gen
open Go.ConcR (KK wgBlock WgAt stA smA rd wr DC0 Payload)
theorem PD:Tryz.f32.body=some L5:=by kernel_rfl
theorem WX:Tryz.f32.ntmps=47:=by kernel_rfl
theorem Y8:Tryz.f32.results.toList=cP.results:=by kernel_rfl
def PE(F:List Int→Int)(xs:List Int)(n:Nat):Array Value:=((List.range n).map fun i=>Value.int .u32 (F (partOf xs i))).toArray
theorem Y9(v0 v1:Value)(m:Nat):(#[v0,v1]++Array.replicate m undef).getD 0 undef=v0:=by
 rw[Array.getD_eq_getD_getElem?,Array.getElem?_append_left (by simp)];rfl
theorem YA(v0 v1:Value)(m:Nat):(#[v0,v1]++Array.replicate m undef).getD 1 undef=v1:=by
 rw[Array.getD_eq_getD_getElem?,Array.getElem?_append_left (by simp)];rfl
def phP(H:Eng.Heap)(wg bC bS n:Nat)(F:List Int→Int)(xs:List Int):Ph:=
 { ty:=101,Wg:=wg,C:=bC,ety:=43,n:=n,S:=⟨fun y=>H y≠none∧y≠wg∧y≠bC∧y≠bS,fun _ _ _ _=>False⟩,val:=fun i=>.int .u32 (F (partOf xs i)) }
theorem Ko{s:Nat→Prop}{h:Eng.Heap}(hi:Inv (zW Tryz.prog s) h){x:Option Addr}{c:Nat}{xs:List Int}(hx:zj h .u8 x xs)(hc:xs.length≤c)(hl:xs.length<2^40){g:FuncId}{F:List Int→Int}
  (hsum:∀(S':Shared) (h':Eng.Heap) (a':Option Addr) (c':Nat) (ys:List Int),Inv S' h'→zj h' .u8 a' ys→ys.length≤32768→(∀y∈ys,y∈xs)→zc Tryz.prog S' g #[.slice a' ys.length c'] h' (fun v h''=>v=.int .u32 (F ys)∧Eng.Sub h' h'')){n:Nat}(hn:n=(xs.length+32767)/32768) :
  zc Tryz.prog (zW Tryz.prog s) yL #[.slice x xs.length c,.func (.func g) #[] #[]] h (fun v h'=>∃bC bS,v=.tuple #[.slice (some ⟨bC,0,none⟩) n n,.slice (some ⟨bS,0,none⟩) n n] ∧
   h' bC=some (.cells (PE F xs n) 43)∧h' bS=some (.cells (szv n xs.length n) 2)∧Eng.Sub h h'):=by
 refine .inl ⟨fun vs w=>Qz Tryz.func32 (by kernel_rfl) (by kernel_rfl) vs w,fun cs=>?_⟩
 have hent:Frame.enter Tryz.prog yL #[.slice x xs.length c,.func (.func g) #[] #[]] .normal=(Frame.enter Tryz.prog yL #[.slice x xs.length c,.func (.func g) #[] #[]] .normal).at
   { tmps:=#[.slice x xs.length c,.func (.func g) #[] #[]]++Array.replicate (Tryz.f32.ntmps-(#[.slice x xs.length c,.func (.func g) #[] #[]]:Array Value).size) undef,defers:=[] } [.code L5]:=by
  simp[Frame.enter,Frame.at,yL,Tryz.func32,PD]
 have zu:(Frame.enter Tryz.prog yL #[.slice x xs.length c,.func (.func g) #[] #[]] .normal).kind=.normal:=rfl
 have hfn:(Frame.enter Tryz.prog yL #[.slice x xs.length c,.func (.func g) #[] #[]] .normal).fn=yL:=rfl
 rw[hent]
 generalize Frame.enter Tryz.prog yL #[.slice x xs.length c,.func (.func g) #[] #[]] .normal=b at zu hfn
 rw[TN,WX]
 refine(Fj (rs:=[rP 0,rP 1,rP 2,rP 3]) (ps:=[(0,.slice),(1,.fnv)]) (env:=[.slice x xs.length c,.func (.func g) #[] #[]]) EA EB sA ⟨Y9 _ _ _,rfl,YA _ _ _,rfl,trivial⟩ (by simp) rfl hi (wpA rfl hi hl hn)).bind ?_
 rintro _ cs H ⟨rfl,a,f,h',rfl,hsz,hdf,hf,⟨fb,bC,bS,sb,wg,r0,r3,r6,r7,r8,r9,hnd,hnone,hsubh,cfb,cbC,cbS,csb,cwg⟩,hsub,hinv⟩
 have sH:Eng.Sub h H:=fun y o ho=>hsub y o (hsubh y o ho)
 have iH:Inv (zW Tryz.prog s) H:=fun y hy=>by
  cases e:h y with
  | none=>exact absurd e (hi y hy)
  | some o=>rw[sH y o e];simp
 replace cfb:=hsub _ _ cfb
 replace cbC:=hsub _ _ cbC
 replace cbS:=hsub _ _ cbS
 replace csb:=hsub _ _ csb
 replace cwg:=hsub _ _ cwg
 simp only[List.nodup_cons,List.mem_cons,List.not_mem_nil,or_false,not_or,not_false_eq_true,List.nodup_nil,and_true]at hnd
 have hne:∀y,h y≠none→y≠wg∧y≠bC∧y≠bS:=fun y hy=>⟨fun e=>hy (hnone y (by simp[e])),fun e=>hy (hnone y (by simp[e])),fun e=>hy (hnone y (by simp[e]))⟩
 have q:∀i,i∈([0,3,6,7,8,9]:List Nat)→a.tmps.getD i undef=f i:=hf
 refine .seq ?_
 refine(Fj (rs:=[rP 4]) (ps:=[(0,.slice),(3,.addr),(7,.addr),(8,.slice),(9,.addr),(6,.int .i64)])
  (env:=[.slice x xs.length c,.pointer (some ⟨fb,0,none⟩),.pointer (some ⟨sb,0,none⟩),.slice (some ⟨bS,0,none⟩) n n,.pointer (some ⟨wg,0,none⟩),.int .i64 n]) (is:=[0,3,7,8,9,22,23]) (R:=RS H (.slice x xs.length c) fb sb bS wg n 0) (c:=.block 0 (.loop L6)) EA EB s4
  ⟨(q 0 (by simp)).trans r0,rfl,(q 3 (by simp)).trans r3,rfl,(q 7 (by simp)).trans r7,rfl,(q 8 (by simp)).trans r8,rfl,(q 9 (by simp)).trans r9,rfl,(q 6 (by simp)).trans r6,rfl,trivial⟩ hsz hdf iH (by
   simp only[t4,Tr.wp]
   exact jC.intro WN rfl rfl rfl rfl ⟨rfl,rfl,rfl,rfl,rfl,rfl,rfl,rfl⟩)).bind ?_
 rintro _ cs H' ⟨rfl,a1,f1,h1,rfl,hsz1,hdf1,hf1,R1,hsub1,hinv1⟩
 have A1:=AtL.reach hsz1 hdf1 hf1 rfl R1
 obtain⟨_,_,_,_,_,_,_,rfl⟩:=R1
 replace cfb:=hsub1 _ _ cfb
 replace cbC:=hsub1 _ _ cbC
 replace cbS:=hsub1 _ _ cbS
 replace csb:=hsub1 _ _ csb
 replace cwg:=hsub1 _ _ cwg
 replace sH:Eng.Sub h H':=fun y o ho=>hsub1 y o (sH y o ho)
 clear iH hinv1 hsub1 hsub hf q hinv hsubh
 refine .block (.loop ?_)
 have hk:b.kind ≠ .early:=by rw[zu];decide
 let Φ:=phP H' wg bC bS n F xs
 have hS:∀y,Φ.S y↔(H' y≠none∧y≠wg∧y≠bC∧y≠bS):=fun y=>Iff.rfl
 have rest_eq:∀y,Φ.S y→Φ.rest H' y=H' y:=fun y hy=>by
  unfold Ph.rest
  rw[if_neg]
  rintro(e | e)
  ·exact hy.2.1 e
  ·exact hy.2.2.1 e
 refine .big H' (fun _=>none) (fun fr' cs' h''=>∃a2,AtL a2 (.slice x xs.length c) fb sb bS wg n n∧MI Tryz.prog (b.at (a2.put (some 44) (.tuple #[])) [.inRegion (xA 12) [],.code (rP 13)]) cs fr' cs' ∧
   h'' bC=some (.cells (PE F xs n) 43)∧h'' bS=some (.cells (szv n xs.length n) 2)∧∀y,Φ.S y→h'' y=H' y) (xw _).symm (fun y hy=>absurd rfl hy) ?_ ?_
 ·refine⟨Φ,yh n #[.int .u32 0],⟨fun _ _ _ _ h=>h,?_,?_,cwg,cbC,by simp[yh,Φ,phP],fun y hy=>?_,fun y hy=>?_⟩,?_⟩
  ·show n<_
   omega
  ·show bC≠wg
   omega
  ·have e1:=hi y hy
   refine⟨?_,hne y e1⟩
   cases e:h y with
   | none=>exact absurd e e1
   | some o=>rw[sH y o e];simp
  ·rw[rest_eq y hy];exact hy.1
  ·refine WW (Φ:=Φ) (H:=H') (h0:=h) (n:=n) (g:=g) (F:=F) rfl (show bC≠wg by omega) (fun _ _ _ _ h=>h) rfl hx hc hl hn (fun y hy=>hy.1) (fun y o ho=>⟨⟨by rw[sH y o ho];simp,hne y (by rw[ho];simp)⟩,sH y o ho⟩)
    (fun hy=>hy.2.2.2 rfl) ⟨by rw[cfb];simp,by omega,by omega,by omega⟩ ⟨by rw[csb];simp,by omega,by omega,by omega⟩ cfb csb (fun i _=>rfl) (fun h' a' c' ys=>hsum Φ.S h' a' c' ys) hk ?_ n 0 (by omega) a1 _ A1 rest_eq ?_
   ·intro a2 hh A2 hro hbS fr' cs' hB
    refine⟨a2,A2,hB,?_,?_,fun y hy=>?_⟩
    ·exact yG
    ·exact(y9 (show bS≠bC by omega)).trans hbS
    ·exact(y9 hy.2.2.1).trans (hro y hy)
   ·unfold Ph.rest
    rw[if_neg (by rintro(e | e);exact absurd (show bS=wg from e) (by omega);exact absurd (show bS=bC from e) (by omega)),cbS,Uc]
 ·rintro fr' cs' h2 ⟨a2,A2,hB,e1,e2,e3⟩ _ _
  rw[xw]
  refine hB _ _ _ (.Bj ?_)
  have A3:=A2.put 44 (.tuple #[]) (.inr (.inr rfl))
  have i2:Inv (zW Tryz.prog s) h2:=fun y hy=>by
   have x1:=hi y hy
   cases e:h y with
   | none=>exact absurd e x1
   | some o=>
    have x2:=sH y o e
    rw[e3 y ⟨by rw[x2];simp,hne y x1⟩,x2];simp
  have s2:Eng.Sub h h2:=fun y o ho=>by
   have x2:=sH y o ho
   rw[e3 y ⟨by rw[x2];simp,hne y (by rw[ho];simp)⟩];exact x2
  have csb2:h2 sb=some (.cells #[.slice (some ⟨bC,0,none⟩) n n] 67):=by
   rw[e3 sb ⟨by rw[csb];simp,by omega,by omega,by omega⟩];exact csb
  have ha:Ok (zW Tryz.prog s) h2 (fun _=>none):=⟨fun b hb=>absurd rfl hb,i2⟩
  rw[←xw h2]
  refine Qy (cfg:=cP) (f:=yL) (Λ:=yg) (Ks:=[]) EA EB zu hfn Tryz.func32 Y8 (rP 13) (DU 47 [(7,.addr),(8,.slice)]) tZ [.pointer (some ⟨sb,0,none⟩),.slice (some ⟨bS,0,none⟩) n n] [] _ _ h2 [] sZ D2
   (Rel.of ⟨A3.s7,rfl,A3.s8,rfl,trivial⟩ A3.sz A3.df) ha rfl ?_ ⟨?_,?_⟩
  ·simp only[tZ,Tr.wp,Ex.ev,coerce,zf,zi,zg,zh,SV.den,z9,zp,List.getD_cons_zero,List.getD_cons_succ,List.map_cons,List.map_nil,List.cons_append,List.nil_append,and_true,if_false,Bool.false_eq_true]
   refine⟨some ⟨bC,0,none⟩,n,n,by simp[zd,Addr.add,csb2],bC,bS,?_,e1,e2,s2⟩
   rfl
  ·intro _ _ _ _ _ _ _ h;exact h.elim
  ·intro _ _ _ _ _ _ _ _ h;exact h.elim
end Go.Proofs.YtnhbgoiihgoneaaGreatDoor
end
section
namespace Go.Proofs.YtnhbgoiihgoneaaGreatDoor
open Go Go.Eng Go.IntWalk
variable {S : Shared} {h : Eng.Heap}
theorem RD(xs:List Int){n j:Nat}(hn:n=(xs.length+32767)/32768)(hj:j<n):xs.take (min ((j+1)*32768) xs.length)=xs.take (min (j*32768) xs.length)++partOf xs j:=by
 have e1:min (j*32768) xs.length=j*32768:=by omega
 have h1:j*32768≤min ((j+1)*32768) xs.length:=by omega
 have e2:min ((j+1)*32768) xs.length=j*32768+qm xs.length j:=(Nat.add_sub_cancel' h1).symm
 rw[e1,e2,List.take_add]
 simp only[partOf]
end Go.Proofs.YtnhbgoiihgoneaaGreatDoor
end
section
namespace Go.Proofs.YtnhbgoiihgoneaaGreatDoor
open Go Go.Eng Go.IntWalk
section
variable {S : Shared} {h h0 : Eng.Heap} {k : KC} {F : Nat} {Fin : Rd × List Int}
theorem Ug(hi:Eng.Inv S h0)(G:ErrL h0)(hro:k.room≤200000)(hdl:k.dl≤40000)(hsz:1≤k.sz∧k.sz≤32768)(hx:zj h0 .u8 k.a k.bs)(L:k.bs.length≤1048576)(hFl:8*k.bs.length+1≤F){n0:Nat}(H0:Bg h0 k F Fin (fnV k yp) h n0) :
  zc Tryz.prog S kT #[.pointer (some ⟨k.bm,0,none⟩)] h (M6 h0 k Fin):=by
 refine DI (vs:=[.pointer (some ⟨k.bm,0,none⟩)]) ⟨rfl,trivial⟩ (hi.sub (by obtain⟨_,_,hb,_,_,_,s,H,_⟩:=H0;exact s.trans H.sb)) ?_
 simp only[Ar,Tr.wp,zG,Ex.ev,coerce,zb,zh,zB,zZ,SV.den,zq,zL,zE,zo,zn,z9,List.flatMap_cons,List.flatMap_nil,List.getD_cons_zero,List.getD_cons_succ,List.map_cons,List.map_nil,List.cons_append,List.nil_append,List.append_nil,Nat.add_zero,if_false,Bool.false_eq_true,zm]
 refine⟨by simp,by simp,?_⟩
 refine zc.mono (XK hi G hro hdl hsz hx L hFl H0) ?_
 rintro _ h3 ⟨hb,last,l,d,rfl,sb,H3,ok3⟩
 exact⟨_,za,by rw[za],hb,last,l,d,by rw[za],sb,H3,ok3⟩
end
end Go.Proofs.YtnhbgoiihgoneaaGreatDoor
end
section
namespace Go.Proofs.YtnhbgoiihgoneaaGreatDoor
open Go Go.Eng Go.ChangeShapes Go.WideShapes Go.ChangeAt Go.RowKit Go.Conc
theorem XV:Tryz.prog.globalNamed "loop.example/s02972/impl.errSum" = some 0:=by kernel_rfl
theorem WY:(Tryz.prog.globals[(0:Nat)]?).map (·.type)=some tCl:=by kernel_rfl
section
variable {H : Type} {enc : TypeId × Value → H}
theorem EC{a:Assume}{C:Checked}{os:Os}{f:FuncId}{fn:Func}{s:ChangeSpec}{conds:List PathCond}{apart fresh handsOn again:Bool}{X:World→Array Value→Prop}
  (hX:∀(w w':World) (args:Array Value),w.heap=w'.heap→X w args→X w' args)
  (own:ownKnob C.prog.godebug=none)(started:os.Started)(hfn:C.prog.funcs[f]? = some fn)
  (witness:∃(w:World) (tape:Tape) (i:Input),w.os=os∧(w.forCall tape i).Shaped C.prog∧i.vars=[]∧Input.okWide C.prog (w.forCall tape i) .any w.heap.size f i ∧
   ((s.pre enc C.prog fn conds apart (w.forCall tape i).memory i.args∧X (w.forCall tape i).memory i.args)∧sizedMet enc C.prog fn (OpenSpec.ofChange s) apart (w.forCall tape i).memory i.args)∧a.holds C.prog (lone (Frame.enter C.prog f i.args .normal) [] (w.forCall tape i)))
  (runs:∀(W:World) (base:Nat) (args:Array Value) (ds gs:List (DataW H)) (before:List MemPlace),
   (∀(j:Nat) t v,fn.params[j]? = some t→args[j]? = some v→Value.okWide C.prog W .any base t v) →
   DataW.Whole enc C.prog fn.params.toList s.vars apart W args.toList ds gs before →
   conds.all (PathCond.test C.prog ⟨fn.params.toList,ds,s.plain.varTypes C.prog,gs⟩)=true →
   (DataW.weightsEach C.prog (fn.params.toList++s.plain.varTypes C.prog) (ds++gs)).all (· ≤ reachBytes)=true→X W args →
   a.holds C.prog (lone (Frame.enter C.prog f args .normal) [] W) →
   ∃M last o w' t',runNT C.prog (M+1) (solo (G (Frame.enter C.prog f args .normal) []) W) #[]=(.ended o w',t')∧runN C.prog M (solo (G (Frame.enter C.prog f args .normal) []) W)=.next last ∧
    step C.prog last=.ended o w'∧Conc.Good C.prog (fun v W'=>s.post enc C.prog fn apart fresh handsOn again W args v W') last o w' t') :
  ReturnsInLeavingWide a C os f .any (fun w args=>(s.pre enc C.prog fn conds apart w args∧X w args)∧sizedMet enc C.prog fn (OpenSpec.ofChange s) apart w args) (s.post enc C.prog fn apart fresh handsOn again):=by
 refine returnsInLeavingWide_of_good own started witness ?_
 intro w tape i _ _ _ hok hpre hholds
 obtain⟨_,_,_,fn',hfn',_,_,_,_,hval⟩:=hok
 have e:fn'=fn:=Option.some.inj (hfn'.symm.trans hfn)
 subst e
 obtain⟨⟨⟨ds,gs,before,hw,hc⟩,hx⟩,hz⟩:=hpre
 have hw':=DataW.Whole.of_heap (w':=w.forCall tape i) (by rfl) hw
 obtain⟨M,last,o,w',t',h1,h2,h3,h4⟩:=runs (w.forCall tape i) w.heap.size i.args ds gs before hval hw' hc (hz.weights hw) (hX _ _ _ (by rfl) hx) hholds
 exact⟨M,last,o,w',t',h1,h2,h3,h4.mono fun v hp=>ChangeSpec.post_blind hp⟩
end
theorem J5(Lk:Looks){p:Pinned}{s:OpenSpec}{c:OpenClaim}(kinds:List LaidKind)(tests:Bool)(har:Bool×String)(lk:Bool)
  (hc:c.holds p s)(hw:c.wfByText s=true)(htie:c.laidByTextAt Lk p kinds tests)
  (hst:c.start=.entering)(hnb:c.noBlocks=false∧c.again=false)(hm:p.checked.prog.mainIs=some (har.1,har.2.toList))(hn:(!har.1&&har.2.isEmpty && !lk)=false)
  (hl:∀f fn,p.checked.prog.funcNamed c.func=some f→p.checked.prog.funcs[f]? = some fn→lk=p.checked.prog.looks []∧∀(j:Nat) t,fn.params[j]? = some t→p.checked.prog.wantsStandIn t=false)
  (hg:true=c.goesBy p.checked.prog) :
  Claim7.holds p (.plain s) { stood:={ row:=c,standIns:=[],harness:=har,looks:=lk },kinds:=[],alts:=[],laidByText:=true,laidKinds:=kinds,laidTests:=tests,laidLooks:=Lk,goes:=true }:=by
 have h6:∀r:OpenClaim,Claim7.isSixth { stood:={ row:=r,standIns:=[],harness:=har,looks:=lk },kinds:=[] }=false:=fun r=>by simpa[Claim7.isSixth]using hn
 refine⟨?_,fun D hD=>(by cases hD),htie,(fun h=>by cases h),hg⟩
 exact Claim7.tied_new_at Lk kinds tests (Claim7.new_of_sixth hc har lk hst hnb hm (h6 c) hl) hw
end Go.Proofs.YtnhbgoiihgoneaaGreatDoor
end
section
namespace Go.Proofs.YtnhbgoiihgoneaaGreatDoor
open Go Go.Eng Go.IntWalk
def stB(c:BitVec 32):BitVec 32:=if c.getLsbD 0 then(c >>> 1) ^^^ 0xedb88320#32 else c >>> 1
def itB:Nat→BitVec 32→BitVec 32
 | 0,c=>c
 | n+1,c=>itB n (stB c)
def byB(c:BitVec 32)(x:Int):BitVec 32:=itB 8 (c ^^^ BitVec.ofInt 32 x)
def xT(c:BitVec 32)(xs:List Int):BitVec 32 := ~~~ (xs.foldl byB (~~~ c))
theorem V9(a b:BitVec 32):stB (a ^^^ b)=stB a ^^^ stB b:=by
 unfold stB
 rw[BitVec.getLsbD_xor,BitVec.ushiftRight_xor_distrib]
 generalize a >>> 1=u
 generalize b >>> 1=v
 generalize 3988292384#32=k
 cases a.getLsbD 0 <;> cases b.getLsbD 0 <;> simp only[Bool.xor_false,Bool.xor_true,Bool.not_true,Bool.not_false,if_true,if_false,Bool.false_eq_true]
 ·rw[BitVec.xor_assoc]
 ·rw[BitVec.xor_assoc,BitVec.xor_assoc,BitVec.xor_comm v]
 ·rw[BitVec.xor_assoc u k,←BitVec.xor_assoc k v k,BitVec.xor_comm k v,BitVec.xor_assoc v k k,BitVec.xor_self,BitVec.xor_zero]
theorem Kp:∀(n:Nat) (a b:BitVec 32),itB n (a ^^^ b)=itB n a ^^^ itB n b
 | 0,_,_=>rfl
 | n+1,a,b=>by simp only[itB];rw[V9,Kp n]
theorem Kq:∀(n m:Nat) (a:BitVec 32),itB (n+m) a=itB m (itB n a)
 | 0,m,a=>by simp[itB]
 | n+1,m,a=>by rw[show n+1+m=(n+m)+1 by omega];simp only[itB];rw[Kq n m]
theorem CR(n:Nat)(a:BitVec 32):itB (n+1) a=stB (itB n a):=by rw[Kq n 1];rfl
theorem RE:∀(n:Nat) (a:BitVec 32),(∀i,i<n→a.getLsbD i=false)→itB n a=a >>> n
 | 0,a,_=>by simp[itB]
 | n+1,a,h=>by
  have h0:=h 0 (by omega)
  simp only[itB]
  have e:stB a=a >>> 1:=by unfold stB;rw[h0];rfl
  rw[e,RE n _ (fun i hi=>by rw[BitVec.getLsbD_ushiftRight];exact h (1+i) (by omega)),←BitVec.shiftRight_add]
  congr 1;omega
theorem KY(c:BitVec 32)(x:Int)(hx:0≤x∧x<256):(c >>> 8) ^^^ itB 8 ((c &&& 255#32) ^^^ BitVec.ofInt 32 x)=byB c x:=by
 unfold byB
 have e:c=((c >>> 8) <<< 8) ^^^ (c &&& 255#32):=by
  refine BitVec.eq_of_getLsbD_eq fun i hi=>?_
  rw[BitVec.getLsbD_xor,BitVec.getLsbD_shiftLeft,BitVec.getLsbD_ushiftRight,BitVec.getLsbD_and]
  have h255:(255#32).getLsbD i=decide (i<8):=by
   have:∀i:Fin 32,(255#32).getLsbD i.1=decide (i.1<8):=by decide
   exact this ⟨i,hi⟩
  rw[h255]
  by_cases h8:i<8
  ·simp[h8,hi]
  ·simp[h8,hi,show 8+(i-8)=i by omega]
 have e2:itB 8 (c ^^^ BitVec.ofInt 32 x)=itB 8 (((c >>> 8) <<< 8) ^^^ ((c &&& 255#32) ^^^ BitVec.ofInt 32 x)):=by
  rw[←BitVec.xor_assoc,←e]
 rw[e2,Kp 8 ((c >>> 8) <<< 8),RE 8 ((c >>> 8) <<< 8) (fun i hi=>by rw[BitVec.getLsbD_shiftLeft];simp[hi])]
 congr 1
 refine BitVec.eq_of_getLsbD_eq fun i hi=>?_
 rw[BitVec.getLsbD_ushiftRight,BitVec.getLsbD_ushiftRight,BitVec.getLsbD_shiftLeft,BitVec.getLsbD_ushiftRight]
 by_cases h:8+i<32
 ·simp[h]
 ·simp[h];exact BitVec.getLsbD_of_ge _ _ (by omega)
theorem VA(a d:BitVec 32)(x:Int):byB (a ^^^ d) x=byB a x ^^^ itB 8 d:=by
 unfold byB
 rw[BitVec.xor_assoc,BitVec.xor_comm d,←BitVec.xor_assoc,Kp]
theorem ML:∀(ys:List Int) (a d:BitVec 32),ys.foldl byB (a ^^^ d)=ys.foldl byB a ^^^ itB (8*ys.length) d
 | [],a,d=>rfl
 | y::ys,a,d=>by
  rw[List.foldl_cons,VA,ML ys,List.foldl_cons,List.length_cons,show 8*(ys.length+1)=8+8*ys.length by omega,Kq]
theorem Uh(c:BitVec 32)(xs ys:List Int):xT (xT c xs) ys=xT c (xs++ys):=by
 unfold xT;rw[List.foldl_append,BitVec.not_not]
theorem NK(c:BitVec 32)(ys:List Int):itB (8*ys.length) c ^^^ xT 0#32 ys=xT c ys:=by
 unfold xT
 have e : ~~~ c = ~~~ (0#32) ^^^ c:=by
  rw[show ~~~ (0#32)=BitVec.allOnes 32 by decide,BitVec.allOnes_xor]
 rw[e,ML]
 refine BitVec.eq_of_getLsbD_eq fun i hi=>?_
 simp only[BitVec.getLsbD_xor,BitVec.getLsbD_not,hi,decide_true,Bool.true_and]
 cases (itB (8*ys.length) c).getLsbD i <;> cases ((ys.foldl byB (~~~ 0#32)).getLsbD i) <;> rfl
theorem G9(b:BitVec 32):BitVec.ofInt 32 (b.toNat:Int)=b:=by
 rw[BitVec.ofInt_natCast,BitVec.ofNat_toNat,BitVec.setWidth_eq]
theorem XW(b:BitVec 32):(0:Int)≤b.toNat∧(b.toNat:Int)<4294967296:=by have:=b.isLt;omega
theorem Ho(b:BitVec 32):IntKind.u32.wrap (b.toNat:Int)=b.toNat:=by have:=b.isLt;rw[IntKind.wrap_u32];omega
theorem GA(a b:BitVec 32):Go.bits .xor .u32 (a.toNat:Int) (b.toNat:Int)=((a ^^^ b).toNat:Int):=by
 show IntKind.u32.wrap ((BitVec.ofInt 32 (a.toNat:Int) ^^^ BitVec.ofInt 32 (b.toNat:Int)).toNat:Int)=_
 rw[G9,G9,Ho]
theorem xor_bv'(a:BitVec 32)(x:Int):Go.bits .xor .u32 (a.toNat:Int) x=((a ^^^ BitVec.ofInt 32 x).toNat:Int):=by
 show IntKind.u32.wrap ((BitVec.ofInt 32 (a.toNat:Int) ^^^ BitVec.ofInt 32 x).toNat:Int)=_
 rw[G9,Ho]
theorem ED(a:BitVec 32):Go.bits .xor .u32 (4294967295:Int) (a.toNat:Int)=((~~~ a).toNat:Int):=by
 show IntKind.u32.wrap ((BitVec.ofInt 32 (4294967295:Int) ^^^ BitVec.ofInt 32 (a.toNat:Int)).toNat:Int)=_
 rw[G9,Ho,show BitVec.ofInt 32 (4294967295:Int)=BitVec.allOnes 32 by decide,BitVec.allOnes_xor]
theorem J6(a:BitVec 32)(k:Nat):Int.fdiv (a.toNat:Int) (2^k)=((a >>> k).toNat:Int):=by
 rw[Int.fdiv_eq_ediv_of_nonneg _ (by exact_mod_cast Nat.zero_le _),BitVec.toNat_ushiftRight,Nat.shiftRight_eq_div_pow]
 push_cast;rfl
theorem J7(a:BitVec 32):a.getLsbD 0=decide (a.toNat%2=1):=by
 rw[BitVec.getLsbD,Nat.testBit_zero]
theorem VB(a:BitVec 32):Go.bits .and .u32 (a.toNat:Int) 1=((a.toNat%2:Nat):Int):=by
 show IntKind.u32.wrap ((BitVec.ofInt 32 (a.toNat:Int) &&& BitVec.ofInt 32 1).toNat:Int)=_
 rw[G9,Ho,BitVec.toNat_and,show(BitVec.ofInt 32 1).toNat=1 by decide,Nat.and_one_is_mod]
theorem RF(c:BitVec 32){x:Int}(hx:0≤x∧x<256):Go.bits .xor .u8 (IntKind.u8.wrap (c.toNat:Int)) x=(((c &&& 255#32) ^^^ BitVec.ofInt 32 x).toNat:Int)∧((c &&& 255#32) ^^^ BitVec.ofInt 32 x).toNat<256:=by
 obtain⟨n,rfl⟩:=Int.eq_ofNat_of_zero_le hx.1
 have hn:n<256:=by omega
 have h1:(c &&& 255#32).toNat=c.toNat%256:=by
  rw[BitVec.toNat_and,show(255#32).toNat=2^8-1 by decide,Nat.and_two_pow_sub_one_eq_mod]
 have h2:(BitVec.ofInt 32 (n:Int)).toNat=n:=by rw[BitVec.ofInt_natCast,BitVec.toNat_ofNat,Nat.mod_eq_of_lt (by omega)]
 have h3:((c &&& 255#32) ^^^ BitVec.ofInt 32 (n:Int)).toNat<256:=by
  rw[BitVec.toNat_xor,h1,h2];exact Nat.xor_lt_two_pow (n:=8) (by omega) hn
 refine⟨?_,h3⟩
 have w1:IntKind.u8.wrap (c.toNat:Int)=((c.toNat%256:Nat):Int):=by rw[IntKind.wrap_u8];omega
 show IntKind.u8.wrap ((BitVec.ofInt 8 (IntKind.u8.wrap (c.toNat:Int)) ^^^ BitVec.ofInt 8 (n:Int)).toNat:Int)=_
 rw[w1,BitVec.ofInt_natCast,BitVec.ofInt_natCast,BitVec.toNat_xor,BitVec.toNat_ofNat,BitVec.toNat_ofNat,BitVec.toNat_xor,h1,h2,Nat.mod_eq_of_lt (show c.toNat%256<2^8 by omega),Nat.mod_eq_of_lt (show n<2^8 by omega)]
 rw[BitVec.toNat_xor,h1,h2]at h3
 rw[IntKind.wrap_u8];omega
end Go.Proofs.YtnhbgoiihgoneaaGreatDoor
end
section
namespace Go.Proofs.YtnhbgoiihgoneaaGreatDoor
open Go Go.Eng Go.IntWalk
def AB(xs:List Int):Int:=((xT 0#32 xs).toNat:Int)
def byL(bs:List Int):Nat→Rd→List Int→Rd×List Int
 | 0,r,acc=>(r,acc)
 | n+1,r,acc=>if r.k=0 then(if(tk bs 8 r).1.k=0 then byL bs n (tk bs 8 r).1 (acc++[(tk bs 8 r).2])else((tk bs 8 r).1,acc))else(r,acc)
def txL(bs:List Int):Nat→Rd→List Int→Rd×List Int
 | 0,r,acc=>(r,acc)
 | f+1,r,acc=>if r.k=0 then(if(tk bs 8 r).2=0 then((tk bs 8 r).1,acc)else txL bs f (tk bs 8 r).1 (acc++[(tk bs 8 r).2]))else(r,acc)
def gh1(bs:List Int)(r:Rd):Rd:=bd ((tk bs 8 r).2 != 31) (tk bs 8 r).1
def gh2(bs:List Int)(r:Rd):Rd:=bd ((tk bs 8 (gh1 bs r)).2 != 139) (tk bs 8 (gh1 bs r)).1
def gh3(bs:List Int)(r:Rd):Rd:=bd ((tk bs 8 (gh2 bs r)).2 != 8) (tk bs 8 (gh2 bs r)).1
def gFl(bs:List Int)(r:Rd):Int:=(tk bs 8 (gh3 bs r)).2
def gh4(bs:List Int)(r:Rd):Rd:=bd (decide (31<gFl bs r)) (tk bs 8 (gh3 bs r)).1
def gMt(bs:List Int)(r:Rd):Rd×Int:=tk bs 32 (gh4 bs r)
def gXf(bs:List Int)(r:Rd):Rd×Int:=tk bs 8 (gMt bs r).1
def gOs(bs:List Int)(r:Rd):Rd×Int:=tk bs 8 (gXf bs r).1
def gEx(bs:List Int)(r:Rd):Rd×List Int:=if gFl bs r/4%2=1 then byL bs (tk bs 16 (gOs bs r).1).2.toNat (tk bs 16 (gOs bs r).1).1 []else((gOs bs r).1,[])
def gNa(bs:List Int)(r:Rd):Rd×List Int:=if gFl bs r/8%2=1 then txL bs (bs.length+1) (gEx bs r).1 []else((gEx bs r).1,[])
def gCo(bs:List Int)(r:Rd):Rd×List Int:=if gFl bs r/16%2=1 then txL bs (bs.length+1) (gNa bs r).1 []else((gNa bs r).1,[])
def gHb(bs:List Int)(r:Rd):List Int:=(bs.take ((gCo bs r).1.i/8).toNat).drop (r.i/8).toNat
def gHd(bs:List Int)(r:Rd):Rd:=
 if gFl bs r/2%2=1∧(gCo bs r).1.k=0 then bdK 4 ((tk bs 16 (gCo bs r).1).2 != AB (gHb bs r)%65536) (tk bs 16 (gCo bs r).1).1 else(gCo bs r).1
def gSt(bs:List Int)(told:Nat)(r:Rd):Rd×List Int:=blF bs 0 (100000-told) 32768 (8*bs.length+1) (8*bs.length+1) (gHd bs r) []
def gT1(bs:List Int)(told:Nat)(r:Rd):Rd×Int:=tk bs 32 (alg (gSt bs told r).1)
def gC1(bs:List Int)(told:Nat)(r:Rd):Rd:=bdK 4 ((gT1 bs told r).2 != AB (gSt bs told r).2) (gT1 bs told r).1
def gT2(bs:List Int)(told:Nat)(r:Rd):Rd×Int:=tk bs 32 (gC1 bs told r)
def gC2(bs:List Int)(told:Nat)(r:Rd):Rd:=bdK 4 ((gT2 bs told r).2 != ((gSt bs told r).2.length:Int)) (gT2 bs told r).1
abbrev GM:=Int×Int×Int×Int×List Int×List Int×List Int×Int
def qd(bs:List Int)(told:Nat)(r:Rd):GM:=(gFl bs r,(gMt bs r).2,(gXf bs r).2,(gOs bs r).2,(gEx bs r).2,(gNa bs r).2,(gCo bs r).2,((gSt bs told r).2.length:Int))
def gZ(bs:List Int):Nat→Rd→List Int→List GM→Rd×List Int×List GM
 | 0,r,out,ms=>(r,out,ms)
 | f+1,r,out,ms=>if r.k=0∧(r.i<8*(bs.length:Int)∨ms=[])then
   gZ bs f (gC2 bs out.length r) (out++(gSt bs out.length r).2) (if(gC2 bs out.length r).k=0 then ms++[qd bs out.length r]else ms)
  else(r,out,ms)
def Fl(bs:List Int):Rd×List Int×List GM:=gZ bs (bs.length+2) ⟨0,0⟩ [] []
section
variable {bs : List Int} {r : Rd}
theorem RG:∀ {n:Nat} {r:Rd} {acc:List Int},okR bs r→okR bs (byL bs n r acc).1
 | 0,r,acc,H=>H
 | n+1,r,acc,H=>by
  unfold byL;split
  ·split
   ·exact RG (yU H)
   ·exact yU H
  ·exact H
theorem MM:∀ {n:Nat} {r:Rd} {acc:List Int},okR bs r→okR bs (txL bs n r acc).1
 | 0,r,acc,H=>H
 | n+1,r,acc,H=>by
  unfold txL;split
  ·split
   ·exact yU H
   ·exact MM (yU H)
  ·exact H
theorem WZ(H:okR bs r):okR bs (gh1 bs r):=Bf (yU H)
theorem Xa(H:okR bs r):okR bs (gh2 bs r):=Bf (yU (WZ H))
theorem Xb(H:okR bs r):okR bs (gh3 bs r):=Bf (yU (Xa H))
theorem Xc(H:okR bs r):okR bs (gh4 bs r):=Bf (yU (Xb H))
theorem Xd(H:okR bs r):okR bs (gMt bs r).1:=yU (Xc H)
theorem Xe(H:okR bs r):okR bs (gXf bs r).1:=yU (Xd H)
theorem RH(H:okR bs r):okR bs (gOs bs r).1:=yU (Xe H)
theorem RI(H:okR bs r):okR bs (gEx bs r).1:=by
 unfold gEx;split
 ·exact RG (yU (RH H))
 ·exact RH H
theorem RJ(H:okR bs r):okR bs (gNa bs r).1:=by
 unfold gNa;split
 ·exact MM (RI H)
 ·exact RI H
theorem RK(H:okR bs r):okR bs (gCo bs r).1:=by
 unfold gCo;split
 ·exact MM (RJ H)
 ·exact RJ H
theorem Xf(H:okR bs r):okR bs (gHd bs r):=by
 unfold gHd;split
 ·exact W4 (by decide) (yU (RK H))
 ·exact RK H
theorem VC:0≤gFl bs r∧gFl bs r<256:=by
 have:=yD (bs:=bs) (n:=8) (r:=gh3 bs r)
 have e8:(2:Int)^8=256:=by decide
 rw[e8]at this;exact this
end
end Go.Proofs.YtnhbgoiihgoneaaGreatDoor
end
section
namespace Go.Proofs.YtnhbgoiihgoneaaGreatDoor
open Go Go.Eng Go.IntWalk
variable {S : Shared} {h : Eng.Heap}
def bvI(b:BitVec 32):Value:=.int .u32 b.toNat
theorem Bi(hi:Eng.Inv S h)(b:BitVec 32):zc Tryz.prog S w7 #[bvI b] h (fun v h'=>v=bvI (stB b)∧h'=h):=by
 refine Ll (vs:=[bvI b]) ⟨rfl,trivial⟩ hi ?_
 simp only[HK,bvI,Tr.wp,Ex.ev,coerce,toInt_int,zb,zI,arith,Cst.val,SV.den,List.getD_cons_zero,and_true]
 have e1:∀x:Int,Int.fdiv x (2^(min (1:Int).toNat IntKind.u32.bits))=Int.fdiv x (2^1):=fun x=>rfl
 rw[VB]
 refine⟨fun c=>?_,fun c=>?_⟩
 ·have hb:b.getLsbD 0=true:=by rw[J7];simp at c ⊢;omega
  rw[e1,J6,show(3988292384:Int)=((3988292384#32).toNat:Int) by decide,GA]
  unfold stB;rw[hb];rfl
 ·have hb:b.getLsbD 0=false:=by rw[J7];simp at c ⊢;omega
  rw[e1,J6]
  unfold stB;rw[hb];rfl
theorem Lo(hi:Eng.Inv S h)(b:BitVec 32):zc Tryz.prog S B9 #[bvI b] h (fun v h'=>v=bvI (stB b)∧h'=h):=by
 refine Jk (vs:=[bvI b]) ⟨rfl,trivial⟩ hi ?_
 simp only[F3,bvI,Tr.wp,Ex.ev,coerce,toInt_int,zb,zI,arith,Cst.val,SV.den,List.getD_cons_zero,and_true]
 have hlt:=XW b
 have e1:(b.toNat:Int).tmod 2=(b.toNat:Int)%2:=Int.tmod_eq_emod_of_nonneg (by omega)
 have e2:IntKind.u32.wrap ((b.toNat:Int).tdiv 2)=((b >>> 1).toNat:Int):=by
  rw[Int.tdiv_eq_ediv_of_nonneg (by omega),IntKind.wrap_u32,BitVec.toNat_ushiftRight,Nat.shiftRight_eq_div_pow];omega
 rw[e1,e2]
 refine⟨fun c=>?_,fun c=>?_⟩
 ·have hb:b.getLsbD 0=true:=by rw[J7];simp at c ⊢;omega
  rw[show(3988292384:Int)=((3988292384#32).toNat:Int) by decide,GA]
  unfold stB;rw[hb];rfl
 ·have hb:b.getLsbD 0=false:=by rw[J7];simp at c ⊢;omega
  unfold stB;rw[hb];rfl
theorem I2(c:BitVec 32){xs:List Int}{i:Nat}(hi:i<xs.length):(xs.take (i+1)).foldl byB c=itB 8 ((xs.take i).foldl byB c ^^^ BitVec.ofInt 32 xs[i]):=Gx byB c hi
theorem GB{x:Int}(hx:0≤x∧x<256):IntKind.u32.wrap x=x:=by rw[IntKind.wrap_u32];omega
theorem CS(hi:Eng.Inv S h)(b:BitVec 32)(a:Option Addr)(c:Nat)(xs:List Int)(hx:zj h .u8 a xs)(hb:∀x∈xs,0≤x∧x<256)(hl:xs.length≤2^48) :
  zc Tryz.prog S kO #[bvI b,.slice a xs.length c] h (fun v h'=>v=bvI (xT b xs)∧h'=h):=by
 refine Gi (vs:=[bvI b,.slice a xs.length c]) ⟨rfl,rfl,trivial⟩ hi ?_
 simp only[C9,bvI,Tr.wp,zG,Ex.ev,coerce,toInt_int,zb,zf,zi,zg,zh,yi,zI,arith,Cst.val,SV.den,zq,zL,zE,zo,zn,z9,zU,zp,List.flatMap_cons,List.flatMap_nil,List.getD_cons_zero,List.getD_cons_succ,List.getElem?_cons_zero,List.getElem?_cons_succ,decide_eq_true_eq,decide_eq_false_iff_not,List.map_cons,List.map_nil,List.cons_append,List.nil_append,List.append_nil,and_true,if_false,Bool.false_eq_true,ED]
 refine⟨fun us h'=>∃i:Nat,us=[bvI ((xs.take i).foldl byB (~~~ b)),.int .i64 i]∧i≤xs.length∧h'=h,
  fun us _=>xs.length-(toInt (us.getD 1 undef)).toNat,⟨0,rfl,by omega,rfl⟩,?_⟩
 rintro x y h' ⟨i,hx1,hi2,rfl⟩
 simp only[bvI,List.cons.injEq,Value.int.injEq,true_and,and_true]at hx1
 obtain⟨rfl,rfl⟩:=hx1
 refine⟨fun hlt=>?_,fun hge=>?_⟩
 ·have hi3:i<xs.length:=by omega
  have hbi:=hb _ (List.getElem_mem hi3)
  obtain⟨g1,g2⟩:=hx.cell (List.getElem?_eq_getElem hi3)
  have w2:IntKind.i64.wrap ((i:Int)+1)=((i+1:Nat):Int):=by rw[i64_in _ (by omega)];omega
  refine⟨by simpa using g2,by omega,by omega,xs[i],by simpa[add_add]using g1,?_⟩
  rw[GB hbi,xor_bv']
  refine⟨fun us h2=>∃k:Nat,us=[bvI (itB k ((xs.take i).foldl byB (~~~ b) ^^^ BitVec.ofInt 32 xs[i])),.int .i64 k]∧k≤8∧h2=h',
   fun us _=>8-(toInt (us.getD 1 undef)).toNat,⟨0,rfl,by omega,rfl⟩,?_⟩
  rintro x y h2 ⟨k,hx1,hk,rfl⟩
  simp only[bvI,List.cons.injEq,Value.int.injEq,true_and,and_true]at hx1
  obtain⟨rfl,rfl⟩:=hx1
  refine⟨fun hlt2=>?_,fun hge=>?_⟩
  ·refine(Lo hi _).mono ?_
   rintro _ h3 ⟨rfl,rfl⟩
   have w3:IntKind.i64.wrap ((k:Int)+1)=((k+1:Nat):Int):=by rw[i64_in _ (by omega)];omega
   refine⟨_,rfl,⟨k+1,?_,by omega,rfl⟩,?_⟩
   ·rw[w3,CR];rfl
   ·simp only[w3,List.getD_cons_succ,List.getD_cons_zero,toInt_int,Int.toNat_natCast];omega
  ·obtain rfl:k=8:=by omega
   refine⟨⟨i+1,?_,by omega,rfl⟩,?_⟩
   ·rw[w2,I2 _ hi3];rfl
   ·simp only[w2,List.getD_cons_succ,List.getD_cons_zero,toInt_int,Int.toNat_natCast];omega
 ·obtain rfl:i=xs.length:=by omega
  refine⟨?_,rfl⟩
  rw[List.take_length,ED];rfl
end Go.Proofs.YtnhbgoiihgoneaaGreatDoor
end
section
namespace Go.Proofs.YtnhbgoiihgoneaaGreatDoor
open Go Go.Eng Go.IntWalk
variable {S : Shared} {h : Eng.Heap}
def j9(i:Nat):List Int:=(List.range 256).map fun j=>if j<i then((itB 8 (BitVec.ofNat 32 j)).toNat:Int)else 0
theorem MN(i:Nat):(j9 i).length=256:=by simp[j9]
theorem RL:j9 0=List.replicate 256 0:=by
 refine List.ext_getElem? fun j=>?_
 unfold j9
 rw[List.getElem?_map,List.getElem?_replicate]
 by_cases h:j<256
 ·simp[h]
 ·simp[h]
theorem RM{i:Nat}(hi:i<256):(j9 i).set i ((itB 8 (BitVec.ofNat 32 i)).toNat:Int)=j9 (i+1):=by
 refine List.ext_getElem? fun j=>?_
 rw[List.getElem?_set]
 unfold j9
 simp only[List.length_map,List.length_range,List.getElem?_map]
 by_cases h:i=j
 ·subst h;simp[hi]
 ·simp only[h,if_false]
  by_cases hj:j<256
  ·have:(j<i)↔(j<i+1):=by omega
   simp[hj,this]
  ·simp[hj]
theorem Ui{j:Nat}(hj:j<256):(j9 256)[j]? = some ((itB 8 (BitVec.ofNat 32 j)).toNat:Int):=by
 unfold j9;simp[hj]
theorem Xg{k:IntKind}{b:Nat}{T:TypeId}{n:Nat}{vs:List Value}{K:Eng.Heap→Prop}{h0:Eng.Heap}(hb:h0 b=some (.cells (Eng.ints k (List.replicate n 0)) T))(hs:¬S b)(e:vs=(List.replicate n 0).map (Value.int k))(hK:K h0) :
  zO S ⟨b,0,none⟩ 0 vs h0 K:=by
 subst e
 refine jS hs (List.replicate n 0) 0 h0 (List.replicate n 0) hb (by simp) ?_
 have:xP (List.replicate n (0:Int)) (0+0) (List.replicate n 0)=List.replicate n 0:=by simp[xP]
 rw[this,kM hb];exact hK
theorem J8(hi:Eng.Inv S h)(b0:BitVec 32)(a:Option Addr)(c:Nat)(xs:List Int)(hx:zj h .u8 a xs)(hb:∀x∈xs,0≤x∧x<256)(hl:xs.length≤2^48) :
  zc Tryz.prog S BR #[bvI b0,.slice a xs.length c] h (fun v h'=>v=bvI (xT b0 xs)∧Eng.Sub h h'):=by
 refine Mi (vs:=[bvI b0,.slice a xs.length c]) ⟨rfl,rfl,trivial⟩ hi ?_
 unfold Jj
 refine fun b hnb=>?_
 have hsb:¬S b:=EO hi hnb
 have eb:yo [bvI b0,.slice a xs.length c] [(256,(.cst (.int .u32 0)))]=(List.replicate 256 (0:Int)).map (Value.int .u32):=by
  simp[yo,Ex.ev,Cst.val]
 rw[eb]
 refine Xg (k:=.u32) (n:=256) (b:=b) upd_same hsb (by rfl) ?_
 have s0:∀o,Eng.Sub h (upd h b o):=fun o=>Sub.zC hnb
 have hread:∀i,zj (upd h b (.cells (Eng.ints .u32 (j9 i)) 93)) .u8 a xs:=fun i=>hx.upd hnb
 have hinv:∀i,Eng.Inv S (upd h b (.cells (Eng.ints .u32 (j9 i)) 93)):=fun i=>hi.upd
 have gen:∀q:BitVec 32,q.toNat<256→zd (upd h b (.cells (Eng.ints .u32 (j9 256)) 93)) (((⟨b,0,none⟩:Addr).add ((q.toNat:Int).toNat*1)).add 0)=some (.int .u32 ((itB 8 (BitVec.ofNat 32 q.toNat)).toNat:Int)):=fun q hq=>by
  have g3:=Ui hq
  generalize ((itB 8 (BitVec.ofNat 32 q.toNat)).toNat:Int)=e at g3 ⊢
  rw[add_add,ye]
  simp[zd,upd_same,Eng.ints,g3]
 have ez:upd h b (.cells (List.map (Value.int .u32) (List.replicate 256 0)).toArray 93)=upd h b (.cells (Eng.ints .u32 (j9 0)) 93):=by rw[RL];rfl
 simp only[Tr.wp,zG,Ex.ev,coerce,toInt_int,zb,zf,zi,zg,zh,yi,zI,arith,Cst.val,SV.den,zq,zL,zE,zo,zn,z9,zU,zp,List.flatMap_cons,List.flatMap_nil,List.getD_cons_zero,List.getD_cons_succ,List.getElem?_cons_zero,List.getElem?_cons_succ,decide_eq_true_eq,decide_eq_false_iff_not,List.map_cons,List.map_nil,List.cons_append,List.nil_append,List.append_nil,and_true,if_false,Bool.false_eq_true]
 refine⟨fun h64=>⟨fun us h'=>∃i:Nat,us=[.int .i64 i]∧i≤256∧h'=upd h b (.cells (Eng.ints .u32 (j9 i)) 93),fun us _=>256-(toInt (us.getD 0 undef)).toNat,⟨0,rfl,by omega,ez⟩,?_⟩,fun hlt _=>?_⟩
 ·rintro x h' ⟨j,hx1,hi2,rfl⟩
  simp only[List.cons.injEq,Value.int.injEq,true_and,and_true]at hx1
  subst hx1
  refine⟨fun hlt=>?_,fun hge _=>?_⟩
  ·have hi3:j<256:=by omega
   have w0:IntKind.u32.wrap (j:Int)=((BitVec.ofNat 32 j).toNat:Int):=by rw[IntKind.wrap_u32,BitVec.toNat_ofNat];omega
   rw[w0]
   have w2:IntKind.i64.wrap ((j:Int)+1)=((j+1:Nat):Int):=by rw[i64_in _ (by omega)];omega
   refine⟨fun us h2=>∃k:Nat,us=[bvI (itB k (BitVec.ofNat 32 j)),.int .i64 k]∧k≤8∧h2=upd h b (.cells (Eng.ints .u32 (j9 j)) 93),
    fun us _=>8-(toInt (us.getD 1 undef)).toNat,⟨0,rfl,by omega,rfl⟩,?_⟩
   rintro x y h2 ⟨k,hx1,hk,rfl⟩
   simp only[bvI,List.cons.injEq,Value.int.injEq,true_and,and_true]at hx1
   obtain⟨rfl,rfl⟩:=hx1
   refine⟨fun hlt2=>?_,fun hge=>?_⟩
   ·refine(Bi (hinv j) _).mono ?_
    rintro _ h3 ⟨rfl,rfl⟩
    have w3:IntKind.i64.wrap ((k:Int)+1)=((k+1:Nat):Int):=by rw[i64_in _ (by omega)];omega
    refine⟨_,rfl,⟨k+1,?_,by omega,rfl⟩,?_⟩
    ·rw[w3,CR];rfl
    ·simp only[w3,List.getD_cons_succ,List.getD_cons_zero,toInt_int,Int.toNat_natCast];omega
   ·obtain rfl:k=8:=by omega
    refine⟨by omega,by omega,?_⟩
    rw[ye]
    refine jS (T:=93) (k:=.u32) hsb [((itB 8 (BitVec.ofNat 32 j)).toNat:Int)] 0 _ (j9 j) upd_same (by simp[MN];omega) ?_
    rw[yY]
    have es:xP (j9 j) ((j:Int).toNat*1+0) [((itB 8 (BitVec.ofNat 32 j)).toNat:Int)]=j9 (j+1):=by
     rw[←RM hi3,show(j:Int).toNat*1+0=j by omega]
     unfold xP
     rw[List.set_eq_take_append_cons_drop,if_pos (by rw[MN];exact hi3)]
     simp
    rw[es,w2]
    refine⟨⟨j+1,rfl,by omega,rfl⟩,?_⟩
    simp only[List.getD_cons_zero,toInt_int,Int.toNat_natCast];omega
  ·have hj:64≤xs.length→j=256:=fun _=>by omega
   refine⟨fun us h'=>∃i:Nat,us=[bvI ((xs.take i).foldl byB (~~~ b0)),.int .i64 i]∧i≤xs.length∧h'=upd h b (.cells (Eng.ints .u32 (j9 j)) 93),
    fun us _=>xs.length-(toInt (us.getD 1 undef)).toNat,⟨0,by simp only[bvI,toInt_int,ED];rfl,by omega,rfl⟩,?_⟩
   rintro x y h' ⟨i,hx1,hi2,rfl⟩
   simp only[bvI,List.cons.injEq,Value.int.injEq,true_and,and_true]at hx1
   obtain⟨rfl,rfl⟩:=hx1
   refine⟨fun hlt=>?_,fun hge=>?_⟩
   ·have hi3:i<xs.length:=by omega
    have hbi:=hb _ (List.getElem_mem hi3)
    obtain⟨g1,g2⟩:=(hread j).cell (List.getElem?_eq_getElem hi3)
    have w2:IntKind.i64.wrap ((i:Int)+1)=((i+1:Nat):Int):=by rw[i64_in _ (by omega)];omega
    refine⟨by simpa using g2,by omega,by omega,xs[i],by simpa[add_add]using g1,fun h64=>?_,fun h64=>?_⟩
    ·obtain rfl:=hj (by omega)
     obtain⟨l1,l2⟩:=RF ((xs.take i).foldl byB (~~~ b0)) hbi
     rw[l1]
     generalize hz:((xs.take i).foldl byB (~~~ b0))=z at l1 l2 ⊢
     refine⟨by omega,by omega,((itB 8 (BitVec.ofNat 32 ((z &&& 255#32) ^^^ BitVec.ofInt 32 xs[i]).toNat)).toNat:Int),?_,?_⟩
     ·exact gen _ l2
     ·have e8:Int.fdiv (z.toNat:Int) (2^min (Int.toNat 8) IntKind.u32.bits)=((z >>> 8).toNat:Int):=J6 z 8
      rw[BitVec.ofNat_toNat,BitVec.setWidth_eq,e8,GA,KY z xs[i] hbi,w2]
      refine⟨⟨i+1,?_,by omega,rfl⟩,?_⟩
      ·rw[Gx byB (~~~ b0) hi3,hz];rfl
      ·simp only[List.getD_cons_succ,List.getD_cons_zero,toInt_int,Int.toNat_natCast];omega
    ·rw[GB hbi,xor_bv']
     refine⟨fun us h2=>∃k:Nat,us=[bvI (itB k ((xs.take i).foldl byB (~~~ b0) ^^^ BitVec.ofInt 32 xs[i])),.int .i64 k]∧k≤8∧h2=upd h b (.cells (Eng.ints .u32 (j9 j)) 93),
      fun us _=>8-(toInt (us.getD 1 undef)).toNat,⟨0,rfl,by omega,rfl⟩,?_⟩
     rintro x y h2 ⟨k,hx1,hk,rfl⟩
     simp only[bvI,List.cons.injEq,Value.int.injEq,true_and,and_true]at hx1
     obtain⟨rfl,rfl⟩:=hx1
     refine⟨fun hlt2=>?_,fun hge=>?_⟩
     ·refine(Bi (hinv j) _).mono ?_
      rintro _ h3 ⟨rfl,rfl⟩
      have w3:IntKind.i64.wrap ((k:Int)+1)=((k+1:Nat):Int):=by rw[i64_in _ (by omega)];omega
      refine⟨_,rfl,⟨k+1,?_,by omega,rfl⟩,?_⟩
      ·rw[w3,CR];rfl
      ·simp only[w3,List.getD_cons_succ,List.getD_cons_zero,toInt_int,Int.toNat_natCast];omega
     ·obtain rfl:k=8:=by omega
      refine⟨⟨i+1,?_,by omega,rfl⟩,?_⟩
      ·rw[w2,I2 _ hi3];rfl
      ·simp only[w2,List.getD_cons_succ,List.getD_cons_zero,toInt_int,Int.toNat_natCast];omega
   ·obtain rfl:i=xs.length:=by omega
    refine⟨?_,s0 _⟩
    rw[List.take_length,ED];rfl
 ·obtain⟨j,hj,e⟩:∃j,(64≤xs.length→j=256)∧upd h b (.cells (List.map (Value.int .u32) (List.replicate 256 0)).toArray 93)=upd h b (.cells (Eng.ints .u32 (j9 j)) 93):=⟨0,by omega,ez⟩
  rw[e]
  refine⟨fun us h'=>∃i:Nat,us=[bvI ((xs.take i).foldl byB (~~~ b0)),.int .i64 i]∧i≤xs.length∧h'=upd h b (.cells (Eng.ints .u32 (j9 j)) 93),
   fun us _=>xs.length-(toInt (us.getD 1 undef)).toNat,⟨0,by simp only[bvI,toInt_int,ED];rfl,by omega,rfl⟩,?_⟩
  rintro x y h' ⟨i,hx1,hi2,rfl⟩
  simp only[bvI,List.cons.injEq,Value.int.injEq,true_and,and_true]at hx1
  obtain⟨rfl,rfl⟩:=hx1
  refine⟨fun hlt=>?_,fun hge=>?_⟩
  ·have hi3:i<xs.length:=by omega
   have hbi:=hb _ (List.getElem_mem hi3)
   obtain⟨g1,g2⟩:=(hread j).cell (List.getElem?_eq_getElem hi3)
   have w2:IntKind.i64.wrap ((i:Int)+1)=((i+1:Nat):Int):=by rw[i64_in _ (by omega)];omega
   refine⟨by simpa using g2,by omega,by omega,xs[i],by simpa[add_add]using g1,fun h64=>?_,fun h64=>?_⟩
   ·obtain rfl:=hj (by omega)
    obtain⟨l1,l2⟩:=RF ((xs.take i).foldl byB (~~~ b0)) hbi
    rw[l1]
    generalize hz:((xs.take i).foldl byB (~~~ b0))=z at l1 l2 ⊢
    refine⟨by omega,by omega,((itB 8 (BitVec.ofNat 32 ((z &&& 255#32) ^^^ BitVec.ofInt 32 xs[i]).toNat)).toNat:Int),?_,?_⟩
    ·exact gen _ l2
    ·have e8:Int.fdiv (z.toNat:Int) (2^min (Int.toNat 8) IntKind.u32.bits)=((z >>> 8).toNat:Int):=J6 z 8
     rw[BitVec.ofNat_toNat,BitVec.setWidth_eq,e8,GA,KY z xs[i] hbi,w2]
     refine⟨⟨i+1,?_,by omega,rfl⟩,?_⟩
     ·rw[Gx byB (~~~ b0) hi3,hz];rfl
     ·simp only[List.getD_cons_succ,List.getD_cons_zero,toInt_int,Int.toNat_natCast];omega
   ·rw[GB hbi,xor_bv']
    refine⟨fun us h2=>∃k:Nat,us=[bvI (itB k ((xs.take i).foldl byB (~~~ b0) ^^^ BitVec.ofInt 32 xs[i])),.int .i64 k]∧k≤8∧h2=upd h b (.cells (Eng.ints .u32 (j9 j)) 93),
     fun us _=>8-(toInt (us.getD 1 undef)).toNat,⟨0,rfl,by omega,rfl⟩,?_⟩
    rintro x y h2 ⟨k,hx1,hk,rfl⟩
    simp only[bvI,List.cons.injEq,Value.int.injEq,true_and,and_true]at hx1
    obtain⟨rfl,rfl⟩:=hx1
    refine⟨fun hlt2=>?_,fun hge=>?_⟩
    ·refine(Bi (hinv j) _).mono ?_
     rintro _ h3 ⟨rfl,rfl⟩
     have w3:IntKind.i64.wrap ((k:Int)+1)=((k+1:Nat):Int):=by rw[i64_in _ (by omega)];omega
     refine⟨_,rfl,⟨k+1,?_,by omega,rfl⟩,?_⟩
     ·rw[w3,CR];rfl
     ·simp only[w3,List.getD_cons_succ,List.getD_cons_zero,toInt_int,Int.toNat_natCast];omega
    ·obtain rfl:k=8:=by omega
     refine⟨⟨i+1,?_,by omega,rfl⟩,?_⟩
     ·rw[w2,I2 _ hi3];rfl
     ·simp only[w2,List.getD_cons_succ,List.getD_cons_zero,toInt_int,Int.toNat_natCast];omega
  ·obtain rfl:i=xs.length:=by omega
   refine⟨?_,s0 _⟩
   rw[List.take_length,ED];rfl
theorem VD(hi:Eng.Inv S h)(a:Option Addr)(c:Nat)(xs:List Int)(hx:zj h .u8 a xs)(hb:∀x∈xs,0≤x∧x<256)(hl:xs.length≤2^48) :
  zc Tryz.prog S qO #[.slice a xs.length c] h (fun v h'=>v=bvI (xT 0#32 xs)∧Eng.Sub h h'):=by
 refine EU (vs:=[.slice a xs.length c]) ⟨rfl,trivial⟩ hi ?_
 simp only[Bs,Tr.wp,zG,Ex.ev,coerce,toInt_int,zf,zi,zg,Cst.val,SV.den,zq,zL,zE,zo,zn,z9,List.flatMap_cons,List.flatMap_nil,List.getD_cons_zero,List.getD_cons_succ,List.map_cons,List.map_nil,List.cons_append,List.nil_append,List.append_nil,if_false,Bool.false_eq_true]
 refine(J8 hi 0#32 a c xs hx hb hl).mono ?_
 rintro _ h' ⟨rfl,s⟩
 exact⟨_,rfl,rfl,s⟩
theorem Kr(hi:Eng.Inv S h)(p q:BitVec 32)(n:Nat)(hn:n≤1000000) :
  zc Tryz.prog S AV #[bvI p,bvI q,.int .i64 n] h (fun v h'=>v=bvI (itB (8*n) p ^^^ q)∧h'=h):=by
 refine Il (vs:=[bvI p,bvI q,.int .i64 n]) ⟨rfl,rfl,rfl,trivial⟩ hi ?_
 simp only[Er,bvI,Tr.wp,zG,Ex.ev,coerce,toInt_int,zb,Bd,zI,arith,Cst.val,SV.den,zq,zL,zE,zo,zn,z9,zU,List.flatMap_cons,List.flatMap_nil,List.getD_cons_zero,List.getD_cons_succ,List.getElem?_cons_zero,List.getElem?_cons_succ,decide_eq_true_eq,decide_eq_false_iff_not,List.map_cons,List.map_nil,List.cons_append,List.nil_append,List.append_nil,and_true,if_false,Bool.false_eq_true]
 refine⟨fun c=>?_,fun _=>?_⟩
 ·simp only[Bool.or_eq_true,decide_eq_true_eq]at c
  omega
 ·have w8:IntKind.i64.wrap (8*(n:Int))=((8*n:Nat):Int):=by rw[i64_in _ (by omega)];omega
  refine⟨fun us h2=>∃k:Nat,us=[bvI (itB k p),.int .i64 k]∧k≤8*n∧h2=h,fun us _=>8*n-(toInt (us.getD 1 undef)).toNat,⟨0,rfl,by omega,rfl⟩,?_⟩
  rintro x y h2 ⟨k,hx1,hk,rfl⟩
  simp only[bvI,List.cons.injEq,Value.int.injEq,true_and,and_true]at hx1
  obtain⟨rfl,rfl⟩:=hx1
  rw[w8]
  refine⟨fun hlt2=>?_,fun hge=>?_⟩
  ·refine(Bi hi _).mono ?_
   rintro _ h3 ⟨rfl,rfl⟩
   have w3:IntKind.i64.wrap ((k:Int)+1)=((k+1:Nat):Int):=by rw[i64_in _ (by omega)];omega
   refine⟨_,rfl,⟨k+1,?_,by omega,rfl⟩,?_⟩
   ·rw[w3,CR];rfl
   ·simp only[w3,List.getD_cons_succ,List.getD_cons_zero,toInt_int,Int.toNat_natCast];omega
  ·obtain rfl:k=8*n:=by omega
   rw[GA]
   exact⟨rfl,rfl⟩
end Go.Proofs.YtnhbgoiihgoneaaGreatDoor
end
section
namespace Go.Proofs.YtnhbgoiihgoneaaGreatDoor
open Go Go.Eng Go.IntWalk
variable {S : Shared} {h : Eng.Heap}
set_option maxRecDepth 100000
theorem qe{s:Nat→Prop}(hi:Eng.Inv (zW Tryz.prog s) h)(b0:BitVec 32)(a:Option Addr)(c:Nat)(xs:List Int)(hb:okB xs)(hx:zj h .u8 a xs)(hc:xs.length≤c)(hl:xs.length<2^40) :
  zc Tryz.prog (zW Tryz.prog s) xJ #[bvI b0,.slice a xs.length c] h (fun v h'=>v=bvI (xT b0 xs)∧Eng.Sub h h'):=by
 refine Gh (vs:=[bvI b0,.slice a xs.length c]) ⟨rfl,rfl,trivial⟩ hi ?_
 simp only[C8,bvI,Tr.wp,zG,Ex.ev,coerce,toInt_int,zb,zf,zi,zg,zh,yi,zI,arith,Cst.val,SV.den,zq,zL,zE,zo,zn,z9,zU,zp,List.flatMap_cons,List.flatMap_nil,List.getD_cons_zero,List.getD_cons_succ,List.getElem?_cons_zero,List.getElem?_cons_succ,decide_eq_true_eq,decide_eq_false_iff_not,List.map_cons,List.map_nil,List.cons_append,List.nil_append,List.append_nil,List.length_cons,List.length_nil,Nat.zero_add,and_true,if_true,if_false,Bool.false_eq_true]
 refine⟨fun hle=>?_,fun hgt=>?_⟩
 ·refine(J8 hi b0 a c xs hx hb (by omega)).mono ?_
  rintro _ h' ⟨rfl,s⟩
  exact⟨_,rfl,rfl,s⟩
 ·obtain⟨n,hn⟩:∃n,n=(xs.length+32767)/32768:=⟨_,rfl⟩
  refine(Ko (g:=qO) (F:=fun ys=>((xT 0#32 ys).toNat:Int)) hi hx hc hl (fun S' h' a' c' ys hi' hx' hl' hm=>VD hi' a' c' ys hx' (fun y hy=>hb y (hm y hy)) (by omega)) hn).mono ?_
  rintro _ h1 ⟨bC,bS,rfl,e1,e2,s1⟩
  have i1:Eng.Inv (zW Tryz.prog s) h1:=fun y hy=>by
   cases e:h y with
   | none=>exact absurd e (hi y hy)
   | some o=>rw[s1 y o e];simp
  refine⟨_,_,_,_,_,_,rfl,fun us h2=>∃j:Nat,us=[bvI (xT b0 (xs.take (min (j*32768) xs.length))),.int .i64 j]∧j≤n∧h2=h1,fun us _=>n-(toInt (us.getD 1 undef)).toNat,⟨0,by simp[bvI,xT],by omega,rfl⟩,?_⟩
  rintro x y h2 ⟨j,hx1,hj,rfl⟩
  simp only[bvI,List.cons.injEq,Value.int.injEq,true_and,and_true]at hx1
  obtain⟨rfl,rfl⟩:=hx1
  refine⟨fun hlt=>?_,fun hge=>?_⟩
  ·have hjn:j<n:=by omega
   have w2:IntKind.i64.wrap ((j:Int)+1)=((j+1:Nat):Int):=by rw[i64_in _ (by omega)];omega
   have c1:zd h2 (((((some (⟨bC,0,none⟩:Addr)).getD default).add ((j:Int).toNat*1))).add 0)=some (bvI (xT 0#32 (partOf xs j))):=by
    simp[zm,zd,e1,PE,hjn,bvI]
   have c2:zd h2 (((((some (⟨bS,0,none⟩:Addr)).getD default).add ((j:Int).toNat*1))).add 0)=some (.int .i64 (qm xs.length j)):=by
    simp[zm,zd,e2,szv,hjn]
   refine⟨rfl,by omega,by omega,_,c1,rfl,by omega,by omega,_,c2,?_⟩
   have hpl:qm xs.length j≤1000000:=by unfold qm;omega
   refine(Kr i1 _ _ _ hpl).mono ?_
   rintro _ h3 ⟨rfl,rfl⟩
   refine⟨_,rfl,⟨j+1,?_,by omega,rfl⟩,?_⟩
   ·have J:=NK (xT b0 (xs.take (min (j*32768) xs.length))) (partOf xs j)
    rw[BH]at J
    rw[w2,RD xs hn hjn,J,Uh];rfl
   ·simp only[w2,List.getD_cons_succ,List.getD_cons_zero,toInt_int,Int.toNat_natCast];omega
  ·obtain rfl:j=n:=by omega
   refine⟨?_,s1⟩
   rw[show min (j*32768) xs.length=xs.length by omega,List.take_length]
end Go.Proofs.YtnhbgoiihgoneaaGreatDoor
end
section
namespace Go.Proofs.YtnhbgoiihgoneaaGreatDoor
open Go Go.Eng Go.IntWalk
section
variable {S : Shared} {h h0 : Eng.Heap}
structure ErrS(h:Eng.Heap):Prop where
 el:ErrL h
 e4:zd h ⟨0,0,none⟩=some (.int .i64 4)
theorem ErrS.sub{h':Eng.Heap}(H:ErrS h)(s:Eng.Sub h h'):ErrS h':=⟨H.el.sub s,yN s H.e4⟩
section
variable {bm : Nat} {a : Option Addr} {c : Nat} {bs : List Int} {m : MC} {T : TypeId}
def MP(h0 h:Eng.Heap)(bm:Nat)(a:Option Addr)(c:Nat)(bs:List Int)(m:MC)(T:TypeId)(r:Rd):Prop:=
 ∃p:Nat,p≤8*bs.length∧(r.k=0→r=⟨(p:Int),0⟩)∧MAt h0 h bm a c bs p m T
theorem MP.upd'{h':Eng.Heap}{r:Rd}(H:MP h0 h bm a c bs m T r)(e:h' bm=h bm)(s:Eng.Sub h0 h'):MP h0 h' bm a c bs m T r:=by
 obtain⟨p,h1,h2,M⟩:=H
 exact⟨p,h1,h2,⟨e.trans M.hb,M.nb,s⟩⟩
theorem MQ{n:Nat}{p:Nat}(hp:p≤8*bs.length):∃q:Nat,q≤8*bs.length∧(tk bs n ⟨(p:Int),0⟩).1.i=q:=by
 unfold tk
 rw[if_pos rfl]
 split
 ·exact⟨p,hp,rfl⟩
 ·rename_i h;simp only at h;exact⟨p+n,by omega,by simp only;omega⟩
theorem PF{r:Rd}{p:Nat}(h1:r.i=p)(h2:r.k=0):r=⟨(p:Int),0⟩:=by
 obtain⟨i,k⟩:=r
 simp only at h1 h2
 rw[h1,h2]
theorem MT(hi:Eng.Inv S h0)(G:Errs h0)(hx:zj h0 .u8 a bs)(L:bs.length≤1048576){r:Rd}(M:MP h0 h bm a c bs m T r)(hk:r.k=0)(n:Nat)(hn:n≤32) :
  zc Tryz.prog S zH #[.pointer (some ⟨bm,0,none⟩),.int .i64 n] h (fun v h'=>v=.tuple #[.int .i64 (tk bs n r).2,zA (tk bs n r).1.k]∧MP h0 h' bm a c bs m T (tk bs n r).1∧∀y,y≠bm→h' y=h y):=by
 obtain⟨p,hp,hr,M⟩:=M
 obtain rfl:=hr hk
 refine zc.mono (Fb hi G hx L p hp n hn M) ?_
 rintro _ h1 ⟨rfl,rfl⟩
 obtain⟨q,hq,eq⟩:=MQ (bs:=bs) (n:=n) hp
 exact⟨rfl,⟨q,hq,fun h=>PF eq h,by rw[eq];exact M.keep rfl⟩,fun y hy=>upd_ne hy⟩
structure HC(h:Eng.Heap)(bm bF bE:Nat)(k:Int):Prop where
 f:∃TF,h bF=some (.cells #[.pointer (some ⟨bm,0,none⟩)] TF)
 e:∃TE,h bE=some (.cells #[zA k] TE)
theorem Fo{b:Nat}{v w:Value}{T:TypeId}(hb:h b=some (.cells #[v] T)):zy h ⟨b,0,none⟩ w=upd h b (.cells #[w] T):=by rw[hset_cells' hb];rfl
theorem Xh(hi:Eng.Inv S h0)(G:Errs h0)(hx:zj h0 .u8 a bs)(L:bs.length≤1048576){r:Rd}(M:MP h0 h bm a c bs m T r){bF bE:Nat}(hE:h0 bE=none)(ne1:bm≠bF)(ne2:bm≠bE)(ne3:bF≠bE)(C:HC h bm bF bE r.k)(n:Nat)(hn:n≤4) :
  zc Tryz.prog S zV #[.int .i64 n,.pointer (some ⟨bE,0,none⟩),.pointer (some ⟨bF,0,none⟩)] h (fun v h'=>v=.int .i64 (tk bs (8*n) r).2∧MP h0 h' bm a c bs m T (tk bs (8*n) r).1∧HC h' bm bF bE (tk bs (8*n) r).1.k∧∀y,y≠bm→y≠bE→h' y=h y):=by
 have M0:=M
 obtain⟨p,hp,hr,M⟩:=M
 obtain⟨⟨TF,cF⟩,⟨TE,cE⟩⟩:=C
 have hsE:¬S bE:=fun hs=>hi bE hs hE
 refine DK (vs:=[.int .i64 n,.pointer (some ⟨bE,0,none⟩),.pointer (some ⟨bF,0,none⟩)]) ⟨rfl,rfl,rfl,trivial⟩ (hi.sub M.sb) ?_
 simp only[At,Tr.wp,zG,Ex.ev,coerce,toInt_int,zb,zh,zB,zZ,arith,Cst.val,SV.den,zq,zL,zE,zo,zn,z9,zp,zO,List.flatMap_cons,List.flatMap_nil,List.getD_cons_zero,List.getD_cons_succ,List.getElem?_cons_zero,List.map_cons,List.map_nil,List.cons_append,List.nil_append,List.append_nil,List.length_cons,List.length_nil,Nat.zero_add,Nat.add_zero,and_true,if_true,if_false,Bool.false_eq_true,zm]
 have gE:zd h ⟨bE,0,none⟩=some (zA r.k):=by simp[zd,cE]
 have gF:zd h ⟨bF,0,none⟩=some (.pointer (some ⟨bm,0,none⟩)):=by simp[zd,cF]
 refine⟨zA r.k,za,by first | exact gE | (rw[za];exact gE),fun hz=>?_,fun hz=>?_⟩
 ·rw[za,zt]at hz
  have hk:r.k=0:=by simpa using hz
  have w:IntKind.i64.wrap (8*(n:Int))=((8*n:Nat):Int):=by rw[i64_in _ (by omega)];omega
  refine⟨_,gF,by simp,?_⟩
  rw[w]
  refine zc.mono (MT hi G hx L M0 hk (8*n) (by omega)) ?_
  rintro _ h1 ⟨rfl,M1,f1⟩
  have cE1:h1 bE=some (.cells #[zA r.k] TE):=(f1 bE (Ne.symm ne2)).trans cE
  have gE1:zd h1 ⟨bE,0,none⟩=some (zA r.k):=by simp[zd,cE1]
  refine⟨_,zA (tk bs (8*n) r).1.k,za,by rw[za],⟨⟨_,gE1⟩,by simp[yd,cE1],hsE⟩,?_⟩
  rw[za,Fo cE1]
  intro _
  obtain⟨p1,hp1,hr1,M1⟩:=M1
  refine⟨rfl,⟨p1,hp1,hr1,⟨(upd_ne ne2).trans M1.hb,M1.nb,yq M1.sb hE⟩⟩,⟨⟨TF,(upd_ne ne3).trans ((f1 bF (Ne.symm ne1)).trans cF)⟩,⟨TE,upd_same⟩⟩,fun y h1 h2=>(upd_ne h2).trans (f1 y h1)⟩
 ·rw[za,zt]at hz
  have hk:r.k≠0:=by simpa using hz
  intro _
  rw[Aa hk]
  exact⟨rfl,M0,⟨⟨TF,cF⟩,⟨TE,cE⟩⟩,fun _ _ _=>by first | trivial | rfl⟩
theorem VE(hi:Eng.Inv S h0)(G:Errs h0){r:Rd}(M:MP h0 h bm a c bs m T r){bF bE:Nat}(hE:h0 bE=none)(ne2:bm≠bE)(ne3:bF≠bE)(C:HC h bm bF bE r.k)(w:Bool) :
  zc Tryz.prog S yI #[.bool w,.pointer (some ⟨bE,0,none⟩)] h (fun v h'=>v=.tuple #[]∧MP h0 h' bm a c bs m T (bd (!w) r)∧HC h' bm bF bE (bd (!w) r).k∧∀y,y≠bE→h' y=h y):=by
 have M0:=M
 obtain⟨p,hp,hr,M⟩:=M
 have C0:=C
 obtain⟨⟨TF,cF⟩,⟨TE,cE⟩⟩:=C
 have hsE:¬S bE:=fun hs=>hi bE hs hE
 refine DL (vs:=[.bool w,.pointer (some ⟨bE,0,none⟩)]) ⟨rfl,rfl,trivial⟩ (hi.sub M.sb) ?_
 simp only[Au,Tr.wp,Ex.ev,coerce,toInt_int,zb,zh,wz,Cst.val,SV.den,z9,zp,zO,List.getD_cons_zero,List.getD_cons_succ,List.getElem?_cons_zero,List.map_cons,List.map_nil,List.cons_append,List.nil_append,Nat.add_zero,and_true,true_and,zm]
 have gE:zd h ⟨bE,0,none⟩=some (zA r.k):=by simp[zd,cE]
 refine⟨zA r.k,za,by first | exact gE | (rw[za];exact gE),fun hz=>?_,fun hz=>?_⟩
 ·rw[za,zt]at hz
  have hz:r.k=0∧w=false:=by simpa using hz
  have eb:bd (!w) r=⟨r.i,3⟩:=by unfold bd;rw[if_pos ⟨hz.1,by rw[hz.2];rfl⟩]
  rw[eb]
  refine⟨3,(G.sub M.sb).e3,⟨⟨_,gE⟩,by simp[yd,cE],hsE⟩,?_⟩
  rw[Fo cE]
  intro _
  exact⟨⟨p,hp,fun h=>(by cases h),⟨(upd_ne ne2).trans M.hb,M.nb,yq M.sb hE⟩⟩,⟨⟨TF,(upd_ne ne3).trans cF⟩,⟨TE,upd_same⟩⟩,fun y h2=>upd_ne h2⟩
 ·rw[za,zt]at hz
  have eb:bd (!w) r=r:=by
   unfold bd
   rw[if_neg (fun e=>by rw[e.1]at hz;have:=e.2;cases w <;> simp at this hz)]
  rw[eb]
  intro _
  exact⟨M0,C0,fun _ _=>by first | trivial | rfl⟩
theorem O7{n:Nat}{r:Rd}{acc:List Int}(h:r.k≠0):txL bs n r acc=(r,acc):=by
 cases n with
 | zero=>rfl
 | succ n=>unfold txL;rw[if_neg h]
theorem VF{n:Nat}{r:Rd}{acc:List Int}(h:r.k≠0):byL bs n r acc=(r,acc):=by
 cases n with
 | zero=>rfl
 | succ n=>unfold byL;rw[if_neg h]
def PB(h0 h:Eng.Heap)(bm:Nat)(a:Option Addr)(c:Nat)(bs:List Int)(m:MC)(T:TypeId)(X:Rd×List Int)(v:Value)(h':Eng.Heap):Prop:=
 ∃u:Value,(∃a1 l1 c1,u=.slice a1 l1 c1)∧v=.tuple #[u,zA X.1.k]∧(X.1.k=0→Part .u8 h' u X.2)∧(∀y,ze u=some y→h y=none)∧MP h0 h' bm a c bs m T X.1∧(∀y,h y≠none→y≠bm→h' y=h y)∧Eng.Sub h0 h'
theorem VG(hi:Eng.Inv S h0)(G:Errs h0)(hx:zj h0 .u8 a bs)(L:bs.length≤65536){r:Rd}(M:MP h0 h bm a c bs m T r)(hk:r.k=0)(n:Nat)(hn:n<65536) :
  zc Tryz.prog S qo #[.pointer (some ⟨bm,0,none⟩),.int .i64 n] h (PB h0 h bm a c bs m T (byL bs n r [])):=by
 obtain⟨p0,hp0,hr0,MA⟩:=M
 have hbm:h bm≠none:=by rw[MA.hb];simp
 refine Es (vs:=[.pointer (some ⟨bm,0,none⟩),.int .i64 n]) ⟨rfl,rfl,trivial⟩ (hi.sub MA.sb) ?_
 simp only[AI,Tr.wp,zG,Ex.ev,coerce,toInt_int,zb,zf,zi,zg,zh,zB,zZ,zI,arith,Cst.val,SV.den,zq,zL,zE,zo,zn,z9,zU,List.flatMap_cons,List.flatMap_nil,List.getD_cons_zero,List.getD_cons_succ,List.getElem?_cons_zero,decide_eq_true_eq,decide_eq_false_iff_not,List.map_cons,List.map_nil,List.cons_append,List.nil_append,List.append_nil,List.length_cons,List.length_nil,Nat.zero_add,Nat.add_zero,if_true,if_false,Bool.false_eq_true,zm]
 intro b0 hb0
 have e0:(#[]:Array Value)=ints .u8 []:=rfl
 rw[e0]
 have s0:Eng.Sub h (upd h b0 (.cells (ints .u8 []) 5)):=Sub.zC hb0
 have nb0:b0≠bm:=fun e=>hbm (e▸hb0)
 refine⟨fun us h'=>∃(j:Nat) (r':Rd) (acc:List Int) (a1:Option Addr) (c1:Nat),us=[.slice a1 acc.length c1,.int .i64 j]∧j≤n∧r'.k=0∧acc.length=j∧Part .u8 h' (.slice a1 acc.length c1) acc∧(∀y,ze (.slice a1 acc.length c1)=some y→h y=none)∧MP h0 h' bm a c bs m T r'∧(∀y,h y≠none→y≠bm→h' y=h y)∧byL bs (n-j) r' acc=byL bs n r [],
  fun us _=>n-(toInt (us.getD 1 undef)).toNat,⟨0,r,[],_,_,rfl,by omega,hk,rfl,(Own.made (k:=.u8) (h:=h) (b:=b0) (T:=5) []).part,New.of hb0,MP.upd' ⟨p0,hp0,hr0,MA⟩ (upd_ne (Ne.symm nb0)) (MA.sb.trans s0),fun y h1 _=>upd_ne fun e=>h1 (e▸hb0),rfl⟩,?_⟩
 rintro a1 l1 c1 z h' ⟨j,r',acc,a1',c1',hx1,hj,hk',hal,P,N,M',f,e⟩
 simp only[List.cons.injEq,Value.int.injEq,Value.slice.injEq,true_and,and_true]at hx1
 obtain⟨⟨rfl,rfl,rfl⟩,rfl⟩:=hx1
 have sub':Eng.Sub h0 h':=by obtain⟨_,_,_,M2⟩:=M';exact M2.sb
 refine⟨fun hlt=>?_,fun hge=>?_⟩
 ·have hjn:j<n:=by omega
  have est:byL bs n r []=if(tk bs 8 r').1.k=0 then byL bs (n-(j+1)) (tk bs 8 r').1 (acc++[(tk bs 8 r').2])else((tk bs 8 r').1,acc):=by
   rw[←e,show n-j=n-(j+1)+1 by omega,byL,if_pos hk']
  refine⟨by simp,?_⟩
  refine zc.mono (MT hi G hx (by omega) M' hk' 8 (by omega)) ?_
  rintro _ h1 ⟨rfl,M1,f1⟩
  have nm:=yD (bs:=bs) (n:=8) (r:=r')
  have e8:(2:Int)^8=256:=by decide
  rw[e8]at nm
  have nbk:∀y,ze (.slice a1 acc.length c1)=some y→y≠bm:=fun y hy e=>hbm (e▸N y hy)
  have P1:Part .u8 h1 (.slice a1 acc.length c1) acc:=P.keep fun y hy=>f1 y (nbk y hy)
  have fr1:∀y,h y≠none→y≠bm→h1 y=h y:=fun y g1 g2=>(f1 y g2).trans (f y g1 g2)
  have sub1:Eng.Sub h0 h1:=by obtain⟨_,_,_,M2⟩:=M1;exact M2.sb
  refine⟨_,zA (tk bs 8 r').1.k,za,by rw[za],fun hz=>?_,fun hz=>?_⟩
  ·rw[za,zt]at hz
   have hk1:(tk bs 8 r').1.k≠0:=by simpa using hz
   rw[est,if_neg hk1]
   exact⟨.slice none 0 0,⟨_,_,_,rfl⟩,by rw[za],fun h=>absurd h hk1,fun y hy=>(by cases hy),M1,fr1,sub1⟩
  ·rw[za,zt]at hz
   have hk1:(tk bs 8 r').1.k=0:=by simpa using hz
   rw[if_pos hk1]at est
   have wb:IntKind.u8.wrap (tk bs 8 r').2=(tk bs 8 r').2:=by rw[IntKind.wrap_u8];omega
   have w2:IntKind.i64.wrap ((j:Int)+1)=((j+1:Nat):Int):=by rw[i64_in _ (by omega)];omega
   intro b1 hb1
   rw[wb,w2]
   have e1:(#[Value.int .u8 (tk bs 8 r').2]:Array Value)=ints .u8 [(tk bs 8 r').2]:=rfl
   rw[e1]
   have s1:Eng.Sub h1 (upd h1 b1 (.cells (ints .u8 [(tk bs 8 r').2]) 5)):=Sub.zC hb1
   have nb1:b1≠bm:=fun e=>by obtain⟨_,_,_,M2⟩:=M1;rw[e,M2.hb]at hb1;cases hb1
   refine zJ hi (sub1.trans s1) (P1.sub s1) (fun y hy=>zN MA.sb (N y hy)) (ys:=[(tk bs 8 r').2]) zj.new (by simp only[List.length_singleton];omega) fun v3 h3 o3 n3 s3 k3 r3=>?_
   obtain⟨a3,c3,rfl,_,_⟩:=o3.ints
   have h1m:upd h1 b1 (.cells (ints .u8 [(tk bs 8 r').2]) 5) bm=h1 bm:=upd_ne (Ne.symm nb1)
   have m3:h3 bm=h1 bm:=(k3 bm (by rw[h1m];obtain⟨_,_,_,M2⟩:=M1;rw[M2.hb];simp) (fun e=>hbm (N bm e))).trans h1m
   simp only[zg,zf,zi]
   refine⟨⟨j+1,(tk bs 8 r').1,acc++[(tk bs 8 r').2],a3,c3,rfl,by omega,hk1,by simp[hal],o3,?_,M1.upd' m3 s3,fun y g1 g2=>?_,est.symm⟩,by simp only[List.getD_cons_succ,List.getD_cons_zero,toInt_int];omega⟩
   ·intro y hy
    rcases r3 with r3 | r3
    ·exact N y (by rw[←r3];exact hy)
    ·have h6:=zN s1 (r3 y hy)
     cases hh:h y with
     | none=>rfl
     | some o=>
      by_cases hyb:y=bm
      ·subst hyb;obtain⟨_,_,_,M2⟩:=M1;rw[M2.hb]at h6;cases h6
      ·rw[fr1 y (by rw[hh];simp) hyb,hh]at h6;cases h6
   ·have h5:=fr1 y g1 g2
    have h6:upd h1 b1 (.cells (ints .u8 [(tk bs 8 r').2]) 5) y=h1 y:=upd_ne fun e=>g1 (by rw[←h5,e];exact hb1)
    rw[k3 y (by rw[h6,h5];exact g1) (fun e=>g1 (N y e)),h6,h5]
 ·obtain rfl:j=n:=by omega
  rw[Nat.sub_self]at e
  have e:byL bs j r []=(r',acc):=e.symm
  rw[e]
  exact⟨_,⟨_,_,_,rfl⟩,by rw[hk'];rfl,fun _=>P,N,M',f,sub'⟩
end
end
end Go.Proofs.YtnhbgoiihgoneaaGreatDoor
end
section
namespace Go.Proofs.YtnhbgoiihgoneaaGreatDoor
open Go Go.Eng Go.ChangeShapes Go.WideShapes Go.ChangeAt Go.RowKit Go.Conc
noncomputable def J9(os:Os):World:=
 let w0:=QX os
 let put (g:Nat) (v:Value) (hp:Array Obj):Array Obj:=hp.modify g fun
   | .cells _ t frozen=>.cells #[v] t frozen
   | o=>o
 { w0 with heap:=put 0 (.int .i64 4) w0.heap }
end Go.Proofs.YtnhbgoiihgoneaaGreatDoor
end
section
namespace Go.Proofs.YtnhbgoiihgoneaaGreatDoor
open Go Go.Eng Go.IntWalk
variable {S : Shared} {h : Eng.Heap}
theorem Ds(hi:Eng.Inv S h){a1 a2:Option Addr}{c1 c2:Nat}{xs:List Int}(H1:zj h .u8 a1 xs)(H2:zj h .u8 a2 xs) :
  zc Tryz.prog S jy #[.slice a1 xs.length c1,.slice a2 xs.length c2] h (fun v h'=>v=.bool true∧h'=h):=by
 refine Im (vs:=[.slice a1 xs.length c1,.slice a2 xs.length c2]) ⟨rfl,rfl,trivial⟩ hi ?_
 simp only[Et,Tr.wp,Ex.ev,coerce,zf,zi,zg,SV.den,List.getD_cons_zero,List.getD_cons_succ,List.cons_append,List.nil_append,and_true]
 exact⟨xs,rfl,H1.cells (c:=c1),xs,rfl,H2.cells (c:=c2),by simp[OL,Ch]⟩
end Go.Proofs.YtnhbgoiihgoneaaGreatDoor
end
section
namespace Go.Proofs.YtnhbgoiihgoneaaGreatDoor
open Go Go.Eng Go.IntWalk
variable {S : Shared} {h h0 : Eng.Heap} {b : Nat} {T : TypeId} {code : List Int} {a : Option Addr} {c : Nat}
def yB(h0 h:Eng.Heap)(b:Nat)(T:TypeId)(code:List Int)(a:Option Addr)(c:Nat):Prop:=
 ∃(i:Nat) (hh:Int),h b=some (.cells #[.slice a code.length c,.int .i64 i,.int .i64 hh] T)∧i≤code.length∧zj h0 .u8 a code∧Eng.Sub h0 h∧h0 b=none
theorem yB.sub(H:yB h0 h b T code a c):Eng.Sub h0 h:=by obtain⟨_,_,_,_,_,s,_⟩:=H;exact s
theorem yB.held(H:yB h0 h b T code a c):h b≠none:=by obtain⟨_,_,hb,_⟩:=H;rw[hb];simp
theorem yB.mono{h1:Eng.Heap}(H:yB h0 h b T code a c)(s:Eng.Sub h h1):yB h0 h1 b T code a c:=by
 obtain⟨i,hh,hb,hi,hx,s0,hn⟩:=H
 exact⟨i,hh,s b _ hb,hi,hx,s0.trans s,hn⟩
theorem yB.keep{h1:Eng.Heap}(H:yB h0 h b T code a c)(s:Eng.Sub h0 h1)(hk:h1 b=h b):yB h0 h1 b T code a c:=by
 obtain⟨i,hh,hb,hi,hx,s0,hn⟩:=H
 exact⟨i,hh,hk.trans hb,hi,hx,s,hn⟩
theorem VH(hi:Eng.Inv S h)(hx:zj h .u8 a code)(hl:code.length≤1048576) :
  zc Tryz.prog S Cr #[.slice a code.length c] h (fun v h'=>∃b T,v=.pointer (some ⟨b,0,none⟩)∧yB h h' b T code a c):=by
 refine JV (vs:=[.slice a code.length c]) ⟨rfl,trivial⟩ hi ?_
 simp only[Gj,Tr.wp,Ex.ev,coerce,toInt_int,zb,zf,zi,zg,zh,yi,zI,arith,Cst.val,SV.den,yo,z9,zU,zp,List.flatMap_cons,List.flatMap_nil,List.replicate_one,List.getD_cons_zero,List.getD_cons_succ,List.getElem?_cons_zero,decide_eq_true_eq,decide_eq_false_iff_not,List.map_cons,List.map_nil,List.cons_append,List.nil_append,List.append_nil,and_true]
 refine⟨fun us h'=>∃(i:Nat) (x:Int),us=[.int .i64 x,.int .i64 i]∧i≤code.length∧h'=h,fun us _=>code.length-(toInt (us.getD 1 undef)).toNat,⟨0,_,rfl,by omega,rfl⟩,?_⟩
 rintro x y h' ⟨i,z,hx1,hi2,eq⟩
 subst eq
 obtain⟨rfl,rfl⟩:x=z∧y=i:=by simpa using hx1
 refine⟨fun hlt=>?_,fun hge=>?_⟩
 ·have hi3:i<code.length:=by omega
  obtain⟨g1,g2⟩:=hx.cell (List.getElem?_eq_getElem hi3)
  have w2:IntKind.i64.wrap ((i:Int)+1)=((i+1:Nat):Int):=by rw[i64_in _ (by omega)];omega
  rw[w2]
  exact⟨by simpa using g2,by omega,hlt,code[i],by simpa[add_add]using g1,⟨i+1,_,rfl,by omega,rfl⟩,by simp only[List.getD_cons_succ,List.getD_cons_zero,toInt_int];omega⟩
 ·intro b hb
  exact⟨b,_,rfl,0,x,upd_same,Nat.zero_le _,hx,Sub.zC hb,hb⟩
theorem CU(hi:Eng.Inv S h0)(H:yB h0 h b T code a c)(hl:code.length≤1048576) :
  zc Tryz.prog S jf #[.pointer (some ⟨b,0,none⟩)] h (fun v h'=>∃x,v=.int .i64 x∧0≤x∧x≤255∧yB h0 h' b T code a c∧∀y,y≠b→h' y=h y):=by
 obtain⟨i,hh,hb,hi2,hx,s,hn⟩:=H
 have hsb:¬S b:=fun hs=>hi b hs hn
 refine Jm (vs:=[.pointer (some ⟨b,0,none⟩)]) ⟨rfl,trivial⟩ (hi.sub s) ?_
 simp only[F5,Tr.wp,Ex.ev,coerce,toInt_int,zb,zf,zi,zg,zh,zB,yi,zZ,zI,arith,Cst.val,SV.den,z9,zp,zO,List.getD_cons_zero,List.getD_cons_succ,List.getElem?_cons_zero,decide_eq_true_eq,decide_eq_false_iff_not,List.map_cons,List.map_nil,List.cons_append,List.nil_append,Nat.zero_add,Nat.add_zero,and_true,zm]
 have ld:∀ {h':Eng.Heap} {i:Nat} {hh:Int},h' b=some (.cells #[.slice a code.length c,.int .i64 i,.int .i64 hh] T)→zd h' ⟨b,0,none⟩=some (.slice a code.length c)∧zd h' ⟨b,1,none⟩=some (.int .i64 i)∧zd h' ⟨b,2,none⟩=some (.int .i64 hh):=fun {h' i hh} hb=>by simp[zd,hb]
 obtain⟨g0,g1,g2⟩:=ld hb
 have SK:∀m:Int,zy h ⟨b,2,none⟩ (.int .i64 m)=upd h b (.cells #[.slice a code.length c,.int .i64 i,.int .i64 m] T):=fun m=>by rw[hset_cells' hb];rfl
 have ok2:yC S h ⟨b,2,none⟩:=⟨⟨_,g2⟩,by simp[yd,hb],hsb⟩
 refine⟨by simp,hh,g2,by simp,ok2,?_⟩
 rw[SK]
 obtain⟨m,hm⟩:∃m,m=IntKind.i64.wrap (IntKind.i64.wrap (hh*6364136223846793005)+1442695040888963407):=⟨_,rfl⟩
 rw[←hm]
 have hb1:upd h b (.cells #[.slice a code.length c,.int .i64 i,.int .i64 m] T) b=some (.cells #[.slice a code.length c,.int .i64 i,.int .i64 m] T):=upd_same
 obtain⟨k0,k1,k2⟩:=ld hb1
 have hs1:Eng.Sub h0 (upd h b (.cells #[.slice a code.length c,.int .i64 i,.int .i64 m] T)):=fun y o hy=>by rw[upd_ne (fun e=>by rw[e,hn]at hy;cases hy)];exact s y o hy
 refine⟨by simp,m,k2,by simp,m,k2,by simp,i,k1,by simp,_,_,_,k0,fun hlt=>?_,fun hge _=>?_⟩
 ·have hi3:i<code.length:=by omega
  obtain⟨e1,e2⟩:=(hx.sub hs1).cell (List.getElem?_eq_getElem hi3)
  refine⟨by simp,_,_,_,k0,by simp,i,k1,by simpa using e2,by omega,hlt,code[i],by simpa[add_add]using e1,by simp,i,k1,by simp,⟨⟨_,k1⟩,by simp[yd,hb1],hsb⟩,?_⟩
  intro _
  have w2:IntKind.i64.wrap ((i:Int)+1)=((i+1:Nat):Int):=by rw[i64_in _ (by omega)];omega
  have SJ:zy (upd h b (.cells #[.slice a code.length c,.int .i64 i,.int .i64 m] T)) ⟨b,1,none⟩ (.int .i64 ((i+1:Nat):Int))=upd h b (.cells #[.slice a code.length c,.int .i64 ((i+1:Nat):Int),.int .i64 m] T):=by rw[hset_cells' hb1,yY];rfl
  rw[w2,SJ]
  have hm:=Mf (y:=IntKind.i64.wrap (Go.bits .and .i64 (Go.bits .xor .i64 (m.fdiv (2^min (Int.toNat 33) IntKind.i64.bits)) (m.fdiv (2^min (Int.toNat 45) IntKind.i64.bits))) 255+IntKind.i64.wrap code[i])) (m:=255) (by omega)
  exact⟨_,rfl,hm.1,hm.2,⟨i+1,m,upd_same,by omega,hx,fun y o hy=>by rw[upd_ne (fun e=>by rw[e,hn]at hy;cases hy)];exact s y o hy,hn⟩,fun y hy=>upd_ne hy⟩
 ·have hm:=Mf (y:=Go.bits .xor .i64 (m.fdiv (2^min (Int.toNat 33) IntKind.i64.bits)) (m.fdiv (2^min (Int.toNat 45) IntKind.i64.bits))) (m:=255) (by omega)
  exact⟨_,rfl,hm.1,hm.2,⟨i,m,upd_same,hi2,hx,hs1,hn⟩,fun y hy=>upd_ne hy⟩
theorem xU(hi:Eng.Inv S h0)(H:yB h0 h b T code a c)(hl:code.length≤1048576)(n:Int)(h1:1≤n)(h2:n≤1000000) :
  zc Tryz.prog S yv #[.pointer (some ⟨b,0,none⟩),.int .i64 n] h (fun v h'=>∃x,v=.int .i64 x∧0≤x∧x<n∧yB h0 h' b T code a c∧∀y,y≠b→h' y=h y):=by
 refine Io (vs:=[.pointer (some ⟨b,0,none⟩),.int .i64 n]) ⟨rfl,rfl,trivial⟩ (hi.sub H.sub) ?_
 simp only[Eu,Tr.wp,zG,Ex.ev,coerce,toInt_int,zb,zB,zI,arith,Cst.val,SV.den,zq,zL,zE,zo,zn,z9,List.flatMap_cons,List.flatMap_nil,List.getD_cons_zero,List.getD_cons_succ,decide_eq_true_eq,decide_eq_false_iff_not,List.map_cons,List.map_nil,List.cons_append,List.nil_append,List.append_nil,if_false,Bool.false_eq_true]
 have hn0:(n != 0)=true:=bne_iff_ne.2 (by omega)
 have md:∀x:Int,0≤x→0≤x.tmod n∧x.tmod n<n:=fun x hx=>by
  rw[Int.tmod_eq_emod_of_nonneg hx]
  exact⟨Int.emod_nonneg _ (by omega),Int.emod_lt_of_pos _ (by omega)⟩
 refine⟨fun hle=>?_,fun hgt=>?_⟩
 ·refine(CU hi H hl).mono ?_
  rintro _ h3 ⟨x,rfl,x0,x1,C,f⟩
  have:=md x x0
  exact⟨_,rfl,hn0,_,rfl,this.1,this.2,C,f⟩
 ·refine(CU hi H hl).mono ?_
  rintro _ h3 ⟨x,rfl,x0,x1,C,f⟩
  refine⟨_,rfl,?_⟩
  refine(CU hi C hl).mono ?_
  rintro _ h4 ⟨y,rfl,y0,y1,C2,f2⟩
  refine⟨_,rfl,?_⟩
  refine(CU hi C2 hl).mono ?_
  rintro _ h5 ⟨z,rfl,z0,z1,C3,f3⟩
  have w:IntKind.i64.wrap (IntKind.i64.wrap (IntKind.i64.wrap (x*65536)+IntKind.i64.wrap (y*256))+z)=x*65536+y*256+z:=by
   rw[i64_in (x*65536) (by omega),i64_in (y*256) (by omega),i64_in (x*65536+y*256) (by omega),i64_in _ (by omega)]
  refine⟨_,rfl,hn0,?_⟩
  rw[w]
  have:=md (x*65536+y*256+z) (by omega)
  exact⟨_,rfl,this.1,this.2,C3,fun y hy=>by rw[f3 y hy,f2 y hy,f y hy]⟩
theorem MU(hi:Eng.Inv S h0)(H:yB h0 h b T code a c)(hl:code.length≤1048576)(n:Nat)(h2:n≤100000) :
  zc Tryz.prog S wK #[.pointer (some ⟨b,0,none⟩),.int .i64 n] h (fun v h'=>∃ys:List Int,ys.length=n∧tB.O h' v ys∧tB.New h v∧yB h0 h' b T code a c∧(∀y,h y≠none→y≠b→h' y=h y)∧∀y∈ys,0≤y∧y<256):=by
 refine Jl (vs:=[.pointer (some ⟨b,0,none⟩),.int .i64 n]) ⟨rfl,rfl,trivial⟩ (hi.sub H.sub) ?_
 simp only[F4,Tr.wp,zG,Ex.ev,coerce,toInt_int,zb,zf,zi,zg,zB,zI,arith,Cst.val,SV.den,zq,zL,zE,zo,zn,z9,zU,List.flatMap_cons,List.flatMap_nil,List.getD_cons_zero,List.getD_cons_succ,List.getElem?_cons_zero,decide_eq_true_eq,decide_eq_false_iff_not,List.map_cons,List.map_nil,List.cons_append,List.nil_append,List.append_nil,if_false,Bool.false_eq_true]
 intro b0 hb0
 have hb00:=zN H.sub hb0
 have hne0:b0≠b:=fun e=>H.held (e▸hb0)
 have s0:Eng.Sub h (upd h b0 (.cells (ints .u8 []) 5)):=Sub.zC hb0
 refine⟨fun us h'=>∃(a1:Option Addr) (c1 i:Nat) (ys:List Int),us=[.slice a1 i c1,.int .i64 i]∧i≤n∧ys.length=i∧Part .u8 h' (.slice a1 i c1) ys∧(∀y,ze (.slice a1 i c1)=some y→h y=none)∧yB h0 h' b T code a c∧(∀y,h y≠none→y≠b→h' y=h y)∧∀y∈ys,0≤y∧y<256,
  fun us _=>n-(toInt (us.getD 1 undef)).toNat,⟨_,_,0,[],rfl,by omega,rfl,(Own.made []).part,New.of hb0,H.mono s0,fun y hy _=>upd_ne fun e=>hy (e▸hb0),fun y hy=>by cases hy⟩,?_⟩
 rintro a1 l1 c1 x h' ⟨a1',c1',i,ys,hx1,hi2,hy,P,N,C,f,hbs⟩
 obtain⟨⟨rfl,rfl,rfl⟩,rfl⟩:(a1=a1'∧l1=i∧c1=c1')∧x=i:=by simpa using hx1
 refine⟨fun hlt=>?_,fun hge=>?_⟩
 ·refine(CU hi C hl).mono ?_
  rintro _ h3 ⟨x,rfl,x0,x1,C2,f2⟩
  have hnb:ze (.slice a1 l1 c1)≠some b:=fun e=>by have:=N b e;exact H.held this
  have P2:Part .u8 h3 (.slice a1 l1 c1) ys:=P.keep fun y hy=>f2 y fun e=>hnb (e▸hy)
  refine⟨_,rfl,fun b1 hb1=>?_⟩
  have s3:Eng.Sub h3 (upd h3 b1 (.cells (ints .u8 [IntKind.u8.wrap x]) 5)):=Sub.zC hb1
  refine zJ hi (C2.sub.trans s3) (P2.sub s3) (fun y hy=>zN H.sub (N y hy)) (ys:=[IntKind.u8.wrap x]) zj.new (by simp only[List.length_singleton];omega) fun v' h4 o n4 s4 keep hblk=>?_
  obtain⟨a4,c4,rfl,_,_⟩:=o.ints
  have keep':∀y,upd h3 b1 (.cells (ints .u8 [IntKind.u8.wrap x]) 5) y≠none→ze (.slice a1 l1 c1)≠some y→h4 y=upd h3 b1 (.cells (ints .u8 [IntKind.u8.wrap x]) 5) y:=keep
  have h3b:upd h3 b1 (.cells (ints .u8 [IntKind.u8.wrap x]) 5) b=h3 b:=upd_ne fun e=>C2.held (e▸hb1)
  have w2:IntKind.i64.wrap ((l1:Int)+1)=((l1+1:Nat):Int):=by rw[i64_in _ (by omega)];omega
  have el:(ys++[IntKind.u8.wrap x]).length=l1+1:=by simp[hy]
  rw[el]at o n4 hblk
  simp only[zg,zf,zi,w2,el]
  refine⟨⟨a4,c4,l1+1,_,rfl,by omega,el,o,?_,C2.keep s4 (by rw[keep' b (by rw[h3b];exact C2.held) hnb,h3b]),fun y hy1 hy2=>?_,fun y hy=>?_⟩,by simp only[List.getD_cons_succ,List.getD_cons_zero,toInt_int];omega⟩
  ·rcases hblk with e | e
   ·intro y hy;rw[e]at hy;exact N y hy
   ·intro y hy2
    have h5:upd h3 b1 (.cells (ints .u8 [IntKind.u8.wrap x]) 5) y=none:=e y hy2
    have h6:=zN s3 h5
    by_cases hyb:y=b
    ·subst hyb;exact absurd h6 C2.held
    ·rw[f2 y hyb]at h6
     cases hh:h y with
     | none=>rfl
     | some o=>rw[f y (by rw[hh];simp) hyb,hh]at h6;cases h6
  ·have h5:h3 y=h y:=by rw[f2 y hy2,f y hy1 hy2]
   have h6:upd h3 b1 (.cells (ints .u8 [IntKind.u8.wrap x]) 5) y=h3 y:=upd_ne fun e=>hy1 (by rw[←h5,e];exact hb1)
   rw[keep' y (by rw[h6,h5];exact hy1) (fun e=>hy1 (N y e)),h6,h5]
  ·rcases List.mem_append.1 hy with hy | hy
   ·exact hbs y hy
   ·rw[List.mem_singleton.1 hy,IntKind.wrap_u8];omega
 ·obtain rfl:l1=n:=by omega
  exact⟨ys,hy,P,N,C,f,hbs⟩
end Go.Proofs.YtnhbgoiihgoneaaGreatDoor
end
section
namespace Go.Proofs.YtnhbgoiihgoneaaGreatDoor
open Go Go.Eng Go.IntWalk
variable {S : Shared} {h h0 : Eng.Heap} {b : Nat} {T : TypeId} {code : List Int} {a : Option Addr} {c : Nat}
theorem MV(hi:Eng.Inv S h0)(H:yB h0 h b T code a c)(hl:code.length≤1048576)(n:Int)(h1:1≤n)(h2:n≤1000000) :
  zc Tryz.prog S wJ #[.pointer (some ⟨b,0,none⟩),.int .i64 n] h (fun v h'=>∃x,v=.bool x∧yB h0 h' b T code a c∧∀y,y≠b→h' y=h y):=by
 refine Jo (vs:=[.pointer (some ⟨b,0,none⟩),.int .i64 n]) ⟨rfl,rfl,trivial⟩ (hi.sub H.sub) ?_
 simp only[F7,Tr.wp,zG,Ex.ev,coerce,toInt_int,zB,zI,Cst.val,SV.den,zq,zL,zE,zo,zn,z9,List.flatMap_cons,List.flatMap_nil,List.getD_cons_zero,List.getD_cons_succ,List.map_cons,List.map_nil,List.cons_append,List.nil_append,List.append_nil,if_false,Bool.false_eq_true]
 refine(xU hi H hl n h1 h2).mono ?_
 rintro _ h3 ⟨x,rfl,_,_,C,f⟩
 exact⟨_,rfl,_,rfl,C,f⟩
def U1(h0 h:Eng.Heap)(b:Nat)(T:TypeId)(code:List Int)(a:Option Addr)(c:Nat)(P:List Int→Prop)(v:Value)(h':Eng.Heap):Prop:=
 ∃ys:List Int,P ys∧tB.O h' v ys∧tB.New h v∧yB h0 h' b T code a c∧(∀y,h y≠none→y≠b→h' y=h y)∧∀y∈ys,0≤y∧y<256
theorem Uj(hi:Eng.Inv S h0)(H:yB h0 h b T code a c){a1:Option Addr}{l1 c1:Nat}{ys:List Int}{h3:Eng.Heap}(hy:ys.length=l1)(P:Part .u8 h3 (.slice a1 l1 c1) ys)(N:∀y,ze (.slice a1 l1 c1)=some y→h y=none)(C2:yB h0 h3 b T code a c)(f:∀y,h y≠none→y≠b→h3 y=h y)(hl:ys.length≤1000000){b1:Nat}(hb1:h3 b1=none)(x:Int){ty:TypeId}{byt:Nat}(hby:byt≤16){K:Value→Eng.Heap→Prop}
  (hK:∀a4 c4 h4,Part .u8 h4 (.slice a4 (l1+1) c4) (ys++[x])→(∀y,ze (.slice a4 (l1+1) c4)=some y→h y=none)→yB h0 h4 b T code a c→(∀y,h y≠none→y≠b→h4 y=h y)→K (.slice a4 (l1+1) c4) h4) :
  appW S ty 1 byt [.int .u8 0] (.slice a1 l1 c1) (.slice (some ⟨b1,0,none⟩) 1 1) (upd h3 b1 (.cells (ints .u8 [x]) 5)) K:=by
 have hnb:ze (.slice a1 l1 c1)≠some b:=fun e=>H.held (N b e)
 have s3:Eng.Sub h3 (upd h3 b1 (.cells (ints .u8 [x]) 5)):=Sub.zC hb1
 have hlen:(ys.length + [x].length)*byt≤1000001*16:=Nat.mul_le_mul (by simp only[List.length_singleton];omega) hby
 refine zJ hi (C2.sub.trans s3) (P.sub s3) (fun y hy=>zN H.sub (N y hy)) (ys:=[x]) zj.new (Nat.le_trans hlen (by decide)) fun v' h4 o n4 s4 keep hblk=>?_
 obtain⟨a4,c4,rfl,_,_⟩:=o.ints
 have h3b:upd h3 b1 (.cells (ints .u8 [x]) 5) b=h3 b:=upd_ne fun e=>C2.held (e▸hb1)
 have el:(ys++[x]).length=l1+1:=by simp[hy]
 rw[el]at o n4 hblk ⊢
 refine hK a4 c4 h4 o ?_ (C2.keep s4 (by rw[keep b (by rw[h3b];exact C2.held) hnb,h3b])) (fun y hy1 hy2=>?_)
 ·rcases hblk with e | e
  ·intro y hy;rw[e]at hy;exact N y hy
  ·intro y hy2
   have h6:=zN s3 (e y hy2)
   cases hh:h y with
   | none=>rfl
   | some o=>
    by_cases hyb:y=b
    ·subst hyb;exact absurd h6 C2.held
    ·rw[f y (by rw[hh];simp) hyb,hh]at h6;cases h6
 ·have h5:h3 y=h y:=f y hy1 hy2
  have h6:upd h3 b1 (.cells (ints .u8 [x]) 5) y=h3 y:=upd_ne fun e=>hy1 (by rw[←h5,e];exact hb1)
  rw[keep y (by rw[h6,h5];exact hy1) (fun e=>hy1 (N y e)),h6,h5]
theorem MW(hi:Eng.Inv S h0)(H:yB h0 h b T code a c)(hl:code.length≤1048576)(most:Int)(hm1:1≤most)(hm2:most≤100000) :
  zc Tryz.prog S wI #[.pointer (some ⟨b,0,none⟩),.int .i64 most] h (U1 h0 h b T code a c fun ys=>(ys.length:Int)<most):=by
 refine Jn (vs:=[.pointer (some ⟨b,0,none⟩),.int .i64 most]) ⟨rfl,rfl,trivial⟩ (hi.sub H.sub) ?_
 simp only[F6,Tr.wp,zG,Ex.ev,coerce,toInt_int,zb,zf,zi,zg,zB,zI,arith,Cst.val,SV.den,zq,zL,zE,zo,zn,z9,zU,List.flatMap_cons,List.flatMap_nil,List.getD_cons_zero,List.getD_cons_succ,List.getElem?_cons_zero,List.getElem?_cons_succ,decide_eq_true_eq,decide_eq_false_iff_not,List.map_cons,List.map_nil,List.cons_append,List.nil_append,List.append_nil,if_false,Bool.false_eq_true]
 refine(xU hi H hl most hm1 (by omega)).mono ?_
 rintro _ h1 ⟨n,rfl,n0,n1,C1,f1⟩
 refine⟨_,rfl,?_⟩
 refine(MV hi C1 hl 6 (by omega) (by omega)).mono ?_
 rintro _ h2 ⟨t,rfl,C2,f2⟩
 obtain⟨m,rfl⟩:=Int.eq_ofNat_of_zero_le n0
 have back:∀y,h2 y=none→h y=none:=fun y hy=>by
  by_cases hyb:y=b
  ·subst hyb;exact absurd hy C2.held
  ·rw[f2 y hyb,f1 y hyb]at hy;exact hy
 have fw:∀y,y≠b→h2 y=h y:=fun y hyb=>by rw[f2 y hyb,f1 y hyb]
 refine⟨_,rfl,fun ht=>?_,fun ht=>?_⟩
 ·refine(MU hi C2 hl m (by omega)).mono ?_
  rintro _ h3 ⟨ys,hy,O,N,C3,f3,hbs⟩
  obtain⟨a3,c3,rfl⟩:=CM (tB.OR O)
  exact⟨_,_,_,rfl,ys,by omega,O,fun y hy=>back y (N y hy),C3,fun y h1 h2=>by rw[f3 y (by rw[fw y h2];exact h1) h2,fw y h2],hbs⟩
 ·intro b0 hb0
  have s0:Eng.Sub h2 (upd h2 b0 (.cells (ints .u8 []) 5)):=Sub.zC hb0
  refine⟨fun us h'=>∃(a1:Option Addr) (c1 i:Nat) (ys:List Int),us=[.slice a1 i c1,.int .i64 i]∧i≤m∧ys.length=i∧Part .u8 h' (.slice a1 i c1) ys∧(∀y,ze (.slice a1 i c1)=some y→h y=none)∧yB h0 h' b T code a c∧(∀y,h y≠none→y≠b→h' y=h y)∧∀y∈ys,0≤y∧y<256,
   fun us _=>m-(toInt (us.getD 1 undef)).toNat,⟨_,_,0,[],rfl,by omega,rfl,(Own.made []).part,fun y hy=>back y (New.of hb0 y hy),C2.mono s0,fun y h1 h2=>by rw[upd_ne fun e=>h1 (by rw[←fw y h2,e];exact hb0),fw y h2],fun y hy=>by cases hy⟩,?_⟩
  rintro a1 l1 c1 x h' ⟨a1',c1',i,ys,hx1,hi2,hy,P,N,C,f,hbs⟩
  obtain⟨⟨rfl,rfl,rfl⟩,rfl⟩:(a1=a1'∧l1=i∧c1=c1')∧x=i:=by simpa using hx1
  refine⟨fun hlt=>?_,fun hge=>?_⟩
  ·refine(xU hi C hl 3 (by omega) (by omega)).mono ?_
   rintro _ h3 ⟨x,rfl,x0,x1,C3,f3⟩
   have hnb:ze (.slice a1 l1 c1)≠some b:=fun e=>H.held (N b e)
   refine⟨_,rfl,fun b1 hb1=>?_⟩
   have w2:IntKind.i64.wrap ((l1:Int)+1)=((l1+1:Nat):Int):=by rw[i64_in _ (by omega)];omega
   refine Uj hi H hy (P.keep fun y hy=>f3 y fun e=>hnb (e▸hy)) N C3 (fun y h1 h2=>by rw[f3 y h2,f y h1 h2]) (by omega) hb1 _ (by omega) fun a4 c4 h4 P4 N4 C4 f4=>?_
   simp only[zg,zf,zi,w2]
   refine⟨⟨a4,c4,l1+1,_,rfl,by omega,by simp[hy],P4,N4,C4,f4,fun y hy=>?_⟩,by simp only[List.getD_cons_succ,List.getD_cons_zero,toInt_int];omega⟩
   rcases List.mem_append.1 hy with hy | hy
   ·exact hbs y hy
   ·rw[List.mem_singleton.1 hy,IntKind.wrap_u8];omega
  ·obtain rfl:l1=m:=by omega
   exact⟨ys,by omega,P,N,C,f,hbs⟩
end Go.Proofs.YtnhbgoiihgoneaaGreatDoor
end
section
namespace Go.Proofs.YtnhbgoiihgoneaaGreatDoor
open Go Go.Eng Go.IntWalk
variable {S : Shared} {h h0 : Eng.Heap} {b : Nat} {T : TypeId} {code : List Int} {a : Option Addr} {c : Nat}
theorem MY(hi:Eng.Inv S h0)(H:yB h0 h b T code a c)(hl:code.length≤1048576) :
  zc Tryz.prog S wL #[.pointer (some ⟨b,0,none⟩)] h (U1 h0 h b T code a c fun ys=>(ys.length:Int)<6):=by
 refine Jp (vs:=[.pointer (some ⟨b,0,none⟩)]) ⟨rfl,trivial⟩ (hi.sub H.sub) ?_
 simp only[F8,Tr.wp,zG,Ex.ev,coerce,toInt_int,zb,zf,zi,zg,zh,zB,yi,zI,arith,Cst.val,SV.den,zq,zL,zE,zo,zn,z9,zU,zp,zO,List.flatMap_cons,List.flatMap_nil,List.getD_cons_zero,List.getD_cons_succ,List.getElem?_cons_zero,List.getElem?_cons_succ,decide_eq_true_eq,decide_eq_false_iff_not,List.map_cons,List.map_nil,List.cons_append,List.nil_append,List.append_nil,and_true,if_false,Bool.false_eq_true]
 refine(MW hi H hl 6 (by omega) (by omega)).mono ?_
 rintro _ h1 ⟨ys,hy,O,N,C1,f1,w1⟩
 obtain⟨a1,c1,rfl,hc1,hx1⟩:=Part.ints O
 refine⟨_,_,_,rfl,?_⟩
 refine⟨fun us h'=>∃(j:Nat) (zs:List Int),us=[.int .i64 j]∧j≤zs.length∧zs.length=ys.length∧Part .u8 h' (.slice a1 ys.length c1) zs∧yB h0 h' b T code a c∧(∀y,h y≠none→y≠b→h' y=h y)∧∀y∈zs,0≤y∧y<256,
  fun us _=>ys.length-(toInt (us.getD 0 undef)).toNat,⟨0,ys,rfl,by omega,rfl,O,C1,f1,w1⟩,?_⟩
 rintro x h' ⟨j,zs,hx,hj,hlz,P,C,f,w⟩
 simp only[List.cons.injEq,Value.int.injEq,true_and,and_true]at hx
 obtain rfl:=hx
 refine⟨fun hlt=>?_,fun hge=>?_⟩
 ·have hjn:j<ys.length:=by omega
  have hjz:j<zs.length:=by omega
  have w2:IntKind.i64.wrap ((j:Int)+1)=((j+1:Nat):Int):=by rw[i64_in _ (by omega)];omega
  have P':Part .u8 h' (.slice a1 zs.length c1) zs:=by rw[hlz];exact P
  obtain⟨_,_,e2,_,hx2⟩:=P'.ints
  cases e2
  obtain⟨cell,hsome⟩:=hx2.cell (List.getElem?_eq_getElem hjz)
  have hns:(!a1.isNone)=true:=by cases a1 <;> simp_all
  have W:=P.put (S:=S) (fun y hy hs=>hi y hs (zN H.sub (N y hy))) (i:=j) hjz 122 (K:=fun h''=>Part .u8 h'' (.slice a1 ys.length c1) (zs.set j 122)∧∀y,ze (.slice a1 ys.length c1)≠some y→h'' y=h' y) (fun h'' p k=>⟨p,k⟩)
  simp only[zO,zg]at W
  obtain⟨ok,P2,k2⟩:=W
  rw[Int.toNat_natCast,w2]
  refine⟨hns,by omega,by omega,_,by simpa[Addr.add]using cell,fun hz=>?_,fun hz=>?_⟩
  ·refine⟨hns,by omega,by omega,ok,fun _=>⟨⟨j+1,zs.set j 122,rfl,by rw[List.length_set];omega,by rw[List.length_set];exact hlz,P2,?_,fun y g1 g2=>?_,fun y hy=>?_⟩,by simp only[List.getD_cons_zero,toInt_int];omega⟩⟩
   ·have hb:=k2 b (fun e=>H.held (N b e))
    exact C.keep (fun y o ho=>by
     rw[k2 y (fun e=>by rw[zN H.sub (N y e)]at ho;cases ho)]
     exact C.sub y o ho) hb
   ·rw[k2 y (fun e=>g1 (N y e)),f y g1 g2]
   ·rcases List.mem_or_eq_of_mem_set hy with g | g
    ·exact w y g
    ·omega
  ·exact fun _=>⟨⟨j+1,zs,rfl,by omega,hlz,P,C,f,w⟩,by simp only[List.getD_cons_zero,toInt_int];omega⟩
 ·exact⟨zs,by omega,P,N,C,f,w⟩
end Go.Proofs.YtnhbgoiihgoneaaGreatDoor
end
section
namespace Go.Proofs.YtnhbgoiihgoneaaGreatDoor
open Go Go.Eng Go.IntWalk
variable {S : Shared} {h : Eng.Heap}
theorem JA(hi:Eng.Inv S h){n0 n1 n2 n3 n7:Int}{xs ys zs:List Int}{a1 a2 a3 b1 b2 b3:Option Addr}{c1 c2 c3 d1 d2 d3:Nat}(H1:zj h .u8 a1 xs)(H2:zj h .u8 a2 ys)(H3:zj h .u8 a3 zs)(G1:zj h .u8 b1 xs)(G2:zj h .u8 b2 ys)(G3:zj h .u8 b3 zs) :
  zc Tryz.prog S q9 #[.agg #[.int .i64 n0,.int .i64 n1,.int .i64 n2,.int .i64 n3,.slice a1 xs.length c1,.slice a2 ys.length c2,.slice a3 zs.length c3,.int .i64 n7],.agg #[.int .i64 n0,.int .i64 n1,.int .i64 n2,.int .i64 n3,.slice b1 xs.length d1,.slice b2 ys.length d2,.slice b3 zs.length d3,.int .i64 n7]] h (fun v h'=>v=.bool true∧h'=h):=by
 refine Ht (vs:=[.int .i64 n0,.int .i64 n1,.int .i64 n2,.int .i64 n3,.slice a1 xs.length c1,.slice a2 ys.length c2,.slice a3 zs.length c3,.int .i64 n7,.int .i64 n0,.int .i64 n1,.int .i64 n2,.int .i64 n3,.slice b1 xs.length d1,.slice b2 ys.length d2,.slice b3 zs.length d3,.int .i64 n7]) ⟨rfl,rfl,rfl,rfl,rfl,rfl,rfl,rfl,rfl,rfl,rfl,rfl,rfl,rfl,rfl,rfl,trivial⟩ hi ?_
 simp only[Di,Tr.wp,zG,Ex.ev,coerce,toInt_int,zb,zf,zi,zg,wz,zI,Cst.val,SV.den,zq,zL,zE,zo,zn,z9,List.flatMap_cons,List.flatMap_nil,List.getD_cons_zero,List.getD_cons_succ,List.getElem?_cons_zero,List.map_cons,List.map_nil,List.cons_append,List.nil_append,List.append_nil,and_true,if_true,if_false,Bool.false_eq_true,beq_self_eq_true]
 refine⟨fun _=>?_,fun h=>by simp at h⟩
 refine(Ds hi H1 G1).mono ?_
 rintro _ _ ⟨rfl,rfl⟩
 refine⟨_,rfl,fun _=>?_,fun h=>by cases h⟩
 refine(Ds hi H2 G2).mono ?_
 rintro _ _ ⟨rfl,rfl⟩
 refine⟨_,rfl,fun _=>?_,fun h=>by cases h⟩
 refine(Ds hi H3 G3).mono ?_
 rintro _ _ ⟨rfl,rfl⟩
 refine⟨_,rfl,fun _=>?_⟩
 exact⟨by simp,rfl⟩
end Go.Proofs.YtnhbgoiihgoneaaGreatDoor
end
section
namespace Go.Proofs.YtnhbgoiihgoneaaGreatDoor
open Go Go.Eng Go.IntWalk
variable {S : Shared} {h h0 hs h' : Eng.Heap} {b : Nat} {T : TypeId} {code : List Int} {a : Option Addr} {c : Nat} {Post : Value → Eng.Heap → Prop}
def DP(hs h:Eng.Heap)(b:Nat)(u:Value)(x:List Int):Prop:=tB.O h u x∧(∃a l c,u=.slice a l c)∧x.length≤5∧(∀y∈x,0≤y∧y<256)∧∀y,ze u=some y→hs y=none∧y≠b
theorem DP.nil:DP hs h b (.slice none 0 0) []:=⟨Part.nil,⟨_,_,_,rfl⟩,by simp,fun y hy=>(by cases hy),fun y hy=>(by cases hy)⟩
theorem DP.keep{u:Value}{x:List Int}(H:DP hs h b u x)(f:∀y,h y≠none→y≠b→h' y=h y):DP hs h' b u x:=
 ⟨H.1.keep fun y hy=>f y (H.1.held y hy) (H.2.2.2.2 y hy).2,H.2⟩
def DM(h0 hs:Eng.Heap)(b:Nat)(T:TypeId)(code:List Int)(a:Option Addr)(c:Nat)(v:Value)(h':Eng.Heap):Prop:=
 ∃(n0 n1 n2 n3:Int) (u4 u5 u6:Value) (x4 x5 x6:List Int),v=.agg #[.int .i64 n0,.int .i64 n1,.int .i64 n2,.int .i64 n3,u4,u5,u6,.int .i64 0]∧DP hs h' b u4 x4∧DP hs h' b u5 x5∧DP hs h' b u6 x6 ∧
  (∀y,ze u4=some y→ze u5≠some y)∧(∀y,ze u4=some y→ze u6≠some y)∧(∀y,ze u5=some y→ze u6≠some y)∧yB h0 h' b T code a c∧(∀y,hs y≠none→y≠b→h' y=hs y)
theorem U2(hi:Eng.Inv S h0)(H:yB h0 h b T code a c)(hl:code.length≤1048576){n0 n1 n2 n3:Int}{u4 u5:Value}{x4 x5:List Int}(D4:DP hs h b u4 x4)(D5:DP hs h b u5 x5)(d45:∀y,ze u4=some y→ze u5≠some y)(f:∀y,hs y≠none→y≠b→h y=hs y)(n1':0≤n1∧n1<65536) :
  lm3.wp Tryz.prog S yg (DM h0 hs b T code a c) [.pointer (some ⟨b,0,none⟩),.int .i64 n0,.int .i64 n1,.int .i64 n2,.int .i64 n3,u4,u5] h []:=by
 obtain⟨a4,l4,c4,rfl⟩:=D4.2.1
 obtain⟨a5,l5,c5,rfl⟩:=D5.2.1
 simp only[lm3,Tr.wp,zG,Ex.ev,coerce,toInt_int,zb,zf,zi,zg,zB,zI,arith,Cst.val,SV.den,zq,zL,zE,zo,zn,z9,List.flatMap_cons,List.flatMap_nil,List.getD_cons_zero,List.getD_cons_succ,List.getElem?_cons_zero,List.map_cons,List.map_nil,List.cons_append,List.nil_append,List.append_nil,if_false,Bool.false_eq_true]
 refine⟨fun _=>?_,fun _ _=>?_⟩
 ·refine(MY hi H hl).mono ?_
  rintro _ h1 ⟨ys,hy,O,N,C1,f1,w1⟩
  obtain⟨a6,c6,rfl⟩:=CM (tB.OR O)
  have back:∀y,h y=none→hs y=none∨y=b:=fun y hy=>by
   by_cases g:y=b
   ·exact .inr g
   ·by_cases g2:hs y=none
    ·exact .inl g2
    ·exact absurd (f y g2 g▸hy:hs y=none) g2
  refine⟨_,_,_,rfl,fun _=>?_⟩
  refine⟨_,_,_,_,_,_,_,x4,x5,ys,rfl,D4.keep f1,D5.keep f1,⟨O,⟨_,_,_,rfl⟩,by omega,w1,fun y hy=>?_⟩,d45,fun y g1 g2=>D4.1.held y g1 (N y g2),fun y g1 g2=>D5.1.held y g1 (N y g2),C1,fun y g1 g2=>by rw[f1 y (by rw[f y g1 g2];exact g1) g2,f y g1 g2]⟩
  have hy2:y≠b:=fun e=>H.held (e▸N y hy)
  rcases back y (N y hy)with g | g
  ·exact⟨g,hy2⟩
  ·exact absurd g hy2
 ·exact⟨_,_,_,_,_,_,_,x4,x5,[],rfl,D4,D5,DP.nil,d45,fun y _ g=>(by cases g),fun y _ g=>(by cases g),H,f⟩
theorem U3(f:∀y,hs y≠none→y≠b→h y=hs y){y:Nat}(hy:h y=none)(hn:h b≠none):hs y=none∧y≠b:=by
 have g:y≠b:=fun e=>hn (e▸hy)
 refine⟨?_,g⟩
 by_cases g2:hs y=none
 ·exact g2
 ·exact absurd (f y g2 g▸hy:hs y=none) g2
theorem U4(hi:Eng.Inv S h0)(H:yB h0 h b T code a c)(hl:code.length≤1048576){n0 n1 n2 n3:Int}{u4:Value}{x4:List Int}(D4:DP hs h b u4 x4)(f:∀y,hs y≠none→y≠b→h y=hs y)(n1':0≤n1∧n1<65536) :
  lm2.wp Tryz.prog S yg (DM h0 hs b T code a c) [.pointer (some ⟨b,0,none⟩),.int .i64 n0,.int .i64 n1,.int .i64 n2,.int .i64 n3,u4] h []:=by
 obtain⟨a4,l4,c4,rfl⟩:=D4.2.1
 simp only[lm2,Tr.wp,zG,Ex.ev,coerce,toInt_int,zb,zf,zi,zg,zB,zI,arith,Cst.val,SV.den,zq,zL,zE,zo,zn,z9,List.flatMap_cons,List.flatMap_nil,List.getD_cons_zero,List.getD_cons_succ,List.getElem?_cons_zero,List.map_cons,List.map_nil,List.cons_append,List.nil_append,List.append_nil,if_false,Bool.false_eq_true]
 refine⟨fun _=>?_,fun _ _=>?_⟩
 ·refine(MY hi H hl).mono ?_
  rintro _ h1 ⟨ys,hy,O,N,C1,f1,w1⟩
  obtain⟨a6,c6,rfl⟩:=CM (tB.OR O)
  refine⟨_,_,_,rfl,fun _=>?_⟩
  exact U2 hi C1 hl (D4.keep f1) ⟨O,⟨_,_,_,rfl⟩,by omega,w1,fun y hy=>U3 f (N y hy) H.held⟩ (fun y g1 g2=>D4.1.held y g1 (N y g2)) (fun y g1 g2=>by rw[f1 y (by rw[f y g1 g2];exact g1) g2,f y g1 g2]) n1'
 ·exact U2 hi H hl D4 DP.nil (fun y _ g=>(by cases g)) f n1'
theorem PI(hi:Eng.Inv S h0)(H:yB h0 h b T code a c)(hl:code.length≤1048576) :
  zc Tryz.prog S Ak #[.pointer (some ⟨b,0,none⟩)] h (DM h0 h b T code a c):=by
 refine Hu (vs:=[.pointer (some ⟨b,0,none⟩)]) ⟨rfl,trivial⟩ (hi.sub H.sub) ?_
 simp only[Dj,Tr.wp,zG,Ex.ev,coerce,toInt_int,zb,zf,zi,zg,zB,zI,arith,Cst.val,SV.den,zq,zL,zE,zo,zn,z9,List.flatMap_cons,List.flatMap_nil,List.getD_cons_zero,List.getD_cons_succ,List.getElem?_cons_zero,List.map_cons,List.map_nil,List.cons_append,List.nil_append,List.append_nil,if_false,Bool.false_eq_true]
 refine(xU hi H hl 32 (by omega) (by omega)).mono ?_
 rintro _ h1 ⟨n0,rfl,p0,p1,C1,f1⟩
 refine⟨_,rfl,?_⟩
 refine(xU hi C1 hl 65536 (by omega) (by omega)).mono ?_
 rintro _ h2 ⟨n1,rfl,p2,p3,C2,f2⟩
 refine⟨_,rfl,?_⟩
 refine(xU hi C2 hl 256 (by omega) (by omega)).mono ?_
 rintro _ h3 ⟨n2,rfl,p4,p5,C3,f3⟩
 refine⟨_,rfl,?_⟩
 refine(xU hi C3 hl 256 (by omega) (by omega)).mono ?_
 rintro _ h4 ⟨n3,rfl,p6,p7,C4,f4⟩
 have f:∀y,h y≠none→y≠b→h4 y=h y:=fun y _ g=>by rw[f4 y g,f3 y g,f2 y g,f1 y g]
 refine⟨_,rfl,fun _=>?_,fun _ _=>?_⟩
 ·refine(xU hi C4 hl 5 (by omega) (by omega)).mono ?_
  rintro _ h5 ⟨n4,rfl,p8,p9,C5,f5⟩
  obtain⟨m,rfl⟩:=Int.eq_ofNat_of_zero_le p8
  refine⟨_,rfl,?_⟩
  refine(MU hi C5 hl m (by omega)).mono ?_
  rintro _ h6 ⟨ys,hy,O,N,C6,f6,w6⟩
  obtain⟨a6,c6,rfl⟩:=CM (tB.OR O)
  have g5:∀y,h y≠none→y≠b→h5 y=h y:=fun y g1 g2=>by rw[f5 y g2,f y g1 g2]
  refine⟨_,_,_,rfl,fun _=>?_⟩
  exact U4 hi C6 hl ⟨O,⟨_,_,_,rfl⟩,by omega,w6,fun y hy=>U3 g5 (N y hy) C5.held⟩ (fun y g1 g2=>by rw[f6 y (by rw[g5 y g1 g2];exact g1) g2,g5 y g1 g2]) ⟨p2,p3⟩
 ·exact U4 hi C4 hl DP.nil f ⟨p2,p3⟩
end Go.Proofs.YtnhbgoiihgoneaaGreatDoor
end
section
namespace Go.Proofs.YtnhbgoiihgoneaaGreatDoor
open Go Go.Eng Go.IntWalk
variable {S : Shared} {h h0 hs h' : Eng.Heap} {b : Nat} {T : TypeId} {code : List Int} {a : Option Addr} {c : Nat}
def DR(h:Eng.Heap)(b:Nat)(u:Value)(x:List Int):Prop:=∃a c,u=.slice a x.length c∧zj h .u8 a x∧x.length≤65536∧(∀y∈x,0≤y∧y≤255)∧∀ad,a=some ad→ad.block≠b
theorem Xi{k:IntKind}{a:Option Addr}{x:List Int}(H:zj h k a x)(n:∀ad,a=some ad→ad.block≠b)(f:∀y,h y≠none→y≠b→h' y=h y):zj h' k a x:=fun i y hy=>by
 obtain⟨ad,e,hc⟩:=H i y hy
 refine⟨ad,e,?_⟩
 have hb:(ad.add i).block=ad.block:=add_block _ _
 have:=xx hc
 rw[hb]at this
 unfold zd at hc ⊢
 rw[hb]at hc ⊢
 rw[f _ this (n ad e)]
 exact hc
theorem DR.keep{u:Value}{x:List Int}(H:DR h b u x)(f:∀y,h y≠none→y≠b→h' y=h y):DR h' b u x:=by
 obtain⟨a,c,e,H,l,w,n⟩:=H
 exact⟨a,c,e,Xi H n f,l,w,n⟩
theorem DP.dr{u:Value}{x:List Int}(H:DP hs h b u x):DR h b u x:=by
 obtain⟨a,c,e,g⟩:=tB.OR H.1
 subst e
 refine⟨a,c,rfl,g,by have:=H.2.2.1;omega,fun y hy=>by have:=H.2.2.2.1 y hy;omega,fun ad e=>?_⟩
 subst e
 exact(H.2.2.2.2 ad.block rfl).2
def DV(h0 h:Eng.Heap)(b:Nat)(T:TypeId)(code:List Int)(a:Option Addr)(c:Nat)(v:Value):Prop:=
 ∃(n0 n1 n2 n3 n7:Int) (u4 u5 u6:Value) (x4 x5 x6:List Int),v=.agg #[.int .i64 n0,.int .i64 n1,.int .i64 n2,.int .i64 n3,u4,u5,u6,.int .i64 n7]∧DR h b u4 x4∧DR h b u5 x5∧DR h b u6 x6∧yB h0 h b T code a c
theorem RN{b1:Nat}{xs:List Int}{n:Nat}(hb:h b1=none)(hc:h b≠none)(hn:xs.length=n)(hl:xs.length≤65536)(hw:∀y∈xs,0≤y∧y≤255){o:Obj}(g:zj (upd h b1 o) .u8 (some ⟨b1,0,none⟩) xs):DR (upd h b1 o) b (.slice (some ⟨b1,0,none⟩) n n) xs:=
 ⟨_,_,by rw[hn],g,hl,hw,fun ad e=>by cases e;exact fun e=>hc (e▸hb)⟩
theorem JB(hi:Eng.Inv S h0)(H:yB h0 h b T code a c)(hl:code.length≤1048576){n0 n1 n2 n3 n7:Int}{u4 u5 u6:Value}{x4 x5 x6:List Int}(D4:DR h b u4 x4)(D5:DR h b u5 x5)(D6:DR h b u6 x6) :
  zc Tryz.prog S kN #[.pointer (some ⟨b,0,none⟩),.agg #[.int .i64 n0,.int .i64 n1,.int .i64 n2,.int .i64 n3,u4,u5,u6,.int .i64 n7]] h (fun v h'=>DV h0 h' b T code a c v∧∀y,h y≠none→y≠b→h' y=h y):=by
 obtain⟨a4,c4,rfl,g4,l4,w4,m4⟩:=id D4
 obtain⟨a5,c5,rfl,g5,l5,w5,m5⟩:=id D5
 obtain⟨a6,c6,rfl,g6,l6,w6,m6⟩:=id D6
 refine DN (vs:=[.pointer (some ⟨b,0,none⟩),.int .i64 n0,.int .i64 n1,.int .i64 n2,.int .i64 n3,.slice a4 x4.length c4,.slice a5 x5.length c5,.slice a6 x6.length c6,.int .i64 n7]) ⟨rfl,rfl,rfl,rfl,rfl,rfl,rfl,rfl,rfl,trivial⟩ (hi.sub H.sub) ?_
 simp only[Av,Tr.wp,FI,zG,Ex.ev,coerce,toInt_int,zb,zf,zi,zg,zB,IZ,zI,arith,Cst.val,SV.den,zq,zL,zE,zo,zn,z9,List.flatMap_cons,List.flatMap_nil,List.getD_cons_zero,List.getD_cons_succ,List.getElem?_cons_zero,List.getElem?_cons_succ,List.map_cons,List.map_nil,List.cons_append,List.nil_append,List.append_nil,if_false,Bool.false_eq_true]
 refine(xU hi H hl 8 (by omega) (by omega)).mono ?_
 rintro _ h1 ⟨k,rfl,p0,p1,C1,f1⟩
 have D4:=D4.keep fun y _=>f1 y
 have D5:=D5.keep fun y _=>f1 y
 have D6:=D6.keep fun y _=>f1 y
 refine⟨_,rfl,?_⟩
 have up:∀ {hh:Eng.Heap} {b1:Nat} {o:Obj},hh b1=none→∀y,hh y≠none→y≠b→upd hh b1 o y=hh y:=fun hb y hy _=>upd_ne fun e=>hy (e▸hb)
 refine⟨fun _=>?_,fun _=>⟨fun _=>?_,fun _=>⟨fun _=>?_,fun _=>⟨fun _=>?_,fun _=>⟨fun _=>?_,fun _=>⟨fun _=>?_,fun _=>⟨fun _=>?_,fun _=>?_⟩⟩⟩⟩⟩⟩⟩
 ·intros;exact⟨⟨_,_,_,_,_,_,_,_,x4,x5,x6,rfl,D4,D5,D6,C1⟩,fun y _ g=>f1 y g⟩
 ·refine(xU hi C1 hl 2 (by omega) (by omega)).mono ?_
  rintro _ h2 ⟨q,rfl,_,_,C2,f2⟩
  refine⟨_,rfl,?_⟩
  intros;exact⟨⟨_,_,_,_,_,_,_,_,x4,x5,x6,rfl,D4.keep fun y _=>f2 y,D5.keep fun y _=>f2 y,D6.keep fun y _=>f2 y,C2⟩,fun y _ g=>(f2 y g).trans (f1 y g)⟩
 ·intros;exact⟨⟨_,_,_,_,_,_,_,_,x4,x5,x6,rfl,D4,D5,D6,C1⟩,fun y _ g=>f1 y g⟩
 ·intros;exact⟨⟨_,_,_,_,_,_,_,_,x4,x5,x6,rfl,D4,D5,D6,C1⟩,fun y _ g=>f1 y g⟩
 ·intro b1 hb1
  intros
  exact⟨⟨_,_,_,_,_,_,_,_,x4,[97,0],x6,rfl,D4.keep (up hb1),RN hb1 C1.held rfl (by simp) (by simp) (zj.new (xs:=[97,0])),D6.keep (up hb1),C1.mono (Sub.zC hb1)⟩,fun y hy g=>(up hb1 y (by rw[f1 y g];exact hy) g).trans (f1 y g)⟩
 ·intro b1 hb1
  refine⟨⟨b1,0,none⟩,1,1,#[.int .u8 99],_,rfl,upd_same,EO (hi.sub C1.sub) hb1,?_⟩
  have u2:∀ {o1 o2:Obj} y,y≠b1→upd (upd h1 b1 o1) b1 o2 y=h1 y:=fun y hy=>by rw[upd_ne hy,upd_ne hy]
  have ne:∀y,h1 y≠none→y≠b1:=fun y hy e=>hy (e▸hb1)
  intros
  refine⟨⟨_,_,_,_,_,_,_,_,x4,x5,[99],rfl,D4.keep fun y hy _=>u2 y (ne y hy),D5.keep fun y hy _=>u2 y (ne y hy),⟨_,1,rfl,fun i x hx=>?_,by simp,by simp,fun ad e=>?_⟩,C1.mono fun y o hy=>by rw[u2 y (ne y (by rw[hy];simp))];exact hy⟩,fun y hy g=>(u2 y (ne y (by rw[f1 y g];exact hy))).trans (f1 y g)⟩
  ·cases i with
   | zero=>
    obtain rfl:x=99:=by simpa using hx.symm
    exact⟨_,rfl,by rw[ye];simp[zd,upd]⟩
   | succ i=>simp at hx
  ·cases e;exact fun e=>C1.held (e▸hb1)
 ·refine(xU hi C1 hl 2 (by omega) (by omega)).mono ?_
  rintro _ h2 ⟨q,rfl,q0,q1,C2,f2⟩
  refine⟨_,rfl,?_⟩
  have w:IntKind.i64.wrap (IntKind.i64.wrap (65535+q))=65535+q:=by rw[i64_in (65535+q) (by omega),i64_in _ (by omega)]
  rw[w]
  refine⟨by omega,Int.le_refl _,by omega,fun b1 hb1=>?_⟩
  obtain⟨m,hm⟩:∃m:Nat,(65535+q).toNat=m:=⟨_,rfl⟩
  rw[hm,Nat.mul_one,qI]
  intros
  exact⟨⟨_,_,_,_,_,_,_,_,List.replicate m 0,x5,x6,rfl,RN hb1 C2.held (by simp) (by simp;omega) (fun y hy=>by rw[List.eq_of_mem_replicate hy];omega) zj.new,(D5.keep fun y _=>f2 y).keep (up hb1),(D6.keep fun y _=>f2 y).keep (up hb1),C2.mono (Sub.zC hb1)⟩,fun y hy g=>(up hb1 y (by rw[f2 y g,f1 y g];exact hy) g).trans ((f2 y g).trans (f1 y g))⟩
 ·intros;exact⟨⟨_,_,_,_,_,_,_,_,x4,x5,x6,rfl,D4,D5,D6,C1⟩,fun y _ g=>f1 y g⟩
def DG(h:Eng.Heap)(v:Value)(h':Eng.Heap):Prop:=
 ∃(n0 n1 n2 n3 n7:Int) (a4 a5 a6 a8:Option Addr) (c4 c5 c6 c8:Nat) (x4 x5 x6 ys:List Int),v=.tuple #[.agg #[.int .i64 n0,.int .i64 n1,.int .i64 n2,.int .i64 n3,.slice a4 x4.length c4,.slice a5 x5.length c5,.slice a6 x6.length c6,.int .i64 n7],.slice a8 ys.length c8] ∧
  zj h' .u8 a4 x4∧zj h' .u8 a5 x5∧zj h' .u8 a6 x6∧x4.length≤65536∧x5.length≤65536∧x6.length≤65536∧(∀y∈x4,0≤y∧y≤255)∧(∀y∈x5,0≤y∧y≤255)∧(∀y∈x6,0≤y∧y≤255) ∧
  tB.O h' (.slice a8 ys.length c8) ys∧ys.length≤29∧(∀y∈ys,0≤y∧y≤255)∧Eng.Sub h h'
theorem CV(hi:Eng.Inv S h)(hx:zj h .u8 a code)(hl:code.length≤1048576):zc Tryz.prog S xV #[.slice a code.length c] h (DG h):=by
 refine Da (vs:=[.slice a code.length c]) ⟨rfl,trivial⟩ hi ?_
 simp only[wY,Tr.wp,zG,Ex.ev,coerce,toInt_int,zb,zf,zi,zg,zB,Cst.val,SV.den,zq,zL,zE,zo,zn,z9,List.flatMap_cons,List.flatMap_nil,List.getD_cons_zero,List.getD_cons_succ,List.getElem?_cons_zero,List.map_cons,List.map_nil,List.cons_append,List.nil_append,List.append_nil,Nat.zero_add,if_true,if_false,Bool.false_eq_true]
 refine(VH hi hx hl).mono ?_
 rintro _ h1 ⟨b,T,rfl,C1⟩
 refine⟨_,rfl,?_⟩
 refine(PI hi C1 hl).mono ?_
 rintro _ h2 ⟨n0,n1,n2,n3,u4,u5,u6,x4,x5,x6,rfl,D4,D5,D6,_,_,_,C2,f2⟩
 have D4:=D4.dr
 have D5:=D5.dr
 have D6:=D6.dr
 obtain⟨a4,c4,rfl,_⟩:=id D4
 obtain⟨a5,c5,rfl,_⟩:=id D5
 obtain⟨a6,c6,rfl,_⟩:=id D6
 refine⟨_,_,_,_,_,_,_,_,_,_,_,_,_,_,rfl,?_⟩
 refine(MW hi C2 hl 30 (by omega) (by omega)).mono ?_
 rintro _ h3 ⟨ys,hy,O,N,C3,f3,hbs⟩
 obtain⟨a8,c8,rfl⟩:=CM (tB.OR O)
 have hnb:∀y,ze (.slice a8 ys.length c8)=some y→y≠b:=fun y hy e=>C2.held (e▸N y hy)
 have D4:=D4.keep f3
 have D5:=D5.keep f3
 have D6:=D6.keep f3
 refine⟨_,_,_,rfl,?_⟩
 refine(MV hi C3 hl 8 (by omega) (by omega)).mono ?_
 rintro _ h4 ⟨t,rfl,C4,f4⟩
 have O:=tB.Okeep O fun y hy=>f4 y (hnb y hy)
 have D4:=D4.keep fun y _=>f4 y
 have D5:=D5.keep fun y _=>f4 y
 have D6:=D6.keep fun y _=>f4 y
 have fin:∀ {m0 m1 m2 m3 m7:Int} {v4 v5 v6:Value} {z4 z5 z6:List Int} {h5:Eng.Heap},DR h5 b v4 z4→DR h5 b v5 z5→DR h5 b v6 z6→yB h h5 b T code a c→tB.O h5 (.slice a8 ys.length c8) ys →
   DG h (.tuple #[.agg #[.int .i64 m0,.int .i64 m1,.int .i64 m2,.int .i64 m3,v4,v5,v6,.int .i64 m7],.slice a8 ys.length c8]) h5:=fun G4 G5 G6 C5 O5=>by
  obtain⟨_,_,rfl,g4,l4,w4,_⟩:=G4
  obtain⟨_,_,rfl,g5,l5,w5,_⟩:=G5
  obtain⟨_,_,rfl,g6,l6,w6,_⟩:=G6
  exact⟨_,_,_,_,_,_,_,_,_,_,_,_,_,_,_,_,ys,rfl,g4,g5,g6,l4,l5,l6,w4,w5,w6,O5,by omega,fun y hy=>by have:=hbs y hy;omega,C5.sub⟩
 refine⟨_,rfl,fun _=>?_,fun _ _=>fin D4 D5 D6 C4 O⟩
 refine(JB hi C4 hl D4 D5 D6).mono ?_
 rintro _ h5 ⟨⟨m0,m1,m2,m3,m7,v4,v5,v6,z4,z5,z6,rfl,G4,G5,G6,C5⟩,f5⟩
 have O5:=tB.Okeep O fun y hy=>f5 y (tB.Oheld O (show tB.B _ y from hy)) (hnb y hy)
 obtain⟨_,_,rfl,_⟩:=id G4
 obtain⟨_,_,rfl,_⟩:=id G5
 obtain⟨_,_,rfl,_⟩:=id G6
 exact⟨_,_,_,_,_,_,_,_,_,_,_,_,_,_,rfl,fun _=>fin G4 G5 G6 C5 O5⟩
end Go.Proofs.YtnhbgoiihgoneaaGreatDoor
end
section
namespace Go.Proofs.YtnhbgoiihgoneaaGreatDoor
open Go Go.Eng Go.IntWalk
section
variable {S : Shared} {h h0 : Eng.Heap}
variable {bm : Nat} {a : Option Addr} {c : Nat} {bs : List Int} {m : MC} {T : TypeId}
theorem RO(hi:Eng.Inv S h0)(G:Errs h0)(hx:zj h0 .u8 a bs)(L:bs.length≤65536){r:Rd}(M:MP h0 h bm a c bs m T r)(hk:r.k=0) :
  zc Tryz.prog S jJ #[.pointer (some ⟨bm,0,none⟩)] h (PB h0 h bm a c bs m T (txL bs (bs.length+1) r [])):=by
 obtain⟨p0,hp0,hr0,MA⟩:=M
 have hbm:h bm≠none:=by rw[MA.hb];simp
 refine EW (vs:=[.pointer (some ⟨bm,0,none⟩)]) ⟨rfl,trivial⟩ (hi.sub MA.sb) ?_
 simp only[Bu,Tr.wp,zG,Ex.ev,coerce,toInt_int,zb,zf,zi,zg,zh,zB,zZ,zI,Cst.val,SV.den,zq,zL,zE,zo,zn,z9,zU,List.flatMap_cons,List.flatMap_nil,List.getD_cons_zero,List.getD_cons_succ,List.getElem?_cons_zero,List.map_cons,List.map_nil,List.cons_append,List.nil_append,List.append_nil,List.length_cons,List.length_nil,Nat.zero_add,Nat.add_zero,if_true,if_false,Bool.false_eq_true,zm]
 intro b0 hb0
 have e0:(#[]:Array Value)=ints .u8 []:=rfl
 rw[e0]
 have s0:Eng.Sub h (upd h b0 (.cells (ints .u8 []) 5)):=Sub.zC hb0
 have nb0:b0≠bm:=fun e=>hbm (e▸hb0)
 have ri0:0≤r.i:=by rw[hr0 hk];simp only;omega
 refine⟨fun us h'=>∃(f:Nat) (r':Rd) (acc:List Int) (a1:Option Addr) (c1:Nat),us=[.slice a1 acc.length c1]∧f+acc.length=bs.length+1∧r'.k=0∧8*(acc.length:Int)≤r'.i∧r'.i≤8*(bs.length:Int)∧Part .u8 h' (.slice a1 acc.length c1) acc∧(∀y,ze (.slice a1 acc.length c1)=some y→h y=none)∧MP h0 h' bm a c bs m T r'∧(∀y,h y≠none→y≠bm→h' y=h y)∧txL bs f r' acc=txL bs (bs.length+1) r [],
  fun us _=>bs.length+1-slL (us.getD 0 undef),⟨bs.length+1,r,[],_,_,rfl,rfl,hk,by simpa using ri0,by rw[hr0 hk];simp only;omega,(Own.made (k:=.u8) (h:=h) (b:=b0) (T:=5) []).part,New.of hb0,MP.upd' ⟨p0,hp0,hr0,MA⟩ (upd_ne (Ne.symm nb0)) (MA.sb.trans s0),fun y h1 _=>upd_ne fun e=>h1 (e▸hb0),rfl⟩,?_⟩
 rintro a1 l1 c1 h' ⟨f,r',acc,a1',c1',hx1,hf,hk',hri,hrl,P,N,M',fr,e⟩
 simp only[List.cons.injEq,Value.slice.injEq,and_true]at hx1
 obtain⟨rfl,rfl,rfl⟩:=hx1
 have sub':Eng.Sub h0 h':=by obtain⟨_,_,_,M2⟩:=M';exact M2.sb
 have hf1:∃f1,f=f1+1:=⟨f-1,by omega⟩
 obtain⟨f1,rfl⟩:=hf1
 rw[txL,if_pos hk']at e
 refine⟨by simp,?_⟩
 refine zc.mono (MT hi G hx (by omega) M' hk' 8 (by omega)) ?_
 rintro _ h1 ⟨rfl,M1,f1'⟩
 have nm:=yD (bs:=bs) (n:=8) (r:=r')
 have e8:(2:Int)^8=256:=by decide
 rw[e8]at nm
 have nbk:∀y,ze (.slice a1 acc.length c1)=some y→y≠bm:=fun y hy e=>hbm (e▸N y hy)
 have P1:Part .u8 h1 (.slice a1 acc.length c1) acc:=P.keep fun y hy=>f1' y (nbk y hy)
 have fr1:∀y,h y≠none→y≠bm→h1 y=h y:=fun y g1 g2=>(f1' y g2).trans (fr y g1 g2)
 have sub1:Eng.Sub h0 h1:=by obtain⟨_,_,_,M2⟩:=M1;exact M2.sb
 refine⟨_,zA (tk bs 8 r').1.k,za,by rw[za],fun hz=>?_,fun hz=>?_⟩
 ·rw[za,zt]at hz
  have hk1:(tk bs 8 r').1.k≠0:=by simpa using hz
  rw[if_pos (Vp hk1)]at e
  rw[←e]
  exact⟨.slice none 0 0,⟨_,_,_,rfl⟩,by rw[za],fun h=>absurd h hk1,fun y hy=>(by cases hy),M1,fr1,sub1⟩
 ·rw[za,zt]at hz
  have hk1:(tk bs 8 r').1.k=0:=by simpa using hz
  refine⟨fun hzr=>?_,fun hnz=>?_⟩
  ·have hzr:(tk bs 8 r').2=0:=by simpa using hzr
   rw[if_pos hzr]at e
   rw[←e]
   exact⟨_,⟨_,_,_,rfl⟩,by rw[hk1];rfl,fun _=>P1,N,M1,fr1,sub1⟩
  ·have hnz:(tk bs 8 r').2≠0:=by simpa using hnz
   rw[if_neg hnz]at e
   have wb:IntKind.u8.wrap (tk bs 8 r').2=(tk bs 8 r').2:=by rw[IntKind.wrap_u8];omega
   have ta:=Ju (bs:=bs) hk1
   have ok1:(tk bs 8 r').1.i≤8*(bs.length:Int):=(yU (bs:=bs) (n:=8) (r:=r') (fun _=>⟨by omega,hrl⟩) hk1).2
   intro b1 hb1
   rw[wb]
   have e1:(#[Value.int .u8 (tk bs 8 r').2]:Array Value)=ints .u8 [(tk bs 8 r').2]:=rfl
   rw[e1]
   have s1:Eng.Sub h1 (upd h1 b1 (.cells (ints .u8 [(tk bs 8 r').2]) 5)):=Sub.zC hb1
   have nb1:b1≠bm:=fun e=>by obtain⟨_,_,_,M2⟩:=M1;rw[e,M2.hb]at hb1;cases hb1
   refine zJ hi (sub1.trans s1) (P1.sub s1) (fun y hy=>zN MA.sb (N y hy)) (ys:=[(tk bs 8 r').2]) zj.new (by simp only[List.length_singleton];omega) fun v3 h3 o3 n3 s3 k3 r3=>?_
   obtain⟨a3,c3,rfl,_,_⟩:=o3.ints
   have h1m:upd h1 b1 (.cells (ints .u8 [(tk bs 8 r').2]) 5) bm=h1 bm:=upd_ne (Ne.symm nb1)
   have m3:h3 bm=h1 bm:=(k3 bm (by rw[h1m];obtain⟨_,_,_,M2⟩:=M1;rw[M2.hb];simp) (fun e=>hbm (N bm e))).trans h1m
   simp only[zg,zf,zi]
   refine⟨⟨f1,(tk bs 8 r').1,acc++[(tk bs 8 r').2],a3,c3,rfl,by simp only[List.length_append,List.length_singleton];omega,hk1,by simp only[List.length_append,List.length_singleton];omega,ok1,o3,?_,M1.upd' m3 s3,fun y g1 g2=>?_,e⟩,by simp only[List.getD_cons_zero,zf,List.length_append,List.length_singleton];omega⟩
   ·intro y hy
    rcases r3 with r3 | r3
    ·exact N y (by rw[←r3];exact hy)
    ·have h6:=zN s1 (r3 y hy)
     cases hh:h y with
     | none=>rfl
     | some o=>
      by_cases hyb:y=bm
      ·subst hyb;obtain⟨_,_,_,M2⟩:=M1;rw[M2.hb]at h6;cases h6
      ·rw[fr1 y (by rw[hh];simp) hyb,hh]at h6;cases h6
   ·have h5:=fr1 y g1 g2
    have h6:upd h1 b1 (.cells (ints .u8 [(tk bs 8 r').2]) 5) y=h1 y:=upd_ne fun e=>g1 (by rw[←h5,e];exact hb1)
    rw[k3 y (by rw[h6,h5];exact g1) (fun e=>g1 (N y e)),h6,h5]
end
end Go.Proofs.YtnhbgoiihgoneaaGreatDoor
end
