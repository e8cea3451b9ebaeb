import Derived.Conc.WgGenN3
import Derived.Conc.WgWords
import Derived.Conc.DeferLaws
import Derived.Test.YtpodkihpnjhamaaGreatDoorChecked
import Derived.Conc.LeavingOf
import Derived.SevenTiedAt
import Derived.IntWalk
import Derived.Test.YtpodkihpnjhamaaGreatDoorCb3
import Derived.Test.YtpodkihpnjhamaaGreatDoorCb4
import Derived.Test.YtpodkihpnjhamaaGreatDoorCb5
import Derived.Test.YtpodkihpnjhamaaGreatDoorCb6
import Derived.Test.YtpodkihpnjhamaaGreatDoorCb7
import Derived.Test.YtpodkihpnjhamaaGreatDoorCb8
set_option maxRecDepth 100000
set_option maxHeartbeats 8000000
set_option linter.unusedVariables false
set_option linter.unusedSimpArgs false
set_option linter.unusedSectionVars false
section
namespace Go.Eng
open Go Go.Conc Go.RowKit Go.Conc.Lib Go.ConcR.Gen Go.ConcN.Gen
open Go.ConcN hiding upd upd_same upd_ne AtD4 AtD3 AtD2 AtD1 AtK1 AtR0 AtAcq AtKe AtW4 AtW3 AtW2 AtW1 AtKd WSit AtA1
open Go.ConcR (KK wgBlock WgAt stA smA rd wr DC0 Payload)
variable {w:World}
section
variable [Payload]{P:Program}{L:WgLink}{Φ:Ph}{cs:List Frame}{qt:Nat}
theorem jl{w w₁:World}(_:Φ.J w)(h:Φ.J w₁):Φ.J w₁:=h
theorem J.cell0(h:Φ.J w):∃v,w.cell? ⟨Φ.Wg,0,none⟩=some v:=WgLive.cell0 h.1
theorem J.cell1(h:Φ.J w):∃v,w.cell? ⟨Φ.Wg,1,none⟩=some v:=WgLive.cell1 h.1
variable {b₀:Frame}{a₀:Act}{ops₀:Array Oper}{i₀:Nat}{rest₀:List Nat}{k₀:List Item}
theorem J.setSt(hCW:Φ.C≠Φ.Wg)(h:Φ.J w){st sm:Int}(hw:WgAt Φ.ty Φ.Wg w st sm)(v:Int):Φ.J (w.setCell (stA Φ.Wg) (.int .u64 v)):=by
 obtain⟨cs,h1,h2⟩:=h.2;exact⟨⟨v,sm,hw.setSt v⟩,cs,((aside_setCell w (stA Φ.Wg) _).block _ hCW).trans h1,h2⟩
theorem J.setSm(hCW:Φ.C≠Φ.Wg)(h:Φ.J w){st sm:Int}(hw:WgAt Φ.ty Φ.Wg w st sm)(v:Int):Φ.J (w.setCell (smA Φ.Wg) (.int .u32 v)):=by
 obtain⟨cs,h1,h2⟩:=h.2;exact⟨⟨st,v,hw.setSm v⟩,cs,((aside_setCell w (smA Φ.Wg) _).block _ hCW).trans h1,h2⟩
theorem zaw(H:WgLib P L)(hCW:Φ.C≠Φ.Wg){Nx:Frame->List Frame->Prop}(hN:Nx (b₀.at (a₀.put ((ops₀[i₀]?).bind (·.dst)) (.tuple #[])) (.inRegion ops₀ rest₀::k₀)) cs)(w:World)(hK:Φ.J w) :
  Goes P true (fun _ w₁=>Φ.J w₁) DC0 (Ov P Φ Nx) 100
   (G ((base L.add).at ⟨#[.pointer (some ⟨Φ.Wg,0,none⟩),.int .i64 1,undef,undef,undef,undef,undef,undef,undef,undef,undef,undef,undef,undef,undef,undef,undef,undef,undef,undef,undef,undef,undef,undef,undef,undef,undef,undef,undef,undef,undef,undef,undef,undef,undef,undef,undef,undef,undef,undef,undef,undef,undef,undef,undef,undef,undef,undef,undef,undef,undef,undef,undef,undef,undef,undef,undef,undef,undef,undef,undef,undef,undef,undef,undef,undef,undef,undef,undef,undef,undef,undef,undef,undef,undef,undef,undef,undef,undef,undef,undef,undef,undef,undef,undef,undef,undef,undef,undef,undef,undef,undef,undef,undef,undef,undef,undef,undef,undef,undef,undef,undef,undef,undef,undef,undef,undef,undef,undef,undef,undef,undef,undef,undef,undef,undef,undef],[]⟩ [.code (body_add L)]) (b₀.at a₀ (.inRegion ops₀ (i₀::rest₀)::k₀)::cs)) w:=by
 lib_facts
 simp only[body_add,addFn,pE];u_c stepG_seq jl hK;u_cond true jl hK;iterate 2 u_c stepG_seq jl hK
 u_reg jl hK;iterate 2 u_op jl hK
 u_c stepG_region_end jl hK;u_cond false jl hK;u_c stepG_skip jl hK;u_c stepG_seq jl hK;u_reg jl hK;refine Goes.stop (fun w₁ h₁=>?_);replace hK:=jl hK h₁;clear h₁;refine⟨rfl,_,stepG_mark0 .disable (by simp) rfl rfl (by k_ne) rfl H.f_disable (x_disable_n L) (x_disable_b L) (x_disable_x L) (x_disable_f L),100,Sil.of (w:=w₁) ?_⟩;walk_nrm;u_c stepG_region_end jl hK;u_reg jl hK;u_defer jl hK;u_c stepG_region_end jl hK;u_c stepG_seq jl hK;u_reg jl hK;u_op jl hK;u_c stepG_region_end jl hK;iterate 2 u_c stepG_seq jl hK
 u_reg jl hK;u_bub jl hK;u_c stepG_region_end jl hK;u_cond false jl hK;u_c stepG_skip jl hK;u_c stepG_seq jl hK;u_reg jl hK;iterate 6 u_op jl hK
 u_call H.f_uAdd (nm_uAdd L) uAddFn jl hK;u_c stepG_seq jl hK;u_reg jl hK;u_op jl hK;u_c stepG_region_end jl hK;u_c stepG_seq jl hK;u_reg jl hK;iterate 4 u_op jl hK
 refine Goes.stop (fun w₁ h₁=>?_);replace hK:=jl hK h₁;clear h₁;refine⟨rfl,fun v hv hw=>?_⟩;have e0:IntKind.u64.wrap ((v:Int)*KK+4294967296)=((v:Int)+1)*KK:=by rw[IntKind.wrap_u64];simp only[KK];omega
 refine⟨_,(stepG_add_atomic rfl rfl (by k_ne) rfl H.f_addU64 (x_addU64_n L) (x_addU64_b L) (x_addU64_x L) .u64 (x_addU64_f L) rfl rfl hw.cellSt (hw.thaw 0)).trans (by rw[e0];rfl),fun hv0=>⟨200,?_⟩,fun hv0=>⟨200,?_⟩⟩
 ·subst hv0;replace hK:=J.setSt hCW hK hw ((((0:Nat):Int)+1)*KK);refine Sil.of (w:=w₁.setCell (stA Φ.Wg) (.int .u64 ((((0:Nat):Int)+1)*KK))) ?_;generalize w₁.setCell (stA Φ.Wg) (.int .u64 ((((0:Nat):Int)+1)*KK))=w₂ at hK;clear hw;have z:(((0:Nat):Int)+1)*KK=4294967296:=by simp[KK]
  rw[z];walk_nrm;u_op jl hK;u_c stepG_region_end jl hK;u_c stepG_ret' jl hK;u_leave1 H.f_uAdd jl hK;u_op jl hK;u_c stepG_region_end jl hK;iterate 2 u_c stepG_seq jl hK
  u_reg jl hK;iterate 4 u_op jl hK
  iterate 2 u_skip jl hK
  u_op jl hK;u_c stepG_region_end jl hK;u_cond false jl hK;u_c stepG_skip jl hK;u_c stepG_seq jl hK;u_reg jl hK;iterate 4 u_op jl hK
  u_c stepG_region_end jl hK;u_c stepG_seq jl hK;u_reg jl hK;iterate 4 u_op jl hK
  u_c stepG_region_end jl hK;iterate 2 u_c stepG_seq jl hK
  u_reg jl hK;iterate 10 u_op jl hK
  u_c stepG_region_end jl hK;u_cond true jl hK;u_reg jl hK;iterate 3 u_op jl hK
  u_conv H.underlying_tPU32 H.room_tU32 (J.cell1 hK).choose_spec jl hK;refine Goes.stop (fun w₁ h₁=>?_);replace hK:=jl hK h₁;clear h₁;refine⟨rfl,_,stepG_markAt .read (by simp) rfl rfl (by k_ne) rfl H.f_raceRead (x_raceRead_n L) (x_raceRead_b L) (x_raceRead_x L) (x_raceRead_f L) (ad:=⟨Φ.Wg,1,none⟩) (by simp[Act.eval]),200,Sil.of (w:=w₁) ?_⟩;walk_nrm;u_c stepG_region_end jl hK;iterate 2 u_c stepG_seq jl hK
  u_reg jl hK;iterate 2 u_op jl hK
  u_c stepG_region_end jl hK;u_cond false jl hK;u_c stepG_skip jl hK;iterate 2 u_c stepG_seq jl hK
  u_reg jl hK;iterate 3 u_op jl hK
  iterate 2 u_skip jl hK
  iterate 2 u_op jl hK
  iterate 4 u_skip jl hK
  u_op jl hK;u_c stepG_region_end jl hK;u_cond false jl hK;u_c stepG_skip jl hK;iterate 2 u_c stepG_seq jl hK
  u_reg jl hK;iterate 3 u_op jl hK
  iterate 2 u_skip jl hK
  u_op jl hK;u_c stepG_region_end jl hK;u_cond true jl hK;u_c stepG_ret' jl hK;refine Goes.stop (fun w₁ h₁=>?_);replace hK:=jl hK h₁;clear h₁;refine⟨rfl,_,stepG_unwind_entry (v:=.tuple #[]) (evs:=#[Go.ConcR.mk .enable]) rfl H.f_enable (x_enable_n L) (x_enable_b L) (x_enable_x L) (x_enable_f L) (by simp[Extern.Race.none_]) (by simp[Go.ConcR.mk]) (by simp[Go.ConcR.mk]),10,Sil.of (w:=w₁) ?_⟩;u_leave0 H.f_add jl hK;exact Goes.stop fun _ _=>⟨_,_,rfl,hN⟩
 ·replace hK:=J.setSt hCW hK hw (((v:Int)+1)*KK);refine Sil.of (w:=w₁.setCell (stA Φ.Wg) (.int .u64 (((v:Int)+1)*KK))) ?_;generalize w₁.setCell (stA Φ.Wg) (.int .u64 (((v:Int)+1)*KK))=w₂ at hK;clear hw e0;obtain⟨V,hV⟩:∃V:Int,(v:Int)+1=V:=⟨_,rfl⟩;obtain⟨S,hS⟩:∃S:Int,V*KK=S:=⟨_,rfl⟩;have a1:S/4294967296=V:=by rw[<-hS];simp only[KK];omega
  have b1:bits .and .u64 S 2147483648=0:=by rw[<-hS,<-hV];have:=st_flag (v+1) 0 (by omega) (by omega);simpa[KK]using this
  have b2:bits .and .u64 S 2147483647=0:=by rw[<-hS,<-hV];have:=st_waiters (v+1) 0 (by omega) (by omega);simpa[KK]using this
  have c1:IntKind.i32.wrap V=V:=by rw[IntKind.wrap_i32];omega
  have q3:decide (V<0)=false:=pR (by omega);have q4:decide (0<V)=true:=pZ (by omega);have q5:(V==1)=false:=by simp;omega
  have q6:decide (V=1)=false:=pR (by omega);rw[hV,hS];walk_nrm;u_op jl hK;u_c stepG_region_end jl hK;u_c stepG_ret' jl hK;u_leave1 H.f_uAdd jl hK;u_op jl hK;u_c stepG_region_end jl hK;iterate 2 u_c stepG_seq jl hK
  u_reg jl hK;iterate 4 u_op jl hK
  iterate 2 u_skip jl hK
  u_op jl hK;u_c stepG_region_end jl hK;u_cnd false jl hK;u_c stepG_skip jl hK;u_c stepG_seq jl hK;u_reg jl hK;iterate 4 u_op jl hK
  u_c stepG_region_end jl hK;u_c stepG_seq jl hK;u_reg jl hK;iterate 4 u_op jl hK
  u_c stepG_region_end jl hK;iterate 2 u_c stepG_seq jl hK
  u_reg jl hK;iterate 10 u_op jl hK
  u_c stepG_region_end jl hK;u_cnd false jl hK;u_c stepG_skip jl hK;iterate 2 u_c stepG_seq jl hK
  u_reg jl hK;iterate 2 u_op jl hK
  u_c stepG_region_end jl hK;u_cnd false jl hK;u_c stepG_skip jl hK;iterate 2 u_c stepG_seq jl hK
  u_reg jl hK;iterate 3 u_op jl hK
  iterate 2 u_skip jl hK
  iterate 2 u_op jl hK
  iterate 4 u_skip jl hK
  u_op jl hK;u_c stepG_region_end jl hK;u_cnd false jl hK;u_c stepG_skip jl hK;iterate 2 u_c stepG_seq jl hK
  u_reg jl hK;iterate 3 u_op jl hK
  iterate 2 u_skip jl hK
  u_op jl hK;u_c stepG_region_end jl hK;u_cnd true jl hK;u_c stepG_ret' jl hK;refine Goes.stop (fun w₁ h₁=>?_);replace hK:=jl hK h₁;clear h₁;refine⟨rfl,_,stepG_unwind_entry (v:=.tuple #[]) (evs:=#[Go.ConcR.mk .enable]) rfl H.f_enable (x_enable_n L) (x_enable_b L) (x_enable_x L) (x_enable_f L) (by simp[Extern.Race.none_]) (by simp[Go.ConcR.mk]) (by simp[Go.ConcR.mk]),10,Sil.of (w:=w₁) ?_⟩;u_leave0 H.f_add jl hK;exact Goes.stop fun _ _=>⟨_,_,rfl,hN⟩
end
end Go.Eng
namespace Go.Eng
open Go Go.Conc Go.RowKit Go.Conc.Lib Go.ConcR.Gen Go.ConcN.Gen
open Go.ConcN hiding upd upd_same upd_ne AtD4 AtD3 AtD2 AtD1 AtK1 AtR0 AtAcq AtKe AtW4 AtW3 AtW2 AtW1 AtKd WSit AtA1
open Go.ConcR (KK wgBlock WgAt stA smA rd wr DC0 Payload)
section
variable [Payload]{P:Program}{L:WgLink}{Φ:Ph}{cs:List Frame}{qt:Nat}
variable {b₀:Frame}{a₀:Act}{ops₀:Array Oper}{i₀:Nat}{rest₀:List Nat}{k₀:List Item}
theorem zax(H:WgLib P L)(hCW:Φ.C≠Φ.Wg)(hT:QuitsD P qt 0 (G (b₀.at (a₀.put ((ops₀[i₀]?).bind (·.dst)) (.tuple #[])) (.inRegion ops₀ rest₀::k₀)) cs))(w:World)(hK:Φ.J w) :
  Goes P false (fun _ w₁=>Φ.J w₁) DC0 (AtR0 P Φ) 100
   (G ((base L.add).at ⟨#[.pointer (some ⟨Φ.Wg,0,none⟩),.int .i64 (-1),undef,undef,undef,undef,undef,undef,undef,undef,undef,undef,undef,undef,undef,undef,undef,undef,undef,undef,undef,undef,undef,undef,undef,undef,undef,undef,undef,undef,undef,undef,undef,undef,undef,undef,undef,undef,undef,undef,undef,undef,undef,undef,undef,undef,undef,undef,undef,undef,undef,undef,undef,undef,undef,undef,undef,undef,undef,undef,undef,undef,undef,undef,undef,undef,undef,undef,undef,undef,undef,undef,undef,undef,undef,undef,undef,undef,undef,undef,undef,undef,undef,undef,undef,undef,undef,undef,undef,undef,undef,undef,undef,undef,undef,undef,undef,undef,undef,undef,undef,undef,undef,undef,undef,undef,undef,undef,undef,undef,undef,undef,undef,undef,undef,undef,undef],[]⟩ [.code (body_add L)]) (b₀.at a₀ (.inRegion ops₀ (i₀::rest₀)::k₀)::cs)) w:=by
 lib_facts
 simp only[body_add,addFn,pE];u_c stepG_seq jl hK;u_cond true jl hK;iterate 2 u_c stepG_seq jl hK
 u_reg jl hK;iterate 2 u_op jl hK
 u_c stepG_region_end jl hK;u_cond true jl hK;u_reg jl hK;u_op jl hK;u_conv H.underlying_tWgP H.room_tWg (J.cell0 hK).choose_spec jl hK;refine Goes.stop (fun w₁ h₁=>?_);replace hK:=jl hK h₁;clear h₁;refine⟨rfl,_,stepG_markAt .releaseMerge (by simp) rfl rfl (by k_ne) rfl H.f_relMerge (x_relMerge_n L) (x_relMerge_b L) (x_relMerge_x L) (x_relMerge_f L) (by simp[Act.eval,stA]),100,Sil.of (w:=w₁) ?_⟩;walk_nrm;u_c stepG_region_end jl hK;u_c stepG_seq jl hK;u_reg jl hK;refine Goes.stop (fun w₁ h₁=>?_);replace hK:=jl hK h₁;clear h₁;refine⟨rfl,_,stepG_mark0 .disable (by simp) rfl rfl (by k_ne) rfl H.f_disable (x_disable_n L) (x_disable_b L) (x_disable_x L) (x_disable_f L),100,Sil.of (w:=w₁) ?_⟩;walk_nrm;u_c stepG_region_end jl hK;u_reg jl hK;u_defer jl hK;u_c stepG_region_end jl hK;u_c stepG_seq jl hK;u_reg jl hK;u_op jl hK;u_c stepG_region_end jl hK;iterate 2 u_c stepG_seq jl hK
 u_reg jl hK;u_bub jl hK;u_c stepG_region_end jl hK;u_cond false jl hK;u_c stepG_skip jl hK;u_c stepG_seq jl hK;u_reg jl hK;iterate 6 u_op jl hK
 u_call H.f_uAdd (nm_uAdd L) uAddFn jl hK;u_c stepG_seq jl hK;u_reg jl hK;u_op jl hK;u_c stepG_region_end jl hK;u_c stepG_seq jl hK;u_reg jl hK;iterate 4 u_op jl hK
 refine Goes.stop (fun w₁ h₁=>?_);replace hK:=jl hK h₁;clear h₁;refine⟨rfl,fun v wt hwt hv hw=>?_⟩;have e0:IntKind.u64.wrap (((v:Int)+1)*KK+wt+18446744069414584320)=(v:Int)*KK+wt:=by rw[IntKind.wrap_u64];simp only[KK];omega
 refine⟨_,(stepG_add_atomic rfl rfl (by k_ne) rfl H.f_addU64 (x_addU64_n L) (x_addU64_b L) (x_addU64_x L) .u64 (x_addU64_f L) rfl rfl hw.cellSt (hw.thaw 0)).trans (by rw[e0];rfl),fun hl=>?_,fun hl=>?_⟩
 ·obtain⟨rfl,rfl⟩:=hl;have z:((0:Nat):Int)*KK+((1:Nat):Int)=1:=by simp
  replace hK:=J.setSt hCW hK hw (((0:Nat):Int)*KK+((1:Nat):Int));refine⟨200,Sil.of (w:=w₁.setCell (stA Φ.Wg) (.int .u64 (((0:Nat):Int)*KK+((1:Nat):Int)))) ?_⟩;generalize w₁.setCell (stA Φ.Wg) (.int .u64 (((0:Nat):Int)*KK+((1:Nat):Int)))=w₂ at hK;clear hw e0;rw[z];walk_nrm;u_op jl hK;u_c stepG_region_end jl hK;u_c stepG_ret' jl hK;u_leave1 H.f_uAdd jl hK;u_op jl hK;u_c stepG_region_end jl hK;iterate 2 u_c stepG_seq jl hK
  u_reg jl hK;iterate 4 u_op jl hK
  iterate 2 u_skip jl hK
  u_op jl hK;u_c stepG_region_end jl hK;u_cond false jl hK;u_c stepG_skip jl hK;u_c stepG_seq jl hK;u_reg jl hK;iterate 4 u_op jl hK
  u_c stepG_region_end jl hK;u_c stepG_seq jl hK;u_reg jl hK;iterate 4 u_op jl hK
  u_c stepG_region_end jl hK;iterate 2 u_c stepG_seq jl hK
  u_reg jl hK;iterate 5 u_op jl hK
  iterate 4 u_skip jl hK
  u_op jl hK;u_c stepG_region_end jl hK;u_cond false jl hK;u_c stepG_skip jl hK;iterate 2 u_c stepG_seq jl hK
  u_reg jl hK;iterate 2 u_op jl hK
  u_c stepG_region_end jl hK;u_cond false jl hK;u_c stepG_skip jl hK;iterate 2 u_c stepG_seq jl hK
  u_reg jl hK;iterate 7 u_op jl hK
  iterate 4 u_skip jl hK
  u_op jl hK;u_c stepG_region_end jl hK;u_cond false jl hK;u_c stepG_skip jl hK;iterate 2 u_c stepG_seq jl hK
  u_reg jl hK;iterate 6 u_op jl hK
  u_c stepG_region_end jl hK;u_cond false jl hK;u_c stepG_skip jl hK;iterate 2 u_c stepG_seq jl hK
  u_reg jl hK;iterate 3 u_op jl hK
  u_call H.f_uLoad (nm_uLoad L) uLoadFn jl hK;u_c stepG_seq jl hK;u_reg jl hK;u_op jl hK;u_c stepG_region_end jl hK;u_c stepG_seq jl hK;u_reg jl hK;iterate 3 u_op jl hK
  refine Goes.stop (fun w₁ h₁=>?_);replace hK:=jl hK h₁;clear h₁;refine⟨rfl,fun hw=>⟨_,stepG_load_atomic rfl rfl (by k_ne) rfl H.f_loadU64 (x_loadU64_n L) (x_loadU64_b L) (x_loadU64_x L) .u64 (x_loadU64_f L) rfl hw.cellSt,200,Sil.of (w:=w₁) ?_⟩⟩;clear hw;walk_nrm;u_op jl hK;u_c stepG_region_end jl hK;u_c stepG_ret' jl hK;u_leave1 H.f_uLoad jl hK;iterate 2 u_op jl hK
  u_c stepG_region_end jl hK;u_cond false jl hK;u_c stepG_skip jl hK;u_c stepG_seq jl hK;u_reg jl hK;iterate 3 u_op jl hK
  u_call H.f_uStore (nm_uStore L) uStoreFn jl hK;u_reg jl hK;iterate 4 u_op jl hK
  refine Goes.stop (fun w₁ h₁=>?_);replace hK:=jl hK h₁;clear h₁;refine⟨rfl,fun hw=>⟨_,stepG_store_atomic rfl rfl (by k_ne) rfl H.f_storeU64 (x_storeU64_n L) (x_storeU64_b L) (x_storeU64_x L) (x_storeU64_f L) rfl rfl hw.cellSt (hw.thaw 0),200,Sil.of (w:=w₁.setCell (stA Φ.Wg) (.int .u64 0)) ?_⟩⟩;replace hK:=J.setSt hCW hK hw 0;generalize w₁.setCell (stA Φ.Wg) (.int .u64 0)=w₂ at hK;clear hw;walk_nrm;u_c stepG_region_end jl hK;u_c stepG_end jl hK;u_leave0 H.f_uStore jl hK;u_c stepG_region_end jl hK;iterate 2 u_c stepG_seq jl hK
  u_reg jl hK;u_op jl hK;u_c stepG_region_end jl hK;u_cond false jl hK;u_c stepG_skip jl hK;u_c stepG_block jl hK;u_c stepG_loop jl hK;iterate 2 u_c stepG_seq jl hK
  u_reg jl hK;iterate 2 u_op jl hK
  u_c stepG_region_end jl hK;u_cond true jl hK;u_c stepG_skip jl hK;u_c stepG_seq jl hK;u_c stepG_block jl hK;u_reg jl hK;iterate 3 u_op jl hK
  refine Goes.stop (fun w₁ h₁=>?_);replace hK:=jl hK h₁;clear h₁;refine⟨rfl,mayWake_entry rfl rfl H.f_semrelease (x_semrelease_b L),fun hw=>⟨_,(stepG_semrelease rfl rfl (by k_ne) rfl H.f_semrelease (x_semrelease_n L) (x_semrelease_b L) (x_semrelease_x L) (x_semrelease_f L) (by simp[Act.eval,smA]) hw.cellSm (hw.thaw 1)).trans (by rfl),qt+19,?_⟩⟩;clear hw;have q3:True:=trivial;have q4:True:=trivial;have q5:True:=trivial;have c1:True:=trivial;have c3:IntKind.u32.wrap 0=0:=by decide
  have c4:IntKind.u32.wrap 1=1:=by decide
  walk_nrm
  q_c stepG_region_end
  q_c stepG_inBlock
  q_reg
  iterate 3 (apply QuitsD.value;(case ho=>rfl);(case hw=>rfl);(case hk=>k_ne);(case hr=>intro w;go_simp;(try simp only[q3,q4,q5,c1,c3,c4]);first | rfl | (w_num;rfl));(case he=>intro w;simp[go_sem, *]);walk_nrm)
  q_c stepG_region_end
  q_c stepG_inLoop
  iterate 2 q_c stepG_seq
  q_reg
  iterate 2 (apply QuitsD.value;(case ho=>rfl);(case hw=>rfl);(case hk=>k_ne);(case hr=>intro w;go_simp;(try simp only[q3,q4,q5,c1,c3,c4]);first | rfl | (w_num;rfl));(case he=>intro w;simp[go_sem, *]);walk_nrm)
  q_c stepG_region_end
  q_cond false
  q_exit
  q_c stepG_end
  q_enable
  q_leave0 H.f_add
  exact hT
 ·refine⟨qt+89,?_⟩;clear e0 hw hK;obtain⟨S,hS⟩:∃S:Int,(v:Int)*KK+wt=S:=⟨_,rfl⟩;have a1:S/4294967296=(v:Int):=by rw[<-hS];simp only[KK];omega
  have b1:bits .and .u64 S 2147483648=0:=by rw[<-hS];have:=st_flag v wt (by omega) (by omega);simpa[KK]using this
  have b2:bits .and .u64 S 2147483647=(wt:Int):=by rw[<-hS];have:=st_waiters v wt (by omega) (by omega);simpa[KK]using this
  have c1:IntKind.i32.wrap (v:Int)=(v:Int):=by rw[IntKind.wrap_i32];omega
  have c2:IntKind.u32.wrap (wt:Int)=(wt:Int):=by rw[pN];omega
  have q3:decide ((v:Int)<0)=false:=pR (by omega);rw[hS];have c3:IntKind.u32.wrap 0=0:=by decide
  have c4:IntKind.u32.wrap 1=1:=by decide
  have hcase:wt=0\/wt=1:=by omega
  rcases hcase with rfl | rfl
  ·replace b2:bits .and .u64 S 2147483647=0:=b2;clear c2;rcases Nat.eq_zero_or_pos v with rfl | hvp
   ·have z:S=0:=by rw[<-hS];simp
    subst z;have q4:True:=trivial;have q5:True:=trivial;simp only[Int.natCast_zero]at c1 q3 a1 b1 b2;walk_nrm
    (apply QuitsD.value;(case ho=>rfl);(case hw=>rfl);(case hk=>k_ne);(case hr=>intro w;go_simp;(try simp only[q3,q4,q5,c1,c3,c4]);first | rfl | (w_num;rfl));(case he=>intro w;simp[go_sem, *]);walk_nrm)
    q_c stepG_region_end
    q_c stepG_ret'
    q_leave1 H.f_uAdd
    (apply QuitsD.value;(case ho=>rfl);(case hw=>rfl);(case hk=>k_ne);(case hr=>intro w;go_simp;(try simp only[q3,q4,q5,c1,c3,c4]);first | rfl | (w_num;rfl));(case he=>intro w;simp[go_sem, *]);walk_nrm)
    q_c stepG_region_end
    iterate 2 q_c stepG_seq
    q_reg
    iterate 4 (apply QuitsD.value;(case ho=>rfl);(case hw=>rfl);(case hk=>k_ne);(case hr=>intro w;go_simp;(try simp only[q3,q4,q5,c1,c3,c4]);first | rfl | (w_num;rfl));(case he=>intro w;simp[go_sem, *]);walk_nrm)
    iterate 2 q_skip
    (apply QuitsD.value;(case ho=>rfl);(case hw=>rfl);(case hk=>k_ne);(case hr=>intro w;go_simp;(try simp only[q3,q4,q5,c1,c3,c4]);first | rfl | (w_num;rfl));(case he=>intro w;simp[go_sem, *]);walk_nrm)
    q_c stepG_region_end
    q_cond false
    q_c stepG_skip
    q_c stepG_seq
    q_reg
    iterate 4 (apply QuitsD.value;(case ho=>rfl);(case hw=>rfl);(case hk=>k_ne);(case hr=>intro w;go_simp;(try simp only[q3,q4,q5,c1,c3,c4]);first | rfl | (w_num;rfl));(case he=>intro w;simp[go_sem, *]);walk_nrm)
    q_c stepG_region_end
    q_c stepG_seq
    q_reg
    iterate 4 (apply QuitsD.value;(case ho=>rfl);(case hw=>rfl);(case hk=>k_ne);(case hr=>intro w;go_simp;(try simp only[q3,q4,q5,c1,c3,c4]);first | rfl | (w_num;rfl));(case he=>intro w;simp[go_sem, *]);walk_nrm)
    q_c stepG_region_end
    iterate 2 q_c stepG_seq
    q_reg
    iterate 5 (apply QuitsD.value;(case ho=>rfl);(case hw=>rfl);(case hk=>k_ne);(case hr=>intro w;go_simp;(try simp only[q3,q4,q5,c1,c3,c4]);first | rfl | (w_num;rfl));(case he=>intro w;simp[go_sem, *]);walk_nrm)
    iterate 4 q_skip
    (apply QuitsD.value;(case ho=>rfl);(case hw=>rfl);(case hk=>k_ne);(case hr=>intro w;go_simp;(try simp only[q3,q4,q5,c1,c3,c4]);first | rfl | (w_num;rfl));(case he=>intro w;simp[go_sem, *]);walk_nrm)
    q_c stepG_region_end
    q_cond false
    q_c stepG_skip
    iterate 2 q_c stepG_seq
    q_reg
    iterate 2 (apply QuitsD.value;(case ho=>rfl);(case hw=>rfl);(case hk=>k_ne);(case hr=>intro w;go_simp;(try simp only[q3,q4,q5,c1,c3,c4]);first | rfl | (w_num;rfl));(case he=>intro w;simp[go_sem, *]);walk_nrm)
    q_c stepG_region_end
    q_cond false
    q_c stepG_skip
    iterate 2 q_c stepG_seq
    q_reg
    iterate 3 (apply QuitsD.value;(case ho=>rfl);(case hw=>rfl);(case hk=>k_ne);(case hr=>intro w;go_simp;(try simp only[q3,q4,q5,c1,c3,c4]);first | rfl | (w_num;rfl));(case he=>intro w;simp[go_sem, *]);walk_nrm)
    iterate 2 q_skip
    iterate 2 (apply QuitsD.value;(case ho=>rfl);(case hw=>rfl);(case hk=>k_ne);(case hr=>intro w;go_simp;(try simp only[q3,q4,q5,c1,c3,c4]);first | rfl | (w_num;rfl));(case he=>intro w;simp[go_sem, *]);walk_nrm)
    iterate 4 q_skip
    (apply QuitsD.value;(case ho=>rfl);(case hw=>rfl);(case hk=>k_ne);(case hr=>intro w;go_simp;(try simp only[q3,q4,q5,c1,c3,c4]);first | rfl | (w_num;rfl));(case he=>intro w;simp[go_sem, *]);walk_nrm)
    q_c stepG_region_end
    q_cond false
    q_c stepG_skip
    iterate 2 q_c stepG_seq
    q_reg
    iterate 6 (apply QuitsD.value;(case ho=>rfl);(case hw=>rfl);(case hk=>k_ne);(case hr=>intro w;go_simp;(try simp only[q3,q4,q5,c1,c3,c4]);first | rfl | (w_num;rfl));(case he=>intro w;simp[go_sem, *]);walk_nrm)
    q_c stepG_region_end
    q_cond true
    q_c stepG_ret'
    q_enable
    q_leave0 H.f_add
    exact hT
   ·have q4:decide (0<(v:Int))=true:=pZ (by omega);have q5:((v:Int)==0)=false:=by simp;omega
    walk_nrm
    (apply QuitsD.value;(case ho=>rfl);(case hw=>rfl);(case hk=>k_ne);(case hr=>intro w;go_simp;(try simp only[q3,q4,q5,c1,c3,c4]);first | rfl | (w_num;rfl));(case he=>intro w;simp[go_sem, *]);walk_nrm)
    q_c stepG_region_end
    q_c stepG_ret'
    q_leave1 H.f_uAdd
    (apply QuitsD.value;(case ho=>rfl);(case hw=>rfl);(case hk=>k_ne);(case hr=>intro w;go_simp;(try simp only[q3,q4,q5,c1,c3,c4]);first | rfl | (w_num;rfl));(case he=>intro w;simp[go_sem, *]);walk_nrm)
    q_c stepG_region_end
    iterate 2 q_c stepG_seq
    q_reg
    iterate 4 (apply QuitsD.value;(case ho=>rfl);(case hw=>rfl);(case hk=>k_ne);(case hr=>intro w;go_simp;(try simp only[q3,q4,q5,c1,c3,c4]);first | rfl | (w_num;rfl));(case he=>intro w;simp[go_sem, *]);walk_nrm)
    iterate 2 q_skip
    (apply QuitsD.value;(case ho=>rfl);(case hw=>rfl);(case hk=>k_ne);(case hr=>intro w;go_simp;(try simp only[q3,q4,q5,c1,c3,c4]);first | rfl | (w_num;rfl));(case he=>intro w;simp[go_sem, *]);walk_nrm)
    q_c stepG_region_end
    q_cond false
    q_c stepG_skip
    q_c stepG_seq
    q_reg
    iterate 4 (apply QuitsD.value;(case ho=>rfl);(case hw=>rfl);(case hk=>k_ne);(case hr=>intro w;go_simp;(try simp only[q3,q4,q5,c1,c3,c4]);first | rfl | (w_num;rfl));(case he=>intro w;simp[go_sem, *]);walk_nrm)
    q_c stepG_region_end
    q_c stepG_seq
    q_reg
    iterate 4 (apply QuitsD.value;(case ho=>rfl);(case hw=>rfl);(case hk=>k_ne);(case hr=>intro w;go_simp;(try simp only[q3,q4,q5,c1,c3,c4]);first | rfl | (w_num;rfl));(case he=>intro w;simp[go_sem, *]);walk_nrm)
    q_c stepG_region_end
    iterate 2 q_c stepG_seq
    q_reg
    iterate 5 (apply QuitsD.value;(case ho=>rfl);(case hw=>rfl);(case hk=>k_ne);(case hr=>intro w;go_simp;(try simp only[q3,q4,q5,c1,c3,c4]);first | rfl | (w_num;rfl));(case he=>intro w;simp[go_sem, *]);walk_nrm)
    iterate 4 q_skip
    (apply QuitsD.value;(case ho=>rfl);(case hw=>rfl);(case hk=>k_ne);(case hr=>intro w;go_simp;(try simp only[q3,q4,q5,c1,c3,c4]);first | rfl | (w_num;rfl));(case he=>intro w;simp[go_sem, *]);walk_nrm)
    q_c stepG_region_end
    q_cond false
    q_c stepG_skip
    iterate 2 q_c stepG_seq
    q_reg
    iterate 2 (apply QuitsD.value;(case ho=>rfl);(case hw=>rfl);(case hk=>k_ne);(case hr=>intro w;go_simp;(try simp only[q3,q4,q5,c1,c3,c4]);first | rfl | (w_num;rfl));(case he=>intro w;simp[go_sem, *]);walk_nrm)
    q_c stepG_region_end
    q_cond false
    q_c stepG_skip
    iterate 2 q_c stepG_seq
    q_reg
    iterate 3 (apply QuitsD.value;(case ho=>rfl);(case hw=>rfl);(case hk=>k_ne);(case hr=>intro w;go_simp;(try simp only[q3,q4,q5,c1,c3,c4]);first | rfl | (w_num;rfl));(case he=>intro w;simp[go_sem, *]);walk_nrm)
    iterate 2 q_skip
    iterate 2 (apply QuitsD.value;(case ho=>rfl);(case hw=>rfl);(case hk=>k_ne);(case hr=>intro w;go_simp;(try simp only[q3,q4,q5,c1,c3,c4]);first | rfl | (w_num;rfl));(case he=>intro w;simp[go_sem, *]);walk_nrm)
    iterate 4 q_skip
    (apply QuitsD.value;(case ho=>rfl);(case hw=>rfl);(case hk=>k_ne);(case hr=>intro w;go_simp;(try simp only[q3,q4,q5,c1,c3,c4]);first | rfl | (w_num;rfl));(case he=>intro w;simp[go_sem, *]);walk_nrm)
    q_c stepG_region_end
    q_cond false
    q_c stepG_skip
    iterate 2 q_c stepG_seq
    q_reg
    iterate 3 (apply QuitsD.value;(case ho=>rfl);(case hw=>rfl);(case hk=>k_ne);(case hr=>intro w;go_simp;(try simp only[q3,q4,q5,c1,c3,c4]);first | rfl | (w_num;rfl));(case he=>intro w;simp[go_sem, *]);walk_nrm)
    iterate 2 q_skip
    (apply QuitsD.value;(case ho=>rfl);(case hw=>rfl);(case hk=>k_ne);(case hr=>intro w;go_simp;(try simp only[q3,q4,q5,c1,c3,c4]);first | rfl | (w_num;rfl));(case he=>intro w;simp[go_sem, *]);walk_nrm)
    q_c stepG_region_end
    q_cond true
    q_c stepG_ret'
    q_enable
    q_leave0 H.f_add
    exact hT
  ·replace b2:bits .and .u64 S 2147483647=1:=b2;clear c2;have hvp:0<v:=by omega
   have q4:decide (0<(v:Int))=true:=pZ (by omega);have q5:((v:Int)==0)=false:=by simp;omega
   walk_nrm
   (apply QuitsD.value;(case ho=>rfl);(case hw=>rfl);(case hk=>k_ne);(case hr=>intro w;go_simp;(try simp only[q3,q4,q5,c1,c3,c4]);first | rfl | (w_num;rfl));(case he=>intro w;simp[go_sem, *]);walk_nrm)
   q_c stepG_region_end
   q_c stepG_ret'
   q_leave1 H.f_uAdd
   (apply QuitsD.value;(case ho=>rfl);(case hw=>rfl);(case hk=>k_ne);(case hr=>intro w;go_simp;(try simp only[q3,q4,q5,c1,c3,c4]);first | rfl | (w_num;rfl));(case he=>intro w;simp[go_sem, *]);walk_nrm)
   q_c stepG_region_end
   iterate 2 q_c stepG_seq
   q_reg
   iterate 4 (apply QuitsD.value;(case ho=>rfl);(case hw=>rfl);(case hk=>k_ne);(case hr=>intro w;go_simp;(try simp only[q3,q4,q5,c1,c3,c4]);first | rfl | (w_num;rfl));(case he=>intro w;simp[go_sem, *]);walk_nrm)
   q_skip
   q_skip
   (apply QuitsD.value;(case ho=>rfl);(case hw=>rfl);(case hk=>k_ne);(case hr=>intro w;go_simp;(try simp only[q3,q4,q5,c1,c3,c4]);first | rfl | (w_num;rfl));(case he=>intro w;simp[go_sem, *]);walk_nrm)
   q_c stepG_region_end
   q_cond false
   q_c stepG_skip
   q_c stepG_seq
   q_reg
   iterate 4 (apply QuitsD.value;(case ho=>rfl);(case hw=>rfl);(case hk=>k_ne);(case hr=>intro w;go_simp;(try simp only[q3,q4,q5,c1,c3,c4]);first | rfl | (w_num;rfl));(case he=>intro w;simp[go_sem, *]);walk_nrm)
   q_c stepG_region_end
   q_c stepG_seq
   q_reg
   iterate 4 (apply QuitsD.value;(case ho=>rfl);(case hw=>rfl);(case hk=>k_ne);(case hr=>intro w;go_simp;(try simp only[q3,q4,q5,c1,c3,c4]);first | rfl | (w_num;rfl));(case he=>intro w;simp[go_sem, *]);walk_nrm)
   q_c stepG_region_end
   iterate 2 q_c stepG_seq
   q_reg
   iterate 5 (apply QuitsD.value;(case ho=>rfl);(case hw=>rfl);(case hk=>k_ne);(case hr=>intro w;go_simp;(try simp only[q3,q4,q5,c1,c3,c4]);first | rfl | (w_num;rfl));(case he=>intro w;simp[go_sem, *]);walk_nrm)
   iterate 4 q_skip
   (apply QuitsD.value;(case ho=>rfl);(case hw=>rfl);(case hk=>k_ne);(case hr=>intro w;go_simp;(try simp only[q3,q4,q5,c1,c3,c4]);first | rfl | (w_num;rfl));(case he=>intro w;simp[go_sem, *]);walk_nrm)
   q_c stepG_region_end
   q_cond false
   q_c stepG_skip
   iterate 2 q_c stepG_seq
   q_reg
   iterate 2 (apply QuitsD.value;(case ho=>rfl);(case hw=>rfl);(case hk=>k_ne);(case hr=>intro w;go_simp;(try simp only[q3,q4,q5,c1,c3,c4]);first | rfl | (w_num;rfl));(case he=>intro w;simp[go_sem, *]);walk_nrm)
   q_c stepG_region_end
   q_cond false
   q_c stepG_skip
   iterate 2 q_c stepG_seq
   q_reg
   iterate 7 (apply QuitsD.value;(case ho=>rfl);(case hw=>rfl);(case hk=>k_ne);(case hr=>intro w;go_simp;(try simp only[q3,q4,q5,c1,c3,c4]);first | rfl | (w_num;rfl));(case he=>intro w;simp[go_sem, *]);walk_nrm)
   iterate 4 q_skip
   (apply QuitsD.value;(case ho=>rfl);(case hw=>rfl);(case hk=>k_ne);(case hr=>intro w;go_simp;(try simp only[q3,q4,q5,c1,c3,c4]);first | rfl | (w_num;rfl));(case he=>intro w;simp[go_sem, *]);walk_nrm)
   q_c stepG_region_end
   q_cond false
   q_c stepG_skip
   iterate 2 q_c stepG_seq
   q_reg
   iterate 3 (apply QuitsD.value;(case ho=>rfl);(case hw=>rfl);(case hk=>k_ne);(case hr=>intro w;go_simp;(try simp only[q3,q4,q5,c1,c3,c4]);first | rfl | (w_num;rfl));(case he=>intro w;simp[go_sem, *]);walk_nrm)
   q_skip
   q_skip
   (apply QuitsD.value;(case ho=>rfl);(case hw=>rfl);(case hk=>k_ne);(case hr=>intro w;go_simp;(try simp only[q3,q4,q5,c1,c3,c4]);first | rfl | (w_num;rfl));(case he=>intro w;simp[go_sem, *]);walk_nrm)
   q_c stepG_region_end
   q_cond true
   q_c stepG_ret'
   q_enable
   q_leave0 H.f_add
   exact hT
end
end Go.Eng
namespace Go.Eng
open Go Go.Conc Go.RowKit Go.Conc.Lib Go.ConcR.Gen Go.ConcN.Gen
open Go.ConcN hiding upd upd_same upd_ne AtD4 AtD3 AtD2 AtD1 AtK1 AtR0 AtAcq AtKe AtW4 AtW3 AtW2 AtW1 AtKd WSit AtA1
open Go.ConcR (KK wgBlock WgAt stA smA rd wr DC0 Payload)
variable {ops:Array Oper}{i:Nat}{o:Oper}
section
variable [Payload]{P:Program}{L:WgLink}{Φ:Ph}{cs:List Frame}{qt:Nat}
theorem zb9(fr:Frame)(cs:List Frame):gor fr cs=G fr cs:=rfl
theorem Y1(H:WgLib P L)(hCW:Φ.C≠Φ.Wg){c:Frame}(hcm:c.mode=.returning)(hT:QuitsD P qt 0 (G c cs))(w:World)(hK:Φ.J w) :
  Goes P false (fun _ w₁=>Φ.J w₁) DC0 (AtR0 P Φ) 103 (G ((baseD L.done).at ⟨#[.pointer (some ⟨Φ.Wg,0,none⟩),undef,undef,undef],[]⟩ [.code (body_done L)]) (c::cs)) w:=by
 lib_facts
 have hA:=@zax _ P L Φ;simp only[body_done,body_add,doneFn,addFn,pE]at hA ⊢;u_reg jl hK;u_op jl hK;u_in jl hK;refine goes_call rfl rfl (by k_ne) rfl H.f_add (nm_add L) rfl ⟨by u_nil,?_⟩
 walk_nrmf addFn
 refine hA (qt:=qt+3) H hCW ?_ _ hK
 q_c stepG_region_end
 q_c stepG_end
 exact QuitsD.leaveD rfl rfl H.f_done rfl hcm hT
variable {b₀:Frame}{a₀:Act}{ops₀:Array Oper}{i₀:Nat}{rest₀:List Nat}{k₀:List Item}
def RL(P:Program)(fr₁:Frame)(cs₁:List Frame)(fr:Frame)(cs:List Frame):Prop:=
 ∀(S:Shared) (Post:Frame->List Frame->Heap->Prop) (h:Heap),Safe P S Post fr₁ cs₁ h->Safe P S Post fr cs h
section
variable {S:Shared}{Post:Frame -> List Frame -> Heap -> Prop}{h:Heap}{b:Frame}{a:Act}{k:List Item}
theorem Hk{rest:List Nat}(v:Value)(ho:ops[i]? = some o)(hw:Region.wanted o (yielded ops a.tmps)=true)(hk:b.kind ≠ .early)
  (hr:∀w,(execOp a.eval o).run P w=.ok (.value v) w)(he:∀w,(execOp a.eval o).events P w #[]=#[])
  (K:Safe P S Post (b.at (a.put o.dst v) (.inRegion ops rest::k)) cs h):Safe P S Post (b.at a (.inRegion ops (i::rest)::k)) cs h:=
 .yx (fun w m=>by show stepG P m (G _ _) w=_;rw[stepG_value ho hw hk (hr w)];unfold listed;rw[he w,seen_none];rfl) K
theorem SG{rest:List Nat}(ho:ops[i]? = some o)(hw:Region.wanted o (yielded ops a.tmps)=false)
  (K:Safe P S Post (b.at (a.put o.dst undef) (.inRegion ops rest::k)) cs h):Safe P S Post (b.at a (.inRegion ops (i::rest)::k)) cs h:=
 .yx (fun _ _=>stepG_unwanted ho hw) K
theorem Pt{fn:Func}{b₀:Frame}{a₀:Act}{rest:List Nat}{todo:List Item}(hn:b.kind=.normal)(hd:a.defers=[])(hf:P.funcs[b.fn]? = some fn)(hr:fn.results=#[])
  (K:Safe P S Post (b₀.at (a₀.put ((ops[i]?).bind (·.dst)) (.tuple #[])) (.inRegion ops rest::k)) cs h):Safe P S Post { b.at a todo with mode:=.returning } (b₀.at a₀ (.inRegion ops (i::rest)::k)::cs) h:=
 .yx (fun w m=>by show stepG P m (G _ _) w=_;rw[stepG_leave hn hd hf (results_none hr _ P w) (events_results_none hr _ _),Frame.finish_at];rfl) K
end
def UG(L:WgLink)(Wg:Nat)(c:Frame)(cs:List Frame)(g:Goroutine):Prop:=
 ∃T:Array Value,g=G ((base L.wait).at ⟨T,[]⟩ [.code (L7 L),.inLoop (L7 L),.inBlock 0]) (c::cs)/\T.size=84/\T[0]? = some (.pointer (some ⟨Wg,0,none⟩))
theorem WJ(H:WgLib P L)(hCW:Φ.C≠Φ.Wg)(g:Goroutine)(h:UG L Φ.Wg (b₀.at a₀ (.inRegion ops₀ (i₀::rest₀)::k₀)) cs g)(w:World)(hK:Φ.J w) :
  Goes P true (fun _ w₁=>Φ.J w₁) DC0 (AtW1 P Φ (RL P (b₀.at (a₀.put ((ops₀[i₀]?).bind (·.dst)) (.tuple #[])) (.inRegion ops₀ rest₀::k₀)) cs) (UG L Φ.Wg (b₀.at a₀ (.inRegion ops₀ (i₀::rest₀)::k₀)) cs)) 100 g w:=by
 lib_facts
 obtain⟨T,rfl,hT84,t0⟩:=h;obtain⟨v0,v1,v2,v3,v4,v5,v6,v7,v8,v9,v10,v11,v12,v13,v14,v15,v16,v17,v18,v19,v20,v21,v22,v23,v24,v25,v26,v27,v28,v29,v30,v31,v32,v33,v34,v35,v36,v37,v38,v39,v40,v41,v42,v43,v44,v45,v46,v47,v48,v49,v50,v51,v52,v53,v54,v55,v56,v57,v58,v59,v60,v61,v62,v63,v64,v65,v66,v67,v68,v69,v70,v71,v72,v73,v74,v75,v76,v77,v78,v79,v80,v81,v82,v83,rfl⟩:=array84 T hT84;simp only[pD,vC,uZ]at t0;subst t0;simp only[L7,body_wait,waitFn,pE];u_c stepG_block jl hK;u_c stepG_seq jl hK;u_reg jl hK;iterate 3 u_op jl hK
 u_call H.f_uLoad (nm_uLoad L) uLoadFn jl hK;u_c stepG_seq jl hK;u_reg jl hK;u_op jl hK;u_c stepG_region_end jl hK;u_c stepG_seq jl hK;u_reg jl hK;iterate 3 u_op jl hK
 refine Goes.stop (fun w₁ h₁=>?_);replace hK:=jl hK h₁;clear h₁;refine⟨rfl,fun v hv hw=>?_⟩;rcases Nat.eq_zero_or_pos v with rfl | hvp
 ·replace hw:WgAt Φ.ty Φ.Wg w₁ 0 0:=by simpa using hw
  refine⟨_,stepG_load_atomic (v:=0) rfl rfl (by k_ne) rfl H.f_loadU64 (x_loadU64_n L) (x_loadU64_b L) (x_loadU64_x L) .u64 (x_loadU64_f L) rfl hw.cellSt,fun _=>⟨100,Sil.of (w:=w₁) ?_⟩,fun h=>absurd rfl h⟩;clear hw;walk_nrm;u_op jl hK;u_c stepG_region_end jl hK;u_c stepG_ret' jl hK;u_leave1 H.f_uLoad jl hK;u_op jl hK;u_c stepG_region_end jl hK;u_c stepG_seq jl hK;u_reg jl hK;iterate 4 u_op jl hK
  u_c stepG_region_end jl hK;u_c stepG_seq jl hK;u_reg jl hK;iterate 4 u_op jl hK
  u_c stepG_region_end jl hK;iterate 2 u_c stepG_seq jl hK
  u_reg jl hK;iterate 2 u_op jl hK
  u_c stepG_region_end jl hK;u_cond true jl hK;u_c stepG_seq jl hK;u_cond true jl hK;u_c stepG_seq jl hK;u_reg jl hK;refine Goes.stop (fun w₁ h₁=>?_);replace hK:=jl hK h₁;clear h₁;refine⟨rfl,_,stepG_mark0 .enable (by simp) rfl rfl (by k_ne) rfl H.f_enable (x_enable_n L) (x_enable_b L) (x_enable_x L) (x_enable_f L),100,Sil.of (w:=w₁) ?_⟩;walk_nrm;u_c stepG_region_end jl hK;u_reg jl hK;u_op jl hK;u_conv H.underlying_tWgP H.room_tWg (J.cell0 hK).choose_spec jl hK;refine Goes.stop (fun w₁ h₁=>?_);replace hK:=jl hK h₁;clear h₁;refine⟨rfl,_,_,stepG_markAt .acquire (by simp) rfl rfl (by k_ne) rfl H.f_acquire (x_acquire_n L) (x_acquire_b L) (x_acquire_x L) (x_acquire_f L) (by simp[Act.eval,stA]),fun S Post hh K=>?_⟩;clear hK;walk_nrm;refine Safe.yx (fun _ _=>stepG_region_end) ?_;refine Safe.yx (fun _ _=>stepG_seq) ?_;refine Safe.yx (fun _ _=>stepG_seq) ?_
  (refine Safe.yx (fun _ _=>stepG_region) ?_;simp only[fL,uB,uF,Nat.reduceAdd,uE,List.range,List.range.loop])
  iterate 8 (apply Hk;(case ho=>rfl);(case hw=>rfl);(case hk=>k_ne);(case hr=>intro w;go_simp;(try simp only[q3,q4,q5,q6,a1,b1,b2,c1,c3,c4]);first | rfl | (w_num;rfl));(case he=>intro w;simp[go_sem, *]);walk_nrm)
  iterate 2 (refine SG rfl rfl ?_;walk_nrm)
  (apply Hk;(case ho=>rfl);(case hw=>rfl);(case hk=>k_ne);(case hr=>intro w;go_simp;(try simp only[q3,q4,q5,q6,a1,b1,b2,c1,c3,c4]);first | rfl | (w_num;rfl));(case he=>intro w;simp[go_sem, *]);walk_nrm)
  refine Safe.yx (fun _ _=>stepG_region_end) ?_
  (refine Safe.yx (fun _ _=>stepG_cond (t:=false) rfl) ?_;simp only[vL,↓reduceIte])
  refine Safe.yx (fun _ _=>stepG_skip) ?_;refine Safe.yx (fun _ _=>stepG_ret') ?_;refine Pt rfl rfl H.f_wait rfl ?_;exact K
 ·obtain⟨S,hS⟩:∃S:Int,(v:Int)*KK=S:=⟨_,rfl⟩;have a1:S/4294967296=(v:Int):=by rw[<-hS];simp only[KK];omega
  have b1:bits .and .u64 S 2147483648=0:=by rw[<-hS];have:=st_flag v 0 (by omega) (by omega);simpa[KK]using this
  have b2:bits .and .u64 S 2147483647=0:=by rw[<-hS];have:=st_waiters v 0 (by omega) (by omega);simpa[KK]using this
  have c1:IntKind.i32.wrap (v:Int)=(v:Int):=by rw[IntKind.wrap_i32];omega
  have w1:IntKind.u64.wrap (S+1)=S+1:=by rw[IntKind.wrap_u64,<-hS];simp only[KK];omega
  have q3:decide ((v:Int)<0)=false:=pR (by omega);have q4:decide (0<(v:Int))=true:=pZ (by omega);have q5:((v:Int)==0)=false:=by simp;omega
  have q6:decide ((v:Int)=0)=false:=pR (by omega);rw[hS]at hw;refine⟨_,stepG_load_atomic (v:=S) rfl rfl (by k_ne) rfl H.f_loadU64 (x_loadU64_n L) (x_loadU64_b L) (x_loadU64_x L) .u64 (x_loadU64_f L) rfl hw.cellSt,fun h0=>absurd h0 (by omega),fun _=>⟨200,Sil.of (w:=w₁) ?_⟩⟩;clear hw;walk_nrm;u_op jl hK;u_c stepG_region_end jl hK;u_c stepG_ret' jl hK;u_leave1 H.f_uLoad jl hK;u_op jl hK;u_c stepG_region_end jl hK;u_c stepG_seq jl hK;u_reg jl hK;iterate 4 u_op jl hK
  u_c stepG_region_end jl hK;u_c stepG_seq jl hK;u_reg jl hK;iterate 4 u_op jl hK
  u_c stepG_region_end jl hK;iterate 2 u_c stepG_seq jl hK
  u_reg jl hK;iterate 2 u_op jl hK
  u_c stepG_region_end jl hK;u_cnd false jl hK;u_c stepG_skip jl hK;u_c stepG_seq jl hK;u_reg jl hK;iterate 6 u_op jl hK
  u_call H.f_uCas (nm_uCas L) uCasFn jl hK;u_c stepG_seq jl hK;u_reg jl hK;u_op jl hK;u_c stepG_region_end jl hK;u_c stepG_seq jl hK;u_reg jl hK;iterate 5 u_op jl hK
  refine Goes.stop (fun w₁ h₁=>?_);replace hK:=jl hK h₁;clear h₁;refine⟨rfl,fun v' hv' hw=>⟨fun e=>?_,fun e=>?_⟩⟩
  ·subst e;rw[hS]at hw ⊢;refine⟨_,(stepG_cas_hit (v:=S) (n:=S+1) rfl rfl (by k_ne) rfl H.f_casU64 (x_casU64_n L) (x_casU64_b L) (x_casU64_x L) .u64 (x_casU64_f L) rfl rfl rfl hw.cellSt (hw.thaw 0)).trans (by rfl),200,Sil.of (w:=w₁.setCell (stA Φ.Wg) (.int .u64 (S+1))) ?_⟩;replace hK:=J.setSt hCW hK hw (S+1);generalize w₁.setCell (stA Φ.Wg) (.int .u64 (S+1))=w₂ at hK;clear hw;walk_nrm;u_op jl hK;u_c stepG_region_end jl hK;u_c stepG_ret' jl hK;u_leave1 H.f_uCas jl hK;u_c stepG_region_end jl hK;u_cond true jl hK;iterate 2 u_c stepG_seq jl hK
   u_reg jl hK;iterate 4 u_op jl hK
   u_c stepG_region_end jl hK;u_cond true jl hK;u_reg jl hK;iterate 3 u_op jl hK
   u_conv H.underlying_tPU32 H.room_tU32 (J.cell1 hK).choose_spec jl hK;refine Goes.stop (fun w₁ h₁=>?_);replace hK:=jl hK h₁;clear h₁;refine⟨rfl,_,stepG_markAt .write (by simp) rfl rfl (by k_ne) rfl H.f_raceWrite (x_raceWrite_n L) (x_raceWrite_b L) (x_raceWrite_x L) (x_raceWrite_f L) (ad:=⟨Φ.Wg,1,none⟩) (by simp[Act.eval]),200,Sil.of (w:=w₁) ?_⟩;walk_nrm;u_c stepG_region_end jl hK;u_c stepG_seq jl hK;u_reg jl hK;u_op jl hK;u_c stepG_region_end jl hK;iterate 2 u_c stepG_seq jl hK
   u_reg jl hK;iterate 4 u_op jl hK
   u_skip jl hK;u_op jl hK;u_c stepG_region_end jl hK;u_cond false jl hK;u_c stepG_skip jl hK;u_c stepG_seq jl hK;u_reg jl hK;iterate 4 u_op jl hK
   refine Goes.stop (fun w₁ h₁=>?_);replace hK:=jl hK h₁;clear h₁;refine⟨rfl,rfl,fun⟨st,hw⟩=>stepG_semacquire_wait rfl rfl rfl H.f_semacquire (x_semacquire_n L) (x_semacquire_b L) (x_semacquire_x L) (x_semacquire_f L) (by simp[Act.eval,smA]) hw.cellSm,fun hf=>?_⟩;refine⟨_,(stepG_semacquire (n:=1) rfl rfl (by k_ne) rfl H.f_semacquire (x_semacquire_n L) (x_semacquire_b L) (x_semacquire_x L) (x_semacquire_f L) (by simp[Act.eval,smA]) hf.cellSm (by k_ne) (hf.thaw 1)).trans (by rfl),200,Sil.of (w:=w₁.setCell (smA Φ.Wg) (.int .u32 0)) ?_⟩;replace hK:=J.setSm hCW hK hf 0;generalize w₁.setCell (smA Φ.Wg) (.int .u32 0)=w₂ at hK;clear hf;walk_nrm;u_c stepG_region_end jl hK;u_c stepG_seq jl hK;u_reg jl hK;iterate 3 u_op jl hK
   u_call H.f_uLoad (nm_uLoad L) uLoadFn jl hK;u_c stepG_seq jl hK;u_reg jl hK;u_op jl hK;u_c stepG_region_end jl hK;u_c stepG_seq jl hK;u_reg jl hK;iterate 3 u_op jl hK
   refine Goes.stop (fun w₁ h₁=>?_);replace hK:=jl hK h₁;clear h₁;refine⟨rfl,fun hw=>⟨_,stepG_load_atomic (v:=0) rfl rfl (by k_ne) rfl H.f_loadU64 (x_loadU64_n L) (x_loadU64_b L) (x_loadU64_x L) .u64 (x_loadU64_f L) rfl hw.cellSt,200,Sil.of (w:=w₁) ?_⟩⟩;clear hw;walk_nrm;u_op jl hK;u_c stepG_region_end jl hK;u_c stepG_ret' jl hK;u_leave1 H.f_uLoad jl hK;iterate 2 u_op jl hK
   u_c stepG_region_end jl hK;u_c stepG_seq jl hK;u_cond true jl hK;u_c stepG_seq jl hK;u_reg jl hK;refine Goes.stop (fun w₁ h₁=>?_);replace hK:=jl hK h₁;clear h₁;refine⟨rfl,_,stepG_mark0 .enable (by simp) rfl rfl (by k_ne) rfl H.f_enable (x_enable_n L) (x_enable_b L) (x_enable_x L) (x_enable_f L),100,Sil.of (w:=w₁) ?_⟩;walk_nrm;u_c stepG_region_end jl hK;u_reg jl hK;u_op jl hK;u_conv H.underlying_tWgP H.room_tWg (J.cell0 hK).choose_spec jl hK;refine Goes.stop (fun w₁ h₁=>?_);replace hK:=jl hK h₁;clear h₁;refine⟨rfl,_,_,stepG_markAt .acquire (by simp) rfl rfl (by k_ne) rfl H.f_acquire (x_acquire_n L) (x_acquire_b L) (x_acquire_x L) (x_acquire_f L) (by simp[Act.eval,stA]),fun S Post hh K=>?_⟩;clear hK;walk_nrm;refine Safe.yx (fun _ _=>stepG_region_end) ?_;refine Safe.yx (fun _ _=>stepG_seq) ?_;refine Safe.yx (fun _ _=>stepG_seq) ?_
   (refine Safe.yx (fun _ _=>stepG_region) ?_;simp only[fL,uB,uF,uE,List.range,List.range.loop])
   (apply Hk;(case ho=>rfl);(case hw=>rfl);(case hk=>k_ne);(case hr=>intro w;go_simp;(try simp only[q3,q4,q5,q6,a1,b1,b2,c1,c3,c4]);first | rfl | (w_num;rfl));(case he=>intro w;simp[go_sem, *]);walk_nrm)
   refine Safe.yx (fun _ _=>stepG_region_end) ?_
   (refine Safe.yx (fun _ _=>stepG_cond (t:=false) rfl) ?_;simp only[vL,↓reduceIte])
   refine Safe.yx (fun _ _=>stepG_skip) ?_;refine Safe.yx (fun _ _=>stepG_ret') ?_;refine Pt rfl rfl H.f_wait rfl ?_;exact K
  ·refine⟨_,stepG_cas_miss (v:=(v':Int)*KK) (old:=S) (n:=S+1) rfl rfl (by k_ne) rfl H.f_casU64 (x_casU64_n L) (x_casU64_b L) (x_casU64_x L) .u64 (x_casU64_f L) rfl rfl rfl hw.cellSt (hw.thaw 0) (by rw[<-hS];simp only[KK];omega),100,Sil.of (w:=w₁) ?_⟩;clear hw;walk_nrm;u_op jl hK;u_c stepG_region_end jl hK;u_c stepG_ret' jl hK;u_leave1 H.f_uCas jl hK;u_c stepG_region_end jl hK;u_cond false jl hK;u_c stepG_skip jl hK;u_c stepG_inBlock jl hK;u_c stepG_inLoop jl hK;exact Goes.stop fun _ _=>⟨_,rfl,by simp,by simp⟩
theorem Y2(H:WgLib P L)(hCW:Φ.C≠Φ.Wg)(w:World)(hK:Φ.J w) :
  qz P Φ (RL P (b₀.at (a₀.put ((ops₀[i₀]?).bind (·.dst)) (.tuple #[])) (.inRegion ops₀ rest₀::k₀)) cs)
   ((base L.wait).at ⟨#[.pointer (some ⟨Φ.Wg,0,none⟩),undef,undef,undef,undef,undef,undef,undef,undef,undef,undef,undef,undef,undef,undef,undef,undef,undef,undef,undef,undef,undef,undef,undef,undef,undef,undef,undef,undef,undef,undef,undef,undef,undef,undef,undef,undef,undef,undef,undef,undef,undef,undef,undef,undef,undef,undef,undef,undef,undef,undef,undef,undef,undef,undef,undef,undef,undef,undef,undef,undef,undef,undef,undef,undef,undef,undef,undef,undef,undef,undef,undef,undef,undef,undef,undef,undef,undef,undef,undef,undef,undef,undef,undef],[]⟩ [.code (body_wait L)]) (b₀.at a₀ (.inRegion ops₀ (i₀::rest₀)::k₀)::cs):=by
 refine⟨UG L Φ.Wg (b₀.at a₀ (.inRegion ops₀ (i₀::rest₀)::k₀)) cs,fun g hg=>⟨100,Sil.of (WJ H hCW g hg w hK)⟩,100,Sil.of (w:=w) ?_⟩
 lib_facts
 simp only[zb9];simp only[body_wait,waitFn,pE];u_c stepG_seq jl hK;u_cond true jl hK;u_reg jl hK;refine Goes.stop (fun w₁ h₁=>?_);replace hK:=jl hK h₁;clear h₁;refine⟨rfl,_,stepG_mark0 .disable (by simp) rfl rfl (by k_ne) rfl H.f_disable (x_disable_n L) (x_disable_b L) (x_disable_x L) (x_disable_f L),3,Sil.of (w:=w₁) ?_⟩;walk_nrm;u_c stepG_region_end jl hK;u_c stepG_block jl hK;u_c stepG_loop jl hK;exact Goes.stop (fun w₂ h₂=>⟨_,rfl,by simp,by simp⟩)
end
end Go.Eng
namespace Go.Eng
open Go
variable {z:Nat}
section
variable {P:Program}{S:Shared}{ops:Array Oper}{Q:Act -> Heap -> Heap -> Prop}
theorem Y3{Post:Frame->List Frame->Heap->Prop}{b:Frame}{k:List Item}{cs:List Frame}(hp:Up S Post)(r:List Nat) :
  ∀(l:List Nat) (a:Act) (L h:Heap),Ok S h L->wQ P S ops Q l a L h->(∀a' L' h',Ok S h' L'->Q a' L' h'->Safe P S Post (b.at a' (.inRegion ops r::k)) cs (plus h' L')) ->
   Safe P S Post (b.at a (.inRegion ops (l++r)::k)) cs (plus h L):=by
 intro l;induction l with
 | nil=>intro a L h ha H K;exact K a L h ha H
 | cons i rest ih=>
  intro a L h ha H K;simp only[wQ,qF]at H;cases ho:ops[i]? with
  | none=>
   simp only[ho]at H;refine .LG (by simp[ho]) ?_;simp only[ho,Option.bind_none,Act.put];exact ih a L h ha H K
  | some o=>
   simp only[ho]at H;by_cases hw:Region.wanted o (yielded ops a.tmps)=true
   ·simp only[hw,uJ]at H;cases H with
    | step H=>exact .op ho hw fun w hh=>qE _ (H w hh) fun n w' ⟨v,L',h',h1,h2,h3,_,_,h5⟩=>⟨v,plus h' L',h1,h3,ih _ L' h' h2 h5 K⟩
    | call f args R hx hc H=>exact .Vj hp ho hw hx hc ha.apart fun v h' hr hi hap=>ih _ L h' ⟨hap,hi⟩ (H v h' hr ⟨hap,hi⟩).2 K
   ·simp only[hw,vY,vL]at H;refine .LG (by simp[ho];simpa using hw) ?_;simp only[ho,mY];exact ih _ L h ha H K
theorem put_defers(a:Act)(d:Option Tmp)(v:Value):(a.put d v).defers=a.defers:=by cases d <;> rfl
theorem SH:∀(l:List Nat) (a:Act) (L h:Heap),wQ P S ops Q l a L h->wQ P S ops (fun a' L' h'=>a'.defers=a.defers/\Q a' L' h') l a L h:=by
 have mono:∀(l:List Nat) (a:Act) (L h:Heap) {Q Q':Act->Heap->Heap->Prop},(∀a L h,Q a L h->Q' a L h)->wQ P S ops Q l a L h->wQ P S ops Q' l a L h:=by
  intro l;induction l with
  | nil=>intro a L h Q Q' hk H;exact hk _ _ _ H
  | cons i rest ih=>
   intro a L h Q Q' hk H;simp only[wQ,qF]at H ⊢;cases ho:ops[i]? with
   | none=>simp only[ho]at H ⊢;exact ih _ _ _ hk H
   | some o=>
    simp only[ho]at H ⊢;by_cases hw:Region.wanted o (yielded ops a.tmps)=true
    ·simp only[hw,uJ]at H ⊢;exact H.mono fun v L' h' _ _ ⟨h1,h2⟩=>⟨h1,ih _ _ _ hk h2⟩
    ·simp only[hw,vY,vL]at H ⊢;exact ih _ _ _ hk H
 intro l;induction l with
 | nil=>intro a L h H;exact⟨rfl,H⟩
 | cons i rest ih=>
  intro a L h H;simp only[wQ,qF]at H ⊢;cases ho:ops[i]? with
  | none=>simp only[ho]at H ⊢;exact ih _ _ _ H
  | some o=>
   simp only[ho]at H ⊢;by_cases hw:Region.wanted o (yielded ops a.tmps)=true
   ·simp only[hw,uJ]at H ⊢;exact H.mono fun v L' h' _ _ ⟨h1,h2⟩=>⟨h1,mono _ _ _ _ (fun a' L' h' ⟨e,hq⟩=>⟨e.trans (put_defers ..),hq⟩) (ih _ _ _ h2)⟩
   ·simp only[hw,vY,vL]at H ⊢;exact mono _ _ _ _ (fun a' L' h' ⟨e,hq⟩=>⟨e.trans (put_defers ..),hq⟩) (ih _ _ _ H)
theorem UH(hn:ops.size=z+1)(h3:∀i o,ops[i]? = some o->∀e∈o.after,Region.binds .any e=true->e.on<i)
  (h2:∀o,ops[z]? = some o->∀i<z,∃e∈o.after,Region.binds .any e=true/\e.on=i){listed:Array Bool}(hs:listed.size=z+1)(hz:listed.getD z true=false)
  (hu:∃i<z,listed.getD i true=false):Region.ready .any ops listed=Region.ready .any ops (listed.setIfInBounds z true)/\Region.ready .any ops listed ≠ []:=by
 have gd:∀i:Nat,i≠z->∀d,(listed.setIfInBounds z true).getD i d=listed.getD i d:=fun i hi d=>by
  simp only[pF,nD (uW hi)]
 have gz:∀d,(listed.setIfInBounds z true).getD z d=true:=fun d=>by
  simp[pF,hs]
 have dd:∀i<z,listed.getD i true=listed.getD i false:=fun i hi=>by
  simp[pF,nY (show i<listed.size by omega)]
 constructor
 ·unfold Region.ready;refine List.filter_congr fun i hi=>?_
  rw[nU,hn]at hi;by_cases e:i=z
  ·subst e;rw[gz,hz];obtain⟨j,hj,hju⟩:=hu;cases ho:ops[i]? with
   | none=>simp
   | some o=>
    obtain⟨ed,he,hb,hon⟩:=h2 o ho j hj;have:(o.after.all fun e => !Region.binds .any e||listed.getD e.on false)=false:=by
     rw[Bool.eq_false_iff];intro hall;have h4:=fI.1 hall ed he;rw[hb,hon,<-dd j hj,hju]at h4;cases h4
    simp only[pK,pE,this,fW,Bool.false_and,Bool.and_false]
  ·rw[gd i e];congr 1;cases ho:ops[i]? with
   | none=>simp
   | some o=>
    simp only[pK,pE];rw[Bool.eq_iff_iff,fI,fI];refine forall_congr' fun ed=>forall_congr' fun hed=>?_
    cases hb:Region.binds .any ed with
    | false=>simp
    | true=>
     have:=h3 i o ho ed hed hb;rw[gd ed.on (by omega)]
 ·intro hnil;have all:∀n i,i<n->i<z->listed.getD i true=true:=by
   intro n;induction n with
   | zero=>intro i h;omega
   | succ n ih=>
    intro i hin hiz;cases hl:listed.getD i true with
    | true=>rfl
    | false=>
     have hi:i<ops.size:=by omega
     have:i∈Region.ready .any ops listed:=mem_ready.2 ⟨hl,ops[i],nY hi,fun ed hed hb=>by
      have h5:=h3 i _ (nY hi) ed hed hb
      rw[<-dd ed.on (by omega)]
      exact ih ed.on (by omega) (by omega)⟩
     rw[hnil]at this;cases this
  obtain⟨j,hj,hju⟩:=hu;rw[all (j+1) j (by omega) hj]at hju;cases hju
theorem Oy(hn:ops.size=z+1)(h3:∀i o,ops[i]? = some o->∀e∈o.after,Region.binds .any e=true->e.on<i)
  (h2:∀o,ops[z]? = some o->∀i<z,∃e∈o.after,Region.binds .any e=true/\e.on=i):∀(fuel t:Nat) (listed:Array Bool),listed.size=z+1->listed.getD z true=false ->
   ((List.range z).filter fun i => !listed.getD i true).length=fuel ->
   ∃t',Region.linearise.go .any ops (fuel+1) t listed []=Region.linearise.go .any ops fuel t (listed.setIfInBounds z true) []++[z]/\t'=t:=by
 intro fuel;induction fuel with
 | zero=>
  intro t listed hs hz hc;refine⟨t,?_,rfl⟩;have hall:∀i<z,listed.getD i true=true:=fun i hi=>by
   cases h:listed.getD i true with
   | true=>rfl
   | false=>
    have:i∈(List.range z).filter fun i => !listed.getD i true:=nZ.2 ⟨nU.2 hi,by simp[h]⟩
    rw[List.length_eq_zero_iff.1 hc]at this;cases this
  have hr:Region.ready .any ops listed=[z]:=by
   unfold Region.ready;rw[hn,mD,List.filter_append];have e1:(List.range z).filter (fun i => !listed.getD i true&&((ops[i]?).map (·.after.all fun e => !Region.binds .any e||listed.getD e.on false)).getD false)=[]:=by
    rw[List.filter_eq_nil_iff];intro i hi;rw[hall i (nU.1 hi)];simp
   rw[e1,vI];have hzl:z<ops.size:=by omega
   have e2:((ops[z]?).map (·.after.all fun e => !Region.binds .any e||listed.getD e.on false)).getD false=true:=by
    rw[nY hzl];simp only[pK,pE];rw[fI];intro ed hed;cases hb:Region.binds .any ed with
    | false=>simp
    | true=>
     have h5:=h3 z _ (nY hzl) ed hed hb;have h6:=hall ed.on h5;simp[pF,nY (show ed.on<listed.size by omega)]at h6 ⊢;exact h6
   exact List.filter_eq_self.2 fun i hi=>by cases uO.1 hi;rw[hz,e2];rfl
  simp only[Region.linearise.go];change (match(Region.ready .any ops listed)[t%(Region.ready .any ops listed).length]? with
   | some i=>Region.linearise.go .any ops 0 (t/(Region.ready .any ops listed).length) (listed.setIfInBounds i true) [i]
   | none=>[].reverse)=_
  rw[hr];simp[Nat.mod_one,Region.linearise.go]
 | succ fuel ih=>
  intro t listed hs hz hc;refine⟨t,?_,rfl⟩;have hu:∃i<z,listed.getD i true=false:=by
   cases hl:(List.range z).filter fun i => !listed.getD i true with
   | nil=>rw[hl]at hc;cases hc
   | cons i r=>
    have:i∈(List.range z).filter fun i => !listed.getD i true:=by rw[hl];exact gD
    obtain⟨h4,h5⟩:=nZ.1 this;exact⟨i,nU.1 h4,by simpa using h5⟩
  obtain⟨he,hne⟩:=UH hn h3 h2 hs hz hu;have A:∀(f t:Nat) (l:Array Bool),Region.linearise.go .any ops (f+1) t l []=(match(Region.ready .any ops l)[t%(Region.ready .any ops l).length]? with
   | some i=>Region.linearise.go .any ops f (t/(Region.ready .any ops l).length) (l.setIfInBounds i true) [i]
   | none=>[]):=fun f t l=>by simp only[Region.linearise.go];rfl
  rw[A,A,<-he];have hlt:t%(Region.ready .any ops listed).length<(Region.ready .any ops listed).length:=fV _ (by
   cases hr:Region.ready .any ops listed with
   | nil=>exact absurd hr hne
   | cons x xs=>simp)
  rw[vQ hlt];simp only[];have hmem:=pQ hlt;generalize (Region.ready .any ops listed)[t%(Region.ready .any ops listed).length]=i at hmem;have hi1:=(mem_ready.1 hmem).1;have hiz:i≠z:=fun e=>by
   subst e;rw[he]at hmem;have:=(mem_ready.1 hmem).1;simp[pF,hs]at this
  have hilt:i<z:=by
   rcases mK i listed.size with h | h
   ·omega
   ·simp[pF,gB h]at hi1
  rw[linearise_go_acc,linearise_go_acc _ _ _ _ _ [i]];have gi:∀j:Nat,(listed.setIfInBounds i true).getD j true=(if j=i then true else listed.getD j true):=fun j=>by
   by_cases e:j=i
   ·subst e;simp only[uJ,pF,Array.getElem?_setIfInBounds];split <;> simp
   ·simp only[vM e,pF,nD (uW e)]
  obtain⟨_,h6,_⟩:=ih (t/(Region.ready .any ops listed).length) (listed.setIfInBounds i true) (by simp[hs]) (by rw[gi,vM (uW hiz)];exact hz) (by
   have key:∀l:List Nat,l.Nodup->i∈l->(l.filter fun j => !(listed.setIfInBounds i true).getD j true).length+1=(l.filter fun j => !listed.getD j true).length:=by
    intro l
    induction l with
    | nil=>intro _ h;cases h
    | cons x xs ihl=>
     intro hnd hm
     obtain⟨hx,hnd⟩:=mW.1 hnd
     rw[List.filter_cons,List.filter_cons]
     rcases uU.1 hm with rfl | hm
     ·have e5:(xs.filter fun j => !(listed.setIfInBounds i true).getD j true)=xs.filter fun j => !listed.getD j true:=
       List.filter_congr fun j hj=>by rw[gi,vM (fun e=>hx (by rw[<-e];exact hj))]
      rw[gi,vP rfl,hi1,e5];simp
     ·have hxi:x≠i:=fun e=>hx (by rw[e];exact hm)
      rw[gi,vM hxi]
      have:=ihl hnd hm
      cases listed.getD x true <;> simp only[fW,Bool.not_false,vL,uB,↓reduceIte] <;> omega
   have:=key (List.range z) List.nodup_range (nU.2 hilt)
   omega)
  rw[h6,Array.setIfInBounds_comm _ _ hiz];simp
end
end Go.Eng
namespace Go.Eng
open Go
def RM(ops:Array Oper)(z:Nat):Bool:=
 ops.size==z+1&&((List.range (z+1)).all fun i=>match ops[i]? with | some o=>o.after.all (fun e => !Region.binds .any e||decide (e.on<i)) | none=>true) &&
  (match ops[z]? with | some o=>(List.range z).all fun i=>o.after.any fun e=>Region.binds .any e&&e.on==i | none=>true)
theorem linearise_last'{ops:Array Oper}{z:Nat}(h:RM ops z=true)(t:Nat) :
  Region.linearise.go .any ops (z+1) t (Array.replicate (z+1) false) []=Region.linearise.go .any ops z t ((Array.replicate (z+1) false).setIfInBounds z true) []++[z]:=by
 unfold RM at h;simp only[uH,uP]at h;obtain⟨⟨h1,h2⟩,h3⟩:=h;refine(Oy h1 (fun i o ho e he hb=>?_) (fun o ho i hi=>?_) z t _ (by simp) (by simp[pF]) ?_).choose_spec.1
 ·have hlt:i<z+1:=by
   rcases mK i ops.size with h | h
   ·omega
   ·rw[gB h]at ho;cases ho
  have h4:=pP.1 h2 i (nU.2 hlt);rw[ho]at h4;have h5:=fI.1 h4 e he;rw[hb]at h5;simpa using h5
 ·rw[ho]at h3;have h4:=pP.1 h3 i (nU.2 hi);obtain⟨e,he,h5⟩:=Array.any_eq_true'.1 h4;simp only[uH,uP]at h5;exact⟨e,he,h5.1,h5.2⟩
 ·have:(List.range z).filter (fun i => !(Array.replicate (z+1) false).getD i true)=List.range z:=List.filter_eq_self.2 fun i hi=>by
   have:=nU.1 hi;simp[pF,show i<z+1 by omega]
  rw[this,List.length_range]
end Go.Eng
namespace Go.Eng
open Go
def Oz(l:List (Option (Sh×Nat))):List GV:=l.map fun | some (s,j)=>⟨[],.x (.var s j)⟩ | none=>⟨[],.junk⟩
variable {env:List Value}
theorem Y4{nums:List Nat}{s:Sh}{j:Nat}{u:Value}(h:env[j]? = some u)(hc:coerce s u=u):Good env nums (.var s j) u:=fun xs ys=>by
 have hlt:j<env.length:=(vS.1 h).1;simp only[Ex.ev,uK,uC hlt,h,pE,hc]
theorem Rel.init{l:List (Option (Sh×Nat))}{a:Act}{n d:Nat}{dv:Bool}(hn:n=env.length)(hl:l.length=a.tmps.size)(hd:dv=false->a.defers=[])
  (hv:∀(i:Nat) s j,l[i]? = some (some (s,j))->∃u,env[j]? = some u/\a.tmps.getD i undef=u/\coerce s u=u) :
  Rel { tmps:=Oz l,loc:=[],n:=n,known:=[],d:=d,dv:=dv } env [] a (fun _=>none):=by
 have key:∀(i:Nat) gv,(Oz l)[i]? = some gv->gv=⟨[],.junk⟩\/∃s j,l[i]? = some (some (s,j))/\gv=⟨[],.x (.var s j)⟩:=by
  intro i gv h;unfold Oz at h;rw[uY]at h;obtain⟨x,h1,rfl⟩:=vW.1 h;cases x with
  | none=>exact .inl rfl
  | some p=>exact .inr ⟨p.1,p.2,h1,rfl⟩
 refine⟨hn,rfl,by simp[Oz,hl],hd,?_,?_,?_,by simp,by simp,by simp⟩
 ·intro i g v h e he;rcases key i _ h with h | ⟨s,j,_,h⟩ <;> cases h <;> cases he
 ·intro i g v h _;rcases key i _ h with h | ⟨s,j,h1,h⟩
  ·cases h;trivial
  ·cases h
   obtain⟨u,h2,h3,h4⟩:=hv i s j h1;rw[h3];exact Y4 h2 h4
 ·rintro i g v h ⟨e,he,_⟩;rcases key i _ h with h | ⟨s,j,_,h⟩ <;> cases h <;> cases he
end Go.Eng
namespace Go.Eng
open Go
def sxs(cfg:Cfg):List Code->St->Option Tr
 | [],st=>some (.leaf (.norm st))
 | r::rs,st=>match r with
  | .region _ ops draw=>(match sxR cfg ops draw st with | some t=>LO t (sxs cfg rs) | none=>none)
  | _=>none
def nest:List Code->Code->Code
 | [],c=>c
 | r::rs,c=>.seq r (nest rs c)
variable {n:Nat}{is:List Nat}{a:Act}{ps:List (Nat×Sh)}{env:List Value}{t:Tr}{h:Heap}{P:Program}{cs:List Frame}
section
variable {S:Shared}{cfg:Cfg}{Λ:Hand}{Q:Value -> Heap -> Prop}{Ks:List Kt}{Post:Frame -> List Frame -> Heap -> Prop}{b:Frame}{k:List Item}{c:Code}
theorem zbA(hT:zM P cfg.tab)(hm:P.follows .mixedOrders=true)(hp:Up S Post)(hΛ:Λ.Fw):∀(rs:List Code) (st:St) (t:Tr) (env:List Value) (nums:List Nat) (a:Act) (L h:Heap),
  sxs cfg rs st=some t->t.wp P S Λ Q env h Ks->Rel st env nums a L->Ok S h L ->
  (∀st' vs ms a' L' h',Λ (.norm st') (env++vs) h' Ks->Rel st' (env++vs) (nums++ms) a' L'->Ok S h' L'->Safe P S Post (b.at a' (.code c::k)) cs (plus h' L')) ->
  Safe P S Post (b.at a (.code (nest rs c)::k)) cs (plus h L):=by
 intro rs;induction rs with
 | nil=>
  intro st t env nums a L h ht hw H ha hf;simp only[sxs]at ht;cases ht
  exact hf st [] [] a L h (by simpa[Tr.wp]using hw) (by simpa using H) ha
 | cons r rs ih=>
  intro st t env nums a L h ht hw H ha hf;simp only[sxs]at ht;split at ht
  ·rename_i id ops draw;split at ht
   ·rename_i t1 ht1;have hw1:=Tr.wp_bind hΛ t1 t ht env h Ks hw;refine .seq (Iy hT hm hp ht1 hw1 H ha ?_);rintro st' vs ms a' L' h' ⟨u,hu,huw⟩ H' ha' _;refine ih st' u _ _ a' L' h' hu huw H' ha' fun st2 vs2 ms2 a2 L2 h2 h3 h4 h5=>?_
    rw[vX]at h3 h4;rw[vX]at h4;exact hf st2 _ _ a2 L2 h2 h3 h4 h5
   ·cases ht
  ·cases ht
def got(st:St)(env:List Value)(i:Nat):Value:=match st.tmps[i]? with | some ⟨[],.x e⟩=>e.ev env [] | _=>undef
def isX(st:St)(i:Nat):Bool:=match st.tmps[i]? with | some ⟨[],.x _⟩=>true | _=>false
def kC(n:Nat)(is:List Nat)(R:(Nat->Value)->Heap->Prop):Hand:=fun l env h _=>∃st,l=.norm st/\st.loc=[]/\st.dv=false/\st.tmps.length=n/\is.all (isX st)=true/\R (got st env) h
theorem kC.mono{R:(Nat->Value)->Heap->Prop}:(kC n is R).Fw:=fun _ _ _ _ _ _ h=>h
def Reach(S:Shared)(b:Frame)(n:Nat)(k:List Item)(cs:List Frame)(is:List Nat)(R:(Nat->Value)->Heap->Prop)(fr:Frame)(cs':List Frame)(H:Heap):Prop:=
 cs'=cs/\∃a f h',fr=b.at a k/\a.tmps.size=n/\a.defers=[]/\(∀i∈is,a.tmps.getD i undef=f i)/\R f h'/\Sub h' H/\Inv S h'
theorem Reach.up{R:(Nat->Value)->Heap->Prop}:Up S (Reach S b n k cs is R):=
 fun _ _ _ _ ⟨h1,a,f,h',h2,h3,h4,h5,h6,h7,h8⟩ hs _=>⟨h1,a,f,h',h2,h3,h4,h5,h6,h7.trans hs,h8⟩
def lOf(n:Nat)(ps:List (Nat×Sh)):List (Option (Sh×Nat)):=(List.range n).map fun i=>(ps.zipIdx.find? fun p=>p.1.1==i).map fun p=>(p.1.2,p.2)
def FI(n:Nat)(ps:List (Nat×Sh)):St:={ tmps:=Oz (lOf n ps),loc:=[],n:=ps.length,known:=[],d:=0,dv:=false }
def Ak(a:Act):List (Nat×Sh)->List Value->Prop
 | [],[]=>True
 | p::ps,u::us=>a.tmps.getD p.1 undef=u/\coerce p.2 u=u/\Ak a ps us
 | _,_=>False
theorem Ak.get:∀ {ps:List (Nat×Sh)} {us:List Value},Ak a ps us->ps.length=us.length/\∀(j:Nat) (p:Nat×Sh),ps[j]? = some p->∃u,us[j]? = some u/\a.tmps.getD p.1 undef=u/\coerce p.2 u=u
 | [],[],_=>⟨rfl,fun j p h=>by simp at h⟩
 | p::ps,u::us,⟨h1,h2,h3⟩=>by
  obtain⟨e,ih⟩:=Ak.get h3;refine⟨by simp[e],fun j q h=>?_⟩;cases j with
  | zero=>simp at h;subst h;exact⟨u,rfl,h1,h2⟩
  | succ j=>exact ih j q (by simpa using h)
 | [],_::_,h=>h.elim
 | _::_,[],h=>h.elim
theorem Rel.of(hs:Ak a ps env)(hn:a.tmps.size=n)(hd:a.defers=[]):Rel (FI n ps) env [] a (fun _=>none):=by
 obtain⟨e,hg⟩:=hs.get;refine Rel.init e (by simp[lOf,hn]) (fun _=>hd) fun i s j h=>?_
 unfold lOf at h;rw[uY]at h;obtain⟨i',h1,h2⟩:=vW.1 h;have hii:i'=i:=by
  have:=(vS.1 h1).2;simpa using this.symm
 subst hii;obtain⟨⟨p,j'⟩,h3,h4⟩:=vW.1 h2;simp only[uV]at h4;obtain⟨rfl,rfl⟩:=h4;have h5:=List.find?_some h3;have h6:=nO.1 (List.mem_of_find?_eq_some h3);simp only[uP]at h5 h6;obtain⟨u,k1,k2,k3⟩:=hg _ _ h6;exact⟨u,k1,by rw[<-h5];exact k2,k3⟩
theorem Hl(hT:zM P cfg.tab)(hm:P.follows .mixedOrders=true){rs:List Code}{R:(Nat->Value)->Heap->Prop}
  (ht:sxs cfg rs (FI n ps)=some t)(hs:Ak a ps env)(hn:a.tmps.size=n)(hd:a.defers=[])(hi:Inv S h)(hw:t.wp P S (kC n is R) (fun _ _=>True) env h []) :
  Safe P S (Reach S b n (.code c::k) cs is R) (b.at a (.code (nest rs c)::k)) cs h:=by
 have ha:Ok S h (fun _=>none):=⟨fun b hb=>absurd rfl hb,hi⟩;rw[<-xY h];refine zbA (Q:=fun _ _=>True) (Ks:=[]) hT hm Reach.up kC.mono rs _ t env [] a _ h ht hw (Rel.of hs hn hd) ha ?_;rintro st' vs ms a' L' h' ⟨st,e,hl,hdv,hsz,his,hR⟩ H' ha';cases e
 have hms:ms=[]:=by
  have:=H'.m;rw[hl]at this;simpa using this.symm
 subst hms;refine .done ⟨rfl,a',_,h',rfl,?_,H'.df hdv,fun i hi=>?_,hR,fun x o hx=>by simp[plus,hx],ha'.inv⟩
 ·rw[<-H'.sz];exact hsz
 ·have hx:=pP.1 his i hi;unfold isX at hx;unfold got;split at hx
  ·rename_i e he;have:=Good.at (H'.vl i [] _ he (by simp));simpa using this.symm
  ·cases hx
theorem zbB(hT:zM P cfg.tab)(hm:P.follows .mixedOrders=true){r:Code}{R:(Nat->Value)->Heap->Prop}
  (ht:sxs cfg [r] (FI n ps)=some t)(hs:Ak a ps env)(hn:a.tmps.size=n)(hd:a.defers=[])(hi:Inv S h)(hw:t.wp P S (kC n is R) (fun _ _=>True) env h []) :
  Safe P S (Reach S b n k cs is R) (b.at a (.code r::k)) cs h:=by
 have ha:Ok S h (fun _=>none):=⟨fun b hb=>absurd rfl hb,hi⟩;rw[<-xY h];simp only[sxs]at ht;split at ht
 ·rename_i id ops draw;split at ht
  ·rename_i t1 ht1;have hw1:=Tr.wp_bind kC.mono t1 t ht env h [] hw;refine Iy (Ks:=[]) hT hm Reach.up ht1 hw1 (Rel.of hs hn hd) ha ?_;rintro st' vs ms a' L' h' ⟨u,hu,huw⟩ H' ha' _;cases hu
   obtain⟨st,e,hl,hdv,hsz,his,hR⟩:=huw;cases e
   have hms:ms=[]:=by
    have:=H'.m;rw[hl]at this;simpa using this.symm
   subst hms;refine .done ⟨rfl,a',_,h',rfl,by rw[<-H'.sz];exact hsz,H'.df hdv,fun i hi=>?_,hR,fun x o hx=>by simp[plus,hx],ha'.inv⟩;have hx:=pP.1 his i hi;unfold isX at hx;unfold got;split at hx
   ·rename_i e he;have:=Good.at (H'.vl i [] _ he (by simp));simpa using this.symm
   ·cases hx
  ·cases ht
 ·cases ht
end
section
open Go.Conc Go.ConcR
variable {Φ:Ph}{cs' : List Frame}{fr fr' : Frame}
theorem Sil.step{main:Bool}{J:World->Prop}{Stop:Goroutine->World->Prop}{n:Nat}{g g':Goroutine}(hr:g.status=.running)(hs:∀w,stepG P main g w=.go g' w #[])(H:Sil P main J Stop n g'):Sil P main J Stop (n+1) g:=
 fun w=>Goes.step hr fun w₁ h₁=>by
  rw[hs w₁];exact⟨⟨rfl,rfl⟩,H w₁⟩
theorem BM.step{Nx:Frame->List Frame->Prop}(hs:∀w,stepG P true (gor fr cs) w=.go (gor fr' cs') w #[])(H:BM P Φ Nx fr' cs'):BM P Φ Nx fr cs:=
 let⟨m,h⟩:=H
 ⟨m+1,Sil.step rfl hs h⟩
theorem qz.step{Nx:Frame->List Frame->Prop}(hs:∀w,stepG P true (gor fr cs) w=.go (gor fr' cs') w #[])(H:qz P Φ Nx fr' cs'):qz P Φ Nx fr cs:=
 let⟨Anch,h1,m,h⟩:=H
 ⟨Anch,h1,m+1,Sil.step rfl hs h⟩
theorem RN{s:GStep}{g:Goroutine}{w:World}{es:Array Event}(h:s.goes (fun g' w' es'=>g'=g/\w'=w/\es'=es)):s=.go g w es:=by
 cases s <;> simp only[GStep.goes]at h
 obtain⟨rfl,rfl,rfl⟩:=h;rfl
theorem Sp.pre{Q:Frame->List Frame->Heap->Prop}{r:Nat}(H:Safe P Φ.S (fun fr cs h=>Sp P Φ Q r fr cs h) fr cs h):Sp P Φ Q r fr cs h:=by
 cases r with
 | zero=>exact H.bind fun _ _ _ x=>x
 | succ r=>exact H.bind fun _ _ _ x=>x
end
end Go.Eng
end
section
namespace Go.Proofs.YtpodkihpnjhamaaGreatDoor
open Go Go.Eng Go.Conc Go.RowKit Go.Conc.Lib Go.ConcR.Gen
open Go.ConcR (KK wgBlock WgAt stA smA rd wr DC0 Payload)
instance:Payload:=⟨38⟩
noncomputable def Nh:Code:=Tryz.f80.body.getD .skip
noncomputable def Lw:Array Oper:=match Nh with | .seq (.region _ ops _) _=>ops | _=>#[]
noncomputable def AV:Array Oper:=match Nh with | .seq _ (.region _ ops _)=>ops | _=>#[]
theorem Y5:Nh=.seq (.region 0 Lw false) (.region 1 AV true):=by kernel_rfl
def zbC:List (TypeId×TyD):=[(0,⟨.oth,1,0,[],none,some []⟩),(3,⟨(.int .i64),1,8,[.int .i64],some [(1,(.int .i64 0))],none⟩),(5,⟨(.int .u8),1,1,[.int .u8],some [(1,(.int .u8 0))],none⟩),(38,⟨(.int .u32),1,4,[.int .u32],some [(1,(.int .u32 0))],none⟩),(22,⟨(.sl 5),1,24,[.slice],some [(1,.nilSl)],none⟩),(86,⟨(.sl 38),1,24,[.slice],some [(1,.nilSl)],none⟩),(90,⟨.fnk,1,8,[.fnv],some [(1,.nilFn)],none⟩)]
theorem zbD:zM oPP zbC:=KS (by kernel_rfl)
theorem zbE:oPP.follows .mixedOrders=true:=by kernel_rfl
def cW:Cfg:=⟨zbC,[],[],[]⟩
def stW:St:={ tmps:=[⟨[],.x (.var .addr 0)⟩,⟨[],.x (.var .addr 1)⟩,⟨[],.x (.var .addr 2)⟩,⟨[],.x (.var .addr 3)⟩,⟨[],.x (.var .addr 4)⟩]++List.replicate 6 ⟨[],.junk⟩,loc:=[],n:=5,known:=[],d:=0,dv:=true }
def stW':St:={ tmps:=[⟨[],.x (.var .addr 0)⟩,⟨[],.x (.var .addr 1)⟩,⟨[],.x (.var .addr 2)⟩,⟨[],.x (.var .addr 3)⟩,⟨[],.x (.var .addr 4)⟩,⟨[],.x (.var .slice 5)⟩,⟨[],.x (.var (.int .i64) 6)⟩,⟨[],.x (.var .fnv 7)⟩,⟨[],.x (.var .slice 8)⟩,⟨[],.x (.var (.int .u32) 9)⟩,⟨[],.x (.ix 1 (.var .slice 5) (.var (.int .i64) 6))⟩],loc:=[],n:=10,known:=[],d:=0,dv:=true }
def tW:Tr:=
(.load (.var (.addr) 3) [.slice]
(.load (.var (.addr) 4) [.int .i64]
(.load (.var (.addr) 1) [.fnv]
(.load (.var (.addr) 2) [.slice]
(.callv (.var (.fnv) 7) [(.x (.var (.slice) 8))] false [(false,[.int .u32])]
(.still [((.var (.addr) 4),(.var (.int .i64) 6)),((.var (.addr) 3),(.var (.slice) 5))]
(.need (.nt (.nn (.var (.slice) 5)))
(.need (.cm .leq (.cst (.int .i64 0)) (.var (.int .i64) 6))
(.need (.cm .lss (.var (.int .i64) 6) (.ln (.var (.slice) 5)))
(.leaf (.norm stW')))))))))))
def JO:Array Bool:=(Array.replicate 7 false).setIfInBounds 6 true
theorem sW:sxA cW AV 6 JO [] stW=some tW:=by kernel_rfl
theorem zcJ:RM AV 6=true:=by kernel_rfl
theorem zdr:Region.noSelect AV=true:=by kernel_rfl
theorem zcK:AV.size=7:=by kernel_rfl
theorem zds:AV[6]? = some { dst:=none,op:=.store 38 (.tmp 10) (.tmp 9),type:=0,pos:=(AV[6]?.map (·.pos)).getD "",after:=(AV[6]?.map (·.after)).getD #[],guard:=none }:=by kernel_rfl
theorem zbF:(oPP.funcs[(baseD 80).fn]?).any (·.norace)=false:=by kernel_rfl
noncomputable def bot:Frame:={ (default:Frame)with fn:=oPP.funcs.size,defers:=[],mode:=.panicking [goexitEntry] }
def Gv(wg fb pb sb ib:Nat):Deferred:={ target:=.fn (.func 80) #[.pointer (some ⟨wg,0,none⟩),.pointer (some ⟨fb,0,none⟩),.pointer (some ⟨pb,0,none⟩),.pointer (some ⟨sb,0,none⟩),.pointer (some ⟨ib,0,none⟩)],args:=#[] }
noncomputable def Qv(d:Deferred):Frame:={ (default:Frame)with fn:=oPP.funcs.size,defers:=[d],mode:=.panicking [goexitEntry] }
def we(wg fb pb sb ib:Nat):Array Value:=#[.pointer (some ⟨wg,0,none⟩),.pointer (some ⟨fb,0,none⟩),.pointer (some ⟨pb,0,none⟩),.pointer (some ⟨sb,0,none⟩),.pointer (some ⟨ib,0,none⟩)]
theorem WK(wg fb pb sb ib:Nat)(m:Bool)(w:World):stepG oPP m (gor (Qv (Gv wg fb pb sb ib)) []) w =
  .go (gor ((baseD 80).at ⟨we wg fb pb sb ib++#[undef,undef,undef,undef,undef,undef],[]⟩ [.code Nh]) [bot]) w #[]:=by
 simp[gor,Qv,we,Gv,stepG,unwind,callDeferred,invoke,callFunc,Tryz.func80,Tryz.f80,seen,GStep.after,Frame.enter,Frame.at,baseD,bot,Nh]
variable {x:Int}
section
variable {Φ:Ph}{i:Nat}
theorem Y6:Up Φ.S (JL oPP Φ i):=fun fr cs h1 h2 H hs _ w hw hJ=>H w (fun b o hb=>hw b o (hs b o hb)) hJ
theorem zbG(T:Array Value)(td:List Item):QuitsD oPP 2 0 (G { (baseD 80).at ⟨T,[]⟩ td with mode:=.returning } [bot]):=by
 refine QuitsD.ctl (g':=G bot []) rfl (fun w=>?_) ?_
 ·simp[G,stepG,unwind,doReturn,results,Frame.at,baseD,bot,Tryz.func80,Tryz.f80,seen,GStep.after,goexitEntry]
 refine QuitsD.ctl (g':={ G bot []with status:=.finished }) rfl (fun w=>?_) ⟨rfl,rfl⟩;simp[G,stepG,unwind,bot,goexitEntry,Frame.catches];rfl
theorem zcL(hty:Φ.ty=Tryz.link.tWg)(hCW:Φ.C≠Φ.Wg)(hi:i<Φ.n)(hval:Φ.val i=.int .u32 x){a:Act}(hd:a.defers=[dcall 81 #[.pointer (some ⟨Φ.Wg,0,none⟩)]])
  (h9:a.tmps.getD 9 undef=.int .u32 x)(h10:a.tmps.getD 10 undef=.pointer (some ⟨Φ.C,i,none⟩))(h:qaA) :
  JL oPP Φ i ((baseD 80).at a [.inRegion AV [6]]) [bot] h:=by
 intro w hw hJ;obtain⟨arr,p1,p2⟩:=hJ.2;have hc:w.cell? ⟨Φ.C,i,none⟩=some (arr[i]'(by omega)):=by simp[World.cell?,p1,p2,hi]
 have hz:w.frozen? ⟨Φ.C,i,none⟩=false:=by simp[World.frozen?,p1]
 have hr:(execOp a.eval { dst:=none,op:=.store 38 (.tmp 10) (.tmp 9),type:=0,pos:=(AV[6]?.map (·.pos)).getD "",after:=(AV[6]?.map (·.after)).getD #[],guard:=none }).run oPP w=.ok .skip (w.setCell ⟨Φ.C,i,none⟩ (.int .u32 x)):=by
  unfold execOp;simp only[Act.eval,h9,h10];simp[go_sem,stored,hc,hz]
 have he:(execOp a.eval { dst:=none,op:=.store 38 (.tmp 10) (.tmp 9),type:=0,pos:=(AV[6]?.map (·.pos)).getD "",after:=(AV[6]?.map (·.after)).getD #[],guard:=none }).events oPP w #[]=#[⟨.cell ⟨Φ.C,i,none⟩,true,false⟩]:=by
  unfold execOp;simp only[Act.eval,h9,h10];simp[go_sem,storedEv,hc,hz]
 have st:=stepG_none (P:=oPP) (main:=false) (b:=baseD 80) (a:=a) (k:=[]) (cs:=[bot]) (w:=w) (rest:=[]) zds rfl (by decide) hr;unfold listed at st;rw[he,seen_eq zbF (by simp)]at st;rw[hval];refine⟨_,st,200,?_⟩;have hK:Φ.J (w.setCell ⟨Φ.C,i,none⟩ (.int .u32 x)):=by
  refine⟨let⟨st,sm,y⟩:=hJ.1;⟨st,sm,y.of_block ((aside_setCell _ ⟨Φ.C,i,none⟩ _).block _ (uW hCW))⟩,arr.setIfInBounds i (.int .u32 x),?_,by simpa using p2⟩;rw[setCell_eq_setRow w Φ.C i arr _ (0,0) _ p1,setRow_heap w Φ.C _ _ _ _ p1]
 generalize w.setCell ⟨Φ.C,i,none⟩ (.int .u32 x)=w₁ at hK;clear st he hr hc hz p1 hw hJ;refine Sil.of (w:=w₁) ?_;obtain⟨T,D⟩:=a;simp only at hd;subst hd;simp only[Act.put];u_c stepG_region_end jl hK;u_c stepG_end jl hK;u_in jl hK;rw[stepG_unwind_enter rfl Tryz.func81 (nm_done Tryz.link) rfl];simp only[goes_go];refine⟨by u_nil,?_⟩
 walk_nrmf Tryz.f81
 have hA:=@Y1 _ oPP Tryz.link Φ [bot] 2 Tryz.MY hCW _ rfl (zbG T []) _ hK;simp only[body_done,doneFn,pE]at hA;exact Goes.mono hA (by omega)
theorem zay:(Lw[0]?.map fun o=>(o.dst,o.guard))=some (none,none):=by kernel_rfl
theorem zaz:(Lw[0]?.map fun o=>o.op)=some (.defer { callee:=.value (.func 81),args:=#[.tmp 0],argTypes:=((Lw[0]?.map fun o=>match o.op with | .defer c=>c.argTypes | _=>#[]).getD #[]) }):=by kernel_rfl
theorem zbH:∃o ats,Lw[0]? = some o/\o.dst=none/\o.guard=none/\o.op=.defer { callee:=.value (.func 81),args:=#[.tmp 0],argTypes:=ats }:=by
 have h1:=zay;have h2:=zaz;cases h:Lw[0]? with
 | none=>rw[h]at h1;cases h1
 | some o=>
  rw[h]at h1 h2;simp only[pK,uZ,uV]at h1 h2;exact⟨o,_,rfl,h1.1,h1.2,h2⟩
theorem zcM:Lw.size=1:=by kernel_rfl
def lW:List (Option (Sh×Nat)):=[some (.addr,0),some (.addr,1),some (.addr,2),some (.addr,3),some (.addr,4),none,none,none,none,none,none]
theorem zbI:stW={ tmps:=Oz lW,loc:=[],n:=5,known:=[],d:=0,dv:=true }:=rfl
def zbJ(C:Nat)(i:Nat)(x:Int):Hand:=fun l env _ _=>l=.norm stW'/\(∃n c,env[5]? = some (.slice (some ⟨C,0,none⟩) n c))/\env[6]? = some (.int .i64 i)/\env[9]? = some (.int .u32 x)
theorem zcN(hnb:∀fr cs h Q,¬Φ.S.big fr cs h Q)(hty:Φ.ty=Tryz.link.tWg)(hCW:Φ.C≠Φ.Wg)(hi:i<Φ.n)(hval:Φ.val i=.int .u32 x){hc:qaA}(hin:Inv Φ.S hc)
  {fb pb sb ib:Nat}{g:FuncId}{pa:Option Addr}{pl pc:Nat}
  (hf:zg hc ⟨fb,0,none⟩=some (.func (.func g) #[] #[]))(hp:zg hc ⟨pb,0,none⟩=some (.slice pa pl pc))(hs:zg hc ⟨sb,0,none⟩=some (.slice (some ⟨Φ.C,0,none⟩) Φ.n Φ.n))
  (hib:zg hc ⟨ib,0,none⟩=some (.int .i64 i))(hsum:zb oPP Φ.S g #[.slice pa pl pc] hc (fun v h'=>v=.int .u32 x/\qaB hc h')) :
  Works oPP Φ i (Qv (Gv Φ.Wg fb pb sb ib)) [] hc:=by
 refine Safe.zdo hnb false Φ.J ?_;refine Safe.yx (fun w m=>WK _ _ _ _ _ m w) ?_;rw[Y5];refine .seq (.region ?_);rw[zcM];obtain⟨oD,ats,d1,d2,d3,d4⟩:=zbH;refine Safe.yx (fun w m=>stepG_defer (rest:=[]) d1 (by simp[Region.wanted,d3]) (by decide) d4) ?_;rw[d2];refine .Cz (.LF fun t'=>?_);have e:Region.schedule (oPP.follows .mixedOrders) AV t'=Region.linearise.go .any AV 6 t' JO []++[6]:=by
  simp only[Region.schedule,zbE,Region.linearise,zcK,Bool.true_or,uJ];exact linearise_last' zcJ t'
 rw[e,<-xY hc];have ha:Ok Φ.S hc (fun _=>none):=⟨fun b hb=>absurd rfl hb,hin⟩;have env:List Value:=[];have H:Rel stW [.pointer (some ⟨Φ.Wg,0,none⟩),.pointer (some ⟨fb,0,none⟩),.pointer (some ⟨pb,0,none⟩),.pointer (some ⟨sb,0,none⟩),.pointer (some ⟨ib,0,none⟩)] []
   (Act.put ⟨we Φ.Wg fb pb sb ib++#[undef,undef,undef,undef,undef,undef],[dcall 81 (#[.tmp 0].map (Act.eval ⟨we Φ.Wg fb pb sb ib++#[undef,undef,undef,undef,undef,undef],[]⟩))]⟩ none undef) (fun _=>none):=by
  rw[zbI];refine Rel.init rfl rfl (fun h=>by cases h) fun i s j h=>?_
  match i,h with
  | 0,h=>cases h;exact⟨_,rfl,rfl,rfl⟩
  | 1,h=>cases h;exact⟨_,rfl,rfl,rfl⟩
  | 2,h=>cases h;exact⟨_,rfl,rfl,rfl⟩
  | 3,h=>cases h;exact⟨_,rfl,rfl,rfl⟩
  | 4,h=>cases h;exact⟨_,rfl,rfl,rfl⟩
  | 5,h=>cases h
  | 6,h=>cases h
  | 7,h=>cases h
  | 8,h=>cases h
  | 9,h=>cases h
  | 10,h=>cases h
  | _+11,h=>cases h
 refine Y3 Y6 [6] _ _ _ _ ha (SH _ _ _ _ (LI 6 t' [] JO _ _ _ ha (V8 zbD zdr (R:=fun a' _ _=>a'.tmps.getD 9 undef=.int .u32 x/\a'.tmps.getD 10 undef=.pointer (some ⟨Φ.C,i,none⟩))
  (Λ:=zbJ Φ.C i x) (Q:=fun _ _=>True) (Ks:=[]) 6 JO [] stW tW _ [] _ _ hc [] sW ?_ H ha (fun q hq=>by cases hq) (.nil _) ?_))) ?_
 ·have hn:∀ {a:Addr} {v:Value} {h':qaA},qaB hc h'->zg hc a=some v->zg h' a=some v:=fun s hv=>by
   unfold zg at hv ⊢;cases e:hc _ with
   | none=>rw[e]at hv;cases hv
   | some o=>rw[e]at hv;rw[s _ o e];exact hv
  simp only[tW,Tr.wp,z8,Ex.ev,coerce,toInt_int,za,zd,zi,ze,zj,yg,zB,Cst.val,SV.den,zq,zK,zz,zm,zl,zw,zr,vF,vG,vA,vB,vC,vT,vO,vD,vE,vJ,vI,vK,uA,pL,vY,vL,zbJ];refine⟨_,_,_,hs,_,hib,_,rfl,hf,_,_,_,hp,g,#[],#[],rfl,?_⟩;refine hsum.mono ?_;rintro _ h' ⟨rfl,sub⟩;refine⟨x,rfl,fun p hp=>?_,rfl,by omega,by omega,⟨_,_,rfl⟩,rfl,rfl⟩;rcases uU.1 hp with rfl | hp
  ·exact hn sub hib
  ·cases uO.1 hp
   exact hn sub hs
 ·rintro st' vs ms a' L' h' ⟨e1,⟨n5,c5,e5⟩,e6,e9⟩ H' _ _;cases e1
  have v9:=H'.vl 9 [] _ rfl (by simp);have v10:=H'.vl 10 [] _ rfl (by simp);generalize ([.pointer (some ⟨Φ.Wg,0,none⟩),.pointer (some ⟨fb,0,none⟩),.pointer (some ⟨pb,0,none⟩),.pointer (some ⟨sb,0,none⟩),.pointer (some ⟨ib,0,none⟩)]++vs:List Value)=en at e5 e6 e9 v9 v10;have w9:=Good.at v9;have w10:=Good.at v10;simp only[Ex.ev,uK,e5,e6,e9,pE,coerce,toInt_int,ze,zd,zi]at w9 w10;refine⟨w9.symm,w10.symm.trans ?_⟩;simp[Addr.add];omega
 ·rintro a' L' h' _ ⟨hd,h9,h10⟩;exact .done (zcL hty hCW hi hval (hd.trans (by simp[Act.put,Act.eval,we])) h9 h10 _)
end
end Go.Proofs.YtpodkihpnjhamaaGreatDoor
end
namespace Go.Proofs.YtpodkihpnjhamaaGreatDoor
open Go Go.Eng Go.IntWalk
section
def zbK:List (TypeId×TyD):=[(0,⟨.oth,1,0,[],none,some []⟩),(1,⟨.fnk,1,8,[.fnv],some [(1,.nilFn)],none⟩),(2,⟨(.int .i64),1,8,[oL],some [(1,(.int .i64 0))],none⟩),(3,⟨(.int .i64),1,8,[oL],some [(1,(.int .i64 0))],none⟩),(4,⟨.bool,1,1,[.bool],some [(1,(.bool false))],none⟩),(5,⟨(.int .u8),1,1,[oO],some [(1,(.int .u8 0))],none⟩),(22,⟨(.sl 5),1,24,[.slice],some [(1,.nilSl)],none⟩),(38,⟨(.int .u32),1,4,[oN],some [(1,(.int .u32 0))],none⟩),(51,⟨(.int .u64),1,8,[oM],some [(1,(.int .u64 0))],none⟩),(86,⟨(.sl 38),1,24,[.slice],some [(1,.nilSl)],none⟩),(87,⟨(.sl 2),1,24,[.slice],some [(1,.nilSl)],none⟩),(90,⟨.fnk,1,8,[.fnv],some [(1,.nilFn)],none⟩),(124,⟨(.st []),0,0,[],some [],none⟩),(125,⟨(.st []),0,0,[],some [],none⟩),(126,⟨(.st []),0,0,[],some [],none⟩),(128,⟨(.st [(0,125),(0,126),(0,51)]),1,8,[oM],some [(1,(.int .u64 0))],none⟩),(130,⟨(.st [(0,124),(0,128),(1,38)]),2,16,[oM,oN],some [(1,(.int .u64 0)),(1,(.int .u32 0))],none⟩)]
theorem Gw:zM oPP zbK:=KS (by kernel_rfl)
theorem Gx:oPP.follows .mixedOrders=true:=by kernel_rfl
def cP:Cfg:=⟨zbK,[],[3,7,9,10,11],[.tmp 4,.tmp 5]⟩
noncomputable def Qw:Code:=Tryz.f48.body.getD .skip
noncomputable def zbL:List Code:=match Qw with
 | .seq r0 (.seq r1 (.seq r2 (.seq r3 (.seq (.seq r4 (.block 0 (.loop (.seq r5 (.seq _ (.seq (.block 1 (.seq r6 (.seq r7 (.seq r8 (.seq r9 r10))))) r11)))))) (.seq r12 z)))))=>[r0,r1,r2,r3,r4,r5,r6,r7,r8,r9,r10,r11,r12,z]
 | _=>[]
noncomputable def rP(i:Nat):Code:=zbL.getD i .skip
noncomputable def Qx:Code:=.seq (rP 5) (.seq (.cond (.tmp 24) .skip (.exit 0)) (.seq (.block 1 (nest [rP 6,rP 7,rP 8] (.seq (rP 9) (rP 10)))) (rP 11)))
theorem Y7:Qw=nest [rP 0,rP 1,rP 2,rP 3] (.seq (.seq (rP 4) (.block 0 (.loop Qx))) (.seq (rP 12) (rP 13))):=by kernel_rfl
def Y8:St:={ tmps:=[oX oa6,⟨[],(.x (.var (.fnv) 1))⟩,oJ,oX oa0,⟨[],(.x oai)⟩,⟨[],(.x oai)⟩,⟨[],(.x oab)⟩,oX (oA 5),oX obo,oX od7,oJ,oJ,oX oa6,⟨[],(.x oan)⟩,⟨[],(.x oa5)⟩,⟨[],(.x ob8)⟩,⟨[],(.x oab)⟩,⟨[],(.x oab)⟩,oX oau,⟨[],(.x oab)⟩,oX obo,⟨[],(.agg [oae,oaa])⟩,oJ,oJ,oJ,oJ,oJ,oJ,oJ,oJ,oJ,oJ,oJ,oJ,oJ,oJ,oJ,oJ,oJ,oJ,oJ,oJ,oJ,oJ,oJ,oJ,oJ],loc:=[],n:=7,known:=[],d:=0 }
def Y9:St:={ tmps:=[oX oa6,⟨[],(.x (.var (.fnv) 1))⟩,oJ,oX oa0,⟨[],(.x oai)⟩,⟨[],(.x oai)⟩,⟨[],(.x oab)⟩,oX oe3,oX obm,oX od7,oJ,oJ,oX oa6,⟨[],(.x oan)⟩,⟨[],(.x oa5)⟩,⟨[],(.x ob8)⟩,⟨[],(.x oab)⟩,⟨[],(.x oab)⟩,oX oau,⟨[],(.x oab)⟩,oX obm,⟨[],(.agg [oae,oaa])⟩,oJ,oJ,oJ,oJ,oJ,oJ,oJ,oJ,oJ,oJ,oJ,oJ,oJ,oJ,oJ,oJ,oJ,oJ,oJ,oJ,oJ,oJ,oJ,oJ,oJ],loc:=[],n:=7,known:=[],d:=0 }
def YA:St:={ tmps:=[oX oa6,⟨[],(.x (.var (.fnv) 1))⟩,oJ,oX oa0,⟨[],(.x oai)⟩,⟨[],(.x oai)⟩,⟨[],(.x oab)⟩,oX oe3,oX obm,oX od7,oJ,oJ,oX oa6,⟨[],(.x oan)⟩,⟨[],(.x oa5)⟩,⟨[],(.x ob8)⟩,⟨[],(.x oab)⟩,⟨[],(.x oab)⟩,oX oau,⟨[],(.x oab)⟩,oX obm,⟨[],(.agg [oae,oaa])⟩,oJ,oJ,oJ,oJ,oJ,oJ,oJ,oJ,oJ,oJ,oJ,oJ,oJ,oJ,oJ,oJ,oJ,oJ,oJ,oJ,oJ,oJ,oJ,oJ,oJ],loc:=[],n:=7,known:=[],d:=0 }
def YB:St:={ tmps:=[oX oa6,⟨[],(.x (.var (.fnv) 1))⟩,oJ,oX oa0,⟨[],(.x oai)⟩,⟨[],(.x oai)⟩,⟨[],(.x oab)⟩,oX (oA 5),oX oau,oX od7,oJ,oJ,oX oa6,⟨[],(.x oan)⟩,⟨[],(.x oa5)⟩,⟨[],(.x ob8)⟩,⟨[],(.x oab)⟩,⟨[],(.x oab)⟩,oX obo,⟨[],(.x oab)⟩,oX oau,⟨[],(.agg [oae,oaa])⟩,oJ,oJ,oJ,oJ,oJ,oJ,oJ,oJ,oJ,oJ,oJ,oJ,oJ,oJ,oJ,oJ,oJ,oJ,oJ,oJ,oJ,oJ,oJ,oJ,oJ],loc:=[],n:=7,known:=[],d:=0 }
def YC:St:={ tmps:=[oX oa6,⟨[],(.x (.var (.fnv) 1))⟩,oJ,oX oa0,⟨[],(.x oai)⟩,⟨[],(.x oai)⟩,⟨[],(.x oab)⟩,oX oe3,oX oau,oX od7,oJ,oJ,oX oa6,⟨[],(.x oan)⟩,⟨[],(.x oa5)⟩,⟨[],(.x ob8)⟩,⟨[],(.x oab)⟩,⟨[],(.x oab)⟩,oX obm,⟨[],(.x oab)⟩,oX oau,⟨[],(.agg [oae,oaa])⟩,oJ,oJ,oJ,oJ,oJ,oJ,oJ,oJ,oJ,oJ,oJ,oJ,oJ,oJ,oJ,oJ,oJ,oJ,oJ,oJ,oJ,oJ,oJ,oJ,oJ],loc:=[],n:=7,known:=[],d:=0 }
def YD:St:={ tmps:=[oX oa6,⟨[],(.x (.var (.fnv) 1))⟩,oJ,oX oa0,⟨[],(.x oai)⟩,⟨[],(.x oai)⟩,⟨[],(.x oab)⟩,oX oc1,oX obm,oX od7,oJ,oJ,oX oa6,⟨[],(.x oan)⟩,⟨[],(.x oa5)⟩,⟨[],(.x ob8)⟩,⟨[],(.x oab)⟩,⟨[],(.x oab)⟩,oX obo,⟨[],(.x oab)⟩,oX obm,⟨[],(.agg [oae,oaa])⟩,oJ,oJ,oJ,oJ,oJ,oJ,oJ,oJ,oJ,oJ,oJ,oJ,oJ,oJ,oJ,oJ,oJ,oJ,oJ,oJ,oJ,oJ,oJ,oJ,oJ],loc:=[],n:=7,known:=[],d:=0 }
def YE:St:={ tmps:=[oX oa6,⟨[],(.x (.var (.fnv) 1))⟩,oJ,oX oa0,⟨[],(.x oai)⟩,⟨[],(.x oai)⟩,⟨[],(.x oab)⟩,oX oc1,oX obm,oX od7,oJ,oJ,oX oa6,⟨[],(.x oan)⟩,⟨[],(.x oa5)⟩,⟨[],(.x ob8)⟩,⟨[],(.x oab)⟩,⟨[],(.x oab)⟩,oX obo,⟨[],(.x oab)⟩,oX obm,⟨[],(.agg [oae,oaa])⟩,oJ,oJ,oJ,oJ,oJ,oJ,oJ,oJ,oJ,oJ,oJ,oJ,oJ,oJ,oJ,oJ,oJ,oJ,oJ,oJ,oJ,oJ,oJ,oJ,oJ],loc:=[],n:=7,known:=[],d:=0 }
def YF:St:={ tmps:=[oX oa6,⟨[],(.x (.var (.fnv) 1))⟩,oJ,oX oa0,⟨[],(.x oai)⟩,⟨[],(.x oai)⟩,⟨[],(.x oab)⟩,oX oc1,oX obo,oX od7,oJ,oJ,oX oa6,⟨[],(.x oan)⟩,⟨[],(.x oa5)⟩,⟨[],(.x ob8)⟩,⟨[],(.x oab)⟩,⟨[],(.x oab)⟩,oX obm,⟨[],(.x oab)⟩,oX obo,⟨[],(.agg [oae,oaa])⟩,oJ,oJ,oJ,oJ,oJ,oJ,oJ,oJ,oJ,oJ,oJ,oJ,oJ,oJ,oJ,oJ,oJ,oJ,oJ,oJ,oJ,oJ,oJ,oJ,oJ],loc:=[],n:=7,known:=[],d:=0 }
def tA:Tr:=
(.hall 90 [(1,(.var (.fnv) 1))] (.both (.mks 38 1 4 [(.int .u32 0)] oab oab (.both (.mks 2 1 8 [(.int .i64 0)] oab oab (.hall 86 [(1,oai)] (.hsto (oA 5) [oau] (.hall 130 [(1,oae),(1,oaa)] (.hsto od7 [oae,oaa] (.leaf (.norm Y8))))))) (.hall 86 [(1,oai)] (.both (.mks 2 1 8 [(.int .i64 0)] oab oab (.hsto oe3 [oau] (.hall 130 [(1,oae),(1,oaa)] (.hsto od7 [oae,oaa] (.leaf (.norm Y9)))))) (.hsto oe3 [oau] (.mks 2 1 8 [(.int .i64 0)] oab oab (.hall 130 [(1,oae),(1,oaa)] (.hsto od7 [oae,oaa] (.leaf (.norm YA)))))))))) (.both (.mks 2 1 8 [(.int .i64 0)] oab oab (.both (.mks 38 1 4 [(.int .u32 0)] oab oab (.hall 86 [(1,oai)] (.hsto (oA 5) [obo] (.hall 130 [(1,oae),(1,oaa)] (.hsto od7 [oae,oaa] (.leaf (.norm YB))))))) (.hall 86 [(1,oai)] (.mks 38 1 4 [(.int .u32 0)] oab oab (.hsto oe3 [obm] (.hall 130 [(1,oae),(1,oaa)] (.hsto od7 [oae,oaa] (.leaf (.norm YC))))))))) (.hall 86 [(1,oai)] (.both (.mks 38 1 4 [(.int .u32 0)] oab oab (.both (.mks 2 1 8 [(.int .i64 0)] oab oab (.hsto oc1 [obo] (.hall 130 [(1,oae),(1,oaa)] (.hsto od7 [oae,oaa] (.leaf (.norm YD)))))) (.hsto oc1 [obo] (.mks 2 1 8 [(.int .i64 0)] oab oab (.hall 130 [(1,oae),(1,oaa)] (.hsto od7 [oae,oaa] (.leaf (.norm YE)))))))) (.mks 2 1 8 [(.int .i64 0)] oab oab (.mks 38 1 4 [(.int .u32 0)] oab oab (.hsto oc1 [obm] (.hall 130 [(1,oae),(1,oaa)] (.hsto od7 [oae,oaa] (.leaf (.norm YF))))))))))))
theorem sA:sxs cP [rP 0,rP 1,rP 2,rP 3] (FI 47 [(0,.slice),(1,.fnv)])=some tA:=by kernel_rfl
def zbM:St:={ tmps:=[oX oa6,oJ,oJ,oX ocu,oJ,oJ,oX oat,oX oa0,oX oau,oX oe3,oJ,oJ,oJ,oJ,oJ,oJ,oJ,oJ,oJ,oJ,oJ,oJ,oX oat,oX oad,oJ,oJ,oJ,oJ,oJ,oJ,oJ,oJ,oJ,oJ,oJ,oJ,oJ,oJ,oJ,oJ,oJ,oJ,oJ,oJ,oJ,oJ,oJ],loc:=[],n:=6,known:=[],d:=0 }
def t4:Tr:=
(.leaf (.norm zbM))
theorem s4:sxs cP [rP 4] (FI 47 [(0,.slice),(3,.addr),(7,.addr),(8,.slice),(9,.addr),(6,.int .i64)])=some t4:=by kernel_rfl
def YG:St:={ tmps:=[oX oa6,oJ,oJ,oX ocu,oJ,oJ,oJ,oX oa0,oX oau,oX oe3,oJ,oJ,oJ,oJ,oJ,oJ,oJ,oJ,oJ,oJ,oJ,oJ,oX oat,oX obp,⟨[],(.x (.cm .lss obp oat))⟩,oJ,oJ,oJ,oJ,oJ,oJ,oJ,oJ,oJ,oJ,oJ,oJ,oJ,oJ,oJ,oJ,oJ,oJ,oJ,oJ,oJ,oJ],loc:=[],n:=7,known:=[],d:=0 }
def t5:Tr:=
(.leaf (.norm YG))
theorem s5:sxs cP [rP 5] (FI 47 [(0,.slice),(3,.addr),(7,.addr),(8,.slice),(9,.addr),(22,.int .i64),(23,.int .i64)])=some t5:=by kernel_rfl
def Zk:St:={ tmps:=[oX oa6,oJ,oJ,oX ocu,oJ,oJ,oJ,oX oa0,oX oau,oX oe3,oX (oA 7),oX (oA 10),oJ,oJ,oJ,oJ,oJ,oJ,oJ,oJ,oJ,oJ,oX oat,oX obp,oJ,oX obp,oX oa6,oX obr,⟨[],(.x odg)⟩,oX oca,⟨[],(.x (.ar .add .i64 oca oao))⟩,⟨[],(.x (.ar .mul .i64 (.ar .add .i64 oca oao) oa1))⟩,oX oa6,⟨[],(.x oan)⟩,⟨[],(.x oa7)⟩,⟨[],(.x (.sub 1 oa6 odg oa7 .nl))⟩,oX oau,oX och,oX oer,⟨[],(.x (.ln oer))⟩,⟨[],(.x (.ix 1 oau och))⟩,oJ,oJ,oJ,oJ,oJ,oJ],loc:=[],n:=13,known:=[],d:=0 }
def tBk:Tr:=
(.hall 3 [(1,oad)] (.hsto (oA 7) [obp] (.load (oA 7) [oL] (.load (oA 7) [oL] (.need (.cm .leq oad oa7) (.need (.cm .leq oa7 (.cp oa6)) (.need (.cm .leq oad odg) (.need (.cm .leq odg oa7) (.hall 22 [(1,oai)] (.hsto (oA 10) [(.sub 1 oa6 odg oa7 .nl)] (.load (oA 7) [oL] (.load (oA 10) [.slice] (.need obx (.need (.cm .leq oad och) (.need (.cm .lss och ocb) (.hsto (.ix 1 oau och) [(.ln oer)] (.leaf (.norm Zk))))))))))))))))))
theorem sBk:sxs cP [rP 6,rP 7,rP 8] (FI 47 [(0,.slice),(3,.addr),(7,.addr),(8,.slice),(9,.addr),(22,.int .i64),(23,.int .i64)])=some tBk:=by kernel_rfl
def UI:St:={ tmps:=[oX oa6,oJ,oJ,oX ocu,oJ,oJ,oJ,oX oa0,oX oau,oX oe3,oJ,oJ,oJ,oJ,oJ,oJ,oJ,oJ,oJ,oJ,oJ,oJ,oX oat,⟨[],(.x obb)⟩,oJ,oJ,oJ,oJ,oJ,oJ,oJ,oJ,oJ,oJ,oJ,oJ,oJ,oJ,oJ,oJ,oJ,oJ,oJ,⟨[],(.x obb)⟩,oJ,oJ,oJ],loc:=[],n:=7,known:=[],d:=0 }
def t11:Tr:=
(.leaf (.norm UI))
theorem s11:sxs cP [rP 11] (FI 47 [(0,.slice),(3,.addr),(7,.addr),(8,.slice),(9,.addr),(22,.int .i64),(23,.int .i64)])=some t11:=by kernel_rfl
def tZ:Tr:=
(.load (oA 0) [.slice] (.ret (.tup [(false,[ob7]),(false,[ob0])])))
theorem sZ:sxC cP (rP 13) (FI 47 [(7,.addr),(8,.slice)])=some tZ:=by kernel_rfl
end
end Go.Proofs.YtpodkihpnjhamaaGreatDoor
section
namespace Go.Proofs.YtpodkihpnjhamaaGreatDoor
open Go Go.Eng Go.Conc Go.RowKit Go.Conc.Lib Go.ConcR.Gen
open Go.ConcR (KK wgBlock WgAt stA smA rd wr DC0 Payload)
variable {b c j l n x:Nat}{o:Obj}{u v:Value}{T:TypeId}{a:Option Addr}
section
variable {S:Shared}{h:qaA}
theorem xd{h:qaA}:upd h b o x=none<->x≠b/\h x=none:=by
 unfold upd;by_cases e:x=b <;> simp[e]
theorem yY{h:qaA}:upd h b o b=some o:=by simp[upd]
theorem yQ{h:qaA}(e:x≠b:=by omega):upd h b o x=h x:=by simp[upd,e]
theorem FJ{K:qaA->Prop}(hb:h b=some (.cells #[u] T))(hS:¬S b)(k:K (upd h b (.cells #[v] T))):ye S ⟨b,0,none⟩ 0 [v] h K:=by
 have e:zJ h (Addr.add ⟨b,0,none⟩ 0) v=upd h b (.cells #[v] T):=by
  funext x;by_cases hx:x=b
  ·subst hx;simp[zJ,upd,Addr.add,hb]
  ·simp[zJ,upd,Addr.add,hx]
 refine⟨⟨⟨u,by simp[zg,Addr.add,hb]⟩,by simp[y8,Addr.add,hb],by simpa[Addr.add]using hS⟩,?_⟩;rw[e];exact k
theorem Jj{u u2 v v2:Value}{K:qaA->Prop}(hb:h b=some (.cells #[u,u2] T))(hS:¬S b)(k:K (upd h b (.cells #[v,v2] T))):ye S ⟨b,0,none⟩ 0 [v,v2] h K:=by
 have e:zJ (zJ h (Addr.add ⟨b,0,none⟩ 0) v) (Addr.add ⟨b,0,none⟩ 1) v2=upd h b (.cells #[v,v2] T):=by
  funext x;by_cases hx:x=b
  ·subst hx;simp[zJ,upd,Addr.add,hb]
  ·simp[zJ,upd,Addr.add,hx]
 refine⟨⟨⟨u,by simp[zg,Addr.add,hb]⟩,by simp[y8,Addr.add,hb],by simpa[Addr.add]using hS⟩,⟨⟨u2,by simp[zJ,zg,Addr.add,hb]⟩,by simp[zJ,y8,Addr.add,hb],by simpa[Addr.add]using hS⟩,?_⟩;rw[e];exact k
theorem zdt{cs:Array Value}{K:qaA->Prop}(hb:h b=some (.cells cs T))(hj:j<cs.size)(hS:¬S b)(k:K (upd h b (.cells (cs.setIfInBounds j v) T))) :
  ye S (((some (⟨b,0,none⟩:Addr)).getD default).add (((j:Int).toNat)*1)) 0 [v] h K:=by
 have ea:(((some (⟨b,0,none⟩:Addr)).getD default).add (((j:Int).toNat)*1)).add 0=⟨b,j,none⟩:=by
  have e0:∀(x:Addr),x.add 0=x:=fun x=>by simp[Addr.add]
  rw[e0,vV,pY,pE,zp,uE]
 refine⟨⟨⟨cs[j],by rw[ea];simp[zg,hb,hj]⟩,by rw[ea];simp[y8,hb],by rw[ea];exact hS⟩,?_⟩;have e:zJ h ((((some (⟨b,0,none⟩:Addr)).getD default).add (((j:Int).toNat)*1)).add 0) v=upd h b (.cells (cs.setIfInBounds j v) T):=by
  rw[ea];funext x;by_cases hx:x=b
  ·subst hx;simp[zJ,upd,hb]
  ·simp[zJ,upd,hx]
 rw[e];exact k
theorem kC.intro{is:List Nat}{R:(Nat->Value)->qaA->Prop}{env:List Value}{Ks:List Kt}(st:St)(h1:st.loc=[])(h2:st.dv=false)(h3:st.tmps.length=n)(h4:is.all (isX st)=true)(h5:R (got st env) h) :
  kC n is R (.norm st) env h Ks:=⟨st,rfl,h1,h2,h3,h4,h5⟩
def RA(h:qaA)(da:Value)(fv:Value)(n:Nat)(f:Nat->Value)(h':qaA):Prop:=
 ∃fb bC bS sb wg:Nat,f 0=da/\f 3=.pointer (some ⟨fb,0,none⟩)/\f 6=.int .i64 n/\f 7=.pointer (some ⟨sb,0,none⟩)/\f 8=.slice (some ⟨bS,0,none⟩) n n/\f 9=.pointer (some ⟨wg,0,none⟩) /\
  [fb,bC,bS,sb,wg].Nodup/\(∀b ∈ [fb,bC,bS,sb,wg],h b=none)/\qaB h h' /\
  h' fb=some (.cells #[fv] 90)/\h' bC=some (.cells (yE n #[.int .u32 0]) 38)/\h' bS=some (.cells (yE n #[.int .i64 0]) 2) /\
  h' sb=some (.cells #[.slice (some ⟨bC,0,none⟩) n n] 86)/\h' wg=some (wgBlock 130 0 0)
theorem wpA{fv:Value}(hfv:AP fv=fv)(hi:Inv S h)(hl:l<2^40)(hn:n=(l+32767)/32768) :
  tA.wp oPP S (kC 47 [0,3,6,7,8,9] (RA h (.slice a l c) fv n)) (fun _ _=>True) [.slice a l c,fv] h []:=by
 have ns:∀b,h b=none->¬S b:=fun b hb hS=>hi b hS hb
 have e1:IntKind.i64.wrap ((IntKind.i64.wrap (IntKind.i64.wrap ((l:Int)+32768)-1)).tdiv 32768)=(n:Int):=by
  have w1:IntKind.i64.wrap ((l:Int)+32768)=(l:Int)+32768:=by rw[lA];omega
  have w2:IntKind.i64.wrap ((l:Int)+32768-1)=(l:Int)+32767:=by rw[lA];omega
  rw[w1,w2,uL (by omega),lA];omega
 have e2:IntKind.i64.wrap (n:Int)=(n:Int):=by rw[lA];omega
 have hb4:((4:Nat):Int)*(n:Int)<=2^48:=by omega
 have hb8:((8:Nat):Int)*(n:Int)<=2^48:=by omega
 simp only[tA,Tr.wp,KI,Ex.ev,coerce,toInt_int,zd,zi,ze,zj,arith,Cst.val,yF,vF,vG,nJ,vA,vB,vD,vE,vJ,vI,vK,e1,e2,vV,pY,hfv];have nn:(0:Int)<=(n:Int):=by omega
 have sub5:∀ {h':qaA},(∀x,(∀b,h b=none->x≠b)->h' x=h x)->qaB h h':=by
  intro h' hx x o ho;rw[hx x (fun b hb e=>by subst e;rw[hb]at ho;cases ho)];exact ho
 intro fb g0;refine⟨⟨nn,nR _,hb4,fun b1 g1=>⟨⟨nn,nR _,hb8,fun b2 g2 b3 g3=>?_⟩,fun b2 g2=>⟨⟨nn,nR _,hb8,fun b3 g3=>?_⟩,?_⟩⟩⟩,
  ⟨⟨nn,nR _,hb8,fun b1 g1=>⟨⟨nn,nR _,hb4,fun b2 g2 b3 g3=>?_⟩,fun b2 g2=>⟨nn,nR _,hb4,fun b3 g3=>?_⟩⟩⟩,
   fun b1 g1=>⟨⟨nn,nR _,hb4,fun b2 g2=>⟨⟨nn,nR _,hb8,fun b3 g3=>?_⟩,?_⟩⟩,⟨nn,nR _,hb8,fun b2 g2=>⟨nn,nR _,hb4,fun b3 g3=>?_⟩⟩⟩⟩⟩
 have so:∀ {T:TypeId} {b b':Nat} {h:qaA} {o:Obj} {v:Value},b'≠b->(upd h b (.cells #[v] T)) b'=h b':=fun e=>yQ e
 ·simp only[xd]at g1 g2 g3;refine FJ (b:=b3) yY (ns _ (by first | exact g1.2 | exact g2.2.2 | exact g3.2.2.2)) ?_;intro b4 g4;simp only[xd]at g4;refine Jj yY (ns _ (by simp only[g4])) ?_;refine kC.intro Y8 rfl rfl rfl rfl ⟨fb,b1,b2,b3,b4,rfl,rfl,?_,rfl,rfl,rfl,?_,?_,?_,?_,?_,?_,?_,?_⟩
  all_goals first
   | (simp only[got,Y8,Ex.ev,coerce,toInt_int,zd,zi,ze,arith,Cst.val,vA,vC,vT];rw[e1];done)
   | (simp only[mW,uU,pB,nA,hZ,mI,mT,uA];omega)
   | (intro b hb;simp only[uU,pB,nA]at hb;rcases hb with rfl | rfl | rfl | rfl | rfl <;> first | exact g0 | exact g1.2 | exact g2.2.2 | exact g3.2.2.2 | exact g4.2.2.2.2.2 | exact g2.2.2.2 | exact g3.2.2.2.2)
   | (refine sub5 fun x hx=>?_;simp only[upd];repeat rw[vM (hx _ (by first | exact g0 | exact g1.2 | exact g2.2.2 | exact g3.2.2.2 | exact g4.2.2.2.2.2 | exact g3.2.2.2.2))])
   | (simp only[upd,wgBlock];repeat first | rw[vP trivial] | rw[vP rfl] | rw[vM (by omega)])
 ·simp only[xd]at g1 g2 g3;refine FJ (b:=b2) ((yQ).trans yY) (ns _ (by first | exact g1.2 | exact g2.2.2 | exact g3.2.2.2)) ?_;intro b4 g4;simp only[xd]at g4;refine Jj yY (ns _ (by simp only[g4])) ?_;refine kC.intro Y9 rfl rfl rfl rfl ⟨fb,b1,b3,b2,b4,rfl,rfl,?_,rfl,rfl,rfl,?_,?_,?_,?_,?_,?_,?_,?_⟩
  all_goals first
   | (simp only[got,Y9,Ex.ev,coerce,toInt_int,zd,zi,ze,arith,Cst.val,vA,vC,vT];rw[e1];done)
   | (simp only[mW,uU,pB,nA,hZ,mI,mT,uA];omega)
   | (intro b hb;simp only[uU,pB,nA]at hb;rcases hb with rfl | rfl | rfl | rfl | rfl <;> first | exact g0 | exact g1.2 | exact g2.2.2 | exact g3.2.2.2 | exact g4.2.2.2.2.2 | exact g2.2.2.2 | exact g3.2.2.2.2)
   | (refine sub5 fun x hx=>?_;simp only[upd];repeat rw[vM (hx _ (by first | exact g0 | exact g1.2 | exact g2.2.2 | exact g3.2.2.2 | exact g4.2.2.2.2.2 | exact g3.2.2.2.2))])
   | (simp only[upd,wgBlock];repeat first | rw[vP trivial] | rw[vP rfl] | rw[vM (by omega)])
 ·simp only[xd]at g1 g2;refine FJ (b:=b2) yY (ns _ (by first | exact g1.2 | exact g2.2.2)) ⟨nn,nR _,hb8,fun b3 g3=>?_⟩;simp only[xd]at g3;intro b4 g4;simp only[xd]at g4;refine Jj yY (ns _ (by simp only[g4])) ?_;refine kC.intro YA rfl rfl rfl rfl ⟨fb,b1,b3,b2,b4,rfl,rfl,?_,rfl,rfl,rfl,?_,?_,?_,?_,?_,?_,?_,?_⟩
  all_goals first
   | (simp only[got,YA,Ex.ev,coerce,toInt_int,zd,zi,ze,arith,Cst.val,vA,vC,vT];rw[e1];done)
   | (simp only[mW,uU,pB,nA,hZ,mI,mT,uA];omega)
   | (intro b hb;simp only[uU,pB,nA]at hb;rcases hb with rfl | rfl | rfl | rfl | rfl <;> first | exact g0 | exact g1.2 | exact g2.2.2 | exact g3.2.2.2 | exact g4.2.2.2.2.2 | exact g2.2.2.2 | exact g3.2.2.2.2)
   | (refine sub5 fun x hx=>?_;simp only[upd];repeat rw[vM (hx _ (by first | exact g0 | exact g1.2 | exact g2.2.2 | exact g3.2.2.2 | exact g4.2.2.2.2.2 | exact g3.2.2.2.2))])
   | (simp only[upd,wgBlock];repeat first | rw[vP trivial] | rw[vP rfl] | rw[vM (by omega)])
 ·simp only[xd]at g1 g2 g3;refine FJ (b:=b3) yY (ns _ (by first | exact g1.2 | exact g2.2.2 | exact g3.2.2.2)) ?_;intro b4 g4;simp only[xd]at g4;refine Jj yY (ns _ (by simp only[g4])) ?_;refine kC.intro YB rfl rfl rfl rfl ⟨fb,b2,b1,b3,b4,rfl,rfl,?_,rfl,rfl,rfl,?_,?_,?_,?_,?_,?_,?_,?_⟩
  all_goals first
   | (simp only[got,YB,Ex.ev,coerce,toInt_int,zd,zi,ze,arith,Cst.val,vA,vC,vT];rw[e1];done)
   | (simp only[mW,uU,pB,nA,hZ,mI,mT,uA];omega)
   | (intro b hb;simp only[uU,pB,nA]at hb;rcases hb with rfl | rfl | rfl | rfl | rfl <;> first | exact g0 | exact g1.2 | exact g2.2.2 | exact g3.2.2.2 | exact g4.2.2.2.2.2 | exact g2.2.2.2 | exact g3.2.2.2.2)
   | (refine sub5 fun x hx=>?_;simp only[upd];repeat rw[vM (hx _ (by first | exact g0 | exact g1.2 | exact g2.2.2 | exact g3.2.2.2 | exact g4.2.2.2.2.2 | exact g3.2.2.2.2))])
   | (simp only[upd,wgBlock];repeat first | rw[vP trivial] | rw[vP rfl] | rw[vM (by omega)])
 ·simp only[xd]at g1 g2 g3;refine FJ (b:=b2) ((yQ).trans yY) (ns _ (by first | exact g1.2 | exact g2.2.2 | exact g3.2.2.2)) ?_;intro b4 g4;simp only[xd]at g4;refine Jj yY (ns _ (by simp only[g4])) ?_;refine kC.intro YC rfl rfl rfl rfl ⟨fb,b3,b1,b2,b4,rfl,rfl,?_,rfl,rfl,rfl,?_,?_,?_,?_,?_,?_,?_,?_⟩
  all_goals first
   | (simp only[got,YC,Ex.ev,coerce,toInt_int,zd,zi,ze,arith,Cst.val,vA,vC,vT];rw[e1];done)
   | (simp only[mW,uU,pB,nA,hZ,mI,mT,uA];omega)
   | (intro b hb;simp only[uU,pB,nA]at hb;rcases hb with rfl | rfl | rfl | rfl | rfl <;> first | exact g0 | exact g1.2 | exact g2.2.2 | exact g3.2.2.2 | exact g4.2.2.2.2.2 | exact g2.2.2.2 | exact g3.2.2.2.2)
   | (refine sub5 fun x hx=>?_;simp only[upd];repeat rw[vM (hx _ (by first | exact g0 | exact g1.2 | exact g2.2.2 | exact g3.2.2.2 | exact g4.2.2.2.2.2 | exact g3.2.2.2.2))])
   | (simp only[upd,wgBlock];repeat first | rw[vP trivial] | rw[vP rfl] | rw[vM (by omega)])
 ·simp only[xd]at g1 g2 g3;refine FJ (b:=b1) ((yQ).trans ((yQ).trans yY)) (ns _ (by first | exact g1.2 | exact g2.2.2 | exact g3.2.2.2)) ?_;intro b4 g4;simp only[xd]at g4;refine Jj yY (ns _ (by simp only[g4])) ?_;refine kC.intro YD rfl rfl rfl rfl ⟨fb,b2,b3,b1,b4,rfl,rfl,?_,rfl,rfl,rfl,?_,?_,?_,?_,?_,?_,?_,?_⟩
  all_goals first
   | (simp only[got,YD,Ex.ev,coerce,toInt_int,zd,zi,ze,arith,Cst.val,vA,vC,vT];rw[e1];done)
   | (simp only[mW,uU,pB,nA,hZ,mI,mT,uA];omega)
   | (intro b hb;simp only[uU,pB,nA]at hb;rcases hb with rfl | rfl | rfl | rfl | rfl <;> first | exact g0 | exact g1.2 | exact g2.2.2 | exact g3.2.2.2 | exact g4.2.2.2.2.2 | exact g2.2.2.2 | exact g3.2.2.2.2)
   | (refine sub5 fun x hx=>?_;simp only[upd];repeat rw[vM (hx _ (by first | exact g0 | exact g1.2 | exact g2.2.2 | exact g3.2.2.2 | exact g4.2.2.2.2.2 | exact g3.2.2.2.2))])
   | (simp only[upd,wgBlock];repeat first | rw[vP trivial] | rw[vP rfl] | rw[vM (by omega)])
 ·simp only[xd]at g1 g2;refine FJ (b:=b1) ((yQ).trans yY) (ns _ (by first | exact g1.2 | exact g2.2.2)) ⟨nn,nR _,hb8,fun b3 g3=>?_⟩;simp only[xd]at g3;intro b4 g4;simp only[xd]at g4;refine Jj yY (ns _ (by simp only[g4])) ?_;refine kC.intro YE rfl rfl rfl rfl ⟨fb,b2,b3,b1,b4,rfl,rfl,?_,rfl,rfl,rfl,?_,?_,?_,?_,?_,?_,?_,?_⟩
  all_goals first
   | (simp only[got,YE,Ex.ev,coerce,toInt_int,zd,zi,ze,arith,Cst.val,vA,vC,vT];rw[e1];done)
   | (simp only[mW,uU,pB,nA,hZ,mI,mT,uA];omega)
   | (intro b hb;simp only[uU,pB,nA]at hb;rcases hb with rfl | rfl | rfl | rfl | rfl <;> first | exact g0 | exact g1.2 | exact g2.2.2 | exact g3.2.2.2 | exact g4.2.2.2.2.2 | exact g2.2.2.2 | exact g3.2.2.2.2)
   | (refine sub5 fun x hx=>?_;simp only[upd];repeat rw[vM (hx _ (by first | exact g0 | exact g1.2 | exact g2.2.2 | exact g3.2.2.2 | exact g4.2.2.2.2.2 | exact g3.2.2.2.2))])
   | (simp only[upd,wgBlock];repeat first | rw[vP trivial] | rw[vP rfl] | rw[vM (by omega)])
 ·simp only[xd]at g1 g2 g3;refine FJ (b:=b1) ((yQ).trans ((yQ).trans yY)) (ns _ (by first | exact g1.2 | exact g2.2.2 | exact g3.2.2.2)) ?_;intro b4 g4;simp only[xd]at g4;refine Jj yY (ns _ (by simp only[g4])) ?_;refine kC.intro YF rfl rfl rfl rfl ⟨fb,b3,b2,b1,b4,rfl,rfl,?_,rfl,rfl,rfl,?_,?_,?_,?_,?_,?_,?_,?_⟩
  all_goals first
   | (simp only[got,YF,Ex.ev,coerce,toInt_int,zd,zi,ze,arith,Cst.val,vA,vC,vT];rw[e1];done)
   | (simp only[mW,uU,pB,nA,hZ,mI,mT,uA];omega)
   | (intro b hb;simp only[uU,pB,nA]at hb;rcases hb with rfl | rfl | rfl | rfl | rfl <;> first | exact g0 | exact g1.2 | exact g2.2.2 | exact g3.2.2.2 | exact g4.2.2.2.2.2 | exact g2.2.2.2 | exact g3.2.2.2.2)
   | (refine sub5 fun x hx=>?_;simp only[upd];repeat rw[vM (hx _ (by first | exact g0 | exact g1.2 | exact g2.2.2 | exact g3.2.2.2 | exact g4.2.2.2.2.2 | exact g3.2.2.2.2))])
   | (simp only[upd,wgBlock];repeat first | rw[vP trivial] | rw[vP rfl] | rw[vM (by omega)])
def ki(l i:Nat):Nat:=min ((i+1)*32768) l-i*32768
def partOf(xs:List Int)(i:Nat):List Int:=(xs.drop (i*32768)).take (ki xs.length i)
theorem wD(xs:List Int)(i:Nat):(partOf xs i).length=ki xs.length i:=by
 unfold partOf ki;rw[pW,pM];omega
def szv(n l j:Nat):Array Value:=((List.range n).map fun i=>if i<j then Value.int .i64 (ki l i)else .int .i64 0).toArray
theorem YH(n l j:Nat):(szv n l j).size=n:=by simp[szv]
theorem YI(n l:Nat):yE n #[.int .i64 0]=szv n l 0:=by
 apply Array.ext
 ·simp[yE,szv]
 ·intro i h1 h2;simp[yE,szv,Nat.mod_one]
theorem za0(hj:j<n):(szv n l j).setIfInBounds j (.int .i64 (ki l j))=szv n l (j+1):=by
 apply Array.ext
 ·simp[szv]
 ·intro i h1 h2;simp only[szv];by_cases e:j=i
  ·subst e;simp
  ·have e2:(i<j+1)=(i<j):=by apply propext;omega
   simp[e,e2]
def RB(h0 h:qaA)(xs:List Int)(da:Value)(fb sb bS wg n j:Nat)(f:Nat->Value)(h':qaA):Prop:=
 ∃(ib pb:Nat) (a':Option Addr) (c':Nat),f 0=da/\f 3=.pointer (some ⟨fb,0,none⟩)/\f 7=.pointer (some ⟨sb,0,none⟩)/\f 8=.slice (some ⟨bS,0,none⟩) n n/\f 9=.pointer (some ⟨wg,0,none⟩) /\
  f 10=.pointer (some ⟨ib,0,none⟩)/\f 11=.pointer (some ⟨pb,0,none⟩)/\f 22=.int .i64 n/\f 23=.int .i64 j /\
  h ib=none/\h pb=none/\ib≠pb/\zk h0 .u8 a' (partOf xs j)/\h' ib=some (.cells #[.int .i64 j] 3)/\h' pb=some (.cells #[.slice a' (partOf xs j).length c'] 22) /\
  h' bS=some (.cells (szv n xs.length (j+1)) 2)/\∀x,x≠ib->x≠pb->x≠bS->h' x=h x
theorem wpB{h0:qaA}{xs:List Int}(hx:zk h0 .u8 a xs)(hc:xs.length<=c)(hl:xs.length<2^40)(hi:Inv S h)(hn:n=(xs.length+32767)/32768)(hj:j<n)
  {fb sb bS wg:Nat}(hS:¬S bS)(hbS:h bS=some (.cells (szv n xs.length j) 2)) :
  tBk.wp oPP S (kC 47 [0,3,7,8,9,10,11,22,23] (RB h0 h xs (.slice a xs.length c) fb sb bS wg n j)) (fun _ _=>True)
   [.slice a xs.length c,.pointer (some ⟨fb,0,none⟩),.pointer (some ⟨sb,0,none⟩),.slice (some ⟨bS,0,none⟩) n n,.pointer (some ⟨wg,0,none⟩),.int .i64 n,.int .i64 j] h []:=by
 have ns:∀b,h b=none->¬S b:=fun b hb hS=>hi b hS hb
 have w1:IntKind.i64.wrap ((j:Int)*32768)=((j*32768:Nat):Int):=by rw[lA];omega
 have w2:IntKind.i64.wrap ((j:Int)+1)=(j:Int)+1:=by rw[lA];omega
 have w3:IntKind.i64.wrap (((j:Int)+1)*32768)=(((j+1)*32768:Nat):Int):=by rw[lA];omega
 simp only[tBk,Tr.wp,Ex.ev,coerce,toInt_int,za,zd,zi,ze,zj,yg,kp,qa,wE,zB,arith,Cst.val,yF,zw,zr,vF,vG,nJ,vA,vB,vO,vD,vE,vJ,vI,vK,uA];intro ib g0;refine FJ yY (ns _ g0) ?_;have eM:(if(xs.length:Int)<(((j+1)*32768:Nat):Int)then(xs.length:Int)else(((j+1)*32768:Nat):Int))=((min ((j+1)*32768) xs.length:Nat):Int):=by split <;> omega
 have cell1:∀ {h:qaA} {b:Nat} {v:Value} {T:TypeId},h b=some (.cells #[v] T)->zg h (Addr.add ⟨b,0,none⟩ 0)=some v:=fun hb=>by simp[zg,Addr.add,hb]
 refine⟨j,cell1 yY,j,cell1 yY,?_⟩;simp only[w1,w2,w3,eM,vV];obtain⟨a',es,hp⟩:=qK hx (lo:=j*32768) (hi:=min ((j+1)*32768) xs.length) (m:=c);rw[es];have ep:(xs.drop (j*32768)).take (min ((j+1)*32768) xs.length-j*32768)=partOf xs j:=rfl;rw[ep]at hp ⊢;refine⟨by omega,by omega,by omega,by omega,fun pb g1=>?_⟩;simp only[xd]at g1;have hbi:bS≠ib:=fun e=>by subst e;rw[g0]at hbS;cases hbS
 have hbp:bS≠pb:=fun e=>by subst e;rw[g1.2.2]at hbS;cases hbS
 refine FJ yY (ns _ g1.2.2) ?_;refine⟨j,cell1 ((yQ (uW g1.1)).trans ((yQ (uW g1.1)).trans yY)),a',_,_,cell1 yY,rfl,by omega,by omega,?_⟩;refine zdt (cs:=szv n xs.length j) (T:=2) ?_ (by rw[YH];exact hj) hS ?_
 ·rw[yQ hbp,yQ hbp,yQ hbi,yQ hbi];exact hbS
 refine kC.intro Zk rfl rfl rfl rfl ⟨ib,pb,a',c-j*32768,rfl,rfl,rfl,rfl,rfl,rfl,rfl,rfl,rfl,g0,g1.2.2,uW g1.1,hp,?_,?_,?_,?_⟩
 ·rw[yQ (uW hbi),yQ (uW g1.1),yQ (uW g1.1),yY]
 ·rw[yQ (uW hbp),yY]
 ·rw[yY,wD,za0 hj]
 ·intro x h1 h2 h3;rw[yQ h3,yQ h2,yQ h2,yQ h1,yQ h1]
end
end Go.Proofs.YtpodkihpnjhamaaGreatDoor
end
section
namespace Go.Proofs.YtpodkihpnjhamaaGreatDoor
open Go Go.Eng Go.Conc Go.RowKit Go.Conc.Lib Go.ConcR.Gen
open Go.ConcR (KK wgBlock WgAt stA smA rd wr DC0 Payload)
def UJ:List (Nat×Sh):=[(0,.slice),(3,.addr),(7,.addr),(8,.slice),(9,.addr),(22,.int .i64),(23,.int .i64)]
def YJ(da:Value)(fb sb bS wg n j:Nat):List Value:=[da,.pointer (some ⟨fb,0,none⟩),.pointer (some ⟨sb,0,none⟩),.slice (some ⟨bS,0,none⟩) n n,.pointer (some ⟨wg,0,none⟩),.int .i64 n,.int .i64 j]
structure AtL(a:Act)(da:Value)(fb sb bS wg n j:Nat):Prop where
 sz:a.tmps.size=47
 df:a.defers=[]
 s0:a.tmps.getD 0 undef=da
 s3:a.tmps.getD 3 undef=.pointer (some ⟨fb,0,none⟩)
 s7:a.tmps.getD 7 undef=.pointer (some ⟨sb,0,none⟩)
 s8:a.tmps.getD 8 undef=.slice (some ⟨bS,0,none⟩) n n
 s9:a.tmps.getD 9 undef=.pointer (some ⟨wg,0,none⟩)
 s22:a.tmps.getD 22 undef=.int .i64 n
 s23:a.tmps.getD 23 undef=.int .i64 j
variable {a:Act}
theorem AtL.JP{x:Option Addr}{l c fb sb bS wg n j:Nat}(A:AtL a (.slice x l c) fb sb bS wg n j):Ak a UJ (YJ (.slice x l c) fb sb bS wg n j):=
 ⟨A.s0,rfl,A.s3,rfl,A.s7,rfl,A.s8,rfl,A.s9,rfl,A.s22,rfl,A.s23,rfl,trivial⟩
theorem Lx(a:Act)(d i:Nat)(v:Value)(hd:d<a.tmps.size):(a.put (some d) v).tmps.getD i undef=if i=d then v else a.tmps.getD i undef:=by
 by_cases e:i=d
 ·subst e;simp[Act.put,pF,hd]
 ·simp only[Act.put,pF,nD (uW e),vM e]
theorem YK(a:Act)(d:Nat)(v:Value):(a.put (some d) v).tmps.size=a.tmps.size:=by simp[Act.put]
theorem AtL.put{a:Act}{da:Value}{fb sb bS wg n j:Nat}(A:AtL a da fb sb bS wg n j)(d:Nat)(v:Value)(hd:d=41\/d=42\/d=44):AtL (a.put (some d) v) da fb sb bS wg n j:=by
 have hs:d<a.tmps.size:=by rw[A.sz];omega
 have g:∀i,i≠d->(a.put (some d) v).tmps.getD i undef=a.tmps.getD i undef:=fun i hi=>by rw[Lx a d i v hs,vM hi]
 exact⟨by rw[YK];exact A.sz,A.df,(g 0 (by omega)).trans A.s0,(g 3 (by omega)).trans A.s3,(g 7 (by omega)).trans A.s7,(g 8 (by omega)).trans A.s8,(g 9 (by omega)).trans A.s9,(g 22 (by omega)).trans A.s22,(g 23 (by omega)).trans A.s23⟩
def RS(h:qaA)(da:Value)(fb sb bS wg n j:Nat)(f:Nat->Value)(h':qaA):Prop:=
 f 0=da/\f 3=.pointer (some ⟨fb,0,none⟩)/\f 7=.pointer (some ⟨sb,0,none⟩)/\f 8=.slice (some ⟨bS,0,none⟩) n n/\f 9=.pointer (some ⟨wg,0,none⟩)/\f 22=.int .i64 n/\f 23=.int .i64 j/\h'=h
noncomputable def jb(i:Nat):Array Oper:=match rP i with | .region _ ops _=>ops | _=>#[]
theorem rP9:rP 9=.region 9 (jb 9) false:=by kernel_rfl
theorem zdu:rP 10=.region 10 (jb 10) false:=by kernel_rfl
theorem zdv:rP 12=.region 12 (jb 12) false:=by kernel_rfl
theorem zcO:(jb 9).size=1:=by kernel_rfl
theorem zbN:(jb 10).size=2:=by kernel_rfl
theorem zbO:(jb 12).size=1:=by kernel_rfl
variable {ops:Array Oper}{i:Nat}
theorem Qy{d:Option Tmp}{p:Op->Bool}(h1:(ops[i]?.map fun o=>(o.dst,o.guard))=some (d,none)){q:Op}(h2:(ops[i]?.map fun o=>o.op)=some q) :
  ∃o,ops[i]? = some o/\o.dst=d/\o.guard=none/\o.op=q:=by
 cases h:ops[i]? with
 | none=>rw[h]at h1;cases h1
 | some o=>
  rw[h]at h1 h2;simp only[pK,uZ,uV]at h1 h2;exact⟨o,rfl,h1.1,h1.2,h2⟩
def UK(o:Option Oper):Array TypeId:=match o with | some o=>(match o.op with | .call c=>c.argTypes | .go c=>c.argTypes | _=>#[]) | none=>#[]
theorem c9a:((jb 9)[0]?.map fun o=>(o.dst,o.guard))=some (some 41,none):=by kernel_rfl
theorem c9b:((jb 9)[0]?.map fun o=>o.op)=some (.call { callee:=.value (.func 79),args:=#[.tmp 9,.const (.int .i64 1)],argTypes:=UK (jb 9)[0]? }):=by kernel_rfl
theorem zdw:((jb 12)[0]?.map fun o=>(o.dst,o.guard))=some (some 44,none):=by kernel_rfl
theorem zdx:((jb 12)[0]?.map fun o=>o.op)=some (.call { callee:=.value (.func 82),args:=#[.tmp 9],argTypes:=UK (jb 12)[0]? }):=by kernel_rfl
theorem zdy:((jb 10)[0]?.map fun o=>(o.dst,o.guard))=some (some 42,none):=by kernel_rfl
theorem zdz:((jb 10)[0]?.map fun o=>o.op)=some (.makeFunc (.func 80) #[] #[.tmp 9,.tmp 3,.tmp 11,.tmp 7,.tmp 10]):=by kernel_rfl
theorem zd0:((jb 10)[1]?.map fun o=>(o.dst,o.guard))=some (none,none):=by kernel_rfl
theorem zd1:((jb 10)[1]?.map fun o=>o.op)=some (.go { callee:=.value (.tmp 42),args:=#[],argTypes:=UK (jb 10)[1]? }):=by kernel_rfl
variable {b:Frame}{cs:List Frame}
theorem Ni{P:Program}{k:List Item}{rest:List Nat}{o:Oper}{f:FuncId}{fn:Func}{c:Code}{args:Array Operand}{ats:Array TypeId}
  (ho:ops[i]? = some o)(hw:Region.wanted o (yielded ops a.tmps)=true)(hk:b.kind ≠ .early)(hop:o.op=.call { callee:=.value (.func f),args,argTypes:=ats })
  (hf:P.funcs[f]? = some fn)(hname:(fn.name == "runtime.NumGoroutine")=false)(hb:fn.body=some c)(main:Bool)(w:World) :
  stepG P main (gor (b.at a (.inRegion ops (i::rest)::k)) cs) w=.go (gor ((base f).at { tmps:=args.map a.eval++Array.replicate (fn.ntmps-(args.map a.eval).size) undef,defers:=[] } [.code c]) (b.at a (.inRegion ops (i::rest)::k)::cs)) w #[]:=
 RN (goes_call ho hw hk hop hf hname hb ⟨rfl,rfl,rfl⟩)
theorem zcP(L:WgLink):(addFn L).body=some (body_add L):=rfl
theorem zbP(L:WgLink):(waitFn L).body=some (body_wait L):=rfl
theorem zcQ(L:WgLink)(x y:Value):#[x,y]++Array.replicate ((addFn L).ntmps-(#[x,y]:Array Value).size) undef=#[x,y,undef,undef,undef,undef,undef,undef,undef,undef,undef,undef,undef,undef,undef,undef,undef,undef,undef,undef,undef,undef,undef,undef,undef,undef,undef,undef,undef,undef,undef,undef,undef,undef,undef,undef,undef,undef,undef,undef,undef,undef,undef,undef,undef,undef,undef,undef,undef,undef,undef,undef,undef,undef,undef,undef,undef,undef,undef,undef,undef,undef,undef,undef,undef,undef,undef,undef,undef,undef,undef,undef,undef,undef,undef,undef,undef,undef,undef,undef,undef,undef,undef,undef,undef,undef,undef,undef,undef,undef,undef,undef,undef,undef,undef,undef,undef,undef,undef,undef,undef,undef,undef,undef,undef,undef,undef,undef,undef,undef,undef,undef,undef,undef,undef,undef,undef]:=by kernel_rfl
theorem zbQ(L:WgLink)(x:Value):#[x]++Array.replicate ((waitFn L).ntmps-(#[x]:Array Value).size) undef=#[x,undef,undef,undef,undef,undef,undef,undef,undef,undef,undef,undef,undef,undef,undef,undef,undef,undef,undef,undef,undef,undef,undef,undef,undef,undef,undef,undef,undef,undef,undef,undef,undef,undef,undef,undef,undef,undef,undef,undef,undef,undef,undef,undef,undef,undef,undef,undef,undef,undef,undef,undef,undef,undef,undef,undef,undef,undef,undef,undef,undef,undef,undef,undef,undef,undef,undef,undef,undef,undef,undef,undef,undef,undef,undef,undef,undef,undef,undef,undef,undef,undef,undef,undef]:=by kernel_rfl
section
variable {Φ:Ph}{k:List Item}
theorem zd2(hty:Φ.ty=Tryz.link.tWg)(hCW:Φ.C≠Φ.Wg)(hk:b.kind ≠ .early)(h9:a.tmps.getD 9 undef=.pointer (some ⟨Φ.Wg,0,none⟩)){Nx:Frame->List Frame->Prop}
  (hN:Nx (b.at (a.put (some 41) (.tuple #[])) (.inRegion (jb 9) []::k)) cs):BM oPP Φ Nx (b.at a (.inRegion (jb 9) [0]::k)) cs:=by
 obtain⟨o,d1,d2,d3,d4⟩:=Qy (p:=fun _=>true) c9a c9b;by_cases hJ:∃w,Φ.J w
 ·obtain⟨w,hw⟩:=hJ;refine BM.step (fun w=>Ni d1 (by simp[Region.wanted,d3]) hk d4 Tryz.MY.f_add (nm_add Tryz.link) (zcP Tryz.link) true w) ⟨100,?_⟩;have e:(#[Operand.tmp 9,.const (.int .i64 1)].map a.eval)=#[.pointer (some ⟨Φ.Wg,0,none⟩),.int .i64 1]:=by simp[Act.eval,h9]
  rw[e,zcQ];have W:=@zaw _ oPP Tryz.link Φ cs b a (jb 9) 0 [] k Tryz.MY hCW Nx (by rw[d1];simp only[mY,d2];exact hN) w hw;exact Sil.of (w:=w) W
 ·exact⟨0,fun w w₁ h=>absurd ⟨w₁,h⟩ hJ⟩
theorem zbR(hty:Φ.ty=Tryz.link.tWg)(hCW:Φ.C≠Φ.Wg)(hk:b.kind ≠ .early)(h9:a.tmps.getD 9 undef=.pointer (some ⟨Φ.Wg,0,none⟩)) :
  qz oPP Φ (RL oPP (b.at (a.put (some 44) (.tuple #[])) (.inRegion (jb 12) []::k)) cs) (b.at a (.inRegion (jb 12) [0]::k)) cs:=by
 obtain⟨o,d1,d2,d3,d4⟩:=Qy (p:=fun _=>true) zdw zdx;by_cases hJ:∃w,Φ.J w
 ·obtain⟨w,hw⟩:=hJ;refine qz.step (fun w=>Ni d1 (by simp[Region.wanted,d3]) hk d4 Tryz.MY.f_wait (nm_wait Tryz.link) (zbP Tryz.link) true w) ?_;have e:(#[Operand.tmp 9].map a.eval)=#[.pointer (some ⟨Φ.Wg,0,none⟩)]:=by simp[Act.eval,h9]
  rw[e,zbQ];have W:=@Y2 _ oPP Tryz.link Φ cs b a (jb 12) 0 [] k Tryz.MY hCW w hw;rw[d1]at W;simp only[mY,d2]at W;exact W
 ·exact⟨fun _=>True,fun g _=>⟨0,fun w w₁ h=>absurd ⟨w₁,h⟩ hJ⟩,0,fun w w₁ h=>absurd ⟨w₁,h⟩ hJ⟩
end
end Go.Proofs.YtpodkihpnjhamaaGreatDoor
end
section
namespace Go.Proofs.YtpodkihpnjhamaaGreatDoor
open Go Go.Eng Go.Conc Go.RowKit Go.Conc.Lib Go.ConcR.Gen
open Go.ConcR (KK wgBlock WgAt stA smA rd wr DC0 Payload)
variable {a:Act}{h:qaA}{x:Option Addr}
section
variable {S:Shared}{Φ:Ph}{b:Frame}{k:List Item}{cs:List Frame}
theorem za1{i fb pb sb ib:Nat}(hk:b.kind ≠ .early)(h42:a.tmps.getD 42 undef=.func (.func 80) #[] (we Φ.Wg fb pb sb ib)){Nx:Frame->List Frame->qaA->Prop}{hh h1 hc:qaA}
  (s1:qaB h1 hh)(sc:qaB hc hh)(hap:∀x,¬Φ.S x->hc x≠none->h1 x=none)(hro:∀x,Φ.S x->h1 x=hh x)(hW:Works oPP Φ i (Qv (Gv Φ.Wg fb pb sb ib)) [] hc)
  (hN:Nx (b.at a (.inRegion (jb 10) []::k)) cs h1):DQ oPP Φ i Nx (b.at a (.inRegion (jb 10) [1]::k)) cs hh:=by
 obtain⟨o,d1,d2,d3,d4⟩:=Qy (p:=fun _=>true) zd0 zd1;refine⟨h1,hc,s1,sc,hap,hro,fun w hw hJ=>⟨_,_,_,_,?_,hW,hN⟩⟩;have hr:(execOp a.eval o).run oPP w=.ok (.spawn (Gv Φ.Wg fb pb sb ib)) w:=by
  unfold execOp;simp only[d4,resolve,Deferred.ofValue,Act.eval,h42];simp[Gv,we,go_sem]
 have he:(execOp a.eval o).events oPP w #[]=#[]:=by
  unfold execOp;simp only[d4,resolve,Deferred.ofValue,Act.eval,h42];simp[we,go_sem]
 have st:=stepG_spawn (P:=oPP) (main:=true) (b:=b) (a:=a) (k:=k) (cs:=cs) (w:=w) (rest:=[]) d1 (by simp[Region.wanted,d3]) hk hr rfl;unfold listed at st;rw[he,seen_none,d2]at st;exact st
theorem zbS(hk:b.kind ≠ .early){fb pb sb ib wg:Nat}{rest:List Nat}{Post:Frame->List Frame->qaA->Prop}
  (h9:a.tmps.getD 9 undef=.pointer (some ⟨wg,0,none⟩))(h3:a.tmps.getD 3 undef=.pointer (some ⟨fb,0,none⟩))(h11:a.tmps.getD 11 undef=.pointer (some ⟨pb,0,none⟩))(h7:a.tmps.getD 7 undef=.pointer (some ⟨sb,0,none⟩))(h10:a.tmps.getD 10 undef=.pointer (some ⟨ib,0,none⟩))
  (K:Eng.Safe oPP S Post (b.at (a.put (some 42) (.func (.func 80) #[] (we wg fb pb sb ib))) (.inRegion (jb 10) rest::k)) cs h):Eng.Safe oPP S Post (b.at a (.inRegion (jb 10) (0::rest)::k)) cs h:=by
 obtain⟨o,d1,d2,d3,d4⟩:=Qy (p:=fun _=>true) zdy zdz;refine Hk (.func (.func 80) #[] (we wg fb pb sb ib)) d1 (by simp[Region.wanted,d3]) hk (fun w=>?_) (fun w=>?_) (by rw[d2];exact K)
 ·unfold execOp;simp[d4,Act.eval,h9,h3,h11,h7,h10,we,go_sem]
 ·unfold execOp;simp[d4,Act.eval,h9,h3,h11,h7,h10,go_sem]
theorem go5{l c fb sb bS wg n j:Nat}{c0:Code}(A:AtL a (.slice x l c) fb sb bS wg n j)(hi:Inv S h) :
  Eng.Safe oPP S (Eng.Reach S b 47 (.code c0::k) cs [0,3,7,8,9,22,23,24] (fun f h'=>RS h (.slice x l c) fb sb bS wg n j f h'/\f 24=.bool (decide ((j:Int)<n)))) (b.at a (.code (.seq (rP 5) c0)::k)) cs h:=by
 refine Hl (rs:=[rP 5]) (ps:=UJ) Gw Gx s5 A.JP A.sz A.df hi ?_;simp only[t5,Tr.wp];exact kC.intro YG rfl rfl rfl rfl ⟨⟨rfl,rfl,rfl,rfl,rfl,rfl,rfl,rfl⟩,by simp only[got,YG,YJ,Ex.ev,coerce,toInt_int,zB,vA,vB,vC,vT]⟩
theorem zd3{l c fb sb bS wg n j:Nat}(A:AtL a (.slice x l c) fb sb bS wg n j)(hi:Inv S h)(hj:j<2^40) :
  Eng.Safe oPP S (Eng.Reach S b 47 k cs [0,3,7,8,9,22,23] (RS h (.slice x l c) fb sb bS wg n (j+1))) (b.at a (.code (rP 11)::k)) cs h:=by
 refine zbB (ps:=UJ) Gw Gx s11 A.JP A.sz A.df hi ?_;simp only[t11,Tr.wp];have w2:IntKind.i64.wrap ((j:Int)+1)=((j+1:Nat):Int):=by rw[lA];omega
 exact kC.intro UI rfl rfl rfl rfl ⟨rfl,rfl,rfl,rfl,rfl,rfl,by simp only[got,UI,YJ,Ex.ev,coerce,toInt_int,arith,Cst.val,vA,vB,vC,vT,w2],rfl⟩
theorem AtL.reach{x:Value}{fb sb bS wg n j:Nat}{f:Nat->Value}{h h':qaA}{is:List Nat}(hs:a.tmps.size=47)(hd:a.defers=[])(hf:∀i∈is,a.tmps.getD i undef=f i)
  (hi:[0,3,7,8,9,22,23].all (fun i=>is.contains i)=true)(R:RS h x fb sb bS wg n j f h'):AtL a x fb sb bS wg n j:=by
 obtain⟨r0,r3,r7,r8,r9,r22,r23,_⟩:=R;have g:∀i,i∈([0,3,7,8,9,22,23]:List Nat)->a.tmps.getD i undef=f i:=fun i h=>hf i (by simpa using pP.1 hi i h)
 exact⟨hs,hd,(g 0 (by simp)).trans r0,(g 3 (by simp)).trans r3,(g 7 (by simp)).trans r7,(g 8 (by simp)).trans r8,(g 9 (by simp)).trans r9,(g 22 (by simp)).trans r22,(g 23 (by simp)).trans r23⟩
end
end Go.Proofs.YtpodkihpnjhamaaGreatDoor
end
section
namespace Go.Proofs.YtpodkihpnjhamaaGreatDoor
open Go Go.Eng Go.Conc Go.RowKit Go.Conc.Lib Go.ConcR.Gen
open Go.ConcR (KK wgBlock WgAt stA smA rd wr DC0 Payload)
variable {xs:List Int}
section
variable {Φ:Ph}{b:Frame}{cs:List Frame}
theorem YL{h h':qaA}{k:IntKind}{a:Option Addr}(H:zk h k a xs)(s:qaB h h'):zk h' k a xs:=fun i x hx=>by
 obtain⟨ad,h1,h2⟩:=H i x hx;refine⟨ad,h1,?_⟩;unfold zg at h2 ⊢;cases e:h (ad.add i).block with
 | none=>rw[e]at h2;cases h2
 | some o=>rw[e]at h2;rw[s _ _ e];exact h2
theorem zbT{H h0:qaA}{n:Nat}(hty:Φ.ty=Tryz.link.tWg)(hCW:Φ.C≠Φ.Wg)(hnb:∀fr cs h Q,¬Φ.S.big fr cs h Q)(hΦn:Φ.n=n){x:Option Addr}{c:Nat}(hx:zk h0 .u8 x xs)(hc:xs.length<=c)
  (hl:xs.length<2^40)(hn:n=(xs.length+32767)/32768){fb sb bS:Nat}{g:FuncId}{F:List Int->Int}(hSd:∀y,Φ.S y->H y≠none)(h0S:∀y o,h0 y=some o->Φ.S y/\H y=some o)(hSb:¬Φ.S bS)
  (hfS:Φ.S fb)(hsS:Φ.S sb)(hfb:H fb=some (.cells #[.func (.func g) #[] #[]] 90))(hsb:H sb=some (.cells #[.slice (some ⟨Φ.C,0,none⟩) n n] 86))
  (hval:∀i,i<n->Φ.val i=.int .u32 (F (partOf xs i)))
  (hsum:∀(h':qaA) (a':Option Addr) (c':Nat) (ys:List Int),Inv Φ.S h'->zk h' .u8 a' ys->ys.length<=32768->(∀y∈ys,y∈xs)->zb oPP Φ.S g #[.slice a' ys.length c'] h' (fun v h''=>v=.int .u32 (F ys)/\qaB h' h''))
  (hk:b.kind ≠ .early){Q:Frame->List Frame->qaA->Prop}
  (hQ:∀a hh,AtL a (.slice x xs.length c) fb sb bS Φ.Wg n n->(∀y,Φ.S y->hh y=H y)->hh bS=some (.cells (szv n xs.length n) 2) ->
   ∀fr' cs',RL oPP (b.at (a.put (some 44) (.tuple #[])) [.inRegion (jb 12) [],.code (rP 13)]) cs fr' cs'->Q fr' cs' hh) :
  ∀r j,j+r=n->∀a hh,AtL a (.slice x xs.length c) fb sb bS Φ.Wg n j->(∀y,Φ.S y->hh y=H y)->hh bS=some (.cells (szv n xs.length j) 2) ->
   Sp oPP Φ Q r (b.at a [.code Qx,.inLoop Qx,.inBlock 0,.code (.seq (rP 12) (rP 13))]) cs hh:=by
 have inv:∀ {hh:qaA},(∀y,Φ.S y->hh y=H y)->Inv Φ.S hh:=fun hro y hy=>by rw[hro y hy];exact hSd y hy
 have agr:∀ {h' H':qaA},qaB h' H'->Inv Φ.S h'->∀y,Φ.S y->H' y=h' y:=by
  intro h' H' s hi y hy;cases e:h' y with
  | none=>exact absurd e (hi y hy)
  | some o=>exact s y o e
 intro r;induction r with
 | zero=>
  intro j hj a hh A hro hbS;have hjn:j=n:=by omega
  subst hjn;unfold Sp;refine(go5 (c0:=_) A (inv hro)).bind ?_;rintro _ _ H' ⟨rfl,a',f,h',rfl,hsz,hdf,hf,⟨R,f24⟩,hsub,hinv⟩;have A':=AtL.reach hsz hdf hf rfl R;obtain⟨_,_,_,_,_,_,_,rfl⟩:=R;have e24:a'.eval (.tmp 24)=.bool false:=by
   show a'.tmps.getD 24 undef=_;rw[hf 24 (by simp),f24];simp
  refine .seq (.cond (t:=false) e24 ?_);simp only[vL,vY];refine .exit (k':=[.code (.seq (rP 12) (rP 13))]) (by simp[exitTo]) (.seq ?_);rw[zdv];refine .region ?_;rw[zbO];have hro':∀y,Φ.S y->H' y=H y:=fun y hy=>(agr hsub hinv y hy).trans (hro y hy)
  refine .done (qz.mono (fun fr' cs' hB=>?_) (zbR hty hCW hk A'.s9));exact hQ a' H' A' hro' (hsub _ _ hbS) fr' cs' hB
 | succ r ih=>
  intro j hj a hh A hro hbS;have hjn:j<n:=by omega
  unfold Sp;refine(go5 (c0:=_) A (inv hro)).bind ?_;rintro _ _ H1 ⟨rfl,a1,f1,h1,rfl,hsz1,hdf1,hf1,⟨R1,f24⟩,hsub1,hinv1⟩;have A1:=AtL.reach hsz1 hdf1 hf1 rfl R1;obtain⟨_,_,_,_,_,_,_,rfl⟩:=R1;have e24:a1.eval (.tmp 24)=.bool true:=by
   show a1.tmps.getD 24 undef=_;rw[hf1 24 (by simp),f24];simp only[Value.bool.injEq,vO];omega
  have hro1:∀y,Φ.S y->H1 y=H y:=fun y hy=>(agr hsub1 hinv1 y hy).trans (hro y hy)
  have hbS1:=hsub1 _ _ hbS;refine .seq (.cond (t:=true) e24 ?_);simp only[uJ];refine .skip (.seq (.block ?_));refine(Hl (rs:=[rP 6,rP 7,rP 8]) (ps:=UJ) Gw Gx sBk A1.JP A1.sz A1.df (inv hro1) (wpB (S:=Φ.S) (h:=H1) (h0:=h0) (n:=n) (j:=j) (fb:=fb) (sb:=sb) (wg:=Φ.Wg) hx hc hl (inv hro1) hn hjn hSb hbS1)).bind ?_;rintro _ _ H2 ⟨rfl,a2,f2,h2,rfl,hsz2,hdf2,hf2,⟨ib,pb,xa,xc,r0,r3,r7,r8,r9,r10,r11,r22,r23,nib,npb,hne,hpi,cib,cpb,cbS,crest⟩,hsub2,hinv2⟩;have A2:AtL a2 (.slice x xs.length c) fb sb bS Φ.Wg n j:=⟨hsz2,hdf2,(hf2 0 (by simp)).trans r0,(hf2 3 (by simp)).trans r3,(hf2 7 (by simp)).trans r7,(hf2 8 (by simp)).trans r8,(hf2 9 (by simp)).trans r9,(hf2 22 (by simp)).trans r22,(hf2 23 (by simp)).trans r23⟩;have t10:=(hf2 10 (by simp)).trans r10;have t11:=(hf2 11 (by simp)).trans r11;have sne:∀y,Φ.S y->y≠ib/\y≠pb/\y≠bS:=fun y hy=>
   ⟨fun e=>by subst e;exact inv hro1 y hy nib,fun e=>by subst e;exact inv hro1 y hy npb,fun e=>by subst e;exact hSb hy⟩
  have hro2:∀y,Φ.S y->H2 y=H y:=fun y hy=>by
   obtain⟨e1,e2,e3⟩:=sne y hy;rw[agr hsub2 hinv2 y hy,crest y e1 e2 e3,hro1 y hy]
  have hib2:=hsub2 _ _ cib;have hpb2:=hsub2 _ _ cpb;have hbS2:=hsub2 _ _ cbS;have bne:bS≠ib/\bS≠pb:=⟨fun e=>(by rw[e,nib]at hbS1;cases hbS1),fun e=>(by rw[e,npb]at hbS1;cases hbS1)⟩;refine .seq ?_;rw[rP9];refine .region ?_;rw[zcO];refine .done (zd2 hty hCW hk A2.s9 ?_);have A3:=A2.put 41 (.tuple #[]) (.inl rfl);have hs2:41<a2.tmps.size:=by rw[hsz2];omega
  have g3:∀i,i≠41->(a2.put (some 41) (.tuple #[])).tmps.getD i undef=a2.tmps.getD i undef:=fun i hi=>by rw[Lx _ _ _ _ hs2,vM hi]
  have u10:=(g3 10 (by omega)).trans t10;have u11:=(g3 11 (by omega)).trans t11;generalize a2.put (some 41) (.tuple #[])=a3 at A3 u10 u11;refine .Cz ?_;rw[zdu];refine .region ?_;rw[zbN];refine zbS hk A3.s9 A3.s3 u11 A3.s7 u10 (.done ?_);have A4:=A3.put 42 (.func (.func 80) #[] (we Φ.Wg fb pb sb ib)) (.inr (.inl rfl));have h42:(a3.put (some 42) (.func (.func 80) #[] (we Φ.Wg fb pb sb ib))).tmps.getD 42 undef=.func (.func 80) #[] (we Φ.Wg fb pb sb ib):=by
   rw[Lx _ _ _ _ (by rw[A3.sz];omega),vP rfl]
  generalize a3.put (some 42) (.func (.func 80) #[] (we Φ.Wg fb pb sb ib))=a4 at A4 h42;have ej:Φ.n-(r+1)=j:=by rw[hΦn];omega
  rw[ej]
  classical
  let hcw:qaA:=fun y=>if Φ.S y\/y=ib\/y=pb then H2 y else none
  let hm:qaA:=fun y=>if y=ib\/y=pb then none else H2 y
  have hcS:∀y,Φ.S y->hcw y=H y:=fun y hy=>by show(if _ then _ else _)=_;rw[vP (.inl hy)];exact hro2 y hy
  have sub0:qaB h0 hcw:=fun y o ho=>by
   obtain⟨e1,e2⟩:=h0S y o ho;rw[hcS y e1];exact e2
  have c1:∀ {y:Nat} {v:Value} {T:TypeId},hcw y=some (.cells #[v] T)->zg hcw ⟨y,0,none⟩=some v:=fun e=>by simp[zg,e]
  refine za1 (ib:=ib) (pb:=pb) (fb:=fb) (sb:=sb) (h1:=hm) (hc:=hcw) hk h42 (fun y o ho=>?_) (fun y o ho=>?_) (fun y hS hy=>?_) (fun y hy=>?_) ?_ ?_
  ·simp only[hm]at ho;split at ho
   ·cases ho
   ·exact ho
  ·simp only[hcw]at ho;split at ho
   ·exact ho
   ·cases ho
  ·simp only[hcw]at hy;split at hy
   ·rename_i hor;show(if _ then _ else _)=_;rw[vP (hor.resolve_left hS)]
   ·exact absurd rfl hy
  ·show(if _ then _ else _)=_;obtain⟨e1,e2,_⟩:=sne y hy;rw[vM (by simp[e1,e2])]
  ·refine zcN hnb hty hCW (by rw[hΦn];exact hjn) (hval j hjn) (fun y hy=>?_) (c1 ((hcS fb hfS).trans hfb)) (c1 (T:=22) ?_) ?_ (c1 (T:=3) ?_) (hsum hcw xa xc _ (fun y hy=>?_) (YL hpi sub0) (by rw[wD];unfold ki;omega) (fun y hy=>gU (lH (by unfold partOf at hy;exact hy))))
   ·rw[hcS y hy];exact hSd y hy
   ·show(if _ then _ else _)=_;rw[vP (.inr (.inr rfl))];exact hpb2
   ·rw[hΦn];exact c1 ((hcS sb hsS).trans hsb)
   ·show(if _ then _ else _)=_;rw[vP (.inr (.inl rfl))];exact hib2
   ·rw[hcS y hy];exact hSd y hy
  ·refine Sp.pre (.Cz (.inBlock ?_));have hrom:∀y,Φ.S y->hm y=H y:=fun y hy=>by
    obtain⟨e1,e2,_⟩:=sne y hy;show(if _ then _ else _)=_;rw[vM (by simp[e1,e2])];exact hro2 y hy
   have hbm:hm bS=some (.cells (szv n xs.length (j+1)) 2):=by
    show(if _ then _ else _)=_;rw[vM (by simp[bne.1,bne.2])];exact hbS2
   refine(zd3 A4 (inv hrom) (by omega)).bind ?_;rintro _ _ H5 ⟨rfl,a5,f5,h5,rfl,hsz5,hdf5,hf5,R5,hsub5,hinv5⟩;have A5:=AtL.reach hsz5 hdf5 hf5 rfl R5;obtain⟨_,_,_,_,_,_,_,rfl⟩:=R5;refine .inLoop (.done ?_);exact ih (j+1) (by omega) a5 H5 A5 (fun y hy=>(agr hsub5 hinv5 y hy).trans (hrom y hy)) (hsub5 _ _ hbm)
end
end Go.Proofs.YtpodkihpnjhamaaGreatDoor
end
section
namespace Go.Proofs.YtpodkihpnjhamaaGreatDoor
open Go Go.Eng Go.Conc Go.RowKit Go.Conc.Lib Go.ConcR.Gen
open Go.ConcR (KK wgBlock WgAt stA smA rd wr DC0 Payload)
theorem UL:Tryz.f48.body=some Qw:=by kernel_rfl
theorem zbU:Tryz.f48.ntmps=47:=by kernel_rfl
theorem zd4:Tryz.f48.results.toList=cP.results:=by kernel_rfl
def Qz(F:List Int->Int)(xs:List Int)(n:Nat):Array Value:=((List.range n).map fun i=>Value.int .u32 (F (partOf xs i))).toArray
theorem zd5(v0 v1:Value)(m:Nat):(#[v0,v1]++Array.replicate m undef).getD 0 undef=v0:=by
 rw[pF,gO (by simp)];rfl
theorem zd6(v0 v1:Value)(m:Nat):(#[v0,v1]++Array.replicate m undef).getD 1 undef=v1:=by
 rw[pF,gO (by simp)];rfl
def phP(H:qaA)(wg bC bS n:Nat)(F:List Int->Int)(xs:List Int):Ph:=
 { ty:=130,Wg:=wg,C:=bC,ety:=38,n:=n,S:=⟨fun y=>H y≠none/\y≠wg/\y≠bC/\y≠bS,fun _ _ _ _=>False⟩,val:=fun i=>.int .u32 (F (partOf xs i)) }
theorem Gy{s:Nat->Prop}{h:qaA}(hi:Inv (yb oPP s) h){x:Option Addr}{c:Nat}{xs:List Int}(hx:zk h .u8 x xs)(hc:xs.length<=c)(hl:xs.length<2^40){g:FuncId}{F:List Int->Int}
  (hsum:∀(S':Shared) (h':qaA) (a':Option Addr) (c':Nat) (ys:List Int),Inv S' h'->zk h' .u8 a' ys->ys.length<=32768->(∀y∈ys,y∈xs)->zb oPP S' g #[.slice a' ys.length c'] h' (fun v h''=>v=.int .u32 (F ys)/\qaB h' h'')){n:Nat}(hn:n=(xs.length+32767)/32768) :
  zb oPP (yb oPP s) yV #[.slice x xs.length c,.func (.func g) #[] #[]] h (fun v h'=>∃bC bS,v=.tuple #[.slice (some ⟨bC,0,none⟩) n n,.slice (some ⟨bS,0,none⟩) n n] /\
   h' bC=some (.cells (Qz F xs n) 38)/\h' bS=some (.cells (szv n xs.length n) 2)/\qaB h h'):=by
 refine .inl ⟨fun vs w=>VB Tryz.func48 (by kernel_rfl) (by kernel_rfl) vs w,fun cs=>?_⟩;have hent:Frame.enter oPP yV #[.slice x xs.length c,.func (.func g) #[] #[]] .normal=(Frame.enter oPP yV #[.slice x xs.length c,.func (.func g) #[] #[]] .normal).at
   { tmps:=#[.slice x xs.length c,.func (.func g) #[] #[]]++Array.replicate (Tryz.f48.ntmps-(#[.slice x xs.length c,.func (.func g) #[] #[]]:Array Value).size) undef,defers:=[] } [.code Qw]:=by
  simp[Frame.enter,Frame.at,yV,Tryz.func48,UL]
 have zu:(Frame.enter oPP yV #[.slice x xs.length c,.func (.func g) #[] #[]] .normal).kind=.normal:=rfl;have hfn:(Frame.enter oPP yV #[.slice x xs.length c,.func (.func g) #[] #[]] .normal).fn=yV:=rfl;rw[hent];generalize Frame.enter oPP yV #[.slice x xs.length c,.func (.func g) #[] #[]] .normal=b at zu hfn;rw[Y7,zbU];refine(Hl (rs:=[rP 0,rP 1,rP 2,rP 3]) (ps:=[(0,.slice),(1,.fnv)]) (env:=[.slice x xs.length c,.func (.func g) #[] #[]]) Gw Gx sA ⟨zd5 _ _ _,rfl,zd6 _ _ _,rfl,trivial⟩ (by simp) rfl hi (wpA rfl hi hl hn)).bind ?_;rintro _ cs H ⟨rfl,a,f,h',rfl,hsz,hdf,hf,⟨fb,bC,bS,sb,wg,r0,r3,r6,r7,r8,r9,hnd,hnone,hsubh,cfb,cbC,cbS,csb,cwg⟩,hsub,hinv⟩;have sH:qaB h H:=fun y o ho=>hsub y o (hsubh y o ho)
 have iH:Inv (yb oPP s) H:=fun y hy=>by
  cases e:h y with
  | none=>exact absurd e (hi y hy)
  | some o=>rw[sH y o e];simp
 replace cfb:=hsub _ _ cfb;replace cbC:=hsub _ _ cbC;replace cbS:=hsub _ _ cbS;replace csb:=hsub _ _ csb;replace cwg:=hsub _ _ cwg;simp only[mW,uU,pB,nA,hZ,mI,mT,uA]at hnd;have hne:∀y,h y≠none->y≠wg/\y≠bC/\y≠bS:=fun y hy=>⟨fun e=>hy (hnone y (by simp[e])),fun e=>hy (hnone y (by simp[e])),fun e=>hy (hnone y (by simp[e]))⟩
 have q:∀i,i∈([0,3,6,7,8,9]:List Nat)->a.tmps.getD i undef=f i:=hf;refine .seq ?_;refine(Hl (rs:=[rP 4]) (ps:=[(0,.slice),(3,.addr),(7,.addr),(8,.slice),(9,.addr),(6,.int .i64)])
  (env:=[.slice x xs.length c,.pointer (some ⟨fb,0,none⟩),.pointer (some ⟨sb,0,none⟩),.slice (some ⟨bS,0,none⟩) n n,.pointer (some ⟨wg,0,none⟩),.int .i64 n]) (is:=[0,3,7,8,9,22,23]) (R:=RS H (.slice x xs.length c) fb sb bS wg n 0) (c:=.block 0 (.loop Qx)) Gw Gx s4
  ⟨(q 0 (by simp)).trans r0,rfl,(q 3 (by simp)).trans r3,rfl,(q 7 (by simp)).trans r7,rfl,(q 8 (by simp)).trans r8,rfl,(q 9 (by simp)).trans r9,rfl,(q 6 (by simp)).trans r6,rfl,trivial⟩ hsz hdf iH (by
   simp only[t4,Tr.wp]
   exact kC.intro zbM rfl rfl rfl rfl ⟨rfl,rfl,rfl,rfl,rfl,rfl,rfl,rfl⟩)).bind ?_
 rintro _ cs H' ⟨rfl,a1,f1,h1,rfl,hsz1,hdf1,hf1,R1,hsub1,hinv1⟩;have A1:=AtL.reach hsz1 hdf1 hf1 rfl R1;obtain⟨_,_,_,_,_,_,_,rfl⟩:=R1;replace cfb:=hsub1 _ _ cfb;replace cbC:=hsub1 _ _ cbC;replace cbS:=hsub1 _ _ cbS;replace csb:=hsub1 _ _ csb;replace cwg:=hsub1 _ _ cwg;replace sH:qaB h H':=fun y o ho=>hsub1 y o (sH y o ho)
 clear iH hinv1 hsub1 hsub hf q hinv hsubh;refine .block (.loop ?_);have hk:b.kind ≠ .early:=by rw[zu];decide
 let Φ:=phP H' wg bC bS n F xs
 have hS:∀y,Φ.S y<->(H' y≠none/\y≠wg/\y≠bC/\y≠bS):=fun y=>fU
 have rest_eq:∀y,Φ.S y->Φ.rest H' y=H' y:=fun y hy=>by
  unfold Ph.rest;rw[vM];rintro(e | e)
  ·exact hy.2.1 e
  ·exact hy.2.2.1 e
 refine .big H' (fun _=>none) (fun fr' cs' h''=>∃a2,AtL a2 (.slice x xs.length c) fb sb bS wg n n/\RL oPP (b.at (a2.put (some 44) (.tuple #[])) [.inRegion (jb 12) [],.code (rP 13)]) cs fr' cs' /\
   h'' bC=some (.cells (Qz F xs n) 38)/\h'' bS=some (.cells (szv n xs.length n) 2)/\∀y,Φ.S y->h'' y=H' y) (xY _).symm (fun y hy=>absurd rfl hy) ?_ ?_
 ·refine⟨Φ,yE n #[.int .u32 0],⟨fun _ _ _ _ h=>h,?_,?_,cwg,cbC,by simp[yE,Φ,phP],fun y hy=>?_,fun y hy=>?_⟩,?_⟩
  ·show n<_;omega
  ·show bC≠wg;omega
  ·have e1:=hi y hy;refine⟨?_,hne y e1⟩;cases e:h y with
   | none=>exact absurd e e1
   | some o=>rw[sH y o e];simp
  ·rw[rest_eq y hy];exact hy.1
  ·refine zbT (Φ:=Φ) (H:=H') (h0:=h) (n:=n) (g:=g) (F:=F) rfl (show bC≠wg by omega) (fun _ _ _ _ h=>h) rfl hx hc hl hn (fun y hy=>hy.1) (fun y o ho=>⟨⟨by rw[sH y o ho];simp,hne y (by rw[ho];simp)⟩,sH y o ho⟩)
    (fun hy=>hy.2.2.2 rfl) ⟨by rw[cfb];simp,by omega,by omega,by omega⟩ ⟨by rw[csb];simp,by omega,by omega,by omega⟩ cfb csb (fun i _=>rfl) (fun h' a' c' ys=>hsum Φ.S h' a' c' ys) hk ?_ n 0 (by omega) a1 _ A1 rest_eq ?_
   ·intro a2 hh A2 hro hbS fr' cs' hB;refine⟨a2,A2,hB,?_,?_,fun y hy=>?_⟩
    ·exact yY
    ·exact(yQ (show bS≠bC by omega)).trans hbS
    ·exact(yQ hy.2.2.1).trans (hro y hy)
   ·unfold Ph.rest;rw[vM (by rintro(e | e);exact absurd (show bS=wg from e) (by omega);exact absurd (show bS=bC from e) (by omega)),cbS,YI]
 ·rintro fr' cs' h2 ⟨a2,A2,hB,e1,e2,e3⟩ _ _;rw[xY];refine hB _ _ _ (.Cz ?_);have A3:=A2.put 44 (.tuple #[]) (.inr (.inr rfl));have i2:Inv (yb oPP s) h2:=fun y hy=>by
   have x1:=hi y hy;cases e:h y with
   | none=>exact absurd e x1
   | some o=>
    have x2:=sH y o e;rw[e3 y ⟨by rw[x2];simp,hne y x1⟩,x2];simp
  have s2:qaB h h2:=fun y o ho=>by
   have x2:=sH y o ho;rw[e3 y ⟨by rw[x2];simp,hne y (by rw[ho];simp)⟩];exact x2
  have csb2:h2 sb=some (.cells #[.slice (some ⟨bC,0,none⟩) n n] 86):=by
   rw[e3 sb ⟨by rw[csb];simp,by omega,by omega,by omega⟩];exact csb
  have ha:Ok (yb oPP s) h2 (fun _=>none):=⟨fun b hb=>absurd rfl hb,i2⟩;rw[<-xY h2];refine VA (cfg:=cP) (f:=yV) (Λ:=yk) (Ks:=[]) Gw Gx zu hfn Tryz.func48 zd4 (rP 13) (FI 47 [(7,.addr),(8,.slice)]) tZ [.pointer (some ⟨sb,0,none⟩),.slice (some ⟨bS,0,none⟩) n n] [] _ _ h2 [] sZ Fx
   (Rel.of ⟨A3.s7,rfl,A3.s8,rfl,trivial⟩ A3.sz A3.df) ha rfl ?_ ⟨?_,?_⟩
  ·simp only[tZ,Tr.wp,Ex.ev,coerce,zd,zi,ze,zj,SV.den,zw,zr,vA,vB,vD,vE,vJ,vI,uA,vY,vL];refine⟨some ⟨bC,0,none⟩,n,n,by simp[zg,Addr.add,csb2],bC,bS,?_,e1,e2,s2⟩;rfl
  ·intro _ _ _ _ _ _ _ h;exact h.elim
  ·intro _ _ _ _ _ _ _ _ h;exact h.elim
end Go.Proofs.YtpodkihpnjhamaaGreatDoor
end
namespace Go.Proofs.YtpodkihpnjhamaaGreatDoor
open Go Go.Eng Go.IntWalk
section
variable {S:Shared}{h:qaA}
section
theorem Lz(hi:qaC S h)(p q n:Int)(hn:0<=n/\n<=1000000) :
  zb oPP S AS #[.int .u32 p,.int .u32 q,.int .i64 n] h (fun v h'=>v=.int .u32 (MQ p q n)/\h'=h):=by
 refine IH (vs:=[.int .u32 p,.int .u32 q,.int .i64 n]) ⟨rfl,rfl,rfl,trivial⟩ hi ?_;simp only[Et,Tr.wp,Ex.ev,coerce,toInt_int,za,j7,zB,arith,Cst.val,SV.den,vA,vB,vO,uA];refine⟨fun c=>?_,fun _=>rfl⟩;simp only[pJ,vO]at c;omega
theorem Pv(xs:List Int){n j:Nat}(hn:n=(xs.length+32767)/32768)(hj:j<n):xs.take (min ((j+1)*32768) xs.length)=xs.take (min (j*32768) xs.length)++partOf xs j:=by
 have e1:min (j*32768) xs.length=j*32768:=by omega
 have h1:j*32768<=min ((j+1)*32768) xs.length:=by omega
 have e2:min ((j+1)*32768) xs.length=j*32768+ki xs.length j:=(Nat.add_sub_cancel' h1).symm;rw[e1,e2,List.take_add];simp only[partOf]
theorem za2{xs:List Int}(hb:okB xs)(j:Nat):okB (partOf xs j):=fun x hx=>by
 unfold partOf at hx;have h1:=lH hx;have h2:=gU h1;exact hb x h2
theorem kU{s:Nat->Prop}(hi:qaC (yb oPP s) h)(c0:Int)(hc0:0<=c0/\c0<4294967296)(a:Option Addr)(c:Nat)(xs:List Int)(hb:okB xs)(hx:zk h .u8 a xs)(hc:xs.length<=c)(hl:xs.length<2^40:=by omega) :
  zb oPP (yb oPP s) xx #[.int .u32 c0,.slice a xs.length c] h (fun v h'=>v=.int .u32 (zX c0 xs)/\qaB h h'):=by
 refine GO (vs:=[.int .u32 c0,.slice a xs.length c]) ⟨rfl,rfl,trivial⟩ hi ?_;simp only[CH,Tr.wp,z8,Ex.ev,coerce,toInt_int,za,zd,zi,ze,zj,yg,zB,arith,Cst.val,SV.den,zq,zK,zz,zm,zl,zw,zY,zr,vF,vG,vA,vB,vC,vT,vO,vU,vD,vE,vJ,vI,vK,uB,uF,uE,uA,uJ,vY,vL];refine⟨fun hle=>?_,fun hgt=>?_⟩
 ·refine(EH hi c0 a c xs hx (by omega)).mono ?_;rintro _ h' ⟨rfl,rfl⟩;exact⟨_,rfl,rfl,fun _ _ h=>h⟩
 ·refine(EH hi c0 none 0 [] (fun i x hx=>by simp at hx) (by simp)).mono ?_;rintro _ h' ⟨rfl,rfl⟩;refine⟨_,rfl,?_⟩;obtain⟨n,hn⟩:∃n,n=(xs.length+32767)/32768:=⟨_,rfl⟩;refine(Gy (g:=49) (F:=zX 1) hi hx hc hl (fun S' h' a' c' ys hi' hx' hl' _=>WB hi' a' c' ys hx' (by omega)) hn).mono ?_;rintro _ h1 ⟨bC,bS,rfl,e1,e2,s1⟩;have i1:qaC (yb oPP s) h1:=fun y hy=>by
   cases e:h' y with
   | none=>exact absurd e (hi y hy)
   | some o=>rw[s1 y o e];simp
  have ok0:=zal hc0;refine⟨_,_,_,_,_,_,rfl,fun us h2=>∃j:Nat,us=[.int .u32 (zX c0 (xs.take (min (j*32768) xs.length))),.int .i64 j]/\j<=n/\h2=h1,fun us _=>n-(toInt (us.getD 1 undef)).toNat,⟨0,by simp,by omega,rfl⟩,?_⟩;rintro x y h2 ⟨j,hx1,hj,rfl⟩;simp only[uQ,uT,pL,uA]at hx1;obtain⟨rfl,rfl⟩:=hx1;refine⟨fun hlt=>?_,fun hge=>?_⟩
  ·have hjn:j<n:=by omega
   have w2:IntKind.i64.wrap ((j:Int)+1)=((j+1:Nat):Int):=z9;have c1:zg h2 (((((some (⟨bC,0,none⟩:Addr)).getD default).add ((j:Int).toNat*1))).add 0)=some (.int .u32 (zX 1 (partOf xs j))):=by
    simp[zp,zg,e1,Qz,hjn]
   have c2:zg h2 (((((some (⟨bS,0,none⟩:Addr)).getD default).add ((j:Int).toNat*1))).add 0)=some (.int .i64 (ki xs.length j)):=by
    simp[zp,zg,e2,szv,hjn]
   refine⟨rfl,by omega,by omega,_,c1,rfl,by omega,by omega,_,c2,?_⟩;have hpl:ki xs.length j<=1000000:=by unfold ki;omega
   refine(Lz i1 _ _ _ ⟨by omega,by omega⟩).mono ?_;rintro _ h3 ⟨rfl,rfl⟩;refine⟨_,rfl,⟨j+1,?_,by omega,rfl⟩,?_⟩
   ·have okt:okB (xs.take (min (j*32768) xs.length)):=fun z hz=>hb z (lH hz)
    have J:=UA (Oq ok0 okt) (za2 hb j) (by rw[wD];exact hpl);rw[wD]at J;rw[w2,Pv xs hn hjn];simp only[uQ,uT,pL,uA];unfold zX at J ⊢;rw[J,List.foldl_append]
   ·simp only[w2,vB,vA,toInt_int,vV];omega
  ·obtain rfl:j=n:=by omega
   refine⟨?_,s1⟩;rw[show min (j*32768) xs.length=xs.length by omega,nI]
end
variable {bm c:Nat}{a:Option Addr}{bs:List Int}{T:TypeId}{x:Int}{h0:qaA}
section
section
structure ErrZ(h:qaA):Prop where
 el:ErrL h
 e4:zg h ⟨2,0,none⟩=some (.int .i64 4)
 e5:zg h ⟨1,0,none⟩=some (.int .i64 5)
theorem ErrZ.sub{h':qaA}(H:ErrZ h)(s:qaB h h'):ErrZ h':=⟨H.el.sub s,xJ s H.e4,xJ s H.e5⟩
theorem zbV{x b:Int}(hx:0<=x/\x<16777216)(hb:0<=b/\b<256):Go.bits .or .u32 (x*256) b=x*256+b:=by
 obtain⟨n,rfl⟩:=vZ hx.1;obtain⟨m,rfl⟩:=vZ hb.1;have e:((n:Int)*256)=((n*256:Nat):Int):=by omega
 have h1:(BitVec.ofInt 32 ((n*256:Nat):Int)).toNat=n*256:=by rw[nH,nT];exact pV (by omega)
 have h2:(BitVec.ofInt 32 (m:Int)).toNat=m:=by rw[nH,nT];exact pV (by omega)
 have e2:=gG (i:=8) (b:=m) (by omega) n;rw[e];show IntKind.u32.wrap ((BitVec.ofInt 32 ((n*256:Nat):Int) ||| BitVec.ofInt 32 (m:Int)).toNat:Int)=_;have e3:n*256=2^8*n:=by omega
 rw[BitVec.toNat_or,h1,h2,e3,<-e2,pN];omega
section
variable {m:MC}
theorem UM(hi:qaC S h0)(G:Errs h0)(hx:zk h0 .u8 a bs)(L:bs.length<=1048576)(p:Nat)(hp:p<=8*bs.length)(n:Nat)(hn:n<=4)(M:MAt h0 h bm a c bs p m T) :
  zb oPP S jL #[.pointer (some ⟨bm,0,none⟩),.int .i64 n] h (fun v h'=>∃p':Nat,p'<=8*bs.length /\
   v=.tuple #[.int .u32 (if(hig bs n ⟨p,0⟩ 0).1.k=0 then(hig bs n ⟨p,0⟩ 0).2 else 0),zG (hig bs n ⟨p,0⟩ 0).1.k]/\((hig bs n ⟨p,0⟩ 0).1.k=0->(hig bs n ⟨p,0⟩ 0).1=⟨p',0⟩)/\h'=upd h bm (zV a c bs p' m T)):=by
 refine HZ (vs:=[.pointer (some ⟨bm,0,none⟩),.int .i64 n]) ⟨rfl,rfl,trivial⟩ (hi.sub M.sb) ?_;simp only[Dy,Tr.wp,z8,Ex.ev,coerce,toInt_int,za,zj,zN,yq,zB,arith,Cst.val,SV.den,zq,zK,zz,zm,zl,zw,zY,vF,vG,vA,vB,vC,vO,vU,vD,vE,vJ,vI,vK,uB,uF,uE,uI,uJ,vY,vL,zp];refine⟨fun us h'=>∃(j p':Nat) (x:Int),us=[.int .u32 x,.int .i64 j]/\j<=n/\p'<=8*bs.length/\0<=x/\x<256^j/\hig bs (n-j) ⟨p',0⟩ x=hig bs n ⟨p,0⟩ 0/\h'=upd h bm (zV a c bs p' m T),fun us _=>n-(toInt (us.getD 1 undef)).toNat,
  ⟨0,p,0,rfl,by omega,hp,by omega,by simp,by simp,(qb M.hb).symm⟩,?_⟩
 rintro x y h' ⟨j,p',x',hx1,hj,hp',g0,g1,e,rfl⟩;simp only[uQ,uT,pL,uA]at hx1;obtain⟨rfl,rfl⟩:=hx1;refine⟨fun hlt=>?_,fun hge=>?_⟩
 ·have hjn:j<n:=by omega
  refine⟨by simp,?_⟩;refine(EC hi G hx L p' hp' 8 (by omega) (M.keep rfl)).mono ?_;rintro _ h2 ⟨rfl,rfl⟩;rw[xe];have nm:=yl (bs:=bs) (n:=8) (r:=⟨(p':Int),0⟩);have e8:(2:Int)^8=256:=by decide
  rw[e8]at nm;have est:hig bs n ⟨p,0⟩ 0=hig bs (n-(j+1)) (tk bs 8 ⟨p',0⟩).1 (256*x+(tk bs 8 ⟨p',0⟩).2):=by
   rw[<-e,show n-j=n-(j+1)+1 by omega];rfl
  have okt:okR bs (tk bs 8 ⟨(p':Int),0⟩).1:=yp fun _=>⟨by simp only;omega,by simp only;omega⟩
  have hpos:∃q:Nat,q<=8*bs.length/\(tk bs 8 ⟨(p':Int),0⟩).1.i=q:=by
   unfold tk;rw[vP rfl];split
   ·exact⟨p',hp',rfl⟩
   ·rename_i h;simp only at h;exact⟨p'+8,by omega,by simp only;omega⟩
  obtain⟨q,hq,eq⟩:=hpos;refine⟨_,zG (tk bs 8 ⟨p',0⟩).1.k,zc,by rw[zc],fun hz=>?_,fun hz=>?_⟩
  ·rw[zc,zy]at hz;have hk:(tk bs 8 ⟨(p':Int),0⟩).1.k≠0:=by simpa using hz
   have eb:(hig bs n ⟨p,0⟩ 0).1=(tk bs 8 ⟨p',0⟩).1:=by rw[est,Gt hk]
   rw[eb];exact⟨q,hq,by rw[vM hk,zc],fun h=>absurd h hk,by rw[eq]⟩
  ·rw[zc,zy]at hz;have hk:(tk bs 8 ⟨(p':Int),0⟩).1.k=0:=by simpa using hz
   have hp3:(256:Int)^j<=256^3:=by
    have:((256^j:Nat):Int)<=((256^3:Nat):Int):=by exact_mod_cast uX (by decide) (show j<=3 by omega)
    simpa using this
   have e3:(256:Int)^3=16777216:=by decide
   have ws:IntKind.u32.wrap (x*2^min (Int.toNat 8) IntKind.u32.bits)=x*256:=by
    rw[show(2:Int)^min (Int.toNat 8) IntKind.u32.bits=256 from rfl,pN];omega
   have wb:IntKind.u32.wrap (tk bs 8 ⟨(p':Int),0⟩).2=(tk bs 8 ⟨(p':Int),0⟩).2:=by rw[pN];omega
   have w2:IntKind.i64.wrap ((j:Int)+1)=((j+1:Nat):Int):=z9;rw[ws,wb,zbV (by omega) nm,w2,eq];have er:(tk bs 8 ⟨(p':Int),0⟩).1=⟨(q:Int),0⟩:=by
    generalize (tk bs 8 ⟨(p':Int),0⟩).1=X at hk eq;obtain⟨i,kk⟩:=X;simp only at hk eq;rw[hk,eq]
   rw[er,mM 256 x]at est;refine⟨⟨j+1,q,_,rfl,by omega,hq,by omega,by rw[mA];omega,est.symm,rfl⟩,by simp only[vB,vA,toInt_int];omega⟩
 ·obtain rfl:j=n:=by omega
  rw[mS]at e;have eh:hig bs j ⟨p,0⟩ 0=(⟨p',0⟩,x):=e.symm;rw[eh];exact⟨p',hp',by simp[zG],fun _=>rfl,rfl⟩
end
end
section
variable {k:KC}{F:Nat}{Fin:Rd × List Int}
theorem RO(hi:qaC S h0)(G:ErrL h0)(hro:k.room<=200000)(hdl:k.dl<=40000)(hsz:1<=k.sz/\k.sz<=32768)(hx:zk h0 .u8 k.a k.bs)(L:k.bs.length<=1048576)(hFl:8*k.bs.length+1<=F){n0:Nat}(H0:BL h0 k F Fin (fnV k yC) h n0) :
  zb oPP S jS #[.pointer (some ⟨k.bm,0,none⟩)] h (R8 h0 k Fin):=by
 refine FA (vs:=[.pointer (some ⟨k.bm,0,none⟩)]) ⟨rfl,trivial⟩ (hi.sub (by obtain⟨_,_,hb,_,_,_,s,H,_⟩:=H0;exact s.trans H.sb)) ?_;simp only[B9,Tr.wp,z8,Ex.ev,coerce,za,zj,zN,yq,SV.den,zq,zK,zz,zm,zl,zw,vF,vG,vA,vB,vD,vE,vJ,vI,vK,uI,vY,vL,zp];refine⟨by simp,by simp,?_⟩;refine zb.mono (zcE hi G hro hdl hsz hx L hFl H0) ?_;rintro _ h3 ⟨hb,last,l,d,rfl,sb,H3,ok3⟩;exact⟨_,zc,by rw[zc],hb,last,l,d,by rw[zc],sb,H3,ok3⟩
end
section
variable {s:Nat -> Prop}
def PF(h0:qaA)(bm:Nat)(a:Option Addr)(c:Nat)(bs:List Int)(T:TypeId)(x:qY)(v:Value)(h':qaA):Prop:=
 ∃(K:Int) (p:Nat) (m:MC) (xs:List Int) (ao:Option Addr) (co:Nat),v=zG K/\h' bm=some (zV a c bs p m T)/\m.out=.slice ao xs.length co/\Part .u8 h' (.slice ao xs.length co) xs/\qaD h0 (.slice ao xs.length co)/\qaB h0 h'/\p<=8*bs.length /\
  (K≠0->x=(K,xs,0,()))/\(K=0->x=(1,xs,((p/8:Nat):Int),()))
theorem Zl{h1:qaA}(hi:qaC (yb oPP s) h)(G:ErrZ h)(hx:zk h .u8 a bs)(L:bs.length<=65536)(p:Nat)(hp:p<=8*bs.length)(hb:h bm=none)(sb:qaB h h1)
  (hm:h1 bm=some (zV a c bs p ⟨.pointer none,.slice none 0 0,100000,false,.pointer none,.pointer none⟩ T))(hx0:0<=x)(hx1:x<65536)(hx7:x/4096<=7){au:Option Addr}{cu:Nat}{us:List Int}(hu:zk h1 .u8 au us)(hcu:us.length<=cu)(hul:us.length<=1048576)(hub:okB us)(Ks:List Kt)(e1 e3:Value) :
  ziE.wp oPP (yb oPP s) yk (PF h bm a c bs T (zA bs (zS x) us ⟨p,0⟩)) [.pointer (some ⟨bm,0,none⟩),e1,.int .u32 x,e3,.slice au us.length cu] h1 Ks:=by
 simp only[ziE,Tr.wp,z8,Ex.ev,coerce,toInt_int,za,zd,zi,ze,zj,zN,yq,zB,arith,Cst.val,SV.den,zq,zK,zz,zm,zl,zw,zr,ye,vF,vG,vA,vB,vO,vD,vE,vJ,vI,vK,uB,uF,uE,uI,uA,uJ,vY,vL,zp];have eS:zS x=2^(x/4096+8).toNat:=by unfold zS;rw[vP hx7]
 have hS1:1<=zS x:=by rw[eS];exact Nat.one_le_two_pow
 have hS2:=Qs hx0;have ws:Int.fdiv x (2^min (Int.toNat 8) IntKind.u32.bits)=x/256:=by rw[show(2:Int)^min (Int.toNat 8) IntKind.u32.bits=256 from rfl,pS _ (by omega)]
 have wq:IntKind.u32.wrap ((x/256).tdiv 16)=x/4096:=by rw[uL (by omega),pN];omega
 have wa:IntKind.u32.wrap (x/4096+8)=x/4096+8:=by rw[pN];omega
 have wz:IntKind.i64.wrap (1*2^min (x/4096+8).toNat IntKind.i64.bits)=((zS x:Nat):Int):=by
  have:IntKind.i64.bits=64:=rfl;rw[eS,Int.one_mul,show min (x/4096+8).toNat IntKind.i64.bits=(x/4096+8).toNat by rw[this];omega,yG];exact i64_in _ (by omega)
 rw[ws,wq,wa,wz];refine⟨by omega,?_⟩;refine zb.mono (Rq (sz:=zS x) (hi.sub sb) au cu us hcu (by omega) hu hS1 hS2) ?_;rintro _ h2 ⟨bw,TW,rfl,RW⟩;obtain⟨dd,at_,nn,hbw,R,s2,hnw⟩:=RW;have ne:bm≠bw:=fun e=>by rw[<-e,hm]at hnw;cases hnw
 have hm2:=s2 _ _ hm;have hsb:¬(yb oPP s) bm:=fun hs=>hi bm hs hb
 obtain⟨_,_,g2,_⟩:=yy hm2;refine⟨_,rfl,by simp,kH hm2 hsb g2,?_⟩;obtain⟨k,hk⟩:∃k:KC,k=⟨a,c,bs,(zZ (zS x) us).length,100000,zS x,T,TW,bm,bw,[]⟩:=⟨_,rfl⟩;obtain⟨h3,hh3⟩:∃h3,h3=upd h2 bm (zV a c bs p ⟨.pointer (some ⟨bw,0,none⟩),.slice none 0 0,100000,false,.pointer none,.pointer none⟩ T):=⟨_,rfl⟩;have es:zJ h2 ⟨bm,2,none⟩ (.pointer (some ⟨bw,0,none⟩))=h3:=by rw[hh3,hset_cells' hm2];rfl
 rw[es];have sb2:=sb.trans s2;have s3:qaB h h3:=by rw[hh3];exact yz sb2 hb
 have hnw0:h bw=none:=zU sb hnw;obtain⟨f1,f2,f3⟩:=Lr (bs:=bs) (us:=us) (r:=⟨(p:Int),0⟩) hS2;have okr:okR bs ⟨(p:Int),0⟩:=fun _=>⟨by simp only;omega,by simp only;omega⟩
 have H0:IM h h3 k ⟨(p:Int),0⟩ (zZ (zS x) us) false (.pointer none) (.pointer none):=by
  subst hk;have ed:(zZ (zS x) us).drop (zZ (zS x) us).length=[]:=List.drop_length;refine⟨⟨p,none,0,hp,fun _=>rfl,?_,?_,?_⟩,⟨dd,at_,nn,?_,by rw[Mj];exact R,s3,hnw0⟩,hb,ne,s3,⟨uN _,fO _ _,by simp⟩⟩
  ·rw[hh3,upd_same];simp only[yX,KC.otl,ed,mS];rfl
  ·simp only[KC.otl,ed,vK];exact Part.nil
  ·intro z hz;simp only[KC.otl,ed]at hz;cases hz
  ·rw[hh3,upd_ne (uW ne)];exact hbw
 have RA:BL h k (8*bs.length+1) (zE bs (zS x) us ⟨(p:Int),0⟩) (fnV k yC) h3 (mz k ⟨(p:Int),0⟩+0):=by
  refine⟨⟨(p:Int),0⟩,zZ (zS x) us,h,false,_,_,fun _ _ e=>e,H0,rfl,by subst hk;exact okr,8*bs.length+1,by subst hk;simp only;omega,.inl ⟨rfl,rfl,?_⟩⟩;subst hk;rfl
 have K:=RO (S:=yb oPP s) hi G.el (by subst hk;simp) (by subst hk;simp only;omega) (by subst hk;simp only;omega) (by subst hk;exact hx) (by subst hk;simp only;omega) (by subst hk;exact uN _) RA;have ebm:k.bm=bm:=by rw[hk]
 rw[ebm]at K;refine zb.mono K ?_;clear K;rintro _ h4 ⟨hb4,last,l,d,rfl,sb4,H4,ok4⟩;have ebs:k.bs=bs:=by rw[hk]
 have ekc:∀p4 m4,zV k.a k.c k.bs p4 m4 k.T=zV a c bs p4 m4 T:=fun p4 m4=>by rw[hk]
 have eotl:k.otl (zE bs (zS x) us ⟨(p:Int),0⟩).2=zO bs (zS x) us ⟨(p:Int),0⟩:=by rw[hk];rfl
 have hO:(zO bs (zS x) us ⟨(p:Int),0⟩).length<=100000:=by unfold zO;rw[pM];omega
 have hOb:=zb4 (bs:=bs) (sz:=zS x) (r:=⟨(p:Int),0⟩) hub;generalize hE:zE bs (zS x) us ⟨(p:Int),0⟩=X at H4 ok4 eotl;obtain⟨xs,hxs⟩:∃xs,xs=zO bs (zS x) us ⟨(p:Int),0⟩:=⟨_,rfl⟩;rw[<-hxs]at eotl hO hOb;refine⟨_,zc,by rw[zc],fun hz=>?_,fun hz=>?_⟩
 ·rw[zc,zy]at hz;have hk1:X.1.k≠0:=by simpa using hz
  obtain⟨p4,ao,co,hp4,hr4,hbm4,P4,N4⟩:=H4.mt;rw[ebm,ekc]at hbm4;rw[eotl]at hbm4 P4 N4;have eA:=zap (bs:=bs) (us:=us) (sz:=zS x) (r:=⟨(p:Int),0⟩) (by rw[hE];exact hk1);rw[hE,<-hxs]at eA;rw[zc];exact⟨X.1.k,p4,_,xs,ao,co,rfl,hbm4,rfl,P4,fun z hz=>zU sb4 (IM.xE N4 hz).2.2,sb4.trans H4.sb,by rw[ebs]at hp4;exact hp4,fun _=>eA,fun h=>absurd h hk1⟩
 ·rw[zc,zy]at hz;have hk1:X.1.k=0:=by simpa using hz
  have hib:=hi.sub sb4;have H4':=H4;rw[show h4=h4 from rfl]at H4';have KA:=Ol hib (by rw[ebs];omega) H4 hk1;rw[ebm]at KA;refine⟨by simp,zb.mono KA ?_⟩;rintro _ h5 ⟨rfl,H5⟩;have oka:okR bs (alg X.1):=BK (by rw[ebs]at ok4;exact ok4);obtain⟨p5,ao,co,hp5,hr5,hbm5,P5,N5⟩:=H5.mt;rw[ebm,ekc]at hbm5;rw[eotl]at hbm5 P5 N5;rw[ebs]at hp5;have hka:(alg X.1).k=0:=by unfold alg;rw[vP hk1]
  have ea:alg X.1=⟨(p5:Int),0⟩:=by
   have:=hr5 hka;generalize alg X.1=Y at hka this;obtain⟨i,kk⟩:=Y;simp only at hka this;rw[hka,this]
  have hnb4:hb4 bm=none:=ebm▸H5.nm;have KB:=UM hib ((G.sub sb4).el.es) (hx.sub sb4) (by omega) p5 hp5 4 (by omega) ⟨hbm5,hnb4,H5.sb⟩;refine⟨rfl,zb.mono KB ?_⟩;rintro _ h6 ⟨p6,hp6,rfl,hr6,rfl⟩;have eT:hig bs 4 ⟨(p5:Int),0⟩ 0=zT bs (zS x) us ⟨(p:Int),0⟩:=by unfold zT;rw[hE,ea]
  rw[eT]at hr6 ⊢;have s56:qaB h (upd h5 bm (zV a c bs p6 (yX k X.2 (.slice ao xs.length co) last l d) T)):=yz (sb4.trans H5.sb) hb;have hm6:upd h5 bm (zV a c bs p6 (yX k X.2 (.slice ao xs.length co) last l d) T) bm=some (zV a c bs p6 (yX k X.2 (.slice ao xs.length co) last l d) T):=upd_same;have P6:Part .u8 (upd h5 bm (zV a c bs p6 (yX k X.2 (.slice ao xs.length co) last l d) T)) (.slice ao xs.length co) xs:=P5.keep fun z hz=>upd_ne (ebm▸(IM.xE N5 hz).1)
  have N6:qaD h (.slice ao xs.length co):=fun z hz=>zU sb4 (IM.xE N5 hz).2.2
  generalize upd h5 bm (zV a c bs p6 (yX k X.2 (.slice ao xs.length co) last l d) T)=h6 at s56 hm6 P6;refine⟨_,_,zc,by rw[zc],fun hz=>?_,fun hz=>?_⟩
  ·rw[zc,zy]at hz;have hkT:(zT bs (zS x) us ⟨(p:Int),0⟩).1.k≠0:=by simpa using hz
   have eA:=zaq (bs:=bs) (us:=us) (sz:=zS x) (r:=⟨(p:Int),0⟩) hkT;rw[<-hxs]at eA;rw[zc];exact⟨_,p6,_,xs,ao,co,rfl,hm6,rfl,P6,N6,s56,hp6,fun _=>eA,fun h=>absurd h hkT⟩
  ·rw[zc,zy]at hz;have hkT:(zT bs (zS x) us ⟨(p:Int),0⟩).1.k=0:=by simpa using hz
   obtain⟨_,_,_,u3,_⟩:=yy hm6;obtain⟨_,_,eo,hco,go⟩:=P6.ints;cases eo
   refine⟨by simp,_,_,_,u3,?_⟩;refine zb.mono (kU (hi.sub s56) 1 ⟨by omega,by omega⟩ ao co xs hOb go hco) ?_;rintro _ h7 ⟨rfl,s7⟩;rw[vP hkT];refine⟨_,rfl,fun hne=>?_,fun heq=>?_⟩
   ·have hne:(zT bs (zS x) us ⟨(p:Int),0⟩).2≠zX 1 xs:=by simpa using hne
    have eA:=zb5 (bs:=bs) (us:=us) (sz:=zS x) (r:=⟨(p:Int),0⟩) hkT (by rw[<-hxs];exact hne);rw[<-hxs]at eA;exact⟨4,(G.sub (s56.trans s7)).e4,4,p6,_,xs,ao,co,rfl,s7 _ _ hm6,rfl,P6.sub s7,N6,s56.trans s7,hp6,fun _=>eA,fun h=>by cases h⟩
   ·have heq:(zT bs (zS x) us ⟨(p:Int),0⟩).2=zX 1 xs:=by simpa using heq
    have eA:=zar (bs:=bs) (us:=us) (sz:=zS x) (r:=⟨(p:Int),0⟩) hkT (by rw[<-hxs];exact heq);rw[<-hxs,hr6 hkT]at eA;exact⟨0,p6,_,xs,ao,co,rfl,s7 _ _ hm6,rfl,P6.sub s7,N6,s56.trans s7,hp6,fun h=>absurd rfl h,fun _=>by rw[eA];rfl⟩
end
end
end
end Go.Proofs.YtpodkihpnjhamaaGreatDoor
section
namespace Go.Proofs.YtpodkihpnjhamaaGreatDoor
open Go Go.Eng Go.ChangeShapes Go.WideShapes Go.ChangeAt Go.RowKit Go.Conc
theorem zcR:oPP.globalNamed "loop.example/s02972/impl.errSum" = some 2:=by kernel_rfl
theorem zbW:oPP.globalNamed "loop.example/s02972/impl.errDict" = some 1:=by kernel_rfl
theorem zbX:(oPP.globals[(2:Nat)]?).map (·.type)=some tCl:=by kernel_rfl
theorem za3:(oPP.globals[(1:Nat)]?).map (·.type)=some tCl:=by kernel_rfl
noncomputable def Nj(os:Os):World:=
 let w0:=Wk os
 let put (g:Nat) (v:Value) (hp:Array Obj):Array Obj:=hp.modify g fun
   | .cells _ t frozen=>.cells #[v] t frozen
   | o=>o
 { w0 with heap:=put 2 (.int .i64 4) (put 1 (.int .i64 5) w0.heap) }
section
variable {H:Type}{enc:TypeId × Value -> H}
theorem Gz{a:Assume}{C:Checked}{os:Os}{f:FuncId}{fn:Func}{s:ChangeSpec}{conds:List PathCond}{apart fresh handsOn again:Bool}{X:World->Array Value->Prop}
  (hX:∀(w w':World) (args:Array Value),w.heap=w'.heap->X w args->X w' args)
  (own:ownKnob C.prog.godebug=none)(started:os.Started)(hfn:C.prog.funcs[f]? = some fn)
  (witness:∃(w:World) (tape:Tape) (i:Input),w.os=os/\(w.forCall tape i).Shaped C.prog/\i.vars=[]/\Input.okWide C.prog (w.forCall tape i) .any w.heap.size f i /\
   ((s.pre enc C.prog fn conds apart (w.forCall tape i).memory i.args/\X (w.forCall tape i).memory i.args)/\sizedMet enc C.prog fn (OpenSpec.ofChange s) apart (w.forCall tape i).memory i.args)/\a.holds C.prog (lone (Frame.enter C.prog f i.args .normal) [] (w.forCall tape i)))
  (runs:∀(W:World) (base:Nat) (args:Array Value) (ds gs:List (DataW H)) (before:List MemPlace),
   (∀(j:Nat) t v,fn.params[j]? = some t->args[j]? = some v->Value.okWide C.prog W .any base t v) ->
   DataW.Whole enc C.prog fn.params.toList s.vars apart W args.toList ds gs before ->
   conds.all (PathCond.test C.prog ⟨fn.params.toList,ds,s.plain.varTypes C.prog,gs⟩)=true ->
   (DataW.weightsEach C.prog (fn.params.toList++s.plain.varTypes C.prog) (ds++gs)).all (· <= reachBytes)=true->X W args ->
   a.holds C.prog (lone (Frame.enter C.prog f args .normal) [] W) ->
   ∃M last o w' t',runNT C.prog (M+1) (solo (G (Frame.enter C.prog f args .normal) []) W) #[]=(.ended o w',t')/\runN C.prog M (solo (G (Frame.enter C.prog f args .normal) []) W)=.next last /\
    step C.prog last=.ended o w'/\Conc.Good C.prog (fun v W'=>s.post enc C.prog fn apart fresh handsOn again W args v W') last o w' t') :
  ReturnsInLeavingWide a C os f .any (fun w args=>(s.pre enc C.prog fn conds apart w args/\X w args)/\sizedMet enc C.prog fn (OpenSpec.ofChange s) apart w args) (s.post enc C.prog fn apart fresh handsOn again):=by
 refine returnsInLeavingWide_of_good own started witness ?_;intro w tape i _ _ _ hok hpre hholds;obtain⟨_,_,_,fn',hfn',_,_,_,_,hval⟩:=hok;have e:fn'=fn:=pT (hfn'.symm.trans hfn);subst e;obtain⟨⟨⟨ds,gs,before,hw,hc⟩,hx⟩,hz⟩:=hpre;have hw':=DataW.Whole.of_heap (w':=w.forCall tape i) (by rfl) hw;obtain⟨M,last,o,w',t',h1,h2,h3,h4⟩:=runs (w.forCall tape i) w.heap.size i.args ds gs before hval hw' hc (hz.weights hw) (hX _ _ _ (by rfl) hx) hholds;exact⟨M,last,o,w',t',h1,h2,h3,h4.mono fun v hp=>ChangeSpec.post_blind hp⟩
end
theorem Nk(Lk:Looks){p:Pinned}{s:OpenSpec}{c:OpenClaim}(kinds:List LaidKind)(tests:Bool)(har:Bool×String)(lk:Bool)
  (hc:c.holds p s)(hw:c.wfByText s=true)(htie:c.laidByTextAt Lk p kinds tests)
  (hst:c.start=.entering)(hnb:c.noBlocks=false/\c.again=false)(hm:p.checked.prog.mainIs=some (har.1,har.2.toList))(hn:(!har.1&&har.2.isEmpty && !lk)=false)
  (hl:∀f fn,p.checked.prog.funcNamed c.func=some f->p.checked.prog.funcs[f]? = some fn->lk=p.checked.prog.looks []/\∀(j:Nat) t,fn.params[j]? = some t->p.checked.prog.wantsStandIn t=false)
  (hg:true=c.goesBy p.checked.prog) :
  Claim7.holds p (.plain s) { stood:={ row:=c,standIns:=[],harness:=har,looks:=lk },kinds:=[],alts:=[],laidByText:=true,laidKinds:=kinds,laidTests:=tests,laidLooks:=Lk,goes:=true }:=by
 have h6:∀r:OpenClaim,Claim7.isSixth { stood:={ row:=r,standIns:=[],harness:=har,looks:=lk },kinds:=[] }=false:=fun r=>by simpa[Claim7.isSixth]using hn
 refine⟨?_,fun D hD=>(by cases hD),htie,(fun h=>by cases h),hg⟩;exact Claim7.tied_new_at Lk kinds tests (Claim7.new_of_sixth hc har lk hst hnb hm (h6 c) hl) hw
end Go.Proofs.YtpodkihpnjhamaaGreatDoor
end
namespace Go.Proofs.YtpodkihpnjhamaaGreatDoor
open Go Go.Eng Go.IntWalk
section
variable {x:Int}
section
def stB(c:BitVec 32):BitVec 32:=if c.getLsbD 0 then(c >>> 1) ^^^ 0xedb88320#32 else c >>> 1
def itB:Nat->BitVec 32->BitVec 32
 | 0,c=>c
 | n+1,c=>itB n (stB c)
def byB(c:BitVec 32)(x:Int):BitVec 32:=itB 8 (c ^^^ BitVec.ofInt 32 x)
def x8(c:BitVec 32)(xs:List Int):BitVec 32 := ~~~ (xs.foldl byB (~~~ c))
theorem za4(a b:BitVec 32):stB (a ^^^ b)=stB a ^^^ stB b:=by
 unfold stB;rw[BitVec.getLsbD_xor,BitVec.ushiftRight_xor_distrib];generalize a >>> 1=u;generalize b >>> 1=v;generalize 3988292384#32=k;cases a.getLsbD 0 <;> cases b.getLsbD 0 <;> simp only[Bool.xor_false,Bool.xor_true,fW,Bool.not_false,uJ,vY,vL]
 ·rw[lD]
 ·rw[lD,lD,BitVec.xor_comm v]
 ·rw[lD u k,<-lD k v k,BitVec.xor_comm k v,lD v k k,BitVec.xor_self,BitVec.xor_zero]
theorem O0:∀(n:Nat) (a b:BitVec 32),itB n (a ^^^ b)=itB n a ^^^ itB n b
 | 0,_,_=>rfl
 | n+1,a,b=>by simp only[itB];rw[za4,O0 n]
theorem O7:∀(n m:Nat) (a:BitVec 32),itB (n+m) a=itB m (itB n a)
 | 0,m,a=>by simp[itB]
 | n+1,m,a=>by rw[show n+1+m=(n+m)+1 by omega];simp only[itB];rw[O7 n m]
theorem EK(n:Nat)(a:BitVec 32):itB (n+1) a=stB (itB n a):=by rw[O7 n 1];rfl
theorem WL:∀(n:Nat) (a:BitVec 32),(∀i,i<n->a.getLsbD i=false)->itB n a=a >>> n
 | 0,a,_=>by simp[itB]
 | n+1,a,h=>by
  have h0:=h 0 (by omega);simp only[itB];have e:stB a=a >>> 1:=by unfold stB;rw[h0];rfl
  rw[e,WL n _ (fun i hi=>by rw[lM];exact h (1+i) (by omega)),<-BitVec.shiftRight_add];congr 1;omega
theorem Pw(c:BitVec 32)(x:Int)(hx:0<=x/\x<256):(c >>> 8) ^^^ itB 8 ((c &&& 255#32) ^^^ BitVec.ofInt 32 x)=byB c x:=by
 unfold byB;have e:c=((c >>> 8) <<< 8) ^^^ (c &&& 255#32):=by
  refine BitVec.eq_of_getLsbD_eq fun i hi=>?_
  rw[BitVec.getLsbD_xor,BitVec.getLsbD_shiftLeft,lM,BitVec.getLsbD_and];have h255:(255#32).getLsbD i=decide (i<8):=by
   have:∀i:Fin 32,(255#32).getLsbD i.1=decide (i.1<8):=by decide
   exact this ⟨i,hi⟩
  rw[h255];by_cases h8:i<8
  ·simp[h8,hi]
  ·simp[h8,hi,show 8+(i-8)=i by omega]
 have e2:itB 8 (c ^^^ BitVec.ofInt 32 x)=itB 8 (((c >>> 8) <<< 8) ^^^ ((c &&& 255#32) ^^^ BitVec.ofInt 32 x)):=by
  rw[<-lD,<-e]
 rw[e2,O0 8 ((c >>> 8) <<< 8),WL 8 ((c >>> 8) <<< 8) (fun i hi=>by rw[BitVec.getLsbD_shiftLeft];simp[hi])];congr 1;refine BitVec.eq_of_getLsbD_eq fun i hi=>?_
 rw[lM,lM,BitVec.getLsbD_shiftLeft,lM];by_cases h:8+i<32
 ·simp[h]
 ·simp[h];exact BitVec.getLsbD_of_ge _ _ (by omega)
theorem za5(a d:BitVec 32)(x:Int):byB (a ^^^ d) x=byB a x ^^^ itB 8 d:=by
 unfold byB;rw[lD,BitVec.xor_comm d,<-lD,O0]
theorem RP:∀(ys:List Int) (a d:BitVec 32),ys.foldl byB (a ^^^ d)=ys.foldl byB a ^^^ itB (8*ys.length) d
 | [],a,d=>rfl
 | y::ys,a,d=>by
  rw[List.foldl_cons,za5,RP ys,List.foldl_cons,uB,show 8*(ys.length+1)=8+8*ys.length by omega,O7]
theorem YM(c:BitVec 32)(xs ys:List Int):x8 (x8 c xs) ys=x8 c (xs++ys):=by
 unfold x8;rw[List.foldl_append,BitVec.not_not]
theorem SI(c:BitVec 32)(ys:List Int):itB (8*ys.length) c ^^^ x8 0#32 ys=x8 c ys:=by
 unfold x8;have e : ~~~ c = ~~~ (0#32) ^^^ c:=by
  rw[show ~~~ (0#32)=BitVec.allOnes 32 by decide,BitVec.allOnes_xor]
 rw[e,RP];refine BitVec.eq_of_getLsbD_eq fun i hi=>?_
 simp only[BitVec.getLsbD_xor,BitVec.getLsbD_not,hi,decide_true,Bool.true_and];cases (itB (8*ys.length) c).getLsbD i <;> cases ((ys.foldl byB (~~~ 0#32)).getLsbD i) <;> rfl
theorem Jk(b:BitVec 32):BitVec.ofInt 32 (b.toNat:Int)=b:=by
 rw[nH,BitVec.ofNat_toNat,BitVec.setWidth_eq]
theorem zcS(b:BitVec 32):(0:Int)<=b.toNat/\(b.toNat:Int)<4294967296:=by have:=b.isLt;omega
theorem JQ(b:BitVec 32):IntKind.u32.wrap (b.toNat:Int)=b.toNat:=by have:=b.isLt;rw[pN];omega
theorem Jl(a b:BitVec 32):Go.bits .xor .u32 (a.toNat:Int) (b.toNat:Int)=((a ^^^ b).toNat:Int):=by
 show IntKind.u32.wrap ((BitVec.ofInt 32 (a.toNat:Int) ^^^ BitVec.ofInt 32 (b.toNat:Int)).toNat:Int)=_;rw[Jk,Jk,JQ]
theorem xor_bv'(a:BitVec 32)(x:Int):Go.bits .xor .u32 (a.toNat:Int) x=((a ^^^ BitVec.ofInt 32 x).toNat:Int):=by
 show IntKind.u32.wrap ((BitVec.ofInt 32 (a.toNat:Int) ^^^ BitVec.ofInt 32 x).toNat:Int)=_;rw[Jk,JQ]
theorem G0(a:BitVec 32):Go.bits .xor .u32 (4294967295:Int) (a.toNat:Int)=((~~~ a).toNat:Int):=by
 show IntKind.u32.wrap ((BitVec.ofInt 32 (4294967295:Int) ^^^ BitVec.ofInt 32 (a.toNat:Int)).toNat:Int)=_;rw[Jk,JQ,show BitVec.ofInt 32 (4294967295:Int)=BitVec.allOnes 32 by decide,BitVec.allOnes_xor]
theorem Nl(a:BitVec 32)(k:Nat):Int.fdiv (a.toNat:Int) (2^k)=((a >>> k).toNat:Int):=by
 rw[pS _ (by exact_mod_cast lE _),BitVec.toNat_ushiftRight,Nat.shiftRight_eq_div_pow]
 push_cast;rfl
theorem Nm(a:BitVec 32):a.getLsbD 0=decide (a.toNat%2=1):=by
 rw[BitVec.getLsbD,Nat.testBit_zero]
theorem za6(a:BitVec 32):Go.bits .and .u32 (a.toNat:Int) 1=((a.toNat%2:Nat):Int):=by
 show IntKind.u32.wrap ((BitVec.ofInt 32 (a.toNat:Int) &&& BitVec.ofInt 32 1).toNat:Int)=_;rw[Jk,JQ,gV,show(BitVec.ofInt 32 1).toNat=1 by decide,Nat.and_one_is_mod]
theorem WM(c:BitVec 32)(hx:0<=x/\x<256):Go.bits .xor .u8 (IntKind.u8.wrap (c.toNat:Int)) x=(((c &&& 255#32) ^^^ BitVec.ofInt 32 x).toNat:Int)/\((c &&& 255#32) ^^^ BitVec.ofInt 32 x).toNat<256:=by
 obtain⟨n,rfl⟩:=vZ hx.1;have hn:n<256:=by omega
 have h1:(c &&& 255#32).toNat=c.toNat%256:=by
  rw[gV,show(255#32).toNat=2^8-1 by decide,Nat.and_two_pow_sub_one_eq_mod]
 have h2:(BitVec.ofInt 32 (n:Int)).toNat=n:=by rw[nH,nT,pV (by omega)]
 have h3:((c &&& 255#32) ^^^ BitVec.ofInt 32 (n:Int)).toNat<256:=by
  rw[BitVec.toNat_xor,h1,h2];exact Nat.xor_lt_two_pow (n:=8) (by omega) hn
 refine⟨?_,h3⟩;have w1:IntKind.u8.wrap (c.toNat:Int)=((c.toNat%256:Nat):Int):=by rw[pG];omega
 show IntKind.u8.wrap ((BitVec.ofInt 8 (IntKind.u8.wrap (c.toNat:Int)) ^^^ BitVec.ofInt 8 (n:Int)).toNat:Int)=_;rw[w1,nH,nH,BitVec.toNat_xor,nT,nT,BitVec.toNat_xor,h1,h2,pV (show c.toNat%256<2^8 by omega),pV (show n<2^8 by omega)];rw[BitVec.toNat_xor,h1,h2]at h3;rw[pG];omega
end
variable {r:Rd}{bs:List Int}
section
def k8(xs:List Int):Int:=((x8 0#32 xs).toNat:Int)
def byL(bs:List Int):Nat->Rd->List Int->Rd×List Int
 | 0,r,acc=>(r,acc)
 | n+1,r,acc=>if r.k=0 then(if(tk bs 8 r).1.k=0 then byL bs n (tk bs 8 r).1 (acc++[(tk bs 8 r).2])else((tk bs 8 r).1,acc))else(r,acc)
def txL(bs:List Int):Nat->Rd->List Int->Rd×List Int
 | 0,r,acc=>(r,acc)
 | f+1,r,acc=>if r.k=0 then(if(tk bs 8 r).2=0 then((tk bs 8 r).1,acc)else txL bs f (tk bs 8 r).1 (acc++[(tk bs 8 r).2]))else(r,acc)
def gh1(bs:List Int)(r:Rd):Rd:=bd ((tk bs 8 r).2 != 31) (tk bs 8 r).1
def gh2(bs:List Int)(r:Rd):Rd:=bd ((tk bs 8 (gh1 bs r)).2 != 139) (tk bs 8 (gh1 bs r)).1
def gh3(bs:List Int)(r:Rd):Rd:=bd ((tk bs 8 (gh2 bs r)).2 != 8) (tk bs 8 (gh2 bs r)).1
def gFl(bs:List Int)(r:Rd):Int:=(tk bs 8 (gh3 bs r)).2
def gh4(bs:List Int)(r:Rd):Rd:=bd (decide (31<gFl bs r)) (tk bs 8 (gh3 bs r)).1
def gMt(bs:List Int)(r:Rd):Rd×Int:=tk bs 32 (gh4 bs r)
def gXf(bs:List Int)(r:Rd):Rd×Int:=tk bs 8 (gMt bs r).1
def gOs(bs:List Int)(r:Rd):Rd×Int:=tk bs 8 (gXf bs r).1
def gEx(bs:List Int)(r:Rd):Rd×List Int:=if gFl bs r/4%2=1 then byL bs (tk bs 16 (gOs bs r).1).2.toNat (tk bs 16 (gOs bs r).1).1 []else((gOs bs r).1,[])
def gNa(bs:List Int)(r:Rd):Rd×List Int:=if gFl bs r/8%2=1 then txL bs (bs.length+1) (gEx bs r).1 []else((gEx bs r).1,[])
def gCo(bs:List Int)(r:Rd):Rd×List Int:=if gFl bs r/16%2=1 then txL bs (bs.length+1) (gNa bs r).1 []else((gNa bs r).1,[])
def gHb(bs:List Int)(r:Rd):List Int:=(bs.take ((gCo bs r).1.i/8).toNat).drop (r.i/8).toNat
def gHd(bs:List Int)(r:Rd):Rd:=
 if gFl bs r/2%2=1/\(gCo bs r).1.k=0 then bdK 4 ((tk bs 16 (gCo bs r).1).2 != k8 (gHb bs r)%65536) (tk bs 16 (gCo bs r).1).1 else(gCo bs r).1
def gSt(bs:List Int)(told:Nat)(r:Rd):Rd×List Int:=blF bs 0 (100000-told) 32768 (8*bs.length+1) (8*bs.length+1) (gHd bs r) []
def gT1(bs:List Int)(told:Nat)(r:Rd):Rd×Int:=tk bs 32 (alg (gSt bs told r).1)
def gC1(bs:List Int)(told:Nat)(r:Rd):Rd:=bdK 4 ((gT1 bs told r).2 != k8 (gSt bs told r).2) (gT1 bs told r).1
def gT2(bs:List Int)(told:Nat)(r:Rd):Rd×Int:=tk bs 32 (gC1 bs told r)
def gC2(bs:List Int)(told:Nat)(r:Rd):Rd:=bdK 4 ((gT2 bs told r).2 != ((gSt bs told r).2.length:Int)) (gT2 bs told r).1
abbrev GM:=Int×Int×Int×Int×List Int×List Int×List Int×Int
def qA(bs:List Int)(told:Nat)(r:Rd):GM:=(gFl bs r,(gMt bs r).2,(gXf bs r).2,(gOs bs r).2,(gEx bs r).2,(gNa bs r).2,(gCo bs r).2,((gSt bs told r).2.length:Int))
def gZ(bs:List Int):Nat->Rd->List Int->List GM->Rd×List Int×List GM
 | 0,r,out,ms=>(r,out,ms)
 | f+1,r,out,ms=>if r.k=0/\(r.i<8*(bs.length:Int)\/ms=[])then
   gZ bs f (gC2 bs out.length r) (out++(gSt bs out.length r).2) (if(gC2 bs out.length r).k=0 then ms++[qA bs out.length r]else ms)
  else(r,out,ms)
def qf(bs:List Int):Rd×List Int×List GM:=gZ bs (bs.length+2) ⟨0,0⟩ [] []
section
theorem WN:∀ {n:Nat} {r:Rd} {acc:List Int},okR bs r->okR bs (byL bs n r acc).1
 | 0,r,acc,H=>H
 | n+1,r,acc,H=>by
  unfold byL;split
  ·split
   ·exact WN (yp H)
   ·exact yp H
  ·exact H
theorem RQ:∀ {n:Nat} {r:Rd} {acc:List Int},okR bs r->okR bs (txL bs n r acc).1
 | 0,r,acc,H=>H
 | n+1,r,acc,H=>by
  unfold txL;split
  ·split
   ·exact yp H
   ·exact RQ (yp H)
  ·exact H
theorem WO(H:okR bs r):okR bs (gh1 bs r):=jU (yp H)
theorem WQ(H:okR bs r):okR bs (gh2 bs r):=jU (yp (WO H))
theorem WR(H:okR bs r):okR bs (gh3 bs r):=jU (yp (WQ H))
theorem WT(H:okR bs r):okR bs (gh4 bs r):=jU (yp (WR H))
theorem WU(H:okR bs r):okR bs (gMt bs r).1:=yp (WT H)
theorem WV(H:okR bs r):okR bs (gXf bs r).1:=yp (WU H)
theorem Nn(H:okR bs r):okR bs (gOs bs r).1:=yp (WV H)
theorem RR(H:okR bs r):okR bs (gEx bs r).1:=by
 unfold gEx;split
 ·exact WN (yp (Nn H))
 ·exact Nn H
theorem RU(H:okR bs r):okR bs (gNa bs r).1:=by
 unfold gNa;split
 ·exact RQ (RR H)
 ·exact RR H
theorem RV(H:okR bs r):okR bs (gCo bs r).1:=by
 unfold gCo;split
 ·exact RQ (RU H)
 ·exact RU H
theorem No(H:okR bs r):okR bs (gHd bs r):=by
 unfold gHd;split
 ·exact EI (by decide) (yp (RV H))
 ·exact RV H
theorem G6:0<=gFl bs r/\gFl bs r<256:=by
 have:=yl (bs:=bs) (n:=8) (r:=gh3 bs r);have e8:(2:Int)^8=256:=by decide
 rw[e8]at this;exact this
end
end
variable {xs:List Int}{i:Nat}{S:Shared}{h:qaA}
section
def bvI(b:BitVec 32):Value:=.int .u32 b.toNat
theorem Cy(hi:qaC S h)(b:BitVec 32):zb oPP S A9 #[bvI b] h (fun v h'=>v=bvI (stB b)/\h'=h):=by
 refine PX (vs:=[bvI b]) ⟨rfl,trivial⟩ hi ?_;simp only[Kw,bvI,Tr.wp,Ex.ev,coerce,toInt_int,za,zB,arith,Cst.val,SV.den,vA,uA];have e1:∀x:Int,Int.fdiv x (2^(min (1:Int).toNat IntKind.u32.bits))=Int.fdiv x (2^1):=fun x=>rfl
 rw[za6];refine⟨fun c=>?_,fun c=>?_⟩
 ·have hb:b.getLsbD 0=true:=by rw[Nm];simp at c ⊢;omega
  rw[e1,Nl,show(3988292384:Int)=((3988292384#32).toNat:Int) by decide,Jl];unfold stB;rw[hb];rfl
 ·have hb:b.getLsbD 0=false:=by rw[Nm];simp at c ⊢;omega
  rw[e1,Nl];unfold stB;rw[hb];rfl
theorem Qc(hi:qaC S h)(b:BitVec 32):zb oPP S Df #[bvI b] h (fun v h'=>v=bvI (stB b)/\h'=h):=by
 refine M5 (vs:=[bvI b]) ⟨rfl,trivial⟩ hi ?_;simp only[HP,bvI,Tr.wp,Ex.ev,coerce,toInt_int,za,zB,arith,Cst.val,SV.den,vA,uA];have hlt:=zcS b;have e1:(b.toNat:Int).tmod 2=(b.toNat:Int)%2:=uG (by omega);have e2:IntKind.u32.wrap ((b.toNat:Int).tdiv 2)=((b >>> 1).toNat:Int):=by
  rw[uL (by omega),pN,BitVec.toNat_ushiftRight,Nat.shiftRight_eq_div_pow];omega
 rw[e1,e2];refine⟨fun c=>?_,fun c=>?_⟩
 ·have hb:b.getLsbD 0=true:=by rw[Nm];simp at c ⊢;omega
  rw[show(3988292384:Int)=((3988292384#32).toNat:Int) by decide,Jl];unfold stB;rw[hb];rfl
 ·have hb:b.getLsbD 0=false:=by rw[Nm];simp at c ⊢;omega
  unfold stB;rw[hb];rfl
theorem L0(c:BitVec 32)(hi:i<xs.length):(xs.take (i+1)).foldl byB c=itB 8 ((xs.take i).foldl byB c ^^^ BitVec.ofInt 32 xs[i]):=Da byB c hi
theorem Jm(hx:0<=x/\x<256):IntKind.u32.wrap x=x:=by rw[pN];omega
theorem ju(hi:qaC S h)(b:BitVec 32)(a:Option Addr)(c:Nat)(xs:List Int)(hx:zk h .u8 a xs)(hb:∀x∈xs,0<=x/\x<256)(hl:xs.length<=2^48) :
  zb oPP S xw #[bvI b,.slice a xs.length c] h (fun v h'=>v=bvI (x8 b xs)/\h'=h):=by
 refine IK (vs:=[bvI b,.slice a xs.length c]) ⟨rfl,rfl,trivial⟩ hi ?_;simp only[Ev,bvI,Tr.wp,z8,Ex.ev,coerce,toInt_int,za,zd,zi,ze,zj,yg,zB,arith,Cst.val,SV.den,zq,zK,zz,zm,zl,zw,zY,zr,vF,vG,vA,vB,vC,vT,vO,vU,vD,vE,vJ,vI,vK,uA,vY,vL,G0];refine⟨fun us h'=>∃i:Nat,us=[bvI ((xs.take i).foldl byB (~~~ b)),.int .i64 i]/\i<=xs.length/\h'=h,
  fun us _=>xs.length-(toInt (us.getD 1 undef)).toNat,⟨0,rfl,by omega,rfl⟩,?_⟩
 rintro x y h' ⟨i,hx1,hi2,rfl⟩;simp only[bvI,uQ,uT,pL,uA]at hx1;obtain⟨rfl,rfl⟩:=hx1;refine⟨fun hlt=>?_,fun hge=>?_⟩
 ·have hi3:i<xs.length:=by omega
  have hbi:=hb _ (pQ hi3);obtain⟨g1,g2⟩:=hx.cell (vQ hi3);have w2:IntKind.i64.wrap ((i:Int)+1)=((i+1:Nat):Int):=z9;refine⟨by simpa using g2,by omega,by omega,xs[i],by simpa[add_add]using g1,?_⟩;rw[Jm hbi,xor_bv'];refine⟨fun us h2=>∃k:Nat,us=[bvI (itB k ((xs.take i).foldl byB (~~~ b) ^^^ BitVec.ofInt 32 xs[i])),.int .i64 k]/\k<=8/\h2=h',
   fun us _=>8-(toInt (us.getD 1 undef)).toNat,⟨0,rfl,by omega,rfl⟩,?_⟩
  rintro x y h2 ⟨k,hx1,hk,rfl⟩;simp only[bvI,uQ,uT,pL,uA]at hx1;obtain⟨rfl,rfl⟩:=hx1;refine⟨fun hlt2=>?_,fun hge=>?_⟩
  ·refine(Qc hi _).mono ?_;rintro _ h3 ⟨rfl,rfl⟩;have w3:IntKind.i64.wrap ((k:Int)+1)=((k+1:Nat):Int):=z9;refine⟨_,rfl,⟨k+1,?_,by omega,rfl⟩,?_⟩
   ·rw[w3,EK];rfl
   ·simp only[w3,vB,vA,toInt_int,vV];omega
  ·obtain rfl:k=8:=by omega
   refine⟨⟨i+1,?_,by omega,rfl⟩,?_⟩
   ·rw[w2,L0 _ hi3];rfl
   ·simp only[w2,vB,vA,toInt_int,vV];omega
 ·obtain rfl:i=xs.length:=by omega
  refine⟨?_,rfl⟩;rw[nI,G0];rfl
end
variable {b j n:Nat}{T:TypeId}{h0:qaA}
section
def k9(i:Nat):List Int:=(List.range 256).map fun j=>if j<i then((itB 8 (BitVec.ofNat 32 j)).toNat:Int)else 0
theorem RX(i:Nat):(k9 i).length=256:=by simp[k9]
theorem WW:k9 0=List.replicate 256 0:=by
 refine nW fun j=>?_
 unfold k9;rw[uY,nN];by_cases h:j<256
 ·simp[h]
 ·simp[h]
theorem WX(hi:i<256):(k9 i).set i ((itB 8 (BitVec.ofNat 32 i)).toNat:Int)=k9 (i+1):=by
 refine nW fun j=>?_
 rw[pU];unfold k9;simp only[List.length_map,List.length_range,uY];by_cases h:i=j
 ·subst h;simp[hi]
 ·simp only[h,vY];by_cases hj:j<256
  ·have:(j<i)<->(j<i+1):=by omega
   simp[hj,this]
  ·simp[hj]
theorem YN(hj:j<256):(k9 256)[j]? = some ((itB 8 (BitVec.ofNat 32 j)).toNat:Int):=by
 unfold k9;simp[hj]
theorem zbY{k:IntKind}{vs:List Value}{K:qaA->Prop}(hb:h0 b=some (.cells (Eng.ints k (List.replicate n 0)) T))(hs:¬S b)(e:vs=(List.replicate n 0).map (Value.int k))(hK:K h0) :
  ye S ⟨b,0,none⟩ 0 vs h0 K:=by
 subst e;refine qc hs (List.replicate n 0) 0 h0 (List.replicate n 0) hb (by simp) ?_;have:jy (List.replicate n (0:Int)) (0+0) (List.replicate n 0)=List.replicate n 0:=by simp[jy]
 rw[this,qb hb];exact hK
theorem Np(hi:qaC S h)(b0:BitVec 32)(a:Option Addr)(c:Nat)(xs:List Int)(hx:zk h .u8 a xs)(hb:∀x∈xs,0<=x/\x<256)(hl:xs.length<=2^48) :
  zb oPP S D9 #[bvI b0,.slice a xs.length c] h (fun v h'=>v=bvI (x8 b0 xs)/\qaB h h'):=by
 refine QZ (vs:=[bvI b0,.slice a xs.length c]) ⟨rfl,rfl,trivial⟩ hi ?_;unfold M6;refine fun b hnb=>?_
 have hsb:¬S b:=Bo hi hnb;have eb:yF [bvI b0,.slice a xs.length c] [(256,(.cst (.int .u32 0)))]=(List.replicate 256 (0:Int)).map (Value.int .u32):=by
  simp[yF,Ex.ev,Cst.val]
 rw[eb];refine zbY (k:=.u32) (n:=256) (b:=b) upd_same hsb (by rfl) ?_;have s0:∀o,qaB h (upd h b o):=fun o=>Sub.zx hnb
 have hread:∀i,zk (upd h b (.cells (Eng.ints .u32 (k9 i)) 135)) .u8 a xs:=fun i=>hx.upd hnb
 have hinv:∀i,qaC S (upd h b (.cells (Eng.ints .u32 (k9 i)) 135)):=fun i=>hi.upd
 have gen:∀q:BitVec 32,q.toNat<256->zg (upd h b (.cells (Eng.ints .u32 (k9 256)) 135)) (((⟨b,0,none⟩:Addr).add ((q.toNat:Int).toNat*1)).add 0)=some (.int .u32 ((itB 8 (BitVec.ofNat 32 q.toNat)).toNat:Int)):=fun q hq=>by
  have g3:=YN hq;generalize ((itB 8 (BitVec.ofNat 32 q.toNat)).toNat:Int)=e at g3 ⊢;rw[add_add,y9];simp[zg,upd_same,Eng.ints,g3]
 have ez:upd h b (.cells (List.map (Value.int .u32) (List.replicate 256 0)).toArray 135)=upd h b (.cells (Eng.ints .u32 (k9 0)) 135):=by rw[WW];rfl
 simp only[Tr.wp,z8,Ex.ev,coerce,toInt_int,za,zd,zi,ze,zj,yg,zB,arith,Cst.val,SV.den,zq,zK,zz,zm,zl,zw,zY,zr,vF,vG,vA,vB,vC,vT,vO,vU,vD,vE,vJ,vI,vK,uA,vY,vL];refine⟨fun h64=>⟨fun us h'=>∃i:Nat,us=[.int .i64 i]/\i<=256/\h'=upd h b (.cells (Eng.ints .u32 (k9 i)) 135),fun us _=>256-(toInt (us.getD 0 undef)).toNat,⟨0,rfl,by omega,ez⟩,?_⟩,fun hlt _=>?_⟩
 ·rintro x h' ⟨j,hx1,hi2,rfl⟩;simp only[uQ,uT,pL,uA]at hx1;subst hx1;refine⟨fun hlt=>?_,fun hge _=>?_⟩
  ·have hi3:j<256:=by omega
   have w0:IntKind.u32.wrap (j:Int)=((BitVec.ofNat 32 j).toNat:Int):=by rw[pN,nT];omega
   rw[w0];have w2:IntKind.i64.wrap ((j:Int)+1)=((j+1:Nat):Int):=z9;refine⟨fun us h2=>∃k:Nat,us=[bvI (itB k (BitVec.ofNat 32 j)),.int .i64 k]/\k<=8/\h2=upd h b (.cells (Eng.ints .u32 (k9 j)) 135),
    fun us _=>8-(toInt (us.getD 1 undef)).toNat,⟨0,rfl,by omega,rfl⟩,?_⟩
   rintro x y h2 ⟨k,hx1,hk,rfl⟩;simp only[bvI,uQ,uT,pL,uA]at hx1;obtain⟨rfl,rfl⟩:=hx1;refine⟨fun hlt2=>?_,fun hge=>?_⟩
   ·refine(Cy (hinv j) _).mono ?_;rintro _ h3 ⟨rfl,rfl⟩;have w3:IntKind.i64.wrap ((k:Int)+1)=((k+1:Nat):Int):=z9;refine⟨_,rfl,⟨k+1,?_,by omega,rfl⟩,?_⟩
    ·rw[w3,EK];rfl
    ·simp only[w3,vB,vA,toInt_int,vV];omega
   ·obtain rfl:k=8:=by omega
    refine⟨by omega,by omega,?_⟩;rw[y9];refine qc (T:=135) (k:=.u32) hsb [((itB 8 (BitVec.ofNat 32 j)).toNat:Int)] 0 _ (k9 j) upd_same (by simp[RX];omega) ?_;rw[xe];have es:jy (k9 j) ((j:Int).toNat*1+0) [((itB 8 (BitVec.ofNat 32 j)).toNat:Int)]=k9 (j+1):=by
     rw[<-WX hi3,show(j:Int).toNat*1+0=j by omega];unfold jy;rw[lJ,vP (by rw[RX];exact hi3)];simp
    rw[es,w2];refine⟨⟨j+1,rfl,by omega,rfl⟩,?_⟩;simp only[vA,toInt_int,vV];omega
  ·have hj:64<=xs.length->j=256:=fun _=>by omega
   refine⟨fun us h'=>∃i:Nat,us=[bvI ((xs.take i).foldl byB (~~~ b0)),.int .i64 i]/\i<=xs.length/\h'=upd h b (.cells (Eng.ints .u32 (k9 j)) 135),
    fun us _=>xs.length-(toInt (us.getD 1 undef)).toNat,⟨0,by simp only[bvI,toInt_int,G0];rfl,by omega,rfl⟩,?_⟩
   rintro x y h' ⟨i,hx1,hi2,rfl⟩;simp only[bvI,uQ,uT,pL,uA]at hx1;obtain⟨rfl,rfl⟩:=hx1;refine⟨fun hlt=>?_,fun hge=>?_⟩
   ·have hi3:i<xs.length:=by omega
    have hbi:=hb _ (pQ hi3);obtain⟨g1,g2⟩:=(hread j).cell (vQ hi3);have w2:IntKind.i64.wrap ((i:Int)+1)=((i+1:Nat):Int):=z9;refine⟨by simpa using g2,by omega,by omega,xs[i],by simpa[add_add]using g1,fun h64=>?_,fun h64=>?_⟩
    ·obtain rfl:=hj (by omega);obtain⟨l1,l2⟩:=WM ((xs.take i).foldl byB (~~~ b0)) hbi;rw[l1];generalize hz:((xs.take i).foldl byB (~~~ b0))=z at l1 l2 ⊢;refine⟨by omega,by omega,((itB 8 (BitVec.ofNat 32 ((z &&& 255#32) ^^^ BitVec.ofInt 32 xs[i]).toNat)).toNat:Int),?_,?_⟩
     ·exact gen _ l2
     ·have e8:Int.fdiv (z.toNat:Int) (2^min (Int.toNat 8) IntKind.u32.bits)=((z >>> 8).toNat:Int):=Nl z 8;rw[BitVec.ofNat_toNat,BitVec.setWidth_eq,e8,Jl,Pw z xs[i] hbi,w2];refine⟨⟨i+1,?_,by omega,rfl⟩,?_⟩
      ·rw[Da byB (~~~ b0) hi3,hz];rfl
      ·simp only[vB,vA,toInt_int,vV];omega
    ·rw[Jm hbi,xor_bv'];refine⟨fun us h2=>∃k:Nat,us=[bvI (itB k ((xs.take i).foldl byB (~~~ b0) ^^^ BitVec.ofInt 32 xs[i])),.int .i64 k]/\k<=8/\h2=upd h b (.cells (Eng.ints .u32 (k9 j)) 135),
      fun us _=>8-(toInt (us.getD 1 undef)).toNat,⟨0,rfl,by omega,rfl⟩,?_⟩
     rintro x y h2 ⟨k,hx1,hk,rfl⟩;simp only[bvI,uQ,uT,pL,uA]at hx1;obtain⟨rfl,rfl⟩:=hx1;refine⟨fun hlt2=>?_,fun hge=>?_⟩
     ·refine(Cy (hinv j) _).mono ?_;rintro _ h3 ⟨rfl,rfl⟩;have w3:IntKind.i64.wrap ((k:Int)+1)=((k+1:Nat):Int):=z9;refine⟨_,rfl,⟨k+1,?_,by omega,rfl⟩,?_⟩
      ·rw[w3,EK];rfl
      ·simp only[w3,vB,vA,toInt_int,vV];omega
     ·obtain rfl:k=8:=by omega
      refine⟨⟨i+1,?_,by omega,rfl⟩,?_⟩
      ·rw[w2,L0 _ hi3];rfl
      ·simp only[w2,vB,vA,toInt_int,vV];omega
   ·obtain rfl:i=xs.length:=by omega
    refine⟨?_,s0 _⟩;rw[nI,G0];rfl
 ·obtain⟨j,hj,e⟩:∃j,(64<=xs.length->j=256)/\upd h b (.cells (List.map (Value.int .u32) (List.replicate 256 0)).toArray 135)=upd h b (.cells (Eng.ints .u32 (k9 j)) 135):=⟨0,by omega,ez⟩;rw[e];refine⟨fun us h'=>∃i:Nat,us=[bvI ((xs.take i).foldl byB (~~~ b0)),.int .i64 i]/\i<=xs.length/\h'=upd h b (.cells (Eng.ints .u32 (k9 j)) 135),
   fun us _=>xs.length-(toInt (us.getD 1 undef)).toNat,⟨0,by simp only[bvI,toInt_int,G0];rfl,by omega,rfl⟩,?_⟩
  rintro x y h' ⟨i,hx1,hi2,rfl⟩;simp only[bvI,uQ,uT,pL,uA]at hx1;obtain⟨rfl,rfl⟩:=hx1;refine⟨fun hlt=>?_,fun hge=>?_⟩
  ·have hi3:i<xs.length:=by omega
   have hbi:=hb _ (pQ hi3);obtain⟨g1,g2⟩:=(hread j).cell (vQ hi3);have w2:IntKind.i64.wrap ((i:Int)+1)=((i+1:Nat):Int):=z9;refine⟨by simpa using g2,by omega,by omega,xs[i],by simpa[add_add]using g1,fun h64=>?_,fun h64=>?_⟩
   ·obtain rfl:=hj (by omega);obtain⟨l1,l2⟩:=WM ((xs.take i).foldl byB (~~~ b0)) hbi;rw[l1];generalize hz:((xs.take i).foldl byB (~~~ b0))=z at l1 l2 ⊢;refine⟨by omega,by omega,((itB 8 (BitVec.ofNat 32 ((z &&& 255#32) ^^^ BitVec.ofInt 32 xs[i]).toNat)).toNat:Int),?_,?_⟩
    ·exact gen _ l2
    ·have e8:Int.fdiv (z.toNat:Int) (2^min (Int.toNat 8) IntKind.u32.bits)=((z >>> 8).toNat:Int):=Nl z 8;rw[BitVec.ofNat_toNat,BitVec.setWidth_eq,e8,Jl,Pw z xs[i] hbi,w2];refine⟨⟨i+1,?_,by omega,rfl⟩,?_⟩
     ·rw[Da byB (~~~ b0) hi3,hz];rfl
     ·simp only[vB,vA,toInt_int,vV];omega
   ·rw[Jm hbi,xor_bv'];refine⟨fun us h2=>∃k:Nat,us=[bvI (itB k ((xs.take i).foldl byB (~~~ b0) ^^^ BitVec.ofInt 32 xs[i])),.int .i64 k]/\k<=8/\h2=upd h b (.cells (Eng.ints .u32 (k9 j)) 135),
     fun us _=>8-(toInt (us.getD 1 undef)).toNat,⟨0,rfl,by omega,rfl⟩,?_⟩
    rintro x y h2 ⟨k,hx1,hk,rfl⟩;simp only[bvI,uQ,uT,pL,uA]at hx1;obtain⟨rfl,rfl⟩:=hx1;refine⟨fun hlt2=>?_,fun hge=>?_⟩
    ·refine(Cy (hinv j) _).mono ?_;rintro _ h3 ⟨rfl,rfl⟩;have w3:IntKind.i64.wrap ((k:Int)+1)=((k+1:Nat):Int):=z9;refine⟨_,rfl,⟨k+1,?_,by omega,rfl⟩,?_⟩
     ·rw[w3,EK];rfl
     ·simp only[w3,vB,vA,toInt_int,vV];omega
    ·obtain rfl:k=8:=by omega
     refine⟨⟨i+1,?_,by omega,rfl⟩,?_⟩
     ·rw[w2,L0 _ hi3];rfl
     ·simp only[w2,vB,vA,toInt_int,vV];omega
  ·obtain rfl:i=xs.length:=by omega
   refine⟨?_,s0 _⟩;rw[nI,G0];rfl
theorem za7(hi:qaC S h)(a:Option Addr)(c:Nat)(xs:List Int)(hx:zk h .u8 a xs)(hb:∀x∈xs,0<=x/\x<256)(hl:xs.length<=2^48) :
  zb oPP S Ad #[.slice a xs.length c] h (fun v h'=>v=bvI (x8 0#32 xs)/\qaB h h'):=by
 refine GQ (vs:=[.slice a xs.length c]) ⟨rfl,trivial⟩ hi ?_;simp only[CJ,Tr.wp,z8,Ex.ev,coerce,toInt_int,zd,zi,ze,Cst.val,SV.den,zq,zK,zz,zm,zl,zw,vF,vG,vA,vB,vD,vE,vJ,vI,vK,vY,vL];refine(Np hi 0#32 a c xs hx hb hl).mono ?_;rintro _ h' ⟨rfl,s⟩;exact⟨_,rfl,rfl,s⟩
theorem O8(hi:qaC S h)(p q:BitVec 32)(n:Nat)(hn:n<=1000000) :
  zb oPP S Cf #[bvI p,bvI q,.int .i64 n] h (fun v h'=>v=bvI (itB (8*n) p ^^^ q)/\h'=h):=by
 refine La (vs:=[bvI p,bvI q,.int .i64 n]) ⟨rfl,rfl,rfl,trivial⟩ hi ?_;simp only[Gf,bvI,Tr.wp,z8,Ex.ev,coerce,toInt_int,za,j7,zB,arith,Cst.val,SV.den,zq,zK,zz,zm,zl,zw,zY,vF,vG,vA,vB,vC,vT,vO,vU,vD,vE,vJ,vI,vK,uA,vY,vL];refine⟨fun c=>?_,fun _=>?_⟩
 ·simp only[pJ,vO]at c;omega
 ·have w8:IntKind.i64.wrap (8*(n:Int))=((8*n:Nat):Int):=z9;refine⟨fun us h2=>∃k:Nat,us=[bvI (itB k p),.int .i64 k]/\k<=8*n/\h2=h,fun us _=>8*n-(toInt (us.getD 1 undef)).toNat,⟨0,rfl,by omega,rfl⟩,?_⟩;rintro x y h2 ⟨k,hx1,hk,rfl⟩;simp only[bvI,uQ,uT,pL,uA]at hx1;obtain⟨rfl,rfl⟩:=hx1;rw[w8];refine⟨fun hlt2=>?_,fun hge=>?_⟩
  ·refine(Cy hi _).mono ?_;rintro _ h3 ⟨rfl,rfl⟩;have w3:IntKind.i64.wrap ((k:Int)+1)=((k+1:Nat):Int):=z9;refine⟨_,rfl,⟨k+1,?_,by omega,rfl⟩,?_⟩
   ·rw[w3,EK];rfl
   ·simp only[w3,vB,vA,toInt_int,vV];omega
  ·obtain rfl:k=8*n:=by omega
   rw[Jl];exact⟨rfl,rfl⟩
end
section
set_option maxRecDepth 100000
theorem wh{s:Nat->Prop}(hi:qaC (yb oPP s) h)(b0:BitVec 32)(a:Option Addr)(c:Nat)(xs:List Int)(hb:okB xs)(hx:zk h .u8 a xs)(hc:xs.length<=c)(hl:xs.length<2^40) :
  zb oPP (yb oPP s) jm #[bvI b0,.slice a xs.length c] h (fun v h'=>v=bvI (x8 b0 xs)/\qaB h h'):=by
 refine IL (vs:=[bvI b0,.slice a xs.length c]) ⟨rfl,rfl,trivial⟩ hi ?_;simp only[Ew,bvI,Tr.wp,z8,Ex.ev,coerce,toInt_int,za,zd,zi,ze,zj,yg,zB,arith,Cst.val,SV.den,zq,zK,zz,zm,zl,zw,zY,zr,vF,vG,vA,vB,vC,vT,vO,vU,vD,vE,vJ,vI,vK,uB,uF,uE,uA,uJ,vY,vL];refine⟨fun hle=>?_,fun hgt=>?_⟩
 ·refine(Np hi b0 a c xs hx hb (by omega)).mono ?_;rintro _ h' ⟨rfl,s⟩;exact⟨_,rfl,rfl,s⟩
 ·obtain⟨n,hn⟩:∃n,n=(xs.length+32767)/32768:=⟨_,rfl⟩;refine(Gy (g:=Ad) (F:=fun ys=>((x8 0#32 ys).toNat:Int)) hi hx hc hl (fun S' h' a' c' ys hi' hx' hl' hm=>za7 hi' a' c' ys hx' (fun y hy=>hb y (hm y hy)) (by omega)) hn).mono ?_;rintro _ h1 ⟨bC,bS,rfl,e1,e2,s1⟩;have i1:qaC (yb oPP s) h1:=fun y hy=>by
   cases e:h y with
   | none=>exact absurd e (hi y hy)
   | some o=>rw[s1 y o e];simp
  refine⟨_,_,_,_,_,_,rfl,fun us h2=>∃j:Nat,us=[bvI (x8 b0 (xs.take (min (j*32768) xs.length))),.int .i64 j]/\j<=n/\h2=h1,fun us _=>n-(toInt (us.getD 1 undef)).toNat,⟨0,by simp[bvI,x8],by omega,rfl⟩,?_⟩;rintro x y h2 ⟨j,hx1,hj,rfl⟩;simp only[bvI,uQ,uT,pL,uA]at hx1;obtain⟨rfl,rfl⟩:=hx1;refine⟨fun hlt=>?_,fun hge=>?_⟩
  ·have hjn:j<n:=by omega
   have w2:IntKind.i64.wrap ((j:Int)+1)=((j+1:Nat):Int):=z9;have c1:zg h2 (((((some (⟨bC,0,none⟩:Addr)).getD default).add ((j:Int).toNat*1))).add 0)=some (bvI (x8 0#32 (partOf xs j))):=by
    simp[zp,zg,e1,Qz,hjn,bvI]
   have c2:zg h2 (((((some (⟨bS,0,none⟩:Addr)).getD default).add ((j:Int).toNat*1))).add 0)=some (.int .i64 (ki xs.length j)):=by
    simp[zp,zg,e2,szv,hjn]
   refine⟨rfl,by omega,by omega,_,c1,rfl,by omega,by omega,_,c2,?_⟩;have hpl:ki xs.length j<=1000000:=by unfold ki;omega
   refine(O8 i1 _ _ _ hpl).mono ?_;rintro _ h3 ⟨rfl,rfl⟩;refine⟨_,rfl,⟨j+1,?_,by omega,rfl⟩,?_⟩
   ·have J:=SI (x8 b0 (xs.take (min (j*32768) xs.length))) (partOf xs j);rw[wD]at J;rw[w2,Pv xs hn hjn,J,YM];rfl
   ·simp only[w2,vB,vA,toInt_int,vV];omega
  ·obtain rfl:j=n:=by omega
   refine⟨?_,s1⟩;rw[show min (j*32768) xs.length=xs.length by omega,nI]
end
variable {h':qaA}{bE bF bm c p:Nat}{a:Option Addr}
section
section
structure ErrS(h:qaA):Prop where
 el:ErrL h
 e4:zg h ⟨2,0,none⟩=some (.int .i64 4)
theorem ErrS.sub(H:ErrS h)(s:qaB h h'):ErrS h':=⟨H.el.sub s,xJ s H.e4⟩
theorem ErrZ.s(H:ErrZ h):ErrS h:=⟨H.el,H.e4⟩
section
variable {m:MC}
def MP(h0 h:qaA)(bm:Nat)(a:Option Addr)(c:Nat)(bs:List Int)(m:MC)(T:TypeId)(r:Rd):Prop:=
 ∃p:Nat,p<=8*bs.length/\(r.k=0->r=⟨(p:Int),0⟩)/\MAt h0 h bm a c bs p m T
theorem MP.upd'(H:MP h0 h bm a c bs m T r)(e:h' bm=h bm)(s:qaB h0 h'):MP h0 h' bm a c bs m T r:=by
 obtain⟨p,h1,h2,M⟩:=H;exact⟨p,h1,h2,⟨e.trans M.hb,M.nb,s⟩⟩
theorem RY(hp:p<=8*bs.length):∃q:Nat,q<=8*bs.length/\(tk bs n ⟨(p:Int),0⟩).1.i=q:=by
 unfold tk;rw[vP rfl];split
 ·exact⟨p,hp,rfl⟩
 ·rename_i h;simp only at h;exact⟨p+n,by omega,by simp only;omega⟩
theorem UN(h1:r.i=p)(h2:r.k=0):r=⟨(p:Int),0⟩:=by
 obtain⟨i,k⟩:=r;simp only at h1 h2;rw[h1,h2]
theorem RZ(hi:qaC S h0)(G:Errs h0)(hx:zk h0 .u8 a bs)(L:bs.length<=1048576)(M:MP h0 h bm a c bs m T r)(hk:r.k=0)(n:Nat)(hn:n<=32:=by omega) :
  zb oPP S zP #[.pointer (some ⟨bm,0,none⟩),.int .i64 n] h (fun v h'=>v=.tuple #[.int .i64 (tk bs n r).2,zG (tk bs n r).1.k]/\MP h0 h' bm a c bs m T (tk bs n r).1/\∀y,y≠bm->h' y=h y):=by
 obtain⟨p,hp,hr,M⟩:=M;obtain rfl:=hr hk;refine zb.mono (EC hi G hx L p hp n hn M) ?_;rintro _ h1 ⟨rfl,rfl⟩;obtain⟨q,hq,eq⟩:=RY (bs:=bs) (n:=n) hp;exact⟨rfl,⟨q,hq,fun h=>UN eq h,by rw[eq];exact M.keep rfl⟩,fun y hy=>upd_ne hy⟩
structure HC(h:qaA)(bm bF bE:Nat)(k:Int):Prop where
 f:∃TF,h bF=some (.cells #[.pointer (some ⟨bm,0,none⟩)] TF)
 e:∃TE,h bE=some (.cells #[zG k] TE)
theorem Hm{v w:Value}(hb:h b=some (.cells #[v] T)):zJ h ⟨b,0,none⟩ w=upd h b (.cells #[w] T):=by rw[hset_cells' hb];rfl
theorem zbZ(hi:qaC S h0)(G:Errs h0)(hx:zk h0 .u8 a bs)(L:bs.length<=1048576)(M:MP h0 h bm a c bs m T r)(hE:h0 bE=none)(ne1:bm≠bF)(ne2:bm≠bE)(ne3:bF≠bE)(C:HC h bm bF bE r.k)(n:Nat)(hn:n<=4) :
  zb oPP S yv #[.int .i64 n,.pointer (some ⟨bE,0,none⟩),.pointer (some ⟨bF,0,none⟩)] h (fun v h'=>v=.int .i64 (tk bs (8*n) r).2/\MP h0 h' bm a c bs m T (tk bs (8*n) r).1/\HC h' bm bF bE (tk bs (8*n) r).1.k/\∀y,y≠bm->y≠bE->h' y=h y):=by
 have M0:=M;obtain⟨p,hp,hr,M⟩:=M;obtain⟨⟨TF,cF⟩,⟨TE,cE⟩⟩:=C;have hsE:¬S bE:=fun hs=>hi bE hs hE
 refine FC (vs:=[.int .i64 n,.pointer (some ⟨bE,0,none⟩),.pointer (some ⟨bF,0,none⟩)]) ⟨rfl,rfl,rfl,trivial⟩ (hi.sub M.sb) ?_;simp only[BB,Tr.wp,z8,Ex.ev,coerce,toInt_int,za,zj,zN,yq,arith,Cst.val,SV.den,zq,zK,zz,zm,zl,zw,zr,ye,vF,vG,vA,vB,vC,vD,vE,vJ,vI,vK,uB,uF,uE,uI,uA,uJ,vY,vL,zp];have gE:zg h ⟨bE,0,none⟩=some (zG r.k):=by simp[zg,cE]
 have gF:zg h ⟨bF,0,none⟩=some (.pointer (some ⟨bm,0,none⟩)):=by simp[zg,cF]
 refine⟨zG r.k,zc,by first | exact gE | (rw[zc];exact gE),fun hz=>?_,fun hz=>?_⟩
 ·rw[zc,zy]at hz;have hk:r.k=0:=by simpa using hz
  have w:IntKind.i64.wrap (8*(n:Int))=((8*n:Nat):Int):=z9;refine⟨_,gF,by simp,?_⟩;rw[w];refine zb.mono (RZ hi G hx L M0 hk (8*n)) ?_;rintro _ h1 ⟨rfl,M1,f1⟩;have cE1:h1 bE=some (.cells #[zG r.k] TE):=(f1 bE (uW ne2)).trans cE;have gE1:zg h1 ⟨bE,0,none⟩=some (zG r.k):=by simp[zg,cE1]
  refine⟨_,zG (tk bs (8*n) r).1.k,zc,by rw[zc],⟨⟨_,gE1⟩,by simp[y8,cE1],hsE⟩,?_⟩;rw[zc,Hm cE1];intro _;obtain⟨p1,hp1,hr1,M1⟩:=M1;refine⟨rfl,⟨p1,hp1,hr1,⟨(upd_ne ne2).trans M1.hb,M1.nb,yz M1.sb hE⟩⟩,⟨⟨TF,(upd_ne ne3).trans ((f1 bF (uW ne1)).trans cF)⟩,⟨TE,upd_same⟩⟩,fun y h1 h2=>(upd_ne h2).trans (f1 y h1)⟩
 ·rw[zc,zy]at hz;have hk:r.k≠0:=by simpa using hz
  intro _;rw[As hk];exact⟨rfl,M0,⟨⟨TF,cF⟩,⟨TE,cE⟩⟩,fun _ _ _=>by first | trivial | rfl⟩
theorem za8(hi:qaC S h0)(G:Errs h0)(M:MP h0 h bm a c bs m T r)(hE:h0 bE=none)(ne2:bm≠bE)(ne3:bF≠bE)(C:HC h bm bF bE r.k)(w:Bool) :
  zb oPP S xb #[.bool w,.pointer (some ⟨bE,0,none⟩)] h (fun v h'=>v=.tuple #[]/\MP h0 h' bm a c bs m T (bd (!w) r)/\HC h' bm bF bE (bd (!w) r).k/\∀y,y≠bE->h' y=h y):=by
 have M0:=M;obtain⟨p,hp,hr,M⟩:=M;have C0:=C;obtain⟨⟨TF,cF⟩,⟨TE,cE⟩⟩:=C;have hsE:¬S bE:=fun hs=>hi bE hs hE
 refine FD (vs:=[.bool w,.pointer (some ⟨bE,0,none⟩)]) ⟨rfl,rfl,trivial⟩ (hi.sub M.sb) ?_;simp only[BC,Tr.wp,Ex.ev,coerce,toInt_int,za,zj,xu,Cst.val,SV.den,zw,zr,ye,vA,vB,vC,vD,vE,vJ,vI,uI,uA,pL,zp];have gE:zg h ⟨bE,0,none⟩=some (zG r.k):=by simp[zg,cE]
 refine⟨zG r.k,zc,by first | exact gE | (rw[zc];exact gE),fun hz=>?_,fun hz=>?_⟩
 ·rw[zc,zy]at hz;have hz:r.k=0/\w=false:=by simpa using hz
  have eb:bd (!w) r=⟨r.i,3⟩:=by unfold bd;rw[vP ⟨hz.1,by rw[hz.2];rfl⟩]
  rw[eb];refine⟨3,(G.sub M.sb).e3,⟨⟨_,gE⟩,by simp[y8,cE],hsE⟩,?_⟩;rw[Hm cE];intro _;exact⟨⟨p,hp,fun h=>(by cases h),⟨(upd_ne ne2).trans M.hb,M.nb,yz M.sb hE⟩⟩,⟨⟨TF,(upd_ne ne3).trans cF⟩,⟨TE,upd_same⟩⟩,fun y h2=>upd_ne h2⟩
 ·rw[zc,zy]at hz;have eb:bd (!w) r=r:=by
   unfold bd;rw[vM (fun e=>by rw[e.1]at hz;have:=e.2;cases w <;> simp at this hz)]
  rw[eb];intro _;exact⟨M0,C0,fun _ _=>by first | trivial | rfl⟩
theorem O9{acc:List Int}(h:r.k≠0):txL bs n r acc=(r,acc):=by
 cases n with
 | zero=>rfl
 | succ n=>unfold txL;rw[vM h]
theorem OA{acc:List Int}(h:r.k≠0):byL bs n r acc=(r,acc):=by
 cases n with
 | zero=>rfl
 | succ n=>unfold byL;rw[vM h]
def PB(h0 h:qaA)(bm:Nat)(a:Option Addr)(c:Nat)(bs:List Int)(m:MC)(T:TypeId)(X:Rd×List Int)(v:Value)(h':qaA):Prop:=
 ∃u:Value,(∃a1 l1 c1,u=.slice a1 l1 c1)/\v=.tuple #[u,zG X.1.k]/\(X.1.k=0->Part .u8 h' u X.2)/\(∀y,zf u=some y->h y=none)/\MP h0 h' bm a c bs m T X.1/\(∀y,h y≠none->y≠bm->h' y=h y)/\qaB h0 h'
theorem za9(hi:qaC S h0)(G:Errs h0)(hx:zk h0 .u8 a bs)(L:bs.length<=65536)(M:MP h0 h bm a c bs m T r)(hk:r.k=0)(n:Nat)(hn:n<65536) :
  zb oPP S wH #[.pointer (some ⟨bm,0,none⟩),.int .i64 n] h (PB h0 h bm a c bs m T (byL bs n r [])):=by
 obtain⟨p0,hp0,hr0,MA⟩:=M;have hbm:h bm≠none:=by rw[MA.hb];simp
 refine Gh (vs:=[.pointer (some ⟨bm,0,none⟩),.int .i64 n]) ⟨rfl,rfl,trivial⟩ (hi.sub MA.sb) ?_;simp only[BV,Tr.wp,z8,Ex.ev,coerce,toInt_int,za,zd,zi,ze,zj,zN,yq,zB,arith,Cst.val,SV.den,zq,zK,zz,zm,zl,zw,zY,vF,vG,vA,vB,vC,vO,vU,vD,vE,vJ,vI,vK,uB,uF,uE,uI,uJ,vY,vL,zp];intro b0 hb0;have e0:(#[]:Array Value)=ints .u8 []:=rfl;rw[e0];have s0:qaB h (upd h b0 (.cells (ints .u8 []) 5)):=Sub.zx hb0;have nb0:b0≠bm:=fun e=>hbm (e▸hb0)
 refine⟨fun us h'=>∃(j:Nat) (r':Rd) (acc:List Int) (a1:Option Addr) (c1:Nat),us=[.slice a1 acc.length c1,.int .i64 j]/\j<=n/\r'.k=0/\acc.length=j/\Part .u8 h' (.slice a1 acc.length c1) acc/\(∀y,zf (.slice a1 acc.length c1)=some y->h y=none)/\MP h0 h' bm a c bs m T r'/\(∀y,h y≠none->y≠bm->h' y=h y)/\byL bs (n-j) r' acc=byL bs n r [],
  fun us _=>n-(toInt (us.getD 1 undef)).toNat,⟨0,r,[],_,_,rfl,by omega,hk,rfl,(Own.made (k:=.u8) (h:=h) (b:=b0) (T:=5) []).part,New.of hb0,MP.upd' ⟨p0,hp0,hr0,MA⟩ (upd_ne (uW nb0)) (MA.sb.trans s0),fun y h1 _=>upd_ne fun e=>h1 (e▸hb0),rfl⟩,?_⟩
 rintro a1 l1 c1 z h' ⟨j,r',acc,a1',c1',hx1,hj,hk',hal,P,N,M',f,e⟩;simp only[uQ,uT,pA,pL,uA]at hx1;obtain⟨⟨rfl,rfl,rfl⟩,rfl⟩:=hx1;have sub':qaB h0 h':=by obtain⟨_,_,_,M2⟩:=M';exact M2.sb
 refine⟨fun hlt=>?_,fun hge=>?_⟩
 ·have hjn:j<n:=by omega
  have est:byL bs n r []=if(tk bs 8 r').1.k=0 then byL bs (n-(j+1)) (tk bs 8 r').1 (acc++[(tk bs 8 r').2])else((tk bs 8 r').1,acc):=by
   rw[<-e,show n-j=n-(j+1)+1 by omega,byL,vP hk']
  refine⟨by simp,?_⟩;refine zb.mono (RZ hi G hx (by omega) M' hk' 8) ?_;rintro _ h1 ⟨rfl,M1,f1⟩;have nm:=yl (bs:=bs) (n:=8) (r:=r');have e8:(2:Int)^8=256:=by decide
  rw[e8]at nm;have nbk:∀y,zf (.slice a1 acc.length c1)=some y->y≠bm:=fun y hy e=>hbm (e▸N y hy)
  have P1:Part .u8 h1 (.slice a1 acc.length c1) acc:=P.keep fun y hy=>f1 y (nbk y hy)
  have fr1:∀y,h y≠none->y≠bm->h1 y=h y:=fun y g1 g2=>(f1 y g2).trans (f y g1 g2)
  have sub1:qaB h0 h1:=by obtain⟨_,_,_,M2⟩:=M1;exact M2.sb
  refine⟨_,zG (tk bs 8 r').1.k,zc,by rw[zc],fun hz=>?_,fun hz=>?_⟩
  ·rw[zc,zy]at hz;have hk1:(tk bs 8 r').1.k≠0:=by simpa using hz
   rw[est,vM hk1];exact⟨.slice none 0 0,⟨_,_,_,rfl⟩,by rw[zc],fun h=>absurd h hk1,fun y hy=>(by cases hy),M1,fr1,sub1⟩
  ·rw[zc,zy]at hz;have hk1:(tk bs 8 r').1.k=0:=by simpa using hz
   rw[vP hk1]at est;have wb:IntKind.u8.wrap (tk bs 8 r').2=(tk bs 8 r').2:=by rw[pG];omega
   have w2:IntKind.i64.wrap ((j:Int)+1)=((j+1:Nat):Int):=z9;intro b1 hb1;rw[wb,w2];have e1:(#[Value.int .u8 (tk bs 8 r').2]:Array Value)=ints .u8 [(tk bs 8 r').2]:=rfl;rw[e1];have s1:qaB h1 (upd h1 b1 (.cells (ints .u8 [(tk bs 8 r').2]) 5)):=Sub.zx hb1;have nb1:b1≠bm:=fun e=>by obtain⟨_,_,_,M2⟩:=M1;rw[e,M2.hb]at hb1;cases hb1
   refine zI hi (sub1.trans s1) (P1.sub s1) (fun y hy=>zU MA.sb (N y hy)) (ys:=[(tk bs 8 r').2]) zk.new (by simp only[uD];omega) fun v3 h3 o3 n3 s3 k3 r3=>?_
   obtain⟨a3,c3,rfl,_,_⟩:=o3.ints;have h1m:upd h1 b1 (.cells (ints .u8 [(tk bs 8 r').2]) 5) bm=h1 bm:=upd_ne (uW nb1);have m3:h3 bm=h1 bm:=(k3 bm (by rw[h1m];obtain⟨_,_,_,M2⟩:=M1;rw[M2.hb];simp) (fun e=>hbm (N bm e))).trans h1m;simp only[ze,zd,zi];refine⟨⟨j+1,(tk bs 8 r').1,acc++[(tk bs 8 r').2],a3,c3,rfl,by omega,hk1,by simp[hal],o3,?_,M1.upd' m3 s3,fun y g1 g2=>?_,est.symm⟩,by simp only[vB,vA,toInt_int];omega⟩
   ·intro y hy;rcases r3 with r3 | r3
    ·exact N y (by rw[<-r3];exact hy)
    ·have h6:=zU s1 (r3 y hy);cases hh:h y with
     | none=>rfl
     | some o=>
      by_cases hyb:y=bm
      ·subst hyb;obtain⟨_,_,_,M2⟩:=M1;rw[M2.hb]at h6;cases h6
      ·rw[fr1 y (by rw[hh];simp) hyb,hh]at h6;cases h6
   ·have h5:=fr1 y g1 g2;have h6:upd h1 b1 (.cells (ints .u8 [(tk bs 8 r').2]) 5) y=h1 y:=upd_ne fun e=>g1 (by rw[<-h5,e];exact hb1)
    rw[k3 y (by rw[h6,h5];exact g1) (fun e=>g1 (N y e)),h6,h5]
 ·obtain rfl:j=n:=by omega
  rw[mS]at e;have e:byL bs j r []=(r',acc):=e.symm;rw[e];exact⟨_,⟨_,_,_,rfl⟩,by rw[hk'];rfl,fun _=>P,N,M',f,sub'⟩
end
end
end
section
section
variable {m:MC}
theorem WY(hi:qaC S h0)(G:Errs h0)(hx:zk h0 .u8 a bs)(L:bs.length<=65536)(M:MP h0 h bm a c bs m T r)(hk:r.k=0) :
  zb oPP S kP #[.pointer (some ⟨bm,0,none⟩)] h (PB h0 h bm a c bs m T (txL bs (bs.length+1) r [])):=by
 obtain⟨p0,hp0,hr0,MA⟩:=M;have hbm:h bm≠none:=by rw[MA.hb];simp
 refine GS (vs:=[.pointer (some ⟨bm,0,none⟩)]) ⟨rfl,trivial⟩ (hi.sub MA.sb) ?_;simp only[CL,Tr.wp,z8,Ex.ev,coerce,toInt_int,za,zd,zi,ze,zj,zN,yq,zB,Cst.val,SV.den,zq,zK,zz,zm,zl,zw,zY,vF,vG,vA,vB,vC,vD,vE,vJ,vI,vK,uB,uF,uE,uI,uJ,vY,vL,zp];intro b0 hb0;have e0:(#[]:Array Value)=ints .u8 []:=rfl;rw[e0];have s0:qaB h (upd h b0 (.cells (ints .u8 []) 5)):=Sub.zx hb0;have nb0:b0≠bm:=fun e=>hbm (e▸hb0)
 have ri0:0<=r.i:=by rw[hr0 hk];simp only;omega
 refine⟨fun us h'=>∃(f:Nat) (r':Rd) (acc:List Int) (a1:Option Addr) (c1:Nat),us=[.slice a1 acc.length c1]/\f+acc.length=bs.length+1/\r'.k=0/\8*(acc.length:Int)<=r'.i/\r'.i<=8*(bs.length:Int)/\Part .u8 h' (.slice a1 acc.length c1) acc/\(∀y,zf (.slice a1 acc.length c1)=some y->h y=none)/\MP h0 h' bm a c bs m T r'/\(∀y,h y≠none->y≠bm->h' y=h y)/\txL bs f r' acc=txL bs (bs.length+1) r [],
  fun us _=>bs.length+1-slL (us.getD 0 undef),⟨bs.length+1,r,[],_,_,rfl,rfl,hk,by simpa using ri0,by rw[hr0 hk];simp only;omega,(Own.made (k:=.u8) (h:=h) (b:=b0) (T:=5) []).part,New.of hb0,MP.upd' ⟨p0,hp0,hr0,MA⟩ (upd_ne (uW nb0)) (MA.sb.trans s0),fun y h1 _=>upd_ne fun e=>h1 (e▸hb0),rfl⟩,?_⟩
 rintro a1 l1 c1 h' ⟨f,r',acc,a1',c1',hx1,hf,hk',hri,hrl,P,N,M',fr,e⟩;simp only[uQ,pA,uA]at hx1;obtain⟨rfl,rfl,rfl⟩:=hx1;have sub':qaB h0 h':=by obtain⟨_,_,_,M2⟩:=M';exact M2.sb
 have hf1:∃f1,f=f1+1:=⟨f-1,by omega⟩;obtain⟨f1,rfl⟩:=hf1;rw[txL,vP hk']at e;refine⟨by simp,?_⟩;refine zb.mono (RZ hi G hx (by omega) M' hk' 8) ?_;rintro _ h1 ⟨rfl,M1,f1'⟩;have nm:=yl (bs:=bs) (n:=8) (r:=r');have e8:(2:Int)^8=256:=by decide
 rw[e8]at nm;have nbk:∀y,zf (.slice a1 acc.length c1)=some y->y≠bm:=fun y hy e=>hbm (e▸N y hy)
 have P1:Part .u8 h1 (.slice a1 acc.length c1) acc:=P.keep fun y hy=>f1' y (nbk y hy)
 have fr1:∀y,h y≠none->y≠bm->h1 y=h y:=fun y g1 g2=>(f1' y g2).trans (fr y g1 g2)
 have sub1:qaB h0 h1:=by obtain⟨_,_,_,M2⟩:=M1;exact M2.sb
 refine⟨_,zG (tk bs 8 r').1.k,zc,by rw[zc],fun hz=>?_,fun hz=>?_⟩
 ·rw[zc,zy]at hz;have hk1:(tk bs 8 r').1.k≠0:=by simpa using hz
  rw[vP (Tz hk1)]at e;rw[<-e];exact⟨.slice none 0 0,⟨_,_,_,rfl⟩,by rw[zc],fun h=>absurd h hk1,fun y hy=>(by cases hy),M1,fr1,sub1⟩
 ·rw[zc,zy]at hz;have hk1:(tk bs 8 r').1.k=0:=by simpa using hz
  refine⟨fun hzr=>?_,fun hnz=>?_⟩
  ·have hzr:(tk bs 8 r').2=0:=by simpa using hzr
   rw[vP hzr]at e;rw[<-e];exact⟨_,⟨_,_,_,rfl⟩,by rw[hk1];rfl,fun _=>P1,N,M1,fr1,sub1⟩
  ·have hnz:(tk bs 8 r').2≠0:=by simpa using hnz
   rw[vM hnz]at e;have wb:IntKind.u8.wrap (tk bs 8 r').2=(tk bs 8 r').2:=by rw[pG];omega
   have ta:=CX (bs:=bs) hk1;have ok1:(tk bs 8 r').1.i<=8*(bs.length:Int):=(yp (bs:=bs) (n:=8) (r:=r') (fun _=>⟨by omega,hrl⟩) hk1).2;intro b1 hb1;rw[wb];have e1:(#[Value.int .u8 (tk bs 8 r').2]:Array Value)=ints .u8 [(tk bs 8 r').2]:=rfl;rw[e1];have s1:qaB h1 (upd h1 b1 (.cells (ints .u8 [(tk bs 8 r').2]) 5)):=Sub.zx hb1;have nb1:b1≠bm:=fun e=>by obtain⟨_,_,_,M2⟩:=M1;rw[e,M2.hb]at hb1;cases hb1
   refine zI hi (sub1.trans s1) (P1.sub s1) (fun y hy=>zU MA.sb (N y hy)) (ys:=[(tk bs 8 r').2]) zk.new (by simp only[uD];omega) fun v3 h3 o3 n3 s3 k3 r3=>?_
   obtain⟨a3,c3,rfl,_,_⟩:=o3.ints;have h1m:upd h1 b1 (.cells (ints .u8 [(tk bs 8 r').2]) 5) bm=h1 bm:=upd_ne (uW nb1);have m3:h3 bm=h1 bm:=(k3 bm (by rw[h1m];obtain⟨_,_,_,M2⟩:=M1;rw[M2.hb];simp) (fun e=>hbm (N bm e))).trans h1m;simp only[ze,zd,zi];refine⟨⟨f1,(tk bs 8 r').1,acc++[(tk bs 8 r').2],a3,c3,rfl,by simp only[vR,uD];omega,hk1,by simp only[vR,uD];omega,ok1,o3,?_,M1.upd' m3 s3,fun y g1 g2=>?_,e⟩,by simp only[vA,zd,vR,uD];omega⟩
   ·intro y hy;rcases r3 with r3 | r3
    ·exact N y (by rw[<-r3];exact hy)
    ·have h6:=zU s1 (r3 y hy);cases hh:h y with
     | none=>rfl
     | some o=>
      by_cases hyb:y=bm
      ·subst hyb;obtain⟨_,_,_,M2⟩:=M1;rw[M2.hb]at h6;cases h6
      ·rw[fr1 y (by rw[hh];simp) hyb,hh]at h6;cases h6
   ·have h5:=fr1 y g1 g2;have h6:upd h1 b1 (.cells (ints .u8 [(tk bs 8 r').2]) 5) y=h1 y:=upd_ne fun e=>g1 (by rw[<-h5,e];exact hb1)
    rw[k3 y (by rw[h6,h5];exact g1) (fun e=>g1 (N y e)),h6,h5]
end
end
variable {K fl k mt os xf:Int}{u u4 u5 u6 v:Value}{hs:qaA}{bM:Nat}{x4 x5 x6:List Int}
section
section
def MS(h0 h:qaA)(bm bE bM:Nat)(k:Int)(u:Value)(xs:List Int):Prop:=
 (∃a l c,u=.slice a l c)/\(k=0->Part .u8 h u xs/\∀y,zf u=some y->h0 y=none/\y≠bm/\y≠bE/\y≠bM)
theorem MS.nil:MS h0 h bm bE bM k (.slice none 0 0) []:=⟨⟨_,_,_,rfl⟩,fun _=>⟨Part.nil,fun y hy=>by cases hy⟩⟩
theorem MS.keep{k k':Int}(H:MS h0 h bm bE bM k u xs)(hk:k'=0->k=0)(f:∀y,h y≠none->y≠bm->y≠bE->y≠bM->h' y=h y):MS h0 h' bm bE bM k' u xs:=
 ⟨H.1,fun e=>by
  obtain⟨P,N⟩:=H.2 (hk e)
  exact⟨P.keep fun y hy=>f y (P.held y hy) (N y hy).2.1 (N y hy).2.2.1 (N y hy).2.2.2,N⟩⟩
structure HG(h0 hs:qaA)(bm bF bE bM:Nat):Prop where
 hE:h0 bE=none
 hM:h0 bM=none
 sE:hs bE=none
 sM:hs bM≠none
 n1:bm≠bF
 n2:bm≠bE
 n3:bF≠bE
 n4:bM≠bm
 n5:bM≠bE
 n6:bM≠bF
section
variable {m:MC}
def D3(u4 u5 u6:Value):Prop:=(∀y,zf u4=some y->zf u5≠some y)/\(∀y,zf u4=some y->zf u6≠some y)/\∀y,zf u5=some y->zf u6≠some y
structure HS(h0 hs h:qaA)(bm bF bE bM:Nat)(a:Option Addr)(c:Nat)(bs:List Int)(m:MC)(T:TypeId)(r:Rd)(fl mt xf os:Int)(u4 u5 u6:Value)(x4 x5 x6:List Int):Prop where
 mp:MP h0 h bm a c bs m T r
 hc:HC h bm bF bE r.k
 mc:∃TM,h bM=some (.cells #[.int .i64 fl,.int .i64 mt,.int .i64 xf,.int .i64 os,u4,u5,u6,.int .i64 0] TM)
 s4:MS hs h bm bE bM r.k u4 x4
 s5:MS hs h bm bE bM r.k u5 x5
 s6:MS hs h bm bE bM r.k u6 x6
 fr:∀y,hs y≠none->y≠bm->y≠bM->h y=hs y
 d:r.k=0->D3 u4 u5 u6
theorem HS.sb(H:HS h0 hs h bm bF bE bM a c bs m T r fl mt xf os u4 u5 u6 x4 x5 x6):qaB h0 h:=by obtain⟨_,_,_,M⟩:=H.mp;exact M.sb
theorem HS.gE(H:HS h0 hs h bm bF bE bM a c bs m T r fl mt xf os u4 u5 u6 x4 x5 x6):zg h ⟨bE,0,none⟩=some (zG r.k):=by obtain⟨T,e⟩:=H.hc.e;simp[zg,e]
theorem HS.gF(H:HS h0 hs h bm bF bE bM a c bs m T r fl mt xf os u4 u5 u6 x4 x5 x6):zg h ⟨bF,0,none⟩=some (.pointer (some ⟨bm,0,none⟩)):=by obtain⟨T,e⟩:=H.hc.f;simp[zg,e]
theorem HS.gM(H:HS h0 hs h bm bF bE bM a c bs m T r fl mt xf os u4 u5 u6 x4 x5 x6):zg h ⟨bM,0,none⟩=some (.int .i64 fl):=by obtain⟨T,e⟩:=H.mc;simp[zg,e]
theorem HS.okE(Q:HG h0 hs bm bF bE bM)(hi:qaC S h0)(H:HS h0 hs h bm bF bE bM a c bs m T r fl mt xf os u4 u5 u6 x4 x5 x6):yU S h ⟨bE,0,none⟩:=
 ⟨⟨_,H.gE⟩,by obtain⟨T,e⟩:=H.hc.e;simp[y8,e],fun hs=>hi bE hs Q.hE⟩
theorem HS.okM(Q:HG h0 hs bm bF bE bM)(hi:qaC S h0)(H:HS h0 hs h bm bF bE bM a c bs m T r fl mt xf os u4 u5 u6 x4 x5 x6)(hi8:i<8):yU S h ⟨bM,i,none⟩:=by
 obtain⟨T,e⟩:=H.mc;refine⟨?_,by simp[y8,e],fun hs=>hi bM hs Q.hM⟩;simp only[zg,e]
 match i,hi8 with
 | 0,_=>exact⟨_,rfl⟩
 | 1,_=>exact⟨_,rfl⟩
 | 2,_=>exact⟨_,rfl⟩
 | 3,_=>exact⟨_,rfl⟩
 | 4,_=>exact⟨_,rfl⟩
 | 5,_=>exact⟨_,rfl⟩
 | 6,_=>exact⟨_,rfl⟩
 | 7,_=>exact⟨_,rfl⟩
theorem BO(Q:HG h0 hs bm bF bE bM)(hi:qaC S h0)(G:Errs h0)(hx:zk h0 .u8 a bs)(L:bs.length<=1048576)(H:HS h0 hs h bm bF bE bM a c bs m T r fl mt xf os u4 u5 u6 x4 x5 x6)(n:Nat)(hn:n<=4:=by omega) :
  zb oPP S yv #[.int .i64 n,.pointer (some ⟨bE,0,none⟩),.pointer (some ⟨bF,0,none⟩)] h (fun v h'=>v=.int .i64 (tk bs (8*n) r).2/\HS h0 hs h' bm bF bE bM a c bs m T (tk bs (8*n) r).1 fl mt xf os u4 u5 u6 x4 x5 x6):=by
 refine zb.mono (zbZ hi G hx L H.mp Q.hE Q.n1 Q.n2 Q.n3 H.hc n hn) ?_;rintro v h1 ⟨rfl,M,C,f⟩;obtain⟨TM,e⟩:=H.mc;exact⟨rfl,M,C,⟨TM,(f bM Q.n4 Q.n5).trans e⟩,H.s4.keep BI fun y _ h1 h2 _=>f y h1 h2,H.s5.keep BI fun y _ h1 h2 _=>f y h1 h2,H.s6.keep BI fun y _ h1 h2 _=>f y h1 h2,
  fun y h1 h2 h3=>(f y h2 (fun e=>h1 (e▸Q.sE))).trans (H.fr y h1 h2 h3),fun e=>H.d (BI e)⟩
theorem JR(Q:HG h0 hs bm bF bE bM)(hi:qaC S h0)(G:Errs h0)(H:HS h0 hs h bm bF bE bM a c bs m T r fl mt xf os u4 u5 u6 x4 x5 x6)(w:Bool) :
  zb oPP S xb #[.bool w,.pointer (some ⟨bE,0,none⟩)] h (fun v h'=>v=.tuple #[]/\HS h0 hs h' bm bF bE bM a c bs m T (bd (!w) r) fl mt xf os u4 u5 u6 x4 x5 x6):=by
 refine zb.mono (za8 hi G H.mp Q.hE Q.n2 Q.n3 H.hc w) ?_;rintro v h1 ⟨rfl,M,C,f⟩;obtain⟨TM,e⟩:=H.mc;have kk:(bd (!w) r).k=0->r.k=0:=fun h=>(GZ.1 h).1
 exact⟨rfl,M,C,⟨TM,(f bM Q.n5).trans e⟩,H.s4.keep kk fun y _ h1 h2 _=>f y h2,H.s5.keep kk fun y _ h1 h2 _=>f y h2,H.s6.keep kk fun y _ h1 h2 _=>f y h2,
  fun y h1 h2 h3=>(f y (fun e=>h1 (e▸Q.sE))).trans (H.fr y h1 h2 h3),fun e=>H.d (kk e)⟩
theorem HS.put(Q:HG h0 hs bm bF bE bM)(H:HS h0 hs h bm bF bE bM a c bs m T r fl mt xf os u4 u5 u6 x4 x5 x6){fl' mt' xf' os':Int}{TM:TypeId}:HS h0 hs (upd h bM (.cells #[.int .i64 fl',.int .i64 mt',.int .i64 xf',.int .i64 os',u4,u5,u6,.int .i64 0] TM)) bm bF bE bM a c bs m T r fl' mt' xf' os' u4 u5 u6 x4 x5 x6:=
 ⟨H.mp.upd' (upd_ne (uW Q.n4)) (yz H.sb Q.hM),⟨by obtain⟨T,e⟩:=H.hc.f;exact⟨T,(upd_ne (uW Q.n6)).trans e⟩,by obtain⟨T,e⟩:=H.hc.e;exact⟨T,(upd_ne (uW Q.n5)).trans e⟩⟩,⟨TM,upd_same⟩,
  H.s4.keep id fun y _ _ _ h3=>upd_ne h3,H.s5.keep id fun y _ _ _ h3=>upd_ne h3,H.s6.keep id fun y _ _ _ h3=>upd_ne h3,fun y h1 h2 h3=>(upd_ne h3).trans (H.fr y h1 h2 h3),H.d⟩
theorem HS.wV(Q:HG h0 hs bm bF bE bM)(H:HS h0 hs h bm bF bE bM a c bs m T r fl mt xf os u4 u5 u6 x4 x5 x6)(x:Int):HS h0 hs (zJ h ⟨bM,0,none⟩ (.int .i64 x)) bm bF bE bM a c bs m T r x mt xf os u4 u5 u6 x4 x5 x6:=by
 obtain⟨TM,e⟩:=H.mc;rw[hset_cells' e];exact H.put Q
theorem HS.zd7(Q:HG h0 hs bm bF bE bM)(H:HS h0 hs h bm bF bE bM a c bs m T r fl mt xf os u4 u5 u6 x4 x5 x6)(x:Int):HS h0 hs (zJ h ⟨bM,1,none⟩ (.int .i64 x)) bm bF bE bM a c bs m T r fl x xf os u4 u5 u6 x4 x5 x6:=by
 obtain⟨TM,e⟩:=H.mc;rw[hset_cells' e];exact H.put Q
theorem HS.zd8(Q:HG h0 hs bm bF bE bM)(H:HS h0 hs h bm bF bE bM a c bs m T r fl mt xf os u4 u5 u6 x4 x5 x6)(x:Int):HS h0 hs (zJ h ⟨bM,2,none⟩ (.int .i64 x)) bm bF bE bM a c bs m T r fl mt x os u4 u5 u6 x4 x5 x6:=by
 obtain⟨TM,e⟩:=H.mc;rw[hset_cells' e];exact H.put Q
theorem HS.U0(Q:HG h0 hs bm bF bE bM)(H:HS h0 hs h bm bF bE bM a c bs m T r fl mt xf os u4 u5 u6 x4 x5 x6)(x:Int):HS h0 hs (zJ h ⟨bM,3,none⟩ (.int .i64 x)) bm bF bE bM a c bs m T r fl mt xf x u4 u5 u6 x4 x5 x6:=by
 obtain⟨TM,e⟩:=H.mc;rw[hset_cells' e];exact H.put Q
theorem HS.zca(Q:HG h0 hs bm bF bE bM)(H:HS h0 hs h bm bF bE bM a c bs m T r fl mt xf os u4 u5 u6 x4 x5 x6)(hK:K≠0\/K=r.k):HS h0 hs (zJ h ⟨bE,0,none⟩ (zG K)) bm bF bE bM a c bs m T ⟨r.i,K⟩ fl mt xf os u4 u5 u6 x4 x5 x6:=by
 have kk:K=0->r.k=0:=fun e=>by rcases hK with h | h;exact absurd e h;exact h▸e
 obtain⟨TE,eE⟩:=H.hc.e;obtain⟨TF,eF⟩:=H.hc.f;obtain⟨TM,eM⟩:=H.mc;rw[Hm eE];have M1:=H.mp.upd' (h':=upd h bE (.cells #[zG K] TE)) (upd_ne Q.n2) (yz H.sb Q.hE);refine⟨?_,⟨⟨TF,(upd_ne Q.n3).trans eF⟩,⟨TE,upd_same⟩⟩,⟨TM,(upd_ne Q.n5).trans eM⟩,H.s4.keep kk fun y _ _ h2 _=>upd_ne h2,H.s5.keep kk fun y _ _ h2 _=>upd_ne h2,H.s6.keep kk fun y _ _ h2 _=>upd_ne h2,fun y h1 h2 h3=>(upd_ne (fun e=>h1 (by rw[e];exact Q.sE))).trans (H.fr y h1 h2 h3),fun e=>H.d (kk e)⟩;obtain⟨p,g1,g2,g3⟩:=M1;exact⟨p,g1,fun e=>by have e:K=0:=e;have:=g2 (kk e);rw[this,e],g3⟩
theorem HS.fill(Q:HG h0 hs bm bF bE bM)(H:HS h0 hs h bm bF bE bM a c bs m T r fl mt xf os u4 u5 u6 x4 x5 x6)(hk:r.k=0){X:Rd×List Int}(B:PB h0 h bm a c bs m T X v h') :
  ∃a1 l1 c1,v=.tuple #[.slice a1 l1 c1,zG X.1.k]/\(∀i,i<8->(qaC S h0->yU S h' ⟨bM,i,none⟩))/\(∀i,i<8->∀v,qaC S h0->yU S (zJ h' ⟨bM,i,none⟩ v) ⟨bE,0,none⟩) /\
   HS h0 hs (zJ (zJ h' ⟨bM,4,none⟩ (.slice a1 l1 c1)) ⟨bE,0,none⟩ (zG X.1.k)) bm bF bE bM a c bs m T X.1 fl mt xf os (.slice a1 l1 c1) u5 u6 X.2 x5 x6 /\
   HS h0 hs (zJ (zJ h' ⟨bM,5,none⟩ (.slice a1 l1 c1)) ⟨bE,0,none⟩ (zG X.1.k)) bm bF bE bM a c bs m T X.1 fl mt xf os u4 (.slice a1 l1 c1) u6 x4 X.2 x6 /\
   HS h0 hs (zJ (zJ h' ⟨bM,6,none⟩ (.slice a1 l1 c1)) ⟨bE,0,none⟩ (zG X.1.k)) bm bF bE bM a c bs m T X.1 fl mt xf os u4 u5 (.slice a1 l1 c1) x4 x5 X.2:=by
 obtain⟨u,⟨a1,l1,c1,rfl⟩,rfl,P,N,M,f,sb⟩:=B;obtain⟨TE,eE⟩:=H.hc.e;obtain⟨TF,eF⟩:=H.hc.f;obtain⟨TM,eM⟩:=H.mc;have eE':h' bE=some (.cells #[zG r.k] TE):=(f bE (by rw[eE];simp) (uW Q.n2)).trans eE;have eF':h' bF=some (.cells #[.pointer (some ⟨bm,0,none⟩)] TF):=(f bF (by rw[eF];simp) (uW Q.n1)).trans eF;have eM':=(f bM (by rw[eM];simp) Q.n4).trans eM;have kk:X.1.k=0->r.k=0:=fun _=>hk
 have gM:∀i,i<8->(qaC S h0->yU S h' ⟨bM,i,none⟩):=fun i hi8 hi=>by
  refine⟨?_,by simp[y8,eM'],fun hs=>hi bM hs Q.hM⟩;simp only[zg,eM']
  match i,hi8 with
  | 0,_=>exact⟨_,rfl⟩
  | 1,_=>exact⟨_,rfl⟩
  | 2,_=>exact⟨_,rfl⟩
  | 3,_=>exact⟨_,rfl⟩
  | 4,_=>exact⟨_,rfl⟩
  | 5,_=>exact⟨_,rfl⟩
  | 6,_=>exact⟨_,rfl⟩
  | 7,_=>exact⟨_,rfl⟩
 have gE:∀i,i<8->∀v,qaC S h0->yU S (zJ h' ⟨bM,i,none⟩ v) ⟨bE,0,none⟩:=fun i _ v hi=>by
  rw[hset_cells' eM'];have e2:upd h' bM (.cells ((#[.int .i64 fl,.int .i64 mt,.int .i64 xf,.int .i64 os,u4,u5,u6,.int .i64 0]:Array Value).setIfInBounds i v) TM) bE=some (.cells #[zG r.k] TE):=(upd_ne (uW Q.n5)).trans eE';have kE:∀g:qaA,g bE=some (.cells #[zG r.k] TE)->yU S g ⟨bE,0,none⟩:=fun g e=>⟨⟨zG r.k,by simp[zg,e]⟩,by simp[y8,e],fun hs=>hi bE hs Q.hE⟩
  exact kE _ e2
 have new:MS hs h' bm bE bM X.1.k (.slice a1 l1 c1) X.2:=⟨⟨_,_,_,rfl⟩,fun e=>⟨P e,fun y hy=>by
  have n1:=N y hy
  have n2:y≠bm:=fun e=>by subst e;obtain⟨_,_,_,M2⟩:=H.mp;rw[M2.hb]at n1;cases n1
  have n3:y≠bM:=fun e=>by rw[e,eM]at n1;cases n1
  exact⟨(by
   cases e:hs y with
   | none=>rfl
   | some o=>rw[H.fr y (by rw[e];simp) n2 n3,e]at n1;cases n1),(fun e=>by subst e;obtain⟨_,_,_,M2⟩:=H.mp;rw[M2.hb]at n1;cases n1),(fun e=>by rw[e,eE]at n1;cases n1),(fun e=>by rw[e,eM]at n1;cases n1)⟩⟩⟩
 have old:∀ {u:Value} {xs:List Int},MS hs h bm bE bM r.k u xs->MS hs h' bm bE bM X.1.k u xs:=fun H2=>H2.keep kk fun y g1 g2 _ _=>f y g1 g2
 have key:∀(w4 w5 w6:Value) (y4 y5 y6:List Int) (i:Nat) (v:Value),((#[.int .i64 fl,.int .i64 mt,.int .i64 xf,.int .i64 os,u4,u5,u6,.int .i64 0]:Array Value).setIfInBounds i v)=#[.int .i64 fl,.int .i64 mt,.int .i64 xf,.int .i64 os,w4,w5,w6,.int .i64 0] ->
   MS hs h' bm bE bM X.1.k w4 y4->MS hs h' bm bE bM X.1.k w5 y5->MS hs h' bm bE bM X.1.k w6 y6->D3 w4 w5 w6 ->
   HS h0 hs (zJ (zJ h' ⟨bM,i,none⟩ v) ⟨bE,0,none⟩ (zG X.1.k)) bm bF bE bM a c bs m T X.1 fl mt xf os w4 w5 w6 y4 y5 y6:=by
  intro w4 w5 w6 y4 y5 y6 i v ev t4 t5 t6 dd;rw[hset_cells' eM',ev];have e2:upd h' bM (.cells #[.int .i64 fl,.int .i64 mt,.int .i64 xf,.int .i64 os,w4,w5,w6,.int .i64 0] TM) bE=some (.cells #[zG r.k] TE):=(upd_ne (uW Q.n5)).trans eE';rw[Hm e2];have g:∀y,y≠bE->y≠bM->upd (upd h' bM (.cells #[.int .i64 fl,.int .i64 mt,.int .i64 xf,.int .i64 os,w4,w5,w6,.int .i64 0] TM)) bE (.cells #[zG X.1.k] TE) y=h' y:=fun y g1 g2=>(upd_ne g1).trans (upd_ne g2)
  refine⟨M.upd' (g bm Q.n2 (uW Q.n4)) (yz (yz sb Q.hM) Q.hE),⟨⟨TF,(g bF Q.n3 (uW Q.n6)).trans eF'⟩,⟨TE,upd_same⟩⟩,⟨TM,(upd_ne Q.n5).trans upd_same⟩,t4.keep id fun y _ _ g1 g2=>g y g1 g2,t5.keep id fun y _ _ g1 g2=>g y g1 g2,t6.keep id fun y _ _ g1 g2=>g y g1 g2,fun y h1 h2 h3=>?_,fun _=>dd⟩;have hb:=H.fr y h1 h2 h3;exact(g y (fun e=>h1 (e▸Q.sE)) h3).trans ((f y (by rw[hb];exact h1) h2).trans hb)
 have fresh:∀ {u:Value} {xs:List Int},MS hs h bm bE bM r.k u xs->∀y,zf (.slice a1 l1 c1)=some y->zf u≠some y:=fun H2 y g1 g2=>(H2.2 hk).1.held y g2 (N y g1)
 have hd:=H.d hk;exact⟨a1,l1,c1,rfl,gM,gE,key _ _ _ _ _ _ 4 _ rfl new (old H.s5) (old H.s6) ⟨fresh H.s5,fresh H.s6,hd.2.2⟩,key _ _ _ _ _ _ 5 _ rfl (old H.s4) new (old H.s6) ⟨fun y g1 g2=>fresh H.s4 y g2 g1,hd.2.1,fresh H.s6⟩,key _ _ _ _ _ _ 6 _ rfl (old H.s4) (old H.s5) new ⟨hd.1,fun y g1 g2=>fresh H.s4 y g2 g1,fun y g1 g2=>fresh H.s5 y g2 g1⟩⟩
end
end
theorem Nq(hx:0<=x/\x<256):((Go.bits .and .i64 x 4 != 0)=decide (x/4%2=1))/\((Go.bits .and .i64 x 8 != 0)=decide (x/8%2=1))/\((Go.bits .and .i64 x 16 != 0)=decide (x/16%2=1))/\((Go.bits .and .i64 x 2 != 0)=decide (x/2%2=1)):=by
 have key:∀n:Fin 256,((Go.bits .and .i64 (n.1:Int) 4 != 0)=decide ((n.1:Int)/4%2=1))/\((Go.bits .and .i64 (n.1:Int) 8 != 0)=decide ((n.1:Int)/8%2=1))/\((Go.bits .and .i64 (n.1:Int) 16 != 0)=decide ((n.1:Int)/16%2=1))/\((Go.bits .and .i64 (n.1:Int) 2 != 0)=decide ((n.1:Int)/2%2=1)):=by decide +kernel
 obtain⟨n,rfl⟩:=vZ hx.1;exact key ⟨n,by omega⟩
theorem YO(hx:0<=x/\x<4294967296):Go.bits .and .u32 x 65535=x%65536:=by
 obtain⟨n,rfl⟩:=vZ hx.1;have h1:(BitVec.ofInt 32 (n:Int)).toNat=n:=by rw[nH,nT];exact pV (by omega)
 have h2:(BitVec.ofInt 32 (65535:Int)).toNat=65535:=by decide
 show IntKind.u32.wrap ((BitVec.ofInt 32 (n:Int) &&& BitVec.ofInt 32 (65535:Int)).toNat:Int)=_;rw[gV,h1,h2,show(65535:Nat)=2^16-1 from rfl,Nat.and_two_pow_sub_one_eq_mod,pN];omega
end
variable {p0:Nat}{TM:TypeId}
section
def gF5(bs:List Int)(p0 fl:Int)(r:Rd):Rd:=
 if fl/2%2=1/\r.k=0 then bdK 4 ((tk bs 16 r).2 != k8 ((bs.take (r.i/8).toNat).drop (p0/8).toNat)%65536) (tk bs 16 r).1 else r
section
variable {s:Nat -> Prop}{Post:Value -> qaA -> Prop}
variable {m:MC}
theorem HS.Hh(H:HS h0 hs h bm bF bE bM a c bs m T r fl mt xf os u4 u5 u6 x4 x5 x6)(s:qaB h h'):HS h0 hs h' bm bF bE bM a c bs m T r fl mt xf os u4 u5 u6 x4 x5 x6:=by
 have f:∀y,h y≠none->h' y=h y:=fun y hy=>by
  cases e:h y with
  | none=>exact absurd e hy
  | some o=>exact s y o e
 obtain⟨p,h1,h2,M⟩:=H.mp;obtain⟨TE,eE⟩:=H.hc.e;obtain⟨TF,eF⟩:=H.hc.f;obtain⟨TM,eM⟩:=H.mc;exact⟨⟨p,h1,h2,⟨s _ _ M.hb,M.nb,M.sb.trans s⟩⟩,⟨⟨TF,s _ _ eF⟩,⟨TE,s _ _ eE⟩⟩,⟨TM,s _ _ eM⟩,H.s4.keep id fun y h _ _ _=>f y h,H.s5.keep id fun y h _ _ _=>f y h,H.s6.keep id fun y h _ _ _=>f y h,
  fun y h1 h2 h3=>(f y (by rw[H.fr y h1 h2 h3];exact h1)).trans (H.fr y h1 h2 h3),H.d⟩
theorem Q0(Q:HG h0 hs bm bF bE bM)(hi:qaC (yb oPP s) h0)(H:HS h0 hs h bm bF bE bM a c bs m T r fl mt xf os u4 u5 u6 x4 x5 x6)(hP:∀h',HS h0 hs h' bm bF bE bM a c bs m T r fl mt xf os u4 u5 u6 x4 x5 x6->Post (zG r.k) h')(Ks:List Kt)
  (e0 e1 e2 e4 e5 e6 e7 e8 e9 e10 e11 e12 e13 e14 e15 e16 e17 e18 e19 e20 e21 e22 e23 e24 e25:Value) :
  gd6.wp oPP (yb oPP s) yk Post [e0,e1,e2,.pointer (some ⟨bE,0,none⟩),e4,e5,e6,e7,e8,e9,e10,e11,e12,e13,e14,e15,e16,e17,e18,e19,e20,e21,e22,e23,e24,e25] h Ks:=by
 simp only[gd6,Tr.wp,Ex.ev,coerce,zj,SV.den,zw,zr,ye,vA,vB,vD,vE,vJ,vI,uI,uA,zp];have H2:=H.zca Q (K:=r.k) (.inr rfl);refine⟨zG r.k,zc,H.gE,H.okE Q hi,?_⟩;rw[zc];refine⟨zG r.k,zc,H2.gE,?_⟩;rw[zc];exact hP _ H2
theorem zcT(Q:HG h0 hs bm bF bE bM)(hi:qaC (yb oPP s) h0)(G:ErrS h0)(hx:zk h0 .u8 a bs)(L:bs.length<=65536)(hc:bs.length<=c)(hb:okB bs)(H:HS h0 hs h bm bF bE bM a c bs m T r fl mt xf os u4 u5 u6 x4 x5 x6)(hfl:0<=fl/\fl<256)(hp:p<=8*bs.length)(hpp:r.k=0->r.i=p/\p0<=p)
  (hP:∀h',HS h0 hs h' bm bF bE bM a c bs m T (gF5 bs p0 fl r) fl mt xf os u4 u5 u6 x4 x5 x6->Post (zG (gF5 bs p0 fl r).k) h')
  (e4 e6 e7 e8 e9 e10 e11 e12 e13 e14 e15 e16 e17 e18 e19 e20 e21 e22 e23:Value) :
  gd5.wp oPP (yb oPP s) yk Post [.pointer (some ⟨bm,0,none⟩),.pointer (some ⟨bM,0,none⟩),.pointer (some ⟨bF,0,none⟩),.pointer (some ⟨bE,0,none⟩),e4,.int .i64 (p0:Int),e6,e7,e8,e9,e10,e11,e12,e13,e14,e15,e16,e17,e18,e19,e20,e21,e22,e23,.int .i64 (p:Int),.int .i64 fl] h []:=by
 simp only[gd5,Tr.wp,z8,Ex.ev,coerce,toInt_int,za,zd,zi,ze,zj,zN,yq,qa,wE,zB,arith,Cst.val,SV.den,zq,zK,zz,zm,zl,zw,zr,ye,vF,vG,vA,vB,vC,vT,vO,vD,vE,vJ,vI,vK,uI,uA,vY,vL,zp];rw[(Nq hfl).2.2.2];refine⟨fun hz=>?_,fun hz=>?_⟩
 ·have hz:fl/2%2=1:=by simpa using hz
  refine zb.mono (BO Q hi G.el.es hx (by omega) H 2) ?_;rintro _ h1 ⟨rfl,H1⟩;refine⟨_,rfl,zG (tk bs (8*2) r).1.k,zc,H1.gE,fun hk=>?_,fun hk=>?_⟩
  ·have hk:(tk bs (8*2) r).1.k=0:=by simpa[zy,zc]using hk
   have hkr:=BI hk;obtain⟨eri,h0p⟩:=hpp hkr;obtain⟨p1,q1,q2,M1⟩:=id H1.mp;have wp:IntKind.i64.wrap ((p:Int).tdiv 8)=((p/8:Nat):Int):=by rw[uL (by omega),i64_in _ (by omega)];omega
   have wp0:IntKind.i64.wrap ((p0:Int).tdiv 8)=((p0/8:Nat):Int):=by rw[uL (by omega),i64_in _ (by omega)];omega
   refine⟨_,H1.gF,by simp,_,_,_,(yy M1.hb).1,?_⟩;rw[wp,wp0];refine⟨by omega,by omega,by omega,by omega,?_⟩;obtain⟨a2,e2,hx2⟩:=qK (hx.sub H1.sb) (lo:=p0/8) (hi:=p/8) (m:=c);have eh:(bs.drop (p0/8)).take (p/8-p0/8)=(bs.take (r.i/8).toNat).drop ((p0:Int)/8).toNat:=by
    rw[<-List.drop_take,eri];congr 2
   rw[vV,vV,e2];have hl:((bs.drop (p0/8)).take (p/8-p0/8)).length=p/8-p0/8:=by rw[pW,pM];omega
   refine zb.mono (wh (hi.sub H1.sb) 0#32 a2 (c-p0/8) _ (fun x hx=>hb x (gU (lH hx))) hx2 (by omega) (by omega)) ?_;rintro _ h2 ⟨rfl,s2⟩;have H2:=H1.Hh s2;have hcr:0<=k8 ((bs.drop (p0/8)).take (p/8-p0/8))/\k8 ((bs.drop (p0/8)).take (p/8-p0/8))<4294967296:=by
    have:=(x8 0#32 ((bs.drop (p0/8)).take (p/8-p0/8))).isLt;unfold k8;omega
   have ea:IntKind.i64.wrap (Go.bits .and .u32 ((x8 0#32 ((bs.drop (p0/8)).take (p/8-p0/8))).toNat:Int) 65535)=k8 ((bs.take (r.i/8).toNat).drop ((p0:Int)/8).toNat)%65536:=by
    have e3:=YO hcr;have e4:((x8 0#32 ((bs.drop (p0/8)).take (p/8-p0/8))).toNat:Int)=k8 ((bs.drop (p0/8)).take (p/8-p0/8)):=rfl;rw[e4,e3,i64_in _ (by omega),eh]
   refine⟨_,rfl,fun _=>?_⟩;rw[ea];have eF:gF5 bs p0 fl r=bdK 4 ((tk bs 16 r).2 != k8 ((bs.take (r.i/8).toNat).drop ((p0:Int)/8).toNat)%65536) (tk bs 16 r).1:=vP ⟨hz,hkr⟩;refine⟨fun hne=>?_,fun heq=>?_⟩
   ·have eF2:gF5 bs p0 fl r=⟨(tk bs (8*2) r).1.i,4⟩:=by rw[eF];unfold bdK;rw[vP ⟨hk,hne⟩]
    rw[eF2]at hP;refine⟨4,(G.sub H2.sb).e4,H2.okE Q hi,fun _ _=>?_⟩;exact Q0 Q hi (H2.zca Q (K:=4) (.inl (by decide))) hP _ _ _ _ _ _ _ _ _ _ _ _ _ _ _ _ _ _ _ _ _ _ _ _ _ _
   ·have eF2:gF5 bs p0 fl r=(tk bs (8*2) r).1:=by rw[eF];unfold bdK;rw[vM (fun e=>by rw[heq]at e;cases e.2)]
    rw[eF2]at hP;intro _ _;exact Q0 Q hi H2 hP _ _ _ _ _ _ _ _ _ _ _ _ _ _ _ _ _ _ _ _ _ _ _ _ _ _
  ·have hk:(tk bs (8*2) r).1.k≠0:=by simpa[zy,zc]using hk
   have eF2:gF5 bs p0 fl r=(tk bs (8*2) r).1:=by
    unfold gF5;split
    ·exact vM fun e=>hk e.1
    ·rename_i h;rw[As (fun e=>h ⟨hz,e⟩)]
   rw[eF2]at hP;refine fun _=>⟨fun h=>h.elim,fun _ _ _=>?_⟩
   exact Q0 Q hi H1 hP _ _ _ _ _ _ _ _ _ _ _ _ _ _ _ _ _ _ _ _ _ _ _ _ _ _
 ·have hz:¬fl/2%2=1:=by simpa using hz
  have e:gF5 bs p0 fl r=r:=vM (fun h=>hz h.1);rw[e]at hP;intro _;exact Q0 Q hi H hP _ _ _ _ _ _ _ _ _ _ _ _ _ _ _ _ _ _ _ _ _ _ _ _ _ _
def gT(bs:List Int)(fl d:Int)(r:Rd):Rd×List Int:=if fl/d%2=1 then txL bs (bs.length+1) r []else(r,[])
theorem G7:∀ {n:Nat} {r:Rd} {acc:List Int},le2 r (txL bs n r acc).1
 | 0,r,acc=>fun h=>⟨h,by unfold txL;simp⟩
 | n+1,r,acc=>by
  unfold txL;split
  ·split
   ·exact y7
   ·exact y7.trans G7
  ·exact fun h=>⟨h,by simp⟩
theorem Nr:∀ {n:Nat} {r:Rd} {acc:List Int},le2 r (byL bs n r acc).1
 | 0,r,acc=>fun h=>⟨h,by unfold byL;simp⟩
 | n+1,r,acc=>by
  unfold byL;split
  ·split
   ·exact y7.trans Nr
   ·exact y7
  ·exact fun h=>⟨h,by simp⟩
theorem Zm{fl d:Int}:le2 r (gT bs fl d r).1:=by
 unfold gT;split
 ·exact G7
 ·exact fun h=>⟨h,by simp⟩
theorem UO(Q:HG h0 hs bm bF bE bM)(hi:qaC (yb oPP s) h0)(G:ErrS h0)(hx:zk h0 .u8 a bs)(L:bs.length<=65536)(hc:bs.length<=c)(hb:okB bs)(H:HS h0 hs h bm bF bE bM a c bs m T r fl mt xf os u4 u5 u6 x4 x5 x6)(hfl:0<=fl/\fl<256)(hle:r.k=0->(p0:Int)<=r.i)
  (hP:∀h',HS h0 hs h' bm bF bE bM a c bs m T (gF5 bs p0 fl r) fl mt xf os u4 u5 u6 x4 x5 x6->Post (zG (gF5 bs p0 fl r).k) h')
  (e4 e6 e7 e8 e9 e10 e11 e12 e13 e14 e15 e16 e17 e18 e19 e20 e21 e22:Value) :
  gd4.wp oPP (yb oPP s) yk Post [.pointer (some ⟨bm,0,none⟩),.pointer (some ⟨bM,0,none⟩),.pointer (some ⟨bF,0,none⟩),.pointer (some ⟨bE,0,none⟩),e4,.int .i64 (p0:Int),e6,e7,e8,e9,e10,e11,e12,e13,e14,e15,e16,e17,e18,e19,e20,e21,e22] h []:=by
 simp only[gd4,Tr.wp,Ex.ev,coerce,za,zj,zN,yq,zw,zr,vA,vB,vJ,vI,uI,uA,zp];obtain⟨p,q1,q2,M⟩:=id H.mp;refine⟨_,H.gF,by simp,_,(yy M.hb).2.1,by simp,_,H.gM,?_⟩;exact zcT Q hi G hx L hc hb H hfl q1 (fun hk=>by have e:=q2 hk;have h2:=hle hk;rw[e]at h2 ⊢;simp only at h2 ⊢;exact⟨trivial,by omega⟩) hP _ _ _ _ _ _ _ _ _ _ _ _ _ _ _ _ _ _ _
theorem UP(Q:HG h0 hs bm bF bE bM)(hi:qaC (yb oPP s) h0)(G:ErrS h0)(hx:zk h0 .u8 a bs)(L:bs.length<=65536)(hc:bs.length<=c)(hb:okB bs)(H:HS h0 hs h bm bF bE bM a c bs m T r fl mt xf os u4 u5 (.slice none 0 0) x4 x5 [])(hfl:0<=fl/\fl<256)(hle:r.k=0->(p0:Int)<=r.i)
  (hP:∀u6 h',HS h0 hs h' bm bF bE bM a c bs m T (gF5 bs p0 fl (gT bs fl 16 r).1) fl mt xf os u4 u5 u6 x4 x5 (gT bs fl 16 r).2->Post (zG (gF5 bs p0 fl (gT bs fl 16 r).1).k) h')
  (e4 e6 e7 e8 e9 e10 e11 e12 e13 e14 e15 e16 e17 e18:Value) :
  gd3.wp oPP (yb oPP s) yk Post [.pointer (some ⟨bm,0,none⟩),.pointer (some ⟨bM,0,none⟩),.pointer (some ⟨bF,0,none⟩),.pointer (some ⟨bE,0,none⟩),e4,.int .i64 (p0:Int),e6,e7,e8,e9,e10,e11,e12,e13,e14,e15,e16,e17,e18] h []:=by
 simp only[gd3,Tr.wp,z8,Ex.ev,coerce,toInt_int,za,zd,zi,ze,zj,zN,yq,zB,arith,Cst.val,SV.den,zq,zK,zz,zm,zl,zw,zr,ye,vF,vG,vA,vB,vC,vD,vE,vJ,vI,vK,uB,uF,uE,uI,uA,uJ,vY,vL,zp];have hle2:(gT bs fl 16 r).1.k=0->(p0:Int)<=(gT bs fl 16 r).1.i:=fun hk=>by have:=Zm hk;have:=hle this.1;omega
 refine⟨zG r.k,zc,H.gE,fun hk=>?_,fun hk=>?_⟩
 ·have hk:r.k=0:=by simpa[zy,zc]using hk
  refine⟨by simp,_,H.gM,fun _=>?_⟩;rw[(Nq hfl).2.2.1];refine⟨fun hz=>?_,fun hz=>?_⟩
  ·have hz:fl/16%2=1:=by simpa using hz
   have eT:gT bs fl 16 r=txL bs (bs.length+1) r []:=vP hz;rw[eT]at hP hle2;refine⟨_,H.gF,?_⟩;refine zb.mono (WY hi G.el.es hx L H.mp hk) ?_;rintro v h1 B;obtain⟨a1,l1,c1,rfl,okM,okE,_,_,HH⟩:=H.fill (S:=yb oPP s) Q hk B;refine⟨_,_,_,zG (txL bs (bs.length+1) r []).1.k,zc,by rw[zc],by simp,okM 6 (by decide) hi,okE 6 (by decide) _ hi,fun _=>?_⟩;simp only[zc];exact UO Q hi G hx L hc hb HH hfl hle2 (hP _) _ _ _ _ _ _ _ _ _ _ _ _ _ _ _ _ _ _
  ·have hz:¬fl/16%2=1:=by simpa using hz
   have eT:gT bs fl 16 r=(r,[]):=vM hz;rw[eT]at hP hle2;intro _;exact UO Q hi G hx L hc hb H hfl hle2 (hP _) _ _ _ _ _ _ _ _ _ _ _ _ _ _ _ _ _ _
 ·have hk:r.k≠0:=by simpa[zy,zc]using hk
  have eT:gT bs fl 16 r=(r,[]):=by
   unfold gT;split
   ·exact O9 hk
   ·rfl
  rw[eT]at hP hle2;refine fun _=>⟨fun h=>h.elim,fun _ _=>?_⟩
  exact UO Q hi G hx L hc hb H hfl hle2 (hP _) _ _ _ _ _ _ _ _ _ _ _ _ _ _ _ _ _ _
theorem UQ(Q:HG h0 hs bm bF bE bM)(hi:qaC (yb oPP s) h0)(G:ErrS h0)(hx:zk h0 .u8 a bs)(L:bs.length<=65536)(hc:bs.length<=c)(hb:okB bs)(H:HS h0 hs h bm bF bE bM a c bs m T r fl mt xf os u4 (.slice none 0 0) (.slice none 0 0) x4 [] [])(hfl:0<=fl/\fl<256)(hle:r.k=0->(p0:Int)<=r.i)
  (hP:∀u5 u6 h',HS h0 hs h' bm bF bE bM a c bs m T (gF5 bs p0 fl (gT bs fl 16 (gT bs fl 8 r).1).1) fl mt xf os u4 u5 u6 x4 (gT bs fl 8 r).2 (gT bs fl 16 (gT bs fl 8 r).1).2->Post (zG (gF5 bs p0 fl (gT bs fl 16 (gT bs fl 8 r).1).1).k) h')
  (e4 e6 e7 e8 e9 e10 e11 e12 e13 e14:Value) :
  gd2.wp oPP (yb oPP s) yk Post [.pointer (some ⟨bm,0,none⟩),.pointer (some ⟨bM,0,none⟩),.pointer (some ⟨bF,0,none⟩),.pointer (some ⟨bE,0,none⟩),e4,.int .i64 (p0:Int),e6,e7,e8,e9,e10,e11,e12,e13,e14] h []:=by
 simp only[gd2,Tr.wp,z8,Ex.ev,coerce,toInt_int,za,zd,zi,ze,zj,zN,yq,zB,arith,Cst.val,SV.den,zq,zK,zz,zm,zl,zw,zr,ye,vF,vG,vA,vB,vC,vD,vE,vJ,vI,vK,uB,uF,uE,uI,uA,uJ,vY,vL,zp];have hle2:(gT bs fl 8 r).1.k=0->(p0:Int)<=(gT bs fl 8 r).1.i:=fun hk=>by have:=Zm hk;have:=hle this.1;omega
 refine⟨zG r.k,zc,H.gE,fun hk=>?_,fun hk=>?_⟩
 ·have hk:r.k=0:=by simpa[zy,zc]using hk
  refine⟨by simp,_,H.gM,fun _=>?_⟩;rw[(Nq hfl).2.1];refine⟨fun hz=>?_,fun hz=>?_⟩
  ·have hz:fl/8%2=1:=by simpa using hz
   have eT:gT bs fl 8 r=txL bs (bs.length+1) r []:=vP hz;rw[eT]at hP hle2;refine⟨_,H.gF,?_⟩;refine zb.mono (WY hi G.el.es hx L H.mp hk) ?_;rintro v h1 B;obtain⟨a1,l1,c1,rfl,okM,okE,_,HH,_⟩:=H.fill (S:=yb oPP s) Q hk B;refine⟨_,_,_,zG (txL bs (bs.length+1) r []).1.k,zc,by rw[zc],by simp,okM 5 (by decide) hi,okE 5 (by decide) _ hi,fun _=>?_⟩;simp only[zc];exact UP Q hi G hx L hc hb HH hfl hle2 (hP _) _ _ _ _ _ _ _ _ _ _ _ _ _ _
  ·have hz:¬fl/8%2=1:=by simpa using hz
   have eT:gT bs fl 8 r=(r,[]):=vM hz;rw[eT]at hP hle2;intro _;exact UP Q hi G hx L hc hb H hfl hle2 (hP _) _ _ _ _ _ _ _ _ _ _ _ _ _ _
 ·have hk:r.k≠0:=by simpa[zy,zc]using hk
  have eT:gT bs fl 8 r=(r,[]):=by
   unfold gT;split
   ·exact O9 hk
   ·rfl
  rw[eT]at hP hle2;refine fun _=>⟨fun h=>h.elim,fun _ _=>?_⟩
  exact UP Q hi G hx L hc hb H hfl hle2 (hP _) _ _ _ _ _ _ _ _ _ _ _ _ _ _
def gE(bs:List Int)(fl:Int)(r:Rd):Rd×List Int:=if fl/4%2=1 then byL bs (tk bs 16 r).2.toNat (tk bs 16 r).1 []else(r,[])
theorem zcU:le2 r (gE bs fl r).1:=by
 unfold gE;split
 ·exact y7.trans Nr
 ·exact fun h=>⟨h,by simp⟩
theorem zcV(Q:HG h0 hs bm bF bE bM)(hi:qaC (yb oPP s) h0)(G:ErrS h0)(hx:zk h0 .u8 a bs)(L:bs.length<=65536)(hc:bs.length<=c)(hb:okB bs)(H:HS h0 hs h bm bF bE bM a c bs m T r fl mt xf os (.slice none 0 0) (.slice none 0 0) (.slice none 0 0) [] [] [])(hfl:0<=fl/\fl<256)(hle:r.k=0->(p0:Int)<=r.i)
  (hP:∀u4 u5 u6 h',HS h0 hs h' bm bF bE bM a c bs m T (gF5 bs p0 fl (gT bs fl 16 (gT bs fl 8 (gE bs fl r).1).1).1) fl mt xf os u4 u5 u6 (gE bs fl r).2 (gT bs fl 8 (gE bs fl r).1).2 (gT bs fl 16 (gT bs fl 8 (gE bs fl r).1).1).2->Post (zG (gF5 bs p0 fl (gT bs fl 16 (gT bs fl 8 (gE bs fl r).1).1).1).k) h')
  (e4 e6 e7 e8 e9 e10 e11 e12 e13:Value) :
  gd1.wp oPP (yb oPP s) yk Post [.pointer (some ⟨bm,0,none⟩),.pointer (some ⟨bM,0,none⟩),.pointer (some ⟨bF,0,none⟩),.pointer (some ⟨bE,0,none⟩),e4,.int .i64 (p0:Int),e6,e7,e8,e9,e10,e11,e12,e13,.int .i64 fl] h []:=by
 simp only[gd1,Tr.wp,z8,Ex.ev,coerce,toInt_int,za,zd,zi,ze,zj,zN,yq,zB,arith,Cst.val,SV.den,zq,zK,zz,zm,zl,zw,zr,ye,vF,vG,vA,vB,vC,vT,vD,vE,vJ,vI,vK,uB,uF,uE,uI,uA,uJ,vY,vL,zp];have hle2:(gE bs fl r).1.k=0->(p0:Int)<=(gE bs fl r).1.i:=fun hk=>by have:=zcU hk;have:=hle this.1;omega
 rw[(Nq hfl).1];refine⟨fun hz=>?_,fun hz=>?_⟩
 ·have hz:fl/4%2=1:=by simpa using hz
  have eT:gE bs fl r=byL bs (tk bs 16 r).2.toNat (tk bs 16 r).1 []:=vP hz;rw[eT]at hP hle2;refine zb.mono (BO Q hi G.el.es hx (by omega) H 2) ?_;rintro _ h1 ⟨rfl,H1⟩;have nm:=yl (bs:=bs) (n:=16) (r:=r);have e16:(2:Int)^16=65536:=by decide
  rw[e16]at nm;obtain⟨n,en⟩:=vZ nm.1;have en2:(tk bs (8*2) r).2=(n:Int):=en;have eN:(tk bs 16 r).2.toNat=n:=by rw[en];rfl
  rw[eN]at hP hle2;rw[en2];refine⟨_,rfl,zG (tk bs (8*2) r).1.k,zc,H1.gE,fun hk=>?_,fun hk=>?_⟩
  ·have hk:(tk bs (8*2) r).1.k=0:=by simpa[zy,zc]using hk
   refine⟨_,H1.gF,?_⟩;refine zb.mono (za9 hi G.el.es hx L H1.mp hk n (by omega)) ?_;rintro v h2 B;obtain⟨a1,l1,c1,rfl,okM,okE,HH,_,_⟩:=H1.fill (S:=yb oPP s) Q hk B;refine⟨_,_,_,zG (byL bs n (tk bs (8*2) r).1 []).1.k,zc,by rw[zc],by simp,okM 4 (by decide) hi,okE 4 (by decide) _ hi,fun _ _=>?_⟩;simp only[zc];exact UQ Q hi G hx L hc hb HH hfl hle2 (hP _) _ _ _ _ _ _ _ _ _ _
  ·have hk:(tk bs (8*2) r).1.k≠0:=by simpa[zy,zc]using hk
   have eB:byL bs n (tk bs 16 r).1 []=((tk bs 16 r).1,[]):=OA hk;rw[eB]at hP hle2;intro _ _;exact UQ Q hi G hx L hc hb H1 hfl hle2 (hP _) _ _ _ _ _ _ _ _ _ _
 ·have hz:¬fl/4%2=1:=by simpa using hz
  have eT:gE bs fl r=(r,[]):=vM hz;rw[eT]at hP hle2;intro _;exact UQ Q hi G hx L hc hb H hfl hle2 (hP _) _ _ _ _ _ _ _ _ _ _
def PHd(h0 h:qaA)(bm bM:Nat)(a:Option Addr)(c:Nat)(bs:List Int)(m:MC)(T:TypeId)(r:Rd)(v:Value)(h':qaA):Prop:=
 v=zG (gHd bs r).k/\∃bF bE u4 u5 u6,HG h0 h bm bF bE bM/\HS h0 h h' bm bF bE bM a c bs m T (gHd bs r) (gFl bs r) (gMt bs r).2 (gXf bs r).2 (gOs bs r).2 u4 u5 u6 (gEx bs r).2 (gNa bs r).2 (gCo bs r).2
theorem zcb(hi:qaC (yb oPP s) h0)(G:ErrS h0)(hx:zk h0 .u8 a bs)(L:bs.length<=65536)(hc:bs.length<=c)(hb:okB bs)(hp0:p0<=8*bs.length)(M:MAt h0 h bm a c bs p0 m T)(hM:h0 bM=none)(ne:bM≠bm)
  (cM:h bM=some (.cells #[.int .i64 0,.int .i64 0,.int .i64 0,.int .i64 0,.slice none 0 0,.slice none 0 0,.slice none 0 0,.int .i64 0] TM)) :
  zb oPP (yb oPP s) Ae #[.pointer (some ⟨bm,0,none⟩),.pointer (some ⟨bM,0,none⟩)] h (PHd h0 h bm bM a c bs m T ⟨p0,0⟩):=by
 refine GR (vs:=[.pointer (some ⟨bm,0,none⟩),.pointer (some ⟨bM,0,none⟩)]) ⟨rfl,rfl,trivial⟩ (hi.sub M.sb) ?_;simp only[CK,Tr.wp,z8,Ex.ev,coerce,toInt_int,za,zj,zN,yq,zB,Cst.val,SV.den,zq,zK,zz,zm,zl,yF,zw,zr,ye,vF,vG,nJ,vA,vB,vD,vE,vJ,vI,vK,uE,uI,uA,uJ,vY,vL,zp];intro bF hbF bE hbE;have hbm:h bm≠none:=by rw[M.hb];simp
 have hbM:h bM≠none:=by rw[cM];simp
 have nF:bF≠bm:=fun e=>hbm (e▸hbF)
 have nFM:bF≠bM:=fun e=>hbM (e▸hbF)
 have hbE':bE≠bF:=fun e=>by rw[e,upd_same]at hbE;cases hbE
 have hE:h bE=none:=by rw[upd_ne hbE']at hbE;exact hbE
 have nE:bE≠bm:=fun e=>hbm (e▸hE)
 have nEM:bE≠bM:=fun e=>hbM (e▸hE)
 have Q:HG h0 h bm bF bE bM:=⟨zU M.sb hE,hM,hE,hbM,uW nF,uW nE,uW hbE',ne,uW nEM,uW nFM⟩;have s2:qaB h0 (upd (upd h bF (.cells #[.pointer (some ⟨bm,0,none⟩)] 53)) bE (.cells #[.nilIface] 61)):=yz (yz M.sb (zU M.sb hbF)) (zU M.sb hE);have g:∀y,y≠bF->y≠bE->upd (upd h bF (.cells #[.pointer (some ⟨bm,0,none⟩)] 53)) bE (.cells #[.nilIface] 61) y=h y:=fun y h1 h2=>(upd_ne h2).trans (upd_ne h1)
 generalize hh:upd (upd h bF (.cells #[.pointer (some ⟨bm,0,none⟩)] 53)) bE (.cells #[.nilIface] 61)=h1 at s2 g ⊢;have H0:HS h0 h h1 bm bF bE bM a c bs m T ⟨(p0:Int),0⟩ 0 0 0 0 (.slice none 0 0) (.slice none 0 0) (.slice none 0 0) [] [] []:=
  ⟨⟨p0,hp0,fun _=>rfl,⟨(g bm (uW nF) (uW nE)).trans M.hb,M.nb,s2⟩⟩,⟨⟨53,by rw[<-hh];exact(upd_ne (uW hbE')).trans upd_same⟩,⟨61,by rw[<-hh];exact upd_same⟩⟩,⟨TM,(g bM (uW nFM) (uW nEM)).trans cM⟩,MS.nil,MS.nil,MS.nil,fun y h1 _ _=>g y (fun e=>h1 (e▸hbF)) (fun e=>h1 (e▸hE)),fun _=>⟨fun y g=>(by cases g),fun y g=>(by cases g),fun y g=>(by cases g)⟩⟩
 obtain⟨p,q1,q2,M2⟩:=id H0.mp;obtain rfl:p0=p:=by have:=q2 rfl;simp only[Rd.mk.injEq,uA]at this;omega
 refine⟨_,H0.gF,by simp,_,(yy M2.hb).2.1,?_⟩;refine zb.mono (BO Q hi G.el.es hx (by omega) H0 1 (by decide)) ?_;rintro _ h2 ⟨rfl,H1⟩;refine⟨_,rfl,?_⟩;refine zb.mono (JR Q hi G.el.es H1 _) ?_;rintro _ h3 ⟨rfl,H2⟩;refine⟨rfl,?_⟩;refine zb.mono (BO Q hi G.el.es hx (by omega) H2 1 (by decide)) ?_;rintro _ h4 ⟨rfl,H3⟩;refine⟨_,rfl,?_⟩;refine zb.mono (JR Q hi G.el.es H3 _) ?_;rintro _ h5 ⟨rfl,H4⟩;refine⟨rfl,?_⟩;refine zb.mono (BO Q hi G.el.es hx (by omega) H4 1 (by decide)) ?_;rintro _ h6 ⟨rfl,H5⟩;refine⟨_,rfl,?_⟩;refine zb.mono (JR Q hi G.el.es H5 _) ?_;rintro _ h7 ⟨rfl,H6⟩;refine⟨rfl,?_⟩;refine zb.mono (BO Q hi G.el.es hx (by omega) H6 1 (by decide)) ?_;rintro _ h8 ⟨rfl,H7⟩;have H8:=H7.wV Q (tk bs 8 (gh3 bs ⟨(p0:Int),0⟩)).2;refine⟨_,rfl,by simp,H7.okM Q hi (by decide),by simp,_,H8.gM,?_⟩;refine zb.mono (JR Q hi G.el.es H8 _) ?_;rintro _ h9 ⟨rfl,H9⟩;refine⟨rfl,?_⟩;have e4:bd (!decide ((tk bs 8 (gh3 bs ⟨(p0:Int),0⟩)).2<32)) (tk bs 8 (gh3 bs ⟨(p0:Int),0⟩)).1=gh4 bs ⟨(p0:Int),0⟩:=by
  unfold gh4 gFl;congr 1;by_cases hx:(tk bs 8 (gh3 bs ⟨(p0:Int),0⟩)).2<32
  ·rw[pZ hx,pR (by omega)];rfl
  ·rw[pR hx,pZ (by omega)];rfl
 have H9:HS h0 h h9 bm bF bE bM a c bs m T (gh4 bs ⟨(p0:Int),0⟩) (gFl bs ⟨(p0:Int),0⟩) 0 0 0 (.slice none 0 0) (.slice none 0 0) (.slice none 0 0) [] [] []:=by rw[<-e4];exact H9
 refine zb.mono (BO Q hi G.el.es hx (by omega) H9 4 (by decide)) ?_;rintro _ h10 ⟨rfl,H10⟩;refine⟨_,rfl,by simp,H10.okM Q hi (by decide),?_⟩;have H11:=H10.zd7 Q (tk bs (8*4) (gh4 bs ⟨(p0:Int),0⟩)).2;refine zb.mono (BO Q hi G.el.es hx (by omega) H11 1 (by decide)) ?_;rintro _ h12 ⟨rfl,H12⟩;refine⟨_,rfl,by simp,H12.okM Q hi (by decide),?_⟩;have H13:=H12.zd8 Q (tk bs (8*1) (tk bs (8*4) (gh4 bs ⟨(p0:Int),0⟩)).1).2;refine zb.mono (BO Q hi G.el.es hx (by omega) H13 1 (by decide)) ?_;rintro _ h14 ⟨rfl,H14⟩;refine⟨_,rfl,by simp,H14.okM Q hi (by decide),?_⟩;have H15:=H14.U0 Q (tk bs (8*1) (tk bs (8*1) (tk bs (8*4) (gh4 bs ⟨(p0:Int),0⟩)).1).1).2;refine⟨by simp,_,H15.gM,?_⟩;have hle:(gOs bs ⟨(p0:Int),0⟩).1.k=0->(p0:Int)<=(gOs bs ⟨(p0:Int),0⟩).1.i:=fun hk=>by
  have h1:le2 ⟨(p0:Int),0⟩ (gh1 bs ⟨(p0:Int),0⟩):=y7.trans xP;have h2:le2 (gh1 bs ⟨(p0:Int),0⟩) (gh2 bs ⟨(p0:Int),0⟩):=y7.trans xP;have h3:le2 (gh2 bs ⟨(p0:Int),0⟩) (gh3 bs ⟨(p0:Int),0⟩):=y7.trans xP;have h4:le2 (gh3 bs ⟨(p0:Int),0⟩) (gh4 bs ⟨(p0:Int),0⟩):=y7.trans xP;have h5:le2 (gh4 bs ⟨(p0:Int),0⟩) (gOs bs ⟨(p0:Int),0⟩).1:=(y7.trans y7).trans y7;exact((((h1.trans h2).trans h3).trans h4).trans h5 hk).2
 exact zcV (r:=(gOs bs ⟨(p0:Int),0⟩).1) Q hi G hx L hc hb H15 G6 hle (fun u4 u5 u6 h' H=>⟨rfl,bF,bE,u4,u5,u6,Q,H⟩) _ _ _ _ _ _ _ _ _
end
end
variable {al:List Int}
section
section
variable {s:Nat -> Prop}{bw : Nat}{Post:Value -> qaA -> Prop}
variable {TW : TypeId}{ao:Option Addr}{co:Nat}
theorem EU{vs:Array Value}(hb:h b=some (.cells vs T))(hv:vs[i]? = some v):zJ h ⟨b,i,none⟩ v=h:=by
 rw[hset_cells' hb];have e:vs.setIfInBounds i v=vs:=by
  apply Array.ext_getElem?;intro j;rw[Array.getElem?_setIfInBounds];split
  ·rename_i e;subst e;rw[hv];split
   ·rfl
   ·rename_i h;exact absurd (uS.1 hv).1 h
  ·rfl
 rw[e,qb hb]
structure MO(h0 h:qaA)(bm:Nat)(a:Option Addr)(c:Nat)(bs:List Int)(T:TypeId)(r:Rd)(xs:List Int)(ao:Option Addr)(co:Nat):Prop where
 mt:∃(p:Nat) (w:Value) (last:Bool) (l d:Value),p<=8*bs.length/\(r.k=0->r=⟨(p:Int),0⟩)/\h bm=some (zV a c bs p ⟨w,.slice ao xs.length co,100000-(xs.length:Int),last,l,d⟩ T)
 pt:Part .u8 h (.slice ao xs.length co) xs
 nw:∀y,zf (.slice ao xs.length co)=some y->h0 y=none/\y≠bm
 sb:qaB h0 h
 le:xs.length<=100000
theorem MO.err{r':Rd}(H:MO h0 h bm a c bs T r xs ao co)(hk:r'.k≠0):MO h0 h bm a c bs T r' xs ao co:=by
 obtain⟨p,w,last,l,d,h1,h2,h3⟩:=H.mt;exact⟨⟨p,w,last,l,d,h1,fun e=>absurd e hk,h3⟩,H.pt,H.nw,H.sb,H.le⟩
def PU(h h':qaA)(bm:Nat)(w u:Value)(x:List Int):Prop:=Part .u8 h' u x/\∀y,zf u=some y->h y=none/\y≠bm/\zf w≠some y
def PM(h0 h:qaA)(bm:Nat)(a:Option Addr)(c:Nat)(bs:List Int)(T:TypeId)(r:Rd)(xs:List Int)(ao:Option Addr)(co:Nat)(v:Value)(h':qaA):Prop:=
 ∃(fl mt xf os:Int) (u4 u5 u6:Value) (sz:Int) (ao':Option Addr) (co':Nat),v=.tuple #[.agg #[.int .i64 fl,.int .i64 mt,.int .i64 xf,.int .i64 os,u4,u5,u6,.int .i64 sz],zG (gC2 bs xs.length r).k] /\
  MO h0 h' bm a c bs T (gC2 bs xs.length r) (xs++(gSt bs xs.length r).2) ao' co'/\(∀y,h y≠none->y≠bm->zf (.slice ao xs.length co)≠some y->h' y=h y) /\
  (∀y,zf (.slice ao' (xs++(gSt bs xs.length r).2).length co')=some y->h y=none\/zf (.slice ao xs.length co)=some y) /\
  (∃a4 l4 c4 a5 l5 c5 a6 l6 c6,u4=.slice a4 l4 c4/\u5=.slice a5 l5 c5/\u6=.slice a6 l6 c6) /\
  ((gC2 bs xs.length r).k=0->fl=gFl bs r/\mt=(gMt bs r).2/\xf=(gXf bs r).2/\os=(gOs bs r).2/\sz=((gSt bs xs.length r).2.length:Int) /\
   PU h h' bm (.slice ao' (xs++(gSt bs xs.length r).2).length co') u4 (gEx bs r).2/\PU h h' bm (.slice ao' (xs++(gSt bs xs.length r).2).length co') u5 (gNa bs r).2/\PU h h' bm (.slice ao' (xs++(gSt bs xs.length r).2).length co') u6 (gCo bs r).2/\D3 u4 u5 u6)
structure MX(h0 h hB:qaA)(bm bM:Nat)(bs xs:List Int)(ao:Option Addr)(co:Nat)(TM:TypeId)(fl mt xf os:Int)(u4 u5 u6:Value)(x4 x5 x6:List Int):Prop where
 sB:qaB h0 hB
 nB:hB bm=none
 nM:h bM=none
 n0:h0 bM=none
 ne:bM≠bm
 fB:∀y,h y≠none->y≠bm->zf (.slice ao xs.length co)≠some y->hB y=h y
 cM:hB bM=some (.cells #[.int .i64 fl,.int .i64 mt,.int .i64 xf,.int .i64 os,u4,u5,u6,.int .i64 0] TM)
 p4:Part .u8 hB u4 x4/\∀y,zf u4=some y->h y=none/\y≠bm/\y≠bM
 p5:Part .u8 hB u5 x5/\∀y,zf u5=some y->h y=none/\y≠bm/\y≠bM
 p6:Part .u8 hB u6 x6/\∀y,zf u6=some y->h y=none/\y≠bm/\y≠bM
 f4:∃a4 l4 c4 a5 l5 c5 a6 l6 c6,u4=.slice a4 l4 c4/\u5=.slice a5 l5 c5/\u6=.slice a6 l6 c6
 le:xs.length<=100000
 dj:D3 u4 u5 u6
abbrev kcG(a:Option Addr)(c:Nat)(bs xs:List Int)(T TW:TypeId)(bm bw:Nat):KC:=⟨a,c,bs,0,100000-xs.length,32768,T,TW,bm,bw,xs⟩
section
variable {hB hb:qaA}{r2:Rd}{last:Bool}{l d:Value}
theorem IM.mo(X:MX h0 h hB bm bM bs xs ao co TM fl mt xf os u4 u5 u6 x4 x5 x6)(s1:qaB hB hb)(I:IM hb h' (kcG a c bs xs T TW bm bw) r2 al last l d) :
  ∃ao' co',MO h0 h' bm a c bs T r2 (xs++al) ao' co'/\(∀y,zf (.slice ao' (xs++al).length co')=some y->hB y=none)/\(∀y,zf (.slice ao' (xs++al).length co')=some y->h y=none\/zf (.slice ao xs.length co)=some y):=by
 obtain⟨p,ao',co',hp,hr,hm,P,N⟩:=I.mt;have eo:(kcG a c bs xs T TW bm bw).otl al=xs++al:=by simp[KC.otl]
 rw[eo]at hm P N;have out:∀y,zf (.slice ao' (xs++al).length co')=some y->y≠bm/\hB y=none:=fun y hy=>⟨(IM.xE N hy).1,zU s1 (IM.xE N hy).2.2⟩
 have hle:=I.le;simp only[uE]at hle;refine⟨ao',co',⟨⟨p,.pointer (some ⟨bw,0,none⟩),last,l,d,hp,fun hk=>UN (hr hk) hk,?_⟩,P,fun y hy=>⟨zU X.sB (out y hy).2,(out y hy).1⟩,X.sB.trans (s1.trans I.sb),by rw[vR];have:=X.le;omega⟩,fun y hy=>(out y hy).2,fun y hy=>?_⟩
 ·have er:((100000-xs.length:Nat):Int)-((al.length-0:Nat):Int)=100000-((xs++al).length:Int):=by rw[vR];have:=X.le;omega
  rw[hm,<-er];rfl
 ·by_cases h1:h y=none
  ·exact .inl h1
  ·by_cases h2:zf (.slice ao xs.length co)=some y
   ·exact .inr h2
   ·have:=X.fB y h1 (out y hy).1 h2;rw[(out y hy).2]at this;exact absurd this.symm h1
theorem ld8{v0 v1 v2 v3 v4 v5 v6 v7:Value}(hb:h b=some (.cells #[v0,v1,v2,v3,v4,v5,v6,v7] T)):zg h ⟨b,0,none⟩=some v0/\zg h ⟨b,1,none⟩=some v1/\zg h ⟨b,1+1,none⟩=some v2/\zg h ⟨b,1+1+1,none⟩=some v3/\zg h ⟨b,1+1+1+1,none⟩=some v4/\zg h ⟨b,1+1+1+1+1,none⟩=some v5/\zg h ⟨b,1+1+1+1+1+1,none⟩=some v6/\zg h ⟨b,1+1+1+1+1+1+1,none⟩=some v7:=by
 simp[zg,hb]
theorem PM.bad(X:MX h0 h hB bm bM bs xs ao co TM fl mt xf os u4 u5 u6 x4 x5 x6)(s1:qaB hB hb)(I:IM hb h' (kcG a c bs xs T TW bm bw) r2 al last l d)(eS:(gSt bs xs.length r).2=al)(hK:K≠0)(eC:(gC2 bs xs.length r).k=K) :
  PM h0 h bm a c bs T r xs ao co (.tuple #[.agg #[.int .i64 fl,.int .i64 mt,.int .i64 xf,.int .i64 os,u4,u5,u6,.int .i64 0],zG K]) h':=by
 obtain⟨ao',co',M,oB,oh⟩:=IM.mo X s1 I;have sb:qaB hB h':=s1.trans I.sb;rw[<-eC]at hK;refine⟨fl,mt,xf,os,u4,u5,u6,0,ao',co',by rw[eC],by rw[eS];exact M.err hK,fun y g1 g2 g3=>?_,by rw[eS];exact oh,X.f4,fun e=>absurd e hK⟩;have e:=X.fB y g1 g2 g3;cases ho:h y with
 | none=>exact absurd ho g1
 | some o=>exact sb y o (e.trans ho)
theorem MX.cM'(X:MX h0 h hB bm bM bs xs ao co TM fl mt xf os u4 u5 u6 x4 x5 x6)(sb:qaB hB h'):h' bM=some (.cells #[.int .i64 fl,.int .i64 mt,.int .i64 xf,.int .i64 os,u4,u5,u6,.int .i64 0] TM):=sb _ _ X.cM
theorem PM.Cm(X:MX h0 h hB bm bM bs xs ao co TM (gFl bs r) (gMt bs r).2 (gXf bs r).2 (gOs bs r).2 u4 u5 u6 (gEx bs r).2 (gNa bs r).2 (gCo bs r).2)(s1:qaB hB hb)(I:IM hb h' (kcG a c bs xs T TW bm bw) r2 al last l d)(eS:(gSt bs xs.length r).2=al)(eC:gC2 bs xs.length r=r2)(hk:r2.k=0) :
  PM h0 h bm a c bs T r xs ao co (.tuple #[.agg #[.int .i64 (gFl bs r),.int .i64 (gMt bs r).2,.int .i64 (gXf bs r).2,.int .i64 (gOs bs r).2,u4,u5,u6,.int .i64 (al.length:Int)],.nilIface]) (upd h' bM (.cells #[.int .i64 (gFl bs r),.int .i64 (gMt bs r).2,.int .i64 (gXf bs r).2,.int .i64 (gOs bs r).2,u4,u5,u6,.int .i64 (al.length:Int)] TM)):=by
 obtain⟨ao',co',M,oB,oh⟩:=IM.mo X s1 I;have sb:qaB hB h':=s1.trans I.sb;have oM:∀y,zf (.slice ao' (xs++al).length co')=some y->y≠bM:=fun y hy e=>by have:=oB y hy;rw[e,X.cM]at this;cases this
 have pu:∀ {u:Value} {x:List Int},(Part .u8 hB u x/\∀y,zf u=some y->h y=none/\y≠bm/\y≠bM)->PU h (upd h' bM (.cells #[.int .i64 (gFl bs r),.int .i64 (gMt bs r).2,.int .i64 (gXf bs r).2,.int .i64 (gOs bs r).2,u4,u5,u6,.int .i64 (al.length:Int)] TM)) bm (.slice ao' (xs++al).length co') u x:=fun H=>by
  refine⟨(H.1.sub sb).keep fun y hy=>upd_ne (H.2 y hy).2.2,fun y hy=>⟨(H.2 y hy).1,(H.2 y hy).2.1,fun e=>?_⟩⟩;exact H.1.held y hy (oB y e)
 obtain⟨p,w,last',l',d',q1,q2,q3⟩:=M.mt;refine⟨_,_,_,_,u4,u5,u6,(al.length:Int),ao',co',?_,?_,fun y g1 g2 g3=>?_,by rw[eS];exact oh,X.f4,fun _=>⟨rfl,rfl,rfl,rfl,by rw[eS],?_⟩⟩
 ·rw[eC,hk];rfl
 ·rw[eC,eS];exact⟨⟨p,w,last',l',d',q1,q2,(upd_ne (uW X.ne)).trans q3⟩,M.pt.keep fun y hy=>upd_ne (oM y hy),M.nw,yz M.sb X.n0,M.le⟩
 ·rw[upd_ne (fun e=>g1 (by rw[e];exact X.nM))];have e:=X.fB y g1 g2 g3;cases ho:h y with
  | none=>exact absurd ho g1
  | some o=>exact sb y o (e.trans ho)
 ·rw[eS];exact⟨pu X.p4,pu X.p5,pu X.p6,X.dj⟩
theorem zcW(hi:qaC (yb oPP s) h0)(hiB:qaC (yb oPP s) hB)(G:ErrS h0)(hx:zk h0 .u8 a bs)(L:bs.length<=65536)(X:MX h0 h hB bm bM bs xs ao co TM (gFl bs r) (gMt bs r).2 (gXf bs r).2 (gOs bs r).2 u4 u5 u6 (gEx bs r).2 (gNa bs r).2 (gCo bs r).2)(s1:qaB hB hb)(I:IM hb h' (kcG a c bs xs T TW bm bw) r2 al last l d)(hk:r2.k=0)
  (eS:(gSt bs xs.length r).2=al)(eC:gC1 bs xs.length r=r2){a6:Option Addr}{c6:Nat}(hc6:(xs++al).length<=c6)(Ks:List Kt)(e2 e3 e5 e7 e8 e9:Value) :
  gm4.wp oPP (yb oPP s) yk (PM h0 h bm a c bs T r xs ao co) [.pointer (some ⟨bm,0,none⟩),.pointer (some ⟨bM,0,none⟩),e2,e3,.slice ao xs.length co,e5,.slice a6 (xs++al).length c6,e7,e8,e9] h' Ks:=by
 obtain⟨a4,l4,c4,a5,l5,c5,a7,l7,c7,rfl,rfl,rfl⟩:=X.f4;simp only[gm4,Tr.wp,z8,Ex.ev,coerce,toInt_int,za,zd,zi,ze,zj,zN,yq,qa,wE,zB,Cst.val,SV.den,zq,zK,zz,zm,zl,zw,zr,ye,vF,vG,vA,vB,vD,vE,vJ,vI,vK,uB,uF,uE,uI,uA,uJ,vY,vL,zp];have hib:=hiB.sub s1;have eT:gT2 bs xs.length r=tk bs 32 r2:=by unfold gT2;rw[eC]
 have eC2:gC2 bs xs.length r=bdK 4 ((tk bs 32 r2).2 != (al.length:Int)) (tk bs 32 r2).1:=by unfold gC2;rw[eT,eS]
 refine⟨by simp,?_⟩;refine zb.mono (CY (k:=kcG a c bs xs T TW bm bw) hib (G.el.es.sub (X.sB.trans s1)) (hx.sub (X.sB.trans s1)) (by show bs.length<=1048576;omega) I hk 32 (by decide)) ?_;rintro _ h3 ⟨rfl,I3⟩;have sb3:=s1.trans I3.sb;refine⟨(tk bs 32 r2).2,zG (tk bs 32 r2).1.k,zc,by rw[zc],fun hz=>?_,fun hz=>?_⟩
 ·have hz:(tk bs 32 r2).1.k≠0:=by simpa[zy,zc]using hz
  refine⟨_,_,_,_,_,_,_,_,_,_,_,_,_,_,ld8 (X.cM' sb3),?_⟩;rw[zc];exact PM.bad X s1 I3 eS hz (by rw[eC2];unfold bdK;rw[vM (fun e=>hz e.1)])
 ·have hz:(tk bs 32 r2).1.k=0:=by simpa[zy,zc]using hz
  have el:((slL (kJ 1 a6 ((xs.length:Int)).toNat (xs++al).length c6):Nat):Int)=(al.length:Int):=by
   have:slL (kJ 1 a6 ((xs.length:Int)).toNat (xs++al).length c6)=(xs++al).length-((xs.length:Int)).toNat:=by
    unfold kJ;split <;> rfl
   rw[this,vR];omega
  rw[el];refine⟨fun hne=>?_,fun heq=>?_⟩
  ·refine⟨_,_,_,_,_,_,_,_,_,_,_,_,_,_,ld8 (X.cM' sb3),4,(G.sub (X.sB.trans sb3)).e4,?_⟩;exact PM.bad (K:=4) X s1 I3 eS (by decide) (by rw[eC2];unfold bdK;rw[vP ⟨hz,hne⟩])
  ·have h6:=X.cM' sb3;have heq:(tk bs 32 r2).2=(al.length:Int):=by simpa using heq
   rw[heq];refine⟨⟨⟨_,(ld8 h6).2.2.2.2.2.2.2⟩,by simp[y8,h6],fun hs=>hi bM hs X.n0⟩,?_⟩;rw[hset_cells' h6];refine⟨_,_,_,_,_,_,_,_,_,_,_,_,_,_,ld8 upd_same,?_⟩;exact PM.Cm X s1 I3 eS (by rw[eC2,heq];unfold bdK;rw[vM (by simp)]) hz
theorem IM.Hh{k:KC}{h3:qaA}(I:IM hb h' k r2 al last l d)(s:qaB h' h3):IM hb h3 k r2 al last l d:=by
 obtain⟨p,ao,co,h1,h2,h4,P,N⟩:=I.mt;obtain⟨dd,at_,n,g1,g2,g3,g4⟩:=I.rg;exact⟨⟨p,ao,co,h1,h2,s _ _ h4,P.sub s,N⟩,⟨dd,at_,n,s _ _ g1,g2,g3.trans s,g4⟩,I.nm,I.ne,I.sb.trans s,I.le⟩
theorem zcX(hi:qaC (yb oPP s) h0)(hiB:qaC (yb oPP s) hB)(G:ErrS h0)(hx:zk h0 .u8 a bs)(L:bs.length<=65536)(X:MX h0 h hB bm bM bs xs ao co TM (gFl bs r) (gMt bs r).2 (gXf bs r).2 (gOs bs r).2 u4 u5 u6 (gEx bs r).2 (gNa bs r).2 (gCo bs r).2)(s1:qaB hB hb)(I:IM hb h' (kcG a c bs xs T TW bm bw) r2 al last l d)(hk:r2.k=0)
  (eS:(gSt bs xs.length r).2=al)(eA:alg (gSt bs xs.length r).1=r2)(hal:okB al)(Ks:List Kt)(e2 e3 e5:Value) :
  gm3.wp oPP (yb oPP s) yk (PM h0 h bm a c bs T r xs ao co) [.pointer (some ⟨bm,0,none⟩),.pointer (some ⟨bM,0,none⟩),e2,e3,.slice ao xs.length co,e5] h' Ks:=by
 obtain⟨a4,l4,c4,a5,l5,c5,a7,l7,c7,rfl,rfl,rfl⟩:=X.f4;simp only[gm3,Tr.wp,z8,Ex.ev,coerce,toInt_int,za,zd,zi,ze,zj,zN,yq,qa,wE,zB,Cst.val,SV.den,zq,zK,zz,zm,zl,zw,zr,vF,vG,vA,vB,vO,vD,vE,vJ,vI,vK,uB,uF,uE,uI,uA,uJ,vY,vL,zp];have hib:=hiB.sub s1;obtain⟨p,a6,c6,hp,hr,hm,P,N⟩:=id I.mt;have eo:(kcG a c bs xs T TW bm bw).otl al=xs++al:=by simp[KC.otl]
 have P':=P;rw[eo]at P';have hm':h' bm=some (zV a c bs p (yX (kcG a c bs xs T TW bm bw) al (.slice a6 (xs++al).length c6) last l d) T):=by rw[<-eo];exact hm
 obtain⟨_,_,e6,hc6,_⟩:=P'.ints;cases e6
 have er2:r2=⟨(p:Int),0⟩:=UN (hr hk) hk;have eT:gT1 bs xs.length r=tk bs 32 r2:=by unfold gT1;rw[eA]
 have eC1:gC1 bs xs.length r=bdK 4 ((tk bs 32 r2).2 != k8 al) (tk bs 32 r2).1:=by unfold gC1;rw[eT,eS]
 have hle:=I.le;simp only[uE]at hle;have hlx:=X.le;refine⟨by simp,_,_,_,(yy hm').2.2.2.1,by omega,by rw[vR];omega,by simp,?_⟩;have M:MAt hb h' bm a c bs p (yX (kcG a c bs xs T TW bm bw) al (.slice a6 (xs++al).length c6) last l d) T:=⟨hm',I.nm,I.sb⟩;refine zb.mono (EC hib (G.el.es.sub (X.sB.trans s1)) (hx.sub (X.sB.trans s1)) (by omega) p hp 32 (by decide) M) ?_;rintro _ h3 ⟨rfl,rfl⟩;rw[<-er2];obtain⟨q,hq,eq⟩:=RY (bs:=bs) (n:=32) hp;rw[<-er2]at eq;have I3:=IM.Oj I (r':=(tk bs 32 r2).1) (last':=last) (l':=l) (d':=d) hq (fun _=>eq) P N;rw[eo]at I3;have I3:IM hb (upd h' bm (zV a c bs (tk bs 32 r2).1.i (yX (kcG a c bs xs T TW bm bw) al (.slice a6 (xs++al).length c6) last l d) T)) (kcG a c bs xs T TW bm bw) (tk bs 32 r2).1 al last l d:=by rw[eq];exact I3
 have P3:Part .u8 (upd h' bm (zV a c bs (tk bs 32 r2).1.i (yX (kcG a c bs xs T TW bm bw) al (.slice a6 (xs++al).length c6) last l d) T)) (.slice a6 (xs++al).length c6) (xs++al):=P'.keep fun y hy=>upd_ne (by rw[eo]at N;exact(IM.xE N hy).1)
 generalize upd h' bm (zV a c bs (tk bs 32 r2).1.i (yX (kcG a c bs xs T TW bm bw) al (.slice a6 (xs++al).length c6) last l d) T)=h3 at I3 P3 ⊢;have sb3:=s1.trans I3.sb;refine⟨(tk bs 32 r2).2,zG (tk bs 32 r2).1.k,zc,by rw[zc],fun hz=>?_,fun hz=>?_⟩
 ·have hz:(tk bs 32 r2).1.k≠0:=by simpa[zy,zc]using hz
  refine⟨_,_,_,_,_,_,_,_,_,_,_,_,_,_,ld8 (X.cM' sb3),?_⟩;rw[zc];have eC:gC1 bs xs.length r=(tk bs 32 r2).1:=by rw[eC1];unfold bdK;rw[vM (fun e=>hz e.1)]
  refine PM.bad X s1 I3 eS hz ?_;have e2:gT2 bs xs.length r=((tk bs 32 r2).1,0):=by unfold gT2;rw[eC,As hz]
  unfold gC2;rw[e2];unfold bdK;rw[vM (fun e=>hz e.1)]
 ·have hz:(tk bs 32 r2).1.k=0:=by simpa[zy,zc]using hz
  obtain⟨_,_,e7,_,hx6⟩:=P3.ints;cases e7
  obtain⟨a8,e8,hx8⟩:=qK hx6 (lo:=xs.length) (hi:=(xs++al).length) (m:=c6) (by rw[vR];omega) (uN _) hc6;have ed:((xs++al).drop xs.length).take ((xs++al).length-xs.length)=al:=by
   rw[List.drop_left,lK (by rw[vR];omega)]
  rw[ed]at e8 hx8;rw[vV,e8];refine zb.mono (wh (hiB.sub sb3) 0#32 a8 (c6-xs.length) al hal hx8 (by rw[vR]at hc6;omega) (by omega)) ?_;rintro _ h4 ⟨rfl,s4⟩;have I4:=IM.Hh I3 s4;have sb4:=s1.trans I4.sb;have nm:=yl (bs:=bs) (n:=32) (r:=r2);have e32:(2:Int)^32=4294967296:=by decide
  rw[e32]at nm;have wu:IntKind.u32.wrap (tk bs 32 r2).2=(tk bs 32 r2).2:=by rw[pN];omega
  rw[wu];refine⟨_,rfl,fun hne=>?_,fun heq=>?_⟩
  ·refine⟨_,_,_,_,_,_,_,_,_,_,_,_,_,_,ld8 (X.cM' sb4),4,(G.sub (X.sB.trans sb4)).e4,?_⟩;have eC:gC1 bs xs.length r=⟨(tk bs 32 r2).1.i,4⟩:=by rw[eC1];unfold bdK;rw[vP ⟨hz,hne⟩]
   refine PM.bad (K:=4) X s1 I4 eS (by decide) ?_;have e2:gT2 bs xs.length r=(⟨(tk bs 32 r2).1.i,4⟩,0):=by unfold gT2;rw[eC];exact As (by show(4:Int)≠0;decide)
   unfold gC2;rw[e2];unfold bdK;rw[vM (fun e=>by cases e.1)]
  ·have eC:gC1 bs xs.length r=(tk bs 32 r2).1:=by rw[eC1];unfold bdK;rw[vM (fun e=>by have h:=e.2;unfold k8 at h;rw[heq]at h;cases h)]
   exact zcW hi hiB G hx L X s1 I4 hz eS eC hc6 _ _ _ _ _ _ _
theorem zcY(hi:qaC (yb oPP s) h0)(hiB:qaC (yb oPP s) hB)(G:ErrS h0)(hx:zk h0 .u8 a bs)(L:bs.length<=65536)(X:MX h0 h hB bm bM bs xs ao co TM (gFl bs r) (gMt bs r).2 (gXf bs r).2 (gOs bs r).2 u4 u5 u6 (gEx bs r).2 (gNa bs r).2 (gCo bs r).2)(I:IM hB h' (kcG a c bs xs T TW bm bw) (gHd bs r) [] last l d)(hk:(gHd bs r).k=0)(okr:okR bs (gHd bs r))
  (ho:zg h' ⟨bm,3,none⟩=some (.slice ao xs.length co))(Ks:List Kt)(e2:Value) :
  gm2.wp oPP (yb oPP s) yk (PM h0 h bm a c bs T r xs ao co) [.pointer (some ⟨bm,0,none⟩),.pointer (some ⟨bM,0,none⟩),e2,.pointer (some ⟨bw,0,none⟩)] h' Ks:=by
 obtain⟨a4,l4,c4,a5,l5,c5,a7,l7,c7,rfl,rfl,rfl⟩:=X.f4;simp only[gm2,Tr.wp,z8,Ex.ev,coerce,toInt_int,za,zd,zi,ze,zj,zN,yq,SV.den,zq,zK,zz,zm,zl,zw,zr,vF,vG,vA,vB,vD,vE,vJ,vI,vK,uE,uI,uA,uJ,vY,vL,zp];refine⟨by simp,_,_,_,ho,?_⟩;have hlx:=X.le;have RA:BL hB (kcG a c bs xs T TW bm bw) (8*bs.length+1) (gSt bs xs.length r) (fnV (kcG a c bs xs T TW bm bw) yC) h' (mz (kcG a c bs xs T TW bm bw) (gHd bs r)+0):=
  ⟨gHd bs r,[],hB,last,_,_,fun _ _ e=>e,I,hk,okr,8*bs.length+1,by have:=(okr hk).1;show 8*(bs.length:Int)+1<=(gHd bs r).i+((8*bs.length+1:Nat):Int);omega,.inl ⟨rfl,rfl,rfl⟩⟩
 have K:=RO (S:=yb oPP s) hiB (G.el.sub X.sB) (by show 100000-xs.length<=200000;omega) (by show 0<=40000;omega) (by show 1<=32768/\32768<=32768;omega) (hx.sub X.sB) (by show bs.length<=1048576;omega) (uN _) RA;refine zb.mono K ?_;rintro _ h4 ⟨hb4,last4,l4,d4,rfl,sb4,I4,ok4⟩;have sbB:=sb4.trans I4.sb;refine⟨zG (gSt bs xs.length r).1.k,zc,by rw[zc],fun hz=>?_,fun hz=>?_⟩
 ·have hz:(gSt bs xs.length r).1.k≠0:=by simpa[zy,zc]using hz
  refine⟨_,_,_,_,_,_,_,_,_,_,_,_,_,_,ld8 (X.cM' sbB),?_⟩;rw[zc];have ea:alg (gSt bs xs.length r).1=(gSt bs xs.length r).1:=by unfold alg;rw[vM hz]
  have e1:gT1 bs xs.length r=((gSt bs xs.length r).1,0):=by unfold gT1;rw[ea,As hz]
  have e2:gC1 bs xs.length r=(gSt bs xs.length r).1:=by unfold gC1;rw[e1];unfold bdK;rw[vM (fun e=>hz e.1)]
  have e3:gT2 bs xs.length r=((gSt bs xs.length r).1,0):=by unfold gT2;rw[e2,As hz]
  refine PM.bad X sb4 I4 rfl hz ?_;unfold gC2;rw[e3];unfold bdK;rw[vM (fun e=>hz e.1)]
 ·have hz:(gSt bs xs.length r).1.k=0:=by simpa[zy,zc]using hz
  refine⟨by simp,?_⟩;refine zb.mono (Ol (k:=kcG a c bs xs T TW bm bw) (r:=(gSt bs xs.length r).1) (al:=(gSt bs xs.length r).2) (hiB.sub sb4) (by show bs.length<=1048576;omega) I4 hz) ?_;rintro _ h5 ⟨rfl,I5⟩;refine⟨rfl,?_⟩;have hka:(alg (gSt bs xs.length r).1).k=0:=by unfold alg;rw[vP hz]
  exact zcX hi hiB G hx L X sb4 I5 hka rfl rfl (Gu JJ) _ _ _ _
end
theorem YP(hi:qaC (yb oPP s) h0)(G:ErrS h0)(hx:zk h0 .u8 a bs)(L:bs.length<=65536)(hc:bs.length<=c)(hb:okB bs)(nb:h0 bm=none)(H:MO h0 h bm a c bs T r xs ao co)(hk:r.k=0) :
  zb oPP (yb oPP s) qL #[.pointer (some ⟨bm,0,none⟩)] h (PM h0 h bm a c bs T r xs ao co):=by
 refine FB (vs:=[.pointer (some ⟨bm,0,none⟩)]) ⟨rfl,trivial⟩ (hi.sub H.sb) ?_;simp only[BA,Tr.wp,z8,Ex.ev,coerce,toInt_int,za,zd,zi,ze,zj,zN,Cst.val,SV.den,zq,zK,zz,zm,zl,yF,zw,zr,ye,vF,vG,nJ,vA,vB,vD,vE,vJ,vI,vK,uE,uI,uA,uJ,vY,vL,zp];intro bM hbM;obtain⟨p0,w,last,l,d,hp0,hr0,hm⟩:=H.mt;obtain rfl:=hr0 hk;have hbm:h bm≠none:=by rw[hm];simp
 have ne:bM≠bm:=fun e=>hbm (e▸hbM)
 have hM0:h0 bM=none:=zU H.sb hbM;have outh:∀y,zf (.slice ao xs.length co)=some y->h y≠none:=fun y hy=>H.pt.held y hy
 have eA:(List.replicate 4 (Value.int .i64 0)++(List.replicate 3 (Value.slice none 0 0)++[Value.int .i64 0])).toArray=#[.int .i64 0,.int .i64 0,.int .i64 0,.int .i64 0,.slice none 0 0,.slice none 0 0,.slice none 0 0,.int .i64 0]:=rfl;rw[eA];have cA:upd h bM (.cells #[.int .i64 0,.int .i64 0,.int .i64 0,.int .i64 0,.slice none 0 0,.slice none 0 0,.slice none 0 0,.int .i64 0] 28) bM=some (.cells #[.int .i64 0,.int .i64 0,.int .i64 0,.int .i64 0,.slice none 0 0,.slice none 0 0,.slice none 0 0,.int .i64 0] 28):=upd_same;have fA:∀y,y≠bM->upd h bM (.cells #[.int .i64 0,.int .i64 0,.int .i64 0,.int .i64 0,.slice none 0 0,.slice none 0 0,.slice none 0 0,.int .i64 0] 28) y=h y:=fun y hy=>upd_ne hy
 have sA:qaB h0 (upd h bM (.cells #[.int .i64 0,.int .i64 0,.int .i64 0,.int .i64 0,.slice none 0 0,.slice none 0 0,.slice none 0 0,.int .i64 0] 28)):=yz H.sb hM0;generalize upd h bM (.cells #[.int .i64 0,.int .i64 0,.int .i64 0,.int .i64 0,.slice none 0 0,.slice none 0 0,.slice none 0 0,.int .i64 0] 28)=hA at cA fA sA ⊢;have ky:∀(i:Nat) (v:Value),(#[.int .i64 0,.int .i64 0,.int .i64 0,.int .i64 0,.slice none 0 0,.slice none 0 0,.slice none 0 0,.int .i64 0]:Array Value)[i]? = some v->zJ hA ⟨bM,i,none⟩ v=hA:=fun i v hv=>EU cA hv
 rw[ky (0) (.int .i64 0) rfl,ky (1) (.int .i64 0) rfl,ky (1+1) (.int .i64 0) rfl,ky (1+1+1) (.int .i64 0) rfl,ky (1+1+1+1) (.slice none 0 0) rfl,ky (1+1+1+1+1) (.slice none 0 0) rfl,ky (1+1+1+1+1+1) (.slice none 0 0) rfl,ky (1+1+1+1+1+1+1) (.int .i64 0) rfl];have okc:∀(i:Nat) (v:Value),zg hA ⟨bM,i,none⟩=some v->yU (yb oPP s) hA ⟨bM,i,none⟩:=fun i v hv=>⟨⟨v,hv⟩,by simp[y8,cA],fun hs=>hi bM hs hM0⟩
 obtain⟨z0,z1,z2,z3,z4,z5,z6,z7⟩:=ld8 cA;refine⟨okc _ _ z0,okc _ _ z1,okc _ _ z2,okc _ _ z3,okc _ _ z4,okc _ _ z5,okc _ _ z6,okc _ _ z7,?_⟩;have MA:MAt h0 hA bm a c bs p0 ⟨w,.slice ao xs.length co,100000-(xs.length:Int),last,l,d⟩ T:=⟨(fA bm (uW ne)).trans hm,nb,sA⟩;refine zb.mono (zcb hi G hx L hc hb hp0 MA hM0 ne cA) ?_;rintro _ hH ⟨rfl,bF,bE,u4,u5,u6,Q,HH⟩;have hAs:∀y,hA y=none->y≠bM->h y=none:=fun y h1 h2=>by rw[<-fA y h2];exact h1
 have fH:∀y,h y≠none->y≠bm->hH y=h y:=fun y h1 h2=>by
  have h3:y≠bM:=fun e=>h1 (e▸hbM)
  exact(HH.fr y (by rw[fA y h3];exact h1) h2 h3).trans (fA y h3)
 have PH:Part .u8 hH (.slice ao xs.length co) xs:=H.pt.keep fun y hy=>fH y (outh y hy) (H.nw y hy).2
 obtain⟨pH,qH1,qH2,MH⟩:=id HH.mp;obtain⟨TM,cH⟩:=HH.mc;obtain⟨⟨a4,l4,c4,rfl⟩,m4⟩:=HH.s4;obtain⟨⟨a5,l5,c5,rfl⟩,m5⟩:=HH.s5;obtain⟨⟨a6,l6,c6,rfl⟩,m6⟩:=HH.s6;refine⟨zG (gHd bs ⟨(p0:Int),0⟩).k,zc,by rw[zc],fun hz=>?_,fun hz=>?_⟩
 ·have hz:(gHd bs ⟨(p0:Int),0⟩).k≠0:=by simpa[zy,zc]using hz
  refine⟨_,_,_,_,_,_,_,_,_,_,_,_,_,_,ld8 cH,?_⟩;rw[zc];have e0:gSt bs xs.length ⟨(p0:Int),0⟩=(gHd bs ⟨(p0:Int),0⟩,[]):=by unfold gSt blF;rw[vM hz]
  have ea:alg (gHd bs ⟨(p0:Int),0⟩)=gHd bs ⟨(p0:Int),0⟩:=by unfold alg;rw[vM hz]
  have e1:gT1 bs xs.length ⟨(p0:Int),0⟩=(gHd bs ⟨(p0:Int),0⟩,0):=by unfold gT1;rw[e0,ea,As hz]
  have e2:gC1 bs xs.length ⟨(p0:Int),0⟩=gHd bs ⟨(p0:Int),0⟩:=by unfold gC1;rw[e1];unfold bdK;rw[vM (fun e=>hz e.1)]
  have e3:gT2 bs xs.length ⟨(p0:Int),0⟩=(gHd bs ⟨(p0:Int),0⟩,0):=by unfold gT2;rw[e2,As hz]
  have e4:gC2 bs xs.length ⟨(p0:Int),0⟩=gHd bs ⟨(p0:Int),0⟩:=by unfold gC2;rw[e3];unfold bdK;rw[vM (fun e=>hz e.1)]
  unfold PM;rw[e4,e0];simp only[vK];exact⟨_,_,_,_,_,_,_,0,ao,co,rfl,⟨⟨pH,w,last,l,d,qH1,fun h=>absurd h hz,MH.hb⟩,PH,H.nw,HH.sb,H.le⟩,fun y g1 g2 _=>fH y g1 g2,fun y hy=>.inr hy,⟨_,_,_,_,_,_,_,_,_,rfl,rfl,rfl⟩,fun h=>absurd h hz⟩
 ·have hz:(gHd bs ⟨(p0:Int),0⟩).k=0:=by simpa[zy,zc]using hz
  obtain⟨P4,N4⟩:=m4 hz;obtain⟨P5,N5⟩:=m5 hz;obtain⟨P6,N6⟩:=m6 hz;obtain⟨hB,ehB⟩:∃hB:qaA,hB=fun y=>if y=bm\/zf (.slice ao xs.length co)=some y then none else hH y:=⟨_,rfl⟩
  have b1:∀y,y≠bm->zf (.slice ao xs.length co)≠some y->hB y=hH y:=fun y g1 g2=>by rw[ehB];exact vM (fun e=>e.elim g1 g2)
  have b2:∀y,(y=bm\/zf (.slice ao xs.length co)=some y)->hB y=none:=fun y g=>by rw[ehB];exact vP g
  have sB:qaB h0 hB:=fun y o ho=>by
   rw[b1 y (fun e=>by rw[e,nb]at ho;cases ho) (fun e=>by rw[(H.nw y e).1]at ho;cases ho)];exact HH.sb y o ho
  have hiB:qaC (yb oPP s) hB:=hi.sub sB;have sBH:qaB hB hH:=fun y o ho=>by
   by_cases g:y=bm\/zf (.slice ao xs.length co)=some y
   ·rw[b2 y g]at ho;cases ho
   ·rw[<-b1 y (fun e=>g (.inl e)) (fun e=>g (.inr e))];exact ho
  have nMo:zf (.slice ao xs.length co)≠some bM:=fun e=>outh bM e hbM
  have pk:∀ {u:Value} {x:List Int},Part .u8 hH u x->(∀y,zf u=some y->hA y=none/\y≠bm/\y≠bE/\y≠bM)->Part .u8 hB u x/\∀y,zf u=some y->h y=none/\y≠bm/\y≠bM:=fun P N=>
   ⟨P.keep fun y hy=>b1 y (N y hy).2.1 (fun e=>outh y e (hAs y (N y hy).1 (N y hy).2.2.2)),fun y hy=>⟨hAs y (N y hy).1 (N y hy).2.2.2,(N y hy).2.1,(N y hy).2.2.2⟩⟩
  have X:MX h0 h hB bm bM bs xs ao co TM (gFl bs ⟨(p0:Int),0⟩) (gMt bs ⟨(p0:Int),0⟩).2 (gXf bs ⟨(p0:Int),0⟩).2 (gOs bs ⟨(p0:Int),0⟩).2 _ _ _ (gEx bs ⟨(p0:Int),0⟩).2 (gNa bs ⟨(p0:Int),0⟩).2 (gCo bs ⟨(p0:Int),0⟩).2:=
   ⟨sB,b2 bm (.inl rfl),hbM,hM0,ne,fun y g1 g2 g3=>(b1 y g2 g3).trans (fH y g1 g2),(b1 bM ne nMo).trans cH,pk P4 N4,pk P5 N5,pk P6 N6,⟨_,_,_,_,_,_,_,_,_,rfl,rfl,rfl⟩,H.le,HH.d hz⟩
  simp only[gm1,Tr.wp,z8,Ex.ev,coerce,za,zj,zN,yq,Cst.val,SV.den,zq,zK,zz,zm,zl,zw,ye,vF,vG,vA,vB,vD,vE,vJ,vI,vK,uE,uI,vY,vL,zp];have KR:=Rq (S:=yb oPP s) (sz:=32768) (hi.sub HH.sb) none 0 [] (uN _) (by decide) (fun i x hx=>by simp at hx) (by decide) (by decide);refine zb.mono KR ?_;rintro _ h2 ⟨bw,TW,rfl,RW⟩;obtain⟨dd,at_,nn,hbw,R,s2,hnw⟩:=RW;have hm2:=s2 _ _ MH.hb;have nw:bm≠bw:=fun e=>by rw[<-e,MH.hb]at hnw;cases hnw
  refine⟨_,rfl,by simp,kH hm2 (fun hs=>hi bm hs nb) (yy hm2).2.2.1,?_⟩;have eh:zJ h2 ⟨bm,2,none⟩ (.pointer (some ⟨bw,0,none⟩))=upd h2 bm (zV a c bs pH ⟨.pointer (some ⟨bw,0,none⟩),.slice ao xs.length co,100000-(xs.length:Int),last,l,d⟩ T):=by rw[hset_cells' hm2];rfl
  rw[eh];have onb:∀y,zf (.slice ao xs.length co)=some y->y≠bm/\y≠bw:=fun y hy=>⟨(H.nw y hy).2,fun e=>by subst e;have:=PH.held y hy;exact this hnw⟩
  have sB3:qaB hB (upd h2 bm (zV a c bs pH ⟨.pointer (some ⟨bw,0,none⟩),.slice ao xs.length co,100000-(xs.length:Int),last,l,d⟩ T)):=yz (sBH.trans s2) X.nB;have er:(((100000-xs.length:Nat):Int)-(((([]:List Int).length-0:Nat)):Int))=100000-(xs.length:Int):=by have:=H.le;simp only[uF];omega
  have I:IM hB (upd h2 bm (zV a c bs pH ⟨.pointer (some ⟨bw,0,none⟩),.slice ao xs.length co,100000-(xs.length:Int),last,l,d⟩ T)) (kcG a c bs xs T TW bm bw) (gHd bs ⟨(p0:Int),0⟩) [] last l d:=by
   have eo:(kcG a c bs xs T TW bm bw).otl []=xs:=by simp[KC.otl]
   refine⟨⟨pH,ao,co,qH1,fun hk=>by rw[qH2 hk],?_,?_,?_⟩,⟨dd,at_,nn,(upd_ne (uW nw)).trans hbw,R,sB3,zU sBH hnw⟩,X.nB,nw,sB3,⟨uN _,lE _,H.le⟩⟩
   ·rw[eo];show upd h2 bm _ bm=_;rw[upd_same];show some (zV a c bs pH ⟨_,_,100000-(xs.length:Int),_,_,_⟩ T)=_;rw[<-er];rfl
   ·rw[eo];exact(PH.sub s2).keep fun y hy=>upd_ne (onb y hy).1
   ·rw[eo];intro y hy;exact Ag.2 ⟨by simp[(onb y hy).1,(onb y hy).2],b2 y (.inr hy)⟩
  exact zcY hi hiB G hx L X I hz (No (fun _=>⟨by simp only;omega,by simp only;omega⟩)) (yy upd_same).2.2.2.1 _ _
end
end
variable {cs:List (Nat×Nat)}
section
theorem Sa(x:Int)(a:Nat):∀b:Nat,tl x (a+b)=2^b*tl x a+tl (x/2^a) b
 | 0=>by simp[tl]
 | b+1=>by
  have hd:x/2^a/2^b=x/2^(a+b):=by rw[lZ (mB (nG (by decide))),<-Int.pow_add]
  rw[<-mJ,tl,Sa x a b,tl,hd,mA];have e:(2:Int)^b*2*tl x a=2*(2^b*tl x a):=by rw[mM (2^b) 2,lX]
  rw[e];omega
theorem zcc(x:Int)(a b:Nat):tl x (a+b)%2^b=tl (x/2^a) b:=by
 have h:=Qn (x:=x/2^a) (n:=b);rw[Sa,Int.add_comm,Int.add_mul_emod_self_left];exact mV h.1 h.2
theorem zaA(z:Int)(n:Nat):z%2^(n+1)=z%2^n+2^n*(z/2^n%2):=by
 have hp:(0:Int)<2^n:=nG (by decide);have hd:z/(2^n*2)=z/2^n/2:=(lZ (mB hp)).symm;rw[mA,fT z (2^n*2),hd,fT z (2^n),fT (z/2^n) 2,Int.mul_sub,lX];omega
theorem Sb{xs:List Int}{M:Nat}(hM:1<=M):∀ {d:Nat},2^d*(2*(cst xs M+((xs.count (M:Int):Nat):Int)))<=cst xs (M+1+d)
 | 0=>by simp only[cst,Int.pow_zero,Int.one_mul,vM (show ¬M=0 by omega)];omega
 | d+1=>by
  have ih:=Sb (xs:=xs) hM (d:=d);rw[<-mJ,cst,vM (by omega),mA];have e:(2:Int)^d*2*(2*(cst xs M+((xs.count (M:Int):Nat):Int)))=2*(2^d*(2*(cst xs M+((xs.count (M:Int):Nat):Int)))):=by rw[mM (2^d) 2,lX]
  rw[e];have:(0:Int)<=((xs.count ((M+1+d:Nat):Int):Nat):Int):=Int.natCast_nonneg _;omega
theorem L3(h:¬(zu xs=0\/zu xs=2)){j l v:Nat}(hl:0<l)(hj:(zn xs)[j]? = some (l,v)) :
  ∃hj:j<xs.length,xs[j]=(l:Int)/\l<=15/\v<2^l/\(v:Int)=tl (cst xs l+(((xs.take j).count (l:Int):Nat):Int)) l:=by
 obtain⟨hlen,hok⟩:=jH h;have hj1:j<xs.length:=by have:=(vS.1 hj).1;rwa[xA]at this
 have hg:=wF (xs:=xs) hj1;have hb:=hok _ (pQ hj1);obtain⟨k,hk⟩:=vZ hb.1;obtain⟨l',b',e,hn,h15,hlt⟩:=ku hok hg;rw[hj]at hn;simp only[uZ,uV]at hn;obtain⟨rfl,rfl⟩:=hn;by_cases h1:1<=xs[j]
 ·rw[vP h1,CP hj1 hk]at e;simp only[uV]at e;have e1:k=l:=by exact_mod_cast e.1
  subst e1;exact⟨hj1,hk,h15,hlt,e.2.symm⟩
 ·rw[vM h1]at e;simp only[uV]at e;omega
def UR(cs:List (Nat×Nat)):Prop:=∀s t L v M w:Nat,s≠t->cs[s]? = some (L,v)->cs[t]? = some (M,w)->0<M->M<=L->v%2^M≠w
theorem SJ(h:¬(zu xs=0\/zu xs=2)):UR (zn xs):=by
 intro s t L v M w hst hs ht hM hML heq;have hk:=YX h;obtain⟨hj1,e1,L15,hv,ev⟩:=L3 h (by omega) hs;obtain⟨hj2,e2,M15,hw,ew⟩:=L3 h hM ht;by_cases hlt:M=L
 ·subst hlt;rw[pV hv]at heq;subst heq;exact hst (GY h s t M v hM hs ht)
 ·obtain⟨d,rfl⟩:∃d,L=M+1+d:=⟨L-(M+1),by omega⟩;have c1:=wC hj1 e1;have c2:=wC hj2 e2;have r1:=Lh (xs:=xs) hk (l:=M+1+d) (by omega) L15;have r2:=Lh (xs:=xs) hk (l:=M) (by omega) M15;have hc:=jH h;have n1:=(qD (xs:=xs) hc.1 (l:=M+1+d)).1;have n2:=(qD (xs:=xs) hc.1 (l:=M)).1;have st:=Sb (xs:=xs) (M:=M) hM (d:=d);generalize hK:cst xs (M+1+d)+(((xs.take s).count ((M+1+d:Nat):Int):Nat):Int)=K at ev;generalize hJ:cst xs M+(((xs.take t).count (M:Int):Nat):Int)=J at ew;have hq:(v:Int)%2^M=(w:Int):=by rw[yG];exact_mod_cast congrArg Nat.cast heq
  rw[ev,ew,show M+1+d=(1+d)+M by omega,zcc]at hq;have hp:(0:Int)<2^(1+d):=nG (by decide);have hp2:(2:Int)^(1+d)=2*2^d:=by rw[fR,mA];omega
  have hpM:(0:Int)<2^M:=nG (by decide);have hKn:0<=K:=by omega
  have hi:=Rc (fQ hKn (mB hp)) (by omega) hq;have hJlt:J<2^M:=by omega
  have hKlt:K/2^(1+d)<2^M:=by
   refine Int.ediv_lt_of_lt_mul hp ?_;rw[<-Int.pow_add,show M+(1+d)=M+1+d by omega];omega
  rw[mV (fQ hKn (mB hp)) hKlt,mV (by omega) hJlt]at hi;have hge:J+1<=K/2^(1+d):=by
   rw[Int.le_ediv_iff_mul_le hp,hp2];have e3:(J+1)*(2*2^d)<=(cst xs M+((xs.count (M:Int):Nat):Int))*(2*2^d):=Int.mul_le_mul_of_nonneg_right (by omega) (by omega);have e4:(cst xs M+((xs.count (M:Int):Nat):Int))*(2*2^d)=2^d*(2*(cst xs M+((xs.count (M:Int):Nat):Int))):=by
    generalize cst xs M+((xs.count (M:Int):Nat):Int)=q;rw[mM q,mM 2 (2^d),lX]
   omega
  omega
theorem zcd(U:UR cs){s L v l:Nat}(h:cs[s]? = some (L,v))(hl:l<L):Ym cs cs.length l (v%2^l)=0:=by
 refine Oc fun t ht hc h0=>?_
 have hst:s≠t:=fun e=>by
  subst e;rw[h]at hc;simp only[uZ,uV]at hc;omega
 exact U s t L v l (v%2^l) hst h hc h0 (by omega) rfl
theorem zce{s L v l:Nat}(h:cs[s]? = some (L,v))(hl:l<L):Ec cs l (v%2^l):=⟨(L,v),mP h,hl,rfl⟩
theorem Px(U:uniq cs)(F:UR cs){s L v b:Nat}(h:cs[s]? = some (L,v))(h0:0<L)(hb:b%2^L=v):∀(f l:Nat),l<=L->L<f+l->nxt cs b f l=(1,(s:Int),(L:Int))
 | 0,l,h1,h2=>by omega
 | f+1,l,h1,h2=>by
  unfold nxt;by_cases hl:l=L
  ·subst hl;rw[hb,YW U h h0 (vS.1 h).1];simp
  ·have e:b%2^l=v%2^l:=by rw[<-hb,Ob h1]
   rw[e,zcd F h (by omega),vM (by simp),vP (zce h (by omega)),Px U F h h0 hb f (l+1) (by omega) (by omega)]
end
variable {F f m q:Nat}{A B C:List Int}
section
def AtB(B:List Int)(p:Nat)(s:List Int):Prop:=p+s.length<=8*B.length/\∀j x,s[j]? = some x->yN B (p+j)=x
section
variable {s t:List Int}
theorem AtB.left(H:AtB B p (s++t)):AtB B p s:=
 ⟨by have:=H.1;rw[vR]at this;omega,fun j x hj=>H.2 j x (by rw[uC (vS.1 hj).1];exact hj)⟩
theorem AtB.right(H:AtB B p (s++t)):AtB B (p+s.length) t:=
 ⟨by have:=H.1;rw[vR]at this;omega,fun j x hj=>by
  have:=H.2 (s.length+j) x (by rw[uM (by omega),nK];exact hj)
  rw[<-mJ]at this;exact this⟩
theorem US(h:j<n):(bitsOf x n)[j]? = some (x/2^j%2):=by simp[bitsOf,h]
theorem Hn:∀ {n:Nat},(∀j,j<n->yN B (p+j)=x/2^j%2)->yo B p n=x%2^n
 | 0,_=>by simp[yo,Int.emod_one]
 | n+1,H=>by
  rw[yo,Hn (n:=n) fun j hj=>H j (by omega),H n (by omega),zaA,mM (2^n)]
theorem AtB.num(H:AtB B p (bitsOf x n)):yo B p n=x%2^n:=
 Hn fun j hj=>H.2 j _ (US hj)
theorem Db{a:Nat}:∀ {d:Nat},yo B p (a+d)=yo B p a+2^a*yo B (p+a) d
 | 0=>by simp[yo]
 | d+1=>by
  rw[<-mJ,yo,Db (d:=d),yo,Int.mul_add,Int.pow_add,mJ,Int.add_assoc];congr 2
  ac_rfl
theorem WZ{a d:Nat}:yo B p (a+d)%2^a=yo B p a:=by
 have:=wW (xs:=B) (a:=p) (n:=a);rw[Db,Int.add_mul_emod_self_left];exact mV this.1 this.2
theorem Jn(h:p+n<=8*B.length:=by omega):tk B n ⟨(p:Int),0⟩=(⟨((p+n:Nat):Int),0⟩,yo B p n):=by
 unfold tk;rw[vP rfl,vM (by simp only;omega)];simp only[vV]
 push_cast;rfl
theorem AtB.tk(H:AtB B p (bitsOf x n))(h0:0<=x)(h1:x<2^n):tk B n ⟨(p:Int),0⟩=(⟨((p+n:Nat):Int),0⟩,x):=by
 have:=H.1;rw[xC]at this;rw[Jn this,H.num,mV h0 h1]
theorem AtB.sy{xs:List Int}(hg:¬(zu xs=0\/zu xs=2)){s l b:Nat}(hc:(zn xs)[s]? = some (l,b))(h0:0<l)(H:AtB B p (bitsOf b l)):sy B (zn xs) ⟨(p:Int),0⟩=(⟨((p+l:Nat):Int),0⟩,(s:Int)):=by
 obtain⟨_,_,h15,hlt,_⟩:=L3 hg h0 hc;have hp:=H.1;rw[xC]at hp;have hL:l<=look B p:=by unfold look;omega
 obtain⟨d,hd⟩:∃d,look B p=l+d:=⟨look B p-l,by omega⟩;have hn:yo B p (look B p)%2^l=(b:Int):=by
  rw[hd,WZ,H.num];refine mV (by omega) ?_;rw[yG];exact_mod_cast hlt
 have hb:(yo B p (look B p)).toNat%2^l=b:=by
  obtain⟨m,hm⟩:=vZ (wW (xs:=B) (a:=p) (n:=look B p)).1;rw[hm]at hn ⊢;rw[yG]at hn;rw[vV];exact_mod_cast hn
 have e:nxB B (zn xs) p=(1,(s:Int),(l:Int)):=by
  unfold nxB;exact Px (GY hg) (SJ hg) hc h0 hb (look B p+1) 0 (by omega) (by omega)
 unfold Go.Proofs.YtpodkihpnjhamaaGreatDoor.sy;rw[vP rfl];simp only[vV,e];simp
end
theorem TL(h:c<288):∃l b:Nat,(zn yB)[c]? = some (l,b)/\0<l/\l<=15/\b<2^l/\xq c=bitsOf b l/\(l:Int)=(if c<144 then 8 else if c<256 then 9 else if c<280 then 7 else 8):=by
 have hok:=(jH Ai).2;have hj:c<yB.length:=by rw[kv];exact h
 have hg:=wF (xs:=yB) hj;obtain⟨l,b,e,hn,h1,h2⟩:=ku hok hg;have hv:yB[c]=(if c<144 then 8 else if c<256 then 9 else if c<280 then 7 else 8):=by
  have:=Rj h;rw[vQ hj]at this;exact pT this
 have hpos:1<=yB[c]:=by rw[hv];split <;> (try split) <;> (try split) <;> omega
 obtain⟨m,hm⟩:=vZ (show 0<=yB[c] by omega);rw[vP hpos,CP hj hm]at e;have el:(l:Int)=yB[c]:=by rw[hm];exact(gC e).1.symm
 obtain⟨l',b',g1,_,_,g4⟩:=Ar h;rw[vP hpos,CP hj hm,e]at hg;rw[hg]at g1;simp only[uZ,uV]at g1;have q1:l=l':=by exact_mod_cast g1.1
 have q2:b=b':=by exact_mod_cast g1.2
 subst q1;subst q2;exact⟨l,b,hn,by omega,h1,h2,g4,by rw[el,hv]⟩
section
variable {dl room sz:Nat}
theorem Zn(h:c<288)(H:AtB B p (xq c)):sy B (zn yB) ⟨(p:Int),0⟩=(⟨((p+(xq c).length:Nat):Int),0⟩,(c:Int)):=by
 obtain⟨l,b,h1,h2,_,_,h5,_⟩:=TL h;rw[h5]at H ⊢;rw[xC];exact H.sy Ai h1 h2
theorem Xa{al d:List Int}(hk:r.k=0)(h:al.length-dl+d.length<=room):tell dl room r al d=(r,al++d):=by
 unfold tell;rw[vP hk,vM (by omega)]
theorem YQ{cd:List (Nat×Nat)}(xs:List Int):∀(f p:Nat) (al:List Int),(∀x∈xs,0<=x/\x<=255)->xs.length+1<=f->dl<=al.length->al.length-dl+xs.length<=room->AtB B p (xs.flatMap (fun c=>xq c.toNat)++xq 256) ->
  syF B (zn yB) cd dl room sz f ⟨(p:Int),0⟩ al=(⟨((p+(xs.flatMap (fun c=>xq c.toNat)++xq 256).length:Nat):Int),0⟩,al++xs):=by
 obtain⟨E,hE⟩:∃E,E=xq 256:=⟨_,rfl⟩;have endS:∀ {p:Nat},AtB B p E->sy B (zn yB) ⟨(p:Int),0⟩=(⟨((p+E.length:Nat):Int),0⟩,((256:Nat):Int)):=fun H=>by rw[hE]at H ⊢;exact Zn (by omega) H
 rw[<-hE];induction xs with
 | nil=>
  intro f p al hw hf hd hr H;obtain⟨f,rfl⟩:∃f',f=f'+1:=⟨f-1,by simp at hf;omega⟩;rw[vG,vI]at H ⊢;rw[syF,vP rfl,endS H,vP (.inr rfl),vK]
 | cons x xs ih=>
  intro f p al hw hf hd hr H;have hx:=hw x (gD ..);obtain⟨c,rfl⟩:=vZ hx.1;rw[uB]at hf hr;obtain⟨f,rfl⟩:∃f',f=f'+1:=⟨f-1,by omega⟩;rw[vF,vX,vV]at H ⊢;have e1:=Zn (c:=c) (by omega) H.left;have e2:sy1 B cd dl room sz ⟨((p+(xq c).length:Nat):Int),0⟩ al (c:Int)=(⟨((p+(xq c).length:Nat):Int),0⟩,al++[(c:Int)]):=by
   unfold sy1;rw[vP (by omega)];exact Xa rfl (by rw[uD];omega)
  rw[syF,vP rfl,e1,vM (by simp only;omega)];simp only[e2];rw[ih f (p+(xq c).length) (al++[(c:Int)]) (fun y hy=>hw y (lF _ hy)) (by omega) (by rw[vR];omega) (by rw[vR,uD];omega) H.right];rw[@vR _ (xq c),mJ,vX];rfl
theorem zaB:x7 xs=bitsOf 1 1++(bitsOf 1 2++(xs.flatMap (fun c=>xq c.toNat)++xq 256)):=by
 have e1:bitsOf 1 1=[1]:=by decide
 have e2:bitsOf 1 2=[1,0]:=by decide
 rw[e1,e2];unfold x7;rw[vX];rfl
theorem Xb{rest:List Int}{R:Rd×List Int}(H:AtB B p (bitsOf 1 1++(bitsOf 1 2++rest)))(hR:syF B (zn yB) (zn qe) dl room sz F ⟨((p+3:Nat):Int),0⟩ al=R) :
  blF B dl room sz F (f+1) ⟨(p:Int),0⟩ al=R:=by
 have H1:=H.left;have H2:=H.right.left;rw[xC]at H2;have e1:bk1 B ⟨(p:Int),0⟩=(⟨((p+1:Nat):Int),0⟩,1):=H1.tk (by decide) (by decide);have e2:bk2 B ⟨(p:Int),0⟩=(⟨((p+3:Nat):Int),0⟩,1):=by
  unfold bk2;rw[e1];exact H2.tk (by decide) (by decide)
 have e3:bk3 B ⟨(p:Int),0⟩=⟨((p+3:Nat):Int),0⟩:=by
  unfold bk3;rw[e2];unfold bd;rw[vM (by simp)]
 rw[blF,vP rfl,e1,vP (by simp)];unfold blk;rw[e3,vM (by simp),e2,vM (by simp),vP rfl];exact hR
theorem Py(hw:∀x∈xs,0<=x/\x<=255)(hF:xs.length+1<=F)(hd:dl<=al.length)(hr:al.length-dl+xs.length<=room)(H:AtB B p (x7 xs)) :
  blF B dl room sz F (f+1) ⟨(p:Int),0⟩ al=(⟨((p+(x7 xs).length:Nat):Int),0⟩,al++xs):=by
 rw[zaB]at H ⊢;refine Xb H ?_;have H3:=H.right.right;rw[xC,xC,mJ]at H3;rw[YQ xs F (p+3) al hw hF hd hr H3];rw[@vR _ (bitsOf 1 1),@vR _ (bitsOf 1 2),xC,xC];congr 2
 push_cast;omega
end
theorem zaC{v b:Int}(h:m<i):(v+b*2^i).fdiv (2^m)%2=v.fdiv (2^m)%2:=by
 have hp:(0:Int)<2^m:=nG (by decide);obtain⟨d,rfl⟩:∃d,i=m+1+d:=⟨i-(m+1),by omega⟩;rw[pS _ (mB hp),pS _ (mB hp)];have e:b*2^(m+1+d)=2^m*(2*(b*2^d)):=by
  rw[Int.pow_add,mA];generalize (2:Int)^m=q;generalize (2:Int)^d=w
  ac_rfl
 rw[e,Int.add_mul_ediv_left _ _ (Int.ne_of_gt hp),Int.add_mul_emod_self_left]
theorem zaD{v b:Int}(h0:0<=v)(h1:v<2^i)(hb:0<=b/\b<=1):(v+b*2^i).fdiv (2^i)%2=b:=by
 have hp:(0:Int)<2^i:=nG (by decide);rw[pS _ (mB hp),mM b,Int.add_mul_ediv_left _ _ (Int.ne_of_gt hp),Int.ediv_eq_zero_of_lt h0 h1];omega
theorem Sc{bs:List Int}(hb:∀b∈bs,0<=b/\b<=1):∀ {k j:Nat},j<k->yN (pk bs k) j=bs.getD j 0
 | 0,j,h=>by omega
 | k+1,j,h=>by
  have hbit:0<=bs.getD k 0/\bs.getD k 0<=1:=by
   rw[uK];cases hg:bs[k]? with
   | none=>simp
   | some x=>exact hb x (mP hg)
  have hl:=Ah (bs:=bs) (k:=k);have hlen:k/8<(if k%8=0 then pk bs k++[0]else pk bs k).length:=by
   split
   ·rw[vR,hl,uD];omega
   ·omega
  have hpb:=EF hb (k:=k);have zJ:(pk bs (k+1)).getD (k/8) 0=xK (pk bs k) k+bs.getD k 0*2^(k%8):=by
   rw[pk];unfold qX;rw[uK,nC hlen];rfl
  unfold yN;by_cases hj:j/8=k/8
  ·rw[hj,zJ];by_cases hjk:j=k
   ·rw[hjk];exact zaD hpb.1 hpb.2 hbit
   ·have hk0:k%8≠0:=by omega
    rw[zaC (by omega)];have ih:=Sc hb (k:=k) (j:=j) (by omega);unfold yN at ih;rw[hj]at ih;have ep:xK (pk bs k) k=(pk bs k).getD (k/8) 0:=by unfold xK;rw[vM hk0]
    rw[ep];exact ih
  ·have ih:=Sc hb (k:=k) (j:=j) (by omega);unfold yN at ih;rw[<-ih];congr 2;rw[pk];unfold qX;rw[uK,lS (by omega)];rw[uK];split
   ·rw[uC (by omega)]
   ·rfl
theorem UT(h:i/8<A.length):yN (A++C) i=yN A i:=by
 unfold yN;rw[uK,uK,uC h]
theorem SK:yN (A++C) (8*A.length+i)=yN C i:=by
 unfold yN;rw[show(8*A.length+i)/8=A.length+i/8 by omega,show(8*A.length+i)%8=i%8 by omega,uK,uK,uM (by omega),nK]
theorem Zo{s:List Int}(hb:∀b∈s,0<=b/\b<=1)(A C:List Int):AtB (A++(pk s s.length++C)) (8*A.length) s:=by
 have hl:=Ah (bs:=s) (k:=s.length);refine⟨by simp only[vR];omega,fun j x hj=>?_⟩;have hlt:=(vS.1 hj).1;rw[SK,UT (by omega),Sc hb hlt,uK,hj];rfl
section
theorem BP(h:B[q]? = some x)(hx:0<=x/\x<=255):yo B (8*q) 8=x:=by
 have e:yo B (8*q) 8=x%2^8:=by
  refine Hn fun j hj=>?_
  unfold yN;rw[show(8*q+j)/8=q by omega,show(8*q+j)%8=j by omega,uK,h,pE,pS _ (mB (nG (by decide)))]
 rw[e];have e8:(2:Int)^8=256:=by decide
 exact mV hx.1 (by omega)
theorem Cn(h:B[q]? = some x)(hx:0<=x/\x<=255:=by omega):tk B 8 ⟨((8*q:Nat):Int),0⟩=(⟨((8*(q+1):Nat):Int),0⟩,x):=by
 have:=(vS.1 h).1;rw[Jn,BP h hx];rfl
end
def AtY(B:List Int)(q:Nat)(ys:List Int):Prop:=∀j x,ys[j]? = some x->B[q+j]? = some x
section
variable {ys zs:List Int}
theorem AtY.left(H:AtY B q (ys++zs)):AtY B q ys:=fun j x hj=>H j x (by rw[uC (vS.1 hj).1];exact hj)
theorem AtY.right(H:AtY B q (ys++zs)):AtY B (q+ys.length) zs:=fun j x hj=>by
 have:=H (ys.length+j) x (by rw[uM (by omega),nK];exact hj);rw[<-mJ]at this;exact this
theorem AtY.mk:AtY (A++(ys++C)) A.length ys:=fun j x hj=>by
 rw[uM (by omega),nK,uC (vS.1 hj).1];exact hj
theorem AtY.le(H:AtY B q ys)(h0:ys ≠ []):q+ys.length<=B.length:=by
 have hp:0<ys.length:=List.length_pos_iff.2 h0;have:=(vS.1 (H (ys.length-1) _ (vQ (by omega)))).1;omega
end
end
section
def le(x n:Nat):List Int:=(List.range n).map fun i=>((x/256^i%256:Nat):Int)
def be(x n:Nat):List Int:=(le x n).reverse
theorem qB{x n:Nat}:(le x n).length=n:=by simp[le]
theorem xU{x n:Nat}:(be x n).length=n:=by simp[be,qB]
theorem le_succ{x n:Nat}:le x (n+1)=le x n++[((x/256^n%256:Nat):Int)]:=by simp[le,mD]
theorem zaE{x n:Nat}:be x (n+1)=[((x/256^n%256:Nat):Int)]++be x n:=by simp[be,le_succ]
theorem zaF{x n:Nat}:∀y∈le x n,0<=y/\y<256:=fun y hy=>by
 obtain⟨i,_,rfl⟩:=pX.1 hy;omega
theorem be2{x:Nat}:be x 2=[((x/256%256:Nat):Int),((x%256:Nat):Int)]:=by
 simp[be,le,mD]
theorem be4{x:Nat}:be x 4=[((x/16777216%256:Nat):Int),((x/65536%256:Nat):Int),((x/256%256:Nat):Int),((x%256:Nat):Int)]:=by
 simp[be,le,mD]
def kD(x n:Nat)(hb:Bool):List Int:=if hb then be x n else le x n
theorem xI{x n:Nat}{hb:Bool}:(kD x n hb).length=n:=by unfold kD;split <;> simp[xU,qB]
theorem Bf(hi:qaC S h)(x:Nat)(hx:x<18446744073709551616)(n:Nat)(hn:n<=8)(hb:Bool) :
  zb oPP S xy #[.int .u64 x,.int .i64 n,.bool hb] h (fun v h'=>Part .u8 h' v (kD x n hb)/\qaD h v/\qaB h h'):=by
 refine NU (vs:=[.int .u64 x,.int .i64 n,.bool hb]) ⟨rfl,rfl,rfl,trivial⟩ hi ?_;simp only[IP,Tr.wp,Ex.ev,coerce,toInt_int,za,zd,zi,ze,zB,arith,Cst.val,SV.den,zY,vA,vB,vC,vT,vO,vU,vD,vE,vJ,vI];intro b0 hb0;refine⟨fun us h'=>∃(i:Nat) (a:Option Addr) (c:Nat),us=[.int .u64 ((x/256^i:Nat):Int),.slice a i c,.int .i64 i]/\i<=n/\Part .u8 h' (.slice a i c) (kD x i hb)/\qaD h (.slice a i c)/\qaB h h',
  fun us _=>n-(toInt (us.getD 2 undef)).toNat,⟨0,some ⟨b0,0,none⟩,0,by simp,by omega,?_,New.of hb0,Sub.zx hb0⟩,?_⟩
 ·have e:kD x 0 hb=[]:=by cases hb <;> rfl
  rw[e];exact(Own.made (k:=.u8) (h:=h) (b:=b0) (T:=5) []).part
 rintro y a1 l1 c1 z h' ⟨i,a2,c2,hx1,hi2,P,N,s⟩;simp only[uQ,uT,pA,pL,uA]at hx1;obtain⟨rfl,⟨rfl,rfl,rfl⟩,rfl⟩:=hx1;refine⟨fun hlt=>?_,fun hge=>?_⟩
 ·have hp:0<256^l1:=Nat.pow_pos (by omega);have hle:x/256^l1<=x:=Nat.div_le_self _ _;have wb:IntKind.u8.wrap (((x/256^l1:Nat):Int).tmod 256)=((x/256^l1%256:Nat):Int):=by
   generalize x/256^l1=q at hle;rw[uG (by omega),pG];omega
  have wd:IntKind.u64.wrap (((x/256^l1:Nat):Int).tdiv 256)=((x/256^(l1+1):Nat):Int):=by
   rw[gW,<-Nat.div_div_eq_div_mul];generalize x/256^l1=q at hle;rw[u64_quo _ _ ⟨by omega,by omega,by omega⟩];omega
  have w2:IntKind.i64.wrap ((l1:Int)+1)=((l1+1:Nat):Int):=z9;have hl0:(kD x l1 hb).length=l1:=xI;rw[wb,wd,w2];obtain⟨a3,c3,e3,hc3,g3⟩:=P.ints;rw[hl0]at e3;cases e3
  have hlt2:l1<n:=by omega
  have fin:∀(v':Value) (h3:qaA),Part .u8 h3 v' (kD x (l1+1) hb)->qaD h v'->qaB h h3 ->
    (fun(us:List Value) (h':qaA)=>∃(i:Nat) (a:Option Addr) (c:Nat),us=[.int .u64 ((x/256^i:Nat):Int),.slice a i c,.int .i64 i]/\i<=n/\Part .u8 h' (.slice a i c) (kD x i hb)/\qaD h (.slice a i c)/\qaB h h') [.int .u64 ((x/256^(l1+1):Nat):Int),.slice (slA v') (slL v') (slC v'),.int .i64 ((l1+1:Nat):Int)] h3 /\
    (fun(us:List Value) (_:qaA)=>n-(toInt (us.getD 2 undef)).toNat) [.int .u64 ((x/256^(l1+1):Nat):Int),.slice (slA v') (slL v') (slC v'),.int .i64 ((l1+1:Nat):Int)] h3<(fun(us:List Value) (_:qaA)=>n-(toInt (us.getD 2 undef)).toNat) [.int .u64 ((x/256^l1:Nat):Int),.slice a1 l1 c1,.int .i64 (l1:Int)] h':=by
   intro v' h3 o n3 s4;have el:(kD x (l1+1) hb).length=l1+1:=xI;obtain⟨a4,c4,rfl,_,_⟩:=o.ints;rw[el]at o n3;simp only[ze,zd,zi,el];exact⟨⟨l1+1,a4,c4,rfl,by omega,o,n3,s4⟩,by simp only[vB,vA,toInt_int,vV];omega⟩
  have sb:∀b,h' b=none->qaB h' (upd h' b (.cells (ints .u8 [((x/256^l1%256:Nat):Int)]) 5)):=fun b hnb=>Sub.zx hnb
  have hb1:[((x/256^l1%256:Nat):Int)]++kD x l1 true=kD x (l1+1) true:=zaE.symm;have hb0:kD x l1 false++[((x/256^l1%256:Nat):Int)]=kD x (l1+1) false:=le_succ.symm;generalize hz:kD x l1 hb=zs at P g3 hl0;generalize ((x/256^l1%256:Nat):Int)=q at sb hb0 hb1 ⊢;obtain rfl:l1=zs.length:=hl0.symm;refine⟨fun hh b hnb=>?_,fun hh b hnb=>?_⟩
  ·subst hh;refine zI (xs:=[q]) hi (s.trans (sb b hnb)) (Own.made (k:=.u8) [q]).part (New.of (zU s hnb)) (ys:=zs) (g3.sub (sb b hnb)) (by simp only[uD];omega) fun v' h3 o n3 s4 _ _=>fun _=>fin v' h3 ?_ n3 s4
   rw[hz]at hb1;rw[<-hb1];exact o
  ·subst hh;refine zI (xs:=zs) hi (s.trans (sb b hnb)) (P.sub (sb b hnb)) N (ys:=[q]) zk.new (by simp only[uD];omega) fun v' h3 o n3 s4 _ _=>fun _=>fin v' h3 ?_ n3 s4
   rw[hz]at hb0;rw[<-hb0];exact o
 ·obtain rfl:l1=n:=by omega
  exact⟨P,N,s⟩
end
variable {a0:Option Addr}{c0 l0:Nat}{ds:List Int}
section
theorem JS(x k:Nat)(hk:k<=32):Int.fdiv (x:Int) (2^(min (k:Int).toNat IntKind.u32.bits))=((x/2^k:Nat):Int):=by
 have e:min (k:Int).toNat IntKind.u32.bits=k:=by show min (k:Int).toNat 32=k;omega
 rw[e,pS _ (by exact_mod_cast lE _)];push_cast;rfl
theorem KD(hi:qaC S h0)(hs:qaB h0 h)(P:Part .u8 h (.slice a xs.length c) xs)(N:qaD h0 (.slice a xs.length c))(x:Nat)(hx:x<4294967296)(hl:xs.length<=3000000) :
  zb oPP S kq #[.slice a xs.length c,.int .u32 x] h (fun v h'=>Part .u8 h' v (xs++be x 4)/\qaD h0 v/\qaB h0 h'):=by
 refine IN (vs:=[.slice a xs.length c,.int .u32 x]) ⟨rfl,rfl,trivial⟩ (hi.sub hs) ?_;simp only[Ey,Tr.wp,Ex.ev,coerce,toInt_int,zd,zi,ze,arith,Cst.val,SV.den,vA,vB,vD,vE,vJ,vI];intro b hb;have e1:IntKind.u8.wrap (Int.fdiv (x:Int) (2^(min (Int.toNat 24) IntKind.u32.bits)))=((x/16777216%256:Nat):Int):=by rw[show Int.toNat 24=((24:Nat):Int).toNat from rfl,JS x 24 (by omega),pG];omega
 have e2:IntKind.u8.wrap (Int.fdiv (x:Int) (2^(min (Int.toNat 16) IntKind.u32.bits)))=((x/65536%256:Nat):Int):=by rw[show Int.toNat 16=((16:Nat):Int).toNat from rfl,JS x 16 (by omega),pG];omega
 have e3:IntKind.u8.wrap (Int.fdiv (x:Int) (2^(min (Int.toNat 8) IntKind.u32.bits)))=((x/256%256:Nat):Int):=by rw[show Int.toNat 8=((8:Nat):Int).toNat from rfl,JS x 8 (by omega),pG];omega
 have e4:IntKind.u8.wrap (x:Int)=((x%256:Nat):Int):=by rw[pG];omega
 rw[e1,e2,e3,e4];have s3:qaB h (upd h b (.cells (ints .u8 (be x 4)) 5)):=Sub.zx hb;have e:(#[Value.int .u8 ((x/16777216%256:Nat):Int),Value.int .u8 ((x/65536%256:Nat):Int),Value.int .u8 ((x/256%256:Nat):Int),Value.int .u8 ((x%256:Nat):Int)]:Array Value)=ints .u8 (be x 4):=by rw[be4];rfl
 rw[e];refine zI hi (hs.trans s3) (P.sub s3) N (a:=some ⟨b,0,none⟩) (c:=4) (ys:=be x 4) zk.new (by rw[xU];omega) fun v' h3 o n3 s4 _ _=>?_
 obtain⟨a4,c4,rfl,_,_⟩:=o.ints;exact⟨o,n3,s4⟩
def ql(n:Nat)(d:Bool):Nat:=let x:=256*(16*n+8)+if d then 32 else 0;x+(31-x%31)%31
def yh(xs:List Int)(info:Int)(ds:List Int):List Int:=
 if info<0\/info>7\/xs.length>100000 then []
 else be (ql info.toNat (decide (0<ds.length))) 2++(if 0<ds.length then be (zX 1 ds).toNat 4 else [])++zC xs++be (zX 1 xs).toNat 4
def zs0(n:Int)(d:Bool):Int:=if d=true then IntKind.i64.wrap (IntKind.i64.wrap (256*IntKind.i64.wrap (IntKind.i64.wrap (16*n)+8))+32)else IntKind.i64.wrap (256*IntKind.i64.wrap (IntKind.i64.wrap (16*n)+8))
def zi0(n:Int)(d:Bool):Int:=if d=true then Go.bits .or .u32 (IntKind.u32.wrap (IntKind.u32.wrap (IntKind.i64.wrap (IntKind.i64.wrap (16*n)+8))*2^min (Int.toNat 8) IntKind.u32.bits)) 32
 else IntKind.u32.wrap (IntKind.u32.wrap (IntKind.i64.wrap (IntKind.i64.wrap (16*n)+8))*2^min (Int.toNat 8) IntKind.u32.bits)
theorem zaG:∀n:Fin 8,∀d:Bool,IntKind.u64.wrap (IntKind.i64.wrap (zs0 (n.1:Int) d+(IntKind.i64.wrap (31-(zs0 (n.1:Int) d).tmod 31)).tmod 31))=((ql n.1 d:Nat):Int):=by decide +kernel
theorem Sd:∀n:Fin 8,∀d:Bool,ql n.1 d<65536:=by decide +kernel
theorem zaH:∀n:Fin 8,∀d:Bool,IntKind.u32.wrap (zi0 (n.1:Int) d+(IntKind.u32.wrap (31-(zi0 (n.1:Int) d).tmod 31)).tmod 31)=((ql n.1 d:Nat):Int):=by decide +kernel
theorem ifd{x y:Int}:(if(m:Int)>0 then x else y)=if decide (0<m)=true then x else y:=by
 by_cases h:0<m
 ·rw[vP (show(m:Int)>0 by omega),vP (by simpa using h)]
 ·rw[vM (show ¬(m:Int)>0 by omega),vM (by simpa using h)]
theorem Bg(c:Int)(xs:List Int):zX c xs=((zX c xs).toNat:Int)/\(zX c xs).toNat<4294967296:=by
 unfold zX DG w32;rw[pN];omega
theorem JU(hw:∀x∈xs,0<=x/\x<=255):(zC xs).length<=300000:=by
 unfold zC;split
 ·simp
 ·rename_i hle;rw[Ah];have h1:=Rl hw;have h2:=Fi (c:=256);have h3:(x7 xs).length<=3+15*xs.length+15:=by unfold x7;simp only[vR,uB,uF];omega
  omega
theorem TN(hi:qaC S h){xs pre:List Int}(s:qaB h h')(O:tB.O h (.slice a xs.length c) xs)(hw:∀x∈xs,0<=x/\x<=255)(L:jI xs)
  (P:Part .u8 h' (.slice a0 l0 c0) pre)(N:qaD h (.slice a0 l0 c0))(hl:pre.length<=1000){Q:Value->qaA->Prop}
  (hQ:∀v h',Part .u8 h' v (pre++zC xs++be (zX 1 xs).toNat 4)->qaD h v->qaB h h'->Q v h') :
  zb oPP S j1 #[.slice a xs.length c] h' fun v_1 h'=>∃(a_6:Option Addr) (l c_2:Nat),v_1=.slice a_6 l c_2/\appW S 5 1 1 [.int .u8 0] (.slice a0 l0 c0) (.slice a_6 l c_2) h' fun v h'=>
   zb oPP S yR #[.int .u32 1,.slice a xs.length c] h' fun v_2 h'=>∃x,v_2=.int .u32 x/\zb oPP S xy #[.int .u64 (IntKind.u64.wrap x),.int .i64 4,.bool true] h' fun v_3 h'=>
    ∃(a:Option Addr) (l c:Nat),v_3=.slice a l c/\appW S 5 1 1 [.int .u8 0] (.slice (slA v) (slL v) (slC v)) (.slice a l c) h' fun v h'=>Q (.slice (slA v) (slL v) (slC v)) h':=by
 have hx:zk h .u8 a xs:=by obtain⟨a',c',e,_,g⟩:=Part.ints O;cases e;exact g
 have fl:=JU hw;refine(CU (hi.sub s) (O.sub s) hw L).mono ?_;rintro v1 h1 ⟨O1,N1,s1⟩;obtain⟨a1,c1,rfl,_,g1⟩:=Part.ints O1;have el0:l0=pre.length:=by obtain⟨a',c',e,_,_⟩:=P.ints;cases e;rfl
 subst el0;refine⟨_,_,_,rfl,?_⟩;refine zI hi (s.trans s1) (P.sub s1) N g1 (by omega) fun v2 h2 o2 n2 s2 _ _=>?_
 obtain⟨a2,c2,rfl,_,_⟩:=o2.ints;refine(xT (hi.sub s2) 1 _ _ xs (hx.sub s2) (by have:xs.length<=1048576:=L;omega)).mono ?_;rintro _ h3 ⟨rfl,rfl⟩;refine⟨_,rfl,?_⟩;obtain⟨ea,la⟩:=Bg 1 xs;have wa:IntKind.u64.wrap (zX 1 xs)=((zX 1 xs).toNat:Int):=by rw[u64_in _ (by omega)];exact ea
 rw[wa];refine(Bf (hi.sub s2) (zX 1 xs).toNat (by omega) 4 (by omega) true).mono ?_;rintro v4 h4 ⟨O4,N4,s4⟩;obtain⟨a4,c4,rfl,_,g4⟩:=Part.ints O4;refine⟨_,_,_,rfl,?_⟩;simp only[ze,zd,zi];refine zI hi (s2.trans s4) (o2.sub s4) n2 g4 (by rw[xI,vR];omega) fun v5 h5 o5 n5 s5 _ _=>?_
 obtain⟨a5,c5,rfl,_,_⟩:=o5.ints;exact hQ _ _ o5 n5 s5
theorem Kf(hi:qaC S h)(O:tB.O h v xs)(hw:∀x∈xs,0<=x/\x<=255)(L:jI xs)(n:Int)(wn:(Lit.int .i64 n).wf=true)(O2:tB.O h u ds)(hw2:∀x∈ds,0<=x/\x<=255)(L2:jI ds) :
  zb oPP S Az #[v,.int .i64 n,u] h (fun v h'=>tB.O h' v (yh xs n ds)/\tB.New h v/\qaB h h'):=by
 obtain⟨a,c,rfl,hc,hx⟩:=Part.ints O;obtain⟨a2,c2,rfl,hc2,hx2⟩:=Part.ints O2;refine Ib (vs:=[.slice a xs.length c,.int .i64 n,.slice a2 ds.length c2]) ⟨rfl,rfl,rfl,trivial⟩ hi ?_;simp only[D2,Tr.wp,z8,Ex.ev,coerce,toInt_int,za,zd,zi,ze,j7,kp,zB,arith,Cst.val,SV.den,zq,zK,zz,zm,zl,zw,vF,vG,vA,vB,vC,vT,vO,vU,vD,vE,vJ,vI,vK,vY,vL];have hL2:ds.length<=1048576:=L2;refine⟨fun hbad b hb=>?_,fun hok b hb=>?_⟩
 ·have e:yh xs n ds=[]:=vP (by simp only[pJ,vO]at hbad;omega);rw[e];exact⟨(Own.made (k:=.u8) (h:=h) (b:=b) (T:=5) []).part,New.of hb,Sub.zx hb⟩
 simp only[lG,vU,pJ,vO]at hok;obtain⟨m,rfl⟩:=vZ (show 0<=n by omega);have hm:m<8:=by omega
 have e:yh xs (m:Int) ds=be (ql m (decide (0<ds.length))) 2++(if 0<ds.length then be (zX 1 ds).toNat 4 else [])++zC xs++be (zX 1 xs).toNat 4:=vM (by omega);rw[e];have s0:qaB h (upd h b (.cells (ints .u8 []) 5)):=Sub.zx hb;have hd:=zaG ⟨m,hm⟩ (decide (0<ds.length));have hdl:=Sd ⟨m,hm⟩ (decide (0<ds.length));simp only[zs0]at hd hdl;rw[ifd,hd];refine(Bf (hi.sub s0) _ (by omega) 2 (by omega) true).mono ?_;rintro v1 h1 ⟨O1,N1,s1⟩;obtain⟨a1,c1,rfl,_,g1⟩:=Part.ints O1;refine⟨_,_,_,rfl,?_⟩;refine zI (xs:=[]) hi (s0.trans s1) ((Own.made (k:=.u8) (h:=h) (b:=b) (T:=5) []).part.sub s1) (New.of hb) g1 (by rw[xI];simp) fun v2 h2 o2 n2 s2 _ _=>?_
 obtain⟨a2',c2',rfl,_,_⟩:=o2.ints;have l2:(([]:List Int)++kD (ql m (decide (0<ds.length))) 2 true).length<=2:=by simp[xI]
 refine⟨fun hgt=>?_,fun hle _=>?_⟩
 ·rw[vP (by omega)];refine(xT (hi.sub s2) 1 _ _ ds (hx2.sub s2)).mono ?_;rintro _ h3 ⟨rfl,rfl⟩;refine⟨_,rfl,?_⟩;obtain⟨ea,la⟩:=Bg 1 ds;have wa:IntKind.u64.wrap (zX 1 ds)=((zX 1 ds).toNat:Int):=by rw[u64_in _ (by omega)];exact ea
  rw[wa];refine(Bf (hi.sub s2) (zX 1 ds).toNat (by omega) 4 (by omega) true).mono ?_;rintro v4 h4 ⟨O4,N4,s4⟩;obtain⟨a4,c4,rfl,_,g4⟩:=Part.ints O4;refine⟨_,_,_,rfl,?_⟩;simp only[ze,zd,zi];refine zI hi (s2.trans s4) (o2.sub s4) n2 g4 (by rw[xI];omega) fun v5 h5 o5 n5 s5 _ _ _=>?_
  obtain⟨a5,c5,rfl,_,_⟩:=o5.ints;simp only[ze,zd,zi];exact TN (Q:=fun v h''=>tB.O h'' v (be (ql m (decide (0<ds.length))) 2++be (zX 1 ds).toNat 4++zC xs++be (zX 1 xs).toNat 4)/\tB.New h v/\qaB h h'') hi s5 O hw L o5 n5 (by rw[vR,xI];omega) fun v h' p n s=>⟨p,n,s⟩
 ·rw[vM (by omega),vK];simp only[ze,zd,zi];exact TN (Q:=fun v h''=>tB.O h'' v (be (ql m (decide (0<ds.length))) 2++zC xs++be (zX 1 xs).toNat 4)/\tB.New h v/\qaB h h'') hi s2 O hw L o2 n2 (by omega) fun v h' p n s=>⟨p,n,s⟩
theorem Se{s0:Nat->Prop}(hi:qaC (yb oPP s0) h){xs pre:List Int}(s:qaB h h')(O:tB.O h (.slice a xs.length c) xs)(hw:∀x∈xs,0<=x/\x<=255)(L:jI xs)
  (P:Part .u8 h' (.slice a0 l0 c0) pre)(N:qaD h (.slice a0 l0 c0))(hl:pre.length<=1000){Q:Value->qaA->Prop}
  (hQ:∀v h',Part .u8 h' v (pre++zC xs++be (zX 1 xs).toNat 4)->qaD h v->qaB h h'->Q v h') :
  zb oPP (yb oPP s0) j0 #[.slice a xs.length c] h' fun v_1 h'=>∃(a_6:Option Addr) (l c_2:Nat),v_1=.slice a_6 l c_2/\appW (yb oPP s0) 5 1 1 [.int .u8 0] (.slice a0 l0 c0) (.slice a_6 l c_2) h' fun v h'=>
   zb oPP (yb oPP s0) xx #[.int .u32 1,.slice a xs.length c] h' fun v_2 h'=>∃x,v_2=.int .u32 x/\zb oPP (yb oPP s0) kq #[.slice (slA v) (slL v) (slC v),.int .u32 x] h' fun v_3 h'=>
    ∃(a:Option Addr) (l c:Nat),v_3=.slice a l c/\Q (.slice a l c) h':=by
 obtain⟨_,c',e,hc,hx⟩:=Part.ints O;cases e
 have fl:=JU hw;refine(CV (hi.sub s) (O.sub s) hw L).mono ?_;rintro v1 h1 ⟨O1,N1,s1⟩;obtain⟨a1,c1,rfl,_,g1⟩:=Part.ints O1;have el0:l0=pre.length:=by obtain⟨a',c',e,_,_⟩:=P.ints;cases e;rfl
 subst el0;refine⟨_,_,_,rfl,?_⟩;refine zI hi (s.trans s1) (P.sub s1) N g1 (by omega) fun v2 h2 o2 n2 s2 _ _=>?_
 obtain⟨a2,c2,rfl,_,_⟩:=o2.ints;refine(kU (hi.sub s2) 1 ⟨by omega,by omega⟩ _ _ xs (fun x hx=>by have:=hw x hx;omega) (hx.sub s2) hc (by have:xs.length<=1048576:=L;omega)).mono ?_;rintro _ h3 ⟨rfl,s3⟩;refine⟨_,rfl,?_⟩;obtain⟨ea,la⟩:=Bg 1 xs;rw[ea];simp only[ze,zd,zi];refine(KD hi (s2.trans s3) (o2.sub s3) n2 (zX 1 xs).toNat la (by rw[vR];omega)).mono ?_;rintro v4 h4 ⟨O4,N4,s4⟩;obtain⟨a4,c4,rfl,_,g4⟩:=Part.ints O4;exact⟨_,_,_,rfl,hQ _ _ O4 N4 s4⟩
theorem Kg{s0:Nat->Prop}(hi:qaC (yb oPP s0) h)(O:tB.O h v xs)(hw:∀x∈xs,0<=x/\x<=255)(L:jI xs)(n:Int)(wn:(Lit.int .i64 n).wf=true)(O2:tB.O h u ds)(hw2:∀x∈ds,0<=x/\x<=255)(L2:jI ds) :
  zb oPP (yb oPP s0) Ax #[v,.int .i64 n,u] h (fun v h'=>tB.O h' v (yh xs n ds)/\tB.New h v/\qaB h h'):=by
 obtain⟨a,c,rfl,hc,hx⟩:=Part.ints O;obtain⟨a2,c2,rfl,hc2,hx2⟩:=Part.ints O2;refine Ia (vs:=[.slice a xs.length c,.int .i64 n,.slice a2 ds.length c2]) ⟨rfl,rfl,rfl,trivial⟩ hi ?_;simp only[Dz,Tr.wp,z8,Ex.ev,coerce,toInt_int,za,zd,zi,ze,j7,kp,zB,arith,Cst.val,SV.den,zq,zK,zz,zm,zl,zw,vF,vG,vA,vB,vC,vT,vO,vU,vD,vE,vJ,vI,vK,vY,vL];have hL2:ds.length<=1048576:=L2;refine⟨fun hbad b hb=>?_,fun hok b hb=>?_⟩
 ·have e:yh xs n ds=[]:=vP (by simp only[pJ,vO]at hbad;omega);rw[e];exact⟨(Own.made (k:=.u8) (h:=h) (b:=b) (T:=5) []).part,New.of hb,Sub.zx hb⟩
 simp only[lG,vU,pJ,vO]at hok;obtain⟨m,rfl⟩:=vZ (show 0<=n by omega);have hm:m<8:=by omega
 have e:yh xs (m:Int) ds=be (ql m (decide (0<ds.length))) 2++(if 0<ds.length then be (zX 1 ds).toNat 4 else [])++zC xs++be (zX 1 xs).toNat 4:=vM (by omega);rw[e];have hd:=zaH ⟨m,hm⟩ (decide (0<ds.length));have hdl:=Sd ⟨m,hm⟩ (decide (0<ds.length));simp only[zi0]at hd hdl;rw[ifd,hd];generalize ql m (decide (0<ds.length))=z at hdl ⊢;have e1:IntKind.u8.wrap (Int.fdiv (z:Int) (2^(min (Int.toNat 8) IntKind.u32.bits)))=((z/256%256:Nat):Int):=by rw[show Int.toNat 8=((8:Nat):Int).toNat from rfl,JS z 8 (by omega),pG];omega
 have e2:IntKind.u8.wrap (z:Int)=((z%256:Nat):Int):=by rw[pG];omega
 rw[e1,e2];have eh:(#[Value.int .u8 ((z/256%256:Nat):Int),Value.int .u8 ((z%256:Nat):Int)]:Array Value)=ints .u8 (be z 2):=by rw[be2];rfl
 rw[eh];have s0':qaB h (upd h b (.cells (ints .u8 (be z 2)) 5)):=Sub.zx hb;have P0:Part .u8 (upd h b (.cells (ints .u8 (be z 2)) 5)) (.slice (some ⟨b,0,none⟩) 2 2) (be z 2):=by
  have:=(Own.made (k:=.u8) (h:=h) (b:=b) (T:=5) (be z 2)).part;rw[xU]at this;exact this
 have N0:qaD h (.slice (some ⟨b,0,none⟩) 2 2):=New.of hb;refine⟨fun hgt=>?_,fun hle _=>?_⟩
 ·rw[vP (by omega)];refine(kU (hi.sub s0') 1 ⟨by omega,by omega⟩ _ _ ds (fun x hx=>by have:=hw2 x hx;omega) (hx2.sub s0') hc2).mono ?_;rintro _ h3 ⟨rfl,s3⟩;refine⟨_,rfl,?_⟩;obtain⟨ea,la⟩:=Bg 1 ds;rw[ea];have P1:=P0.sub s3;rw[show(2:Nat)=(be z 2).length from xU.symm]at P1 N0;have:=KD hi (s0'.trans s3) (a:=some ⟨b,0,none⟩) (c:=2) (xs:=be z 2) (by rw[xU]at P1 ⊢;exact P1) (by rw[xU]at N0 ⊢;exact N0) (zX 1 ds).toNat la (by rw[xU];omega);rw[xU]at this;refine this.mono ?_;rintro v4 h4 ⟨O4,N4,s4⟩;obtain⟨a4,c4,rfl,_,g4⟩:=Part.ints O4;refine⟨_,_,_,rfl,fun _=>?_⟩;exact Se (Q:=fun v h''=>tB.O h'' v (be z 2++be (zX 1 ds).toNat 4++zC xs++be (zX 1 xs).toNat 4)/\tB.New h v/\qaB h h'') hi s4 O hw L O4 N4 (by rw[vR,xU,xU];omega) fun v h' p n s=>⟨p,n,s⟩
 ·rw[vM (by omega),vK];exact Se (Q:=fun v h''=>tB.O h'' v (be z 2++zC xs++be (zX 1 xs).toNat 4)/\tB.New h v/\qaB h h'') hi s0' O hw L P0 N0 (by rw[xU];omega) fun v h' p n s=>⟨p,n,s⟩
end
section
section
theorem tk_byte'(h:B[q]? = some x)(hx:0<=x/\x<=255):tk B 8 ⟨((8*q:Nat):Int),0⟩=(⟨((8*(q+1):Nat):Int),0⟩,x):=Cn h hx
theorem zaI{x:Nat}(hx:x<65536)(H:AtY B q (be x 2)):hig B 2 ⟨((8*q:Nat):Int),0⟩ 0=(⟨((8*(q+2):Nat):Int),0⟩,(x:Int)):=by
 rw[be2]at H;have g0:=Cn (H 0 _ rfl);have g1:=Cn (q:=q+1) (H 1 _ rfl);rw[uI]at g0;unfold hig;rw[g0];unfold hig;simp only;rw[g1];unfold hig;simp only;rw[show q+1+1=q+2 from rfl];congr 1;omega
theorem Sf{x:Nat}(hx:x<4294967296)(H:AtY B q (be x 4)):hig B 4 ⟨((8*q:Nat):Int),0⟩ 0=(⟨((8*(q+4):Nat):Int),0⟩,(x:Int)):=by
 rw[be4]at H;have g0:=Cn (H 0 _ rfl);have g1:=Cn (q:=q+1) (H 1 _ rfl);have g2:=Cn (q:=q+1+1) (H 2 _ rfl);have g3:=Cn (q:=q+1+1+1) (H 3 _ rfl);rw[uI]at g0;unfold hig;rw[g0];unfold hig;simp only;rw[g1];unfold hig;simp only;rw[g2];unfold hig;simp only;rw[g3];unfold hig;simp only;rw[show q+1+1+1+1=q+4 from rfl];congr 1;omega
end
theorem YR:∀n:Fin 8,∀d:Bool,ql n.1 d<65536/\zW ((ql n.1 d:Nat):Int)=false/\((ql n.1 d:Nat):Int)/4096<=7/\(((ql n.1 d:Nat):Int)/32%2=if d=true then 1 else 0):=by decide +kernel
theorem fix_len'(hl:xs.length<=29)(hw:∀y∈xs,0<=y/\y<=255):(zC xs).length=((x7 xs).length+7)/8/\(x7 xs).length<=500/\xs.length<=(x7 xs).length:=by
 have e:zC xs=pk (x7 xs) (x7 xs).length:=vM (by omega);have h6:=Of hw (uN _);have hs:(x7 xs).length<=3+15*xs.length+15:=by
  rw[<-JB,vR];have:=Fi (c:=256);omega
 refine⟨by rw[e];exact Ah,by omega,?_⟩;have:∀zs:List Int,(∀z∈zs,0<=z/\z<=255)->zs.length<=(zs.flatMap fun c=>xq c.toNat).length:=by
  intro zs;induction zs with
  | nil=>intro _;simp
  | cons z r ih=>
   intro hz;have h1:=hz z (gD ..);obtain⟨l,b,_,h2,_,_,h5,_⟩:=TL (c:=z.toNat) (by omega);have h3:=ih fun y hy=>hz y (lF _ hy)
   rw[vF,vR,h5,xC,uB];omega
 have:=this xs hw;unfold x7;simp only[vR];omega
end
end
end Go.Proofs.YtpodkihpnjhamaaGreatDoor
