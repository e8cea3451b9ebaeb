import Derived.Conc.WgGenN3
import Derived.Conc.WgWords
import Derived.Conc.DeferLaws
import Derived.Test.YtopmdepgpabipaaGreatDoorChecked
import Derived.Conc.LeavingOf
import Derived.SevenTiedAt
import Derived.Test.YtopmdepgpabipaaGreatDoorDa3
import Derived.Test.YtopmdepgpabipaaGreatDoorDa4
import Derived.Test.YtopmdepgpabipaaGreatDoorDa5
import Derived.Test.YtopmdepgpabipaaGreatDoorDa6
import Derived.Test.YtopmdepgpabipaaGreatDoorDa7
import Derived.Test.YtopmdepgpabipaaGreatDoorDa8
set_option maxRecDepth 100000
set_option maxHeartbeats 8000000
set_option linter.unusedVariables false
set_option linter.unusedSimpArgs false
set_option linter.unusedSectionVars false
section
namespace Go.Eng
open Go Go.Conc Go.RowKit Go.Conc.Lib Go.ConcR.Gen Go.ConcN.Gen
open Go.ConcN hiding upd upd_same upd_ne AtD4 AtD3 AtD2 AtD1 AtK1 AtR0 AtAcq AtKe AtW4 AtW3 AtW2 AtW1 AtKd WSit AtA1
open Go.ConcR (KK wgBlock WgAt stA smA rd wr DC0 Payload)
variable {w:World}
section
variable [Payload]{P:Program}{L:WgLink}{Φ:Ph}{cs:List Frame}{qt:Nat}
theorem jl{w w₁:World}(_:Φ.J w)(h:Φ.J w₁):Φ.J w₁:=h
theorem J.cell0(h:Φ.J w):∃v,w.cell? ⟨Φ.Wg,0,none⟩=some v:=WgLive.cell0 h.1
theorem J.cell1(h:Φ.J w):∃v,w.cell? ⟨Φ.Wg,1,none⟩=some v:=WgLive.cell1 h.1
variable {b₀:Frame}{a₀:Act}{ops₀:Array Oper}{i₀:Nat}{rest₀:List Nat}{k₀:List Item}
theorem J.setSt(hCW:Φ.C≠Φ.Wg)(h:Φ.J w){st sm:Int}(hw:WgAt Φ.ty Φ.Wg w st sm)(v:Int):Φ.J (w.setCell (stA Φ.Wg) (.int .u64 v)):=by
 obtain⟨cs,h1,h2⟩:=h.2;exact⟨⟨v,sm,hw.setSt v⟩,cs,((aside_setCell w (stA Φ.Wg) _).block _ hCW).trans h1,h2⟩
theorem J.setSm(hCW:Φ.C≠Φ.Wg)(h:Φ.J w){st sm:Int}(hw:WgAt Φ.ty Φ.Wg w st sm)(v:Int):Φ.J (w.setCell (smA Φ.Wg) (.int .u32 v)):=by
 obtain⟨cs,h1,h2⟩:=h.2;exact⟨⟨st,v,hw.setSm v⟩,cs,((aside_setCell w (smA Φ.Wg) _).block _ hCW).trans h1,h2⟩
theorem Ys(H:WgLib P L)(hCW:Φ.C≠Φ.Wg){Nx:Frame->List Frame->Prop}(hN:Nx (b₀.at (a₀.put ((ops₀[i₀]?).bind (·.dst)) (.tuple #[])) (.inRegion ops₀ rest₀::k₀)) cs)(w:World)(hK:Φ.J w) :
  Goes P true (fun _ w₁=>Φ.J w₁) DC0 (Mp P Φ Nx) 100
   (G ((base L.add).at ⟨#[.pointer (some ⟨Φ.Wg,0,none⟩),.int .i64 1,undef,undef,undef,undef,undef,undef,undef,undef,undef,undef,undef,undef,undef,undef,undef,undef,undef,undef,undef,undef,undef,undef,undef,undef,undef,undef,undef,undef,undef,undef,undef,undef,undef,undef,undef,undef,undef,undef,undef,undef,undef,undef,undef,undef,undef,undef,undef,undef,undef,undef,undef,undef,undef,undef,undef,undef,undef,undef,undef,undef,undef,undef,undef,undef,undef,undef,undef,undef,undef,undef,undef,undef,undef,undef,undef,undef,undef,undef,undef,undef,undef,undef,undef,undef,undef,undef,undef,undef,undef,undef,undef,undef,undef,undef,undef,undef,undef,undef,undef,undef,undef,undef,undef,undef,undef,undef,undef,undef,undef,undef,undef,undef,undef,undef,undef],[]⟩ [.code (body_add L)]) (b₀.at a₀ (.inRegion ops₀ (i₀::rest₀)::k₀)::cs)) w:=by
 lib_facts
 simp only[body_add,addFn,pG];u_c stepG_seq jl hK;u_cond true jl hK;iterate 2 u_c stepG_seq jl hK
 u_reg jl hK;iterate 2 u_op jl hK
 u_c stepG_region_end jl hK;u_cond false jl hK;u_c stepG_skip jl hK;u_c stepG_seq jl hK;u_reg jl hK;refine Goes.stop (fun w₁ h₁=>?_);replace hK:=jl hK h₁;clear h₁;refine⟨rfl,_,stepG_mark0 .disable (by simp) rfl rfl (by k_ne) rfl H.f_disable (x_disable_n L) (x_disable_b L) (x_disable_x L) (x_disable_f L),100,Sil.of (w:=w₁) ?_⟩;walk_nrm;u_c stepG_region_end jl hK;u_reg jl hK;u_defer jl hK;u_c stepG_region_end jl hK;u_c stepG_seq jl hK;u_reg jl hK;u_op jl hK;u_c stepG_region_end jl hK;iterate 2 u_c stepG_seq jl hK
 u_reg jl hK;u_bub jl hK;u_c stepG_region_end jl hK;u_cond false jl hK;u_c stepG_skip jl hK;u_c stepG_seq jl hK;u_reg jl hK;iterate 6 u_op jl hK
 u_call H.f_uAdd (nm_uAdd L) uAddFn jl hK;u_c stepG_seq jl hK;u_reg jl hK;u_op jl hK;u_c stepG_region_end jl hK;u_c stepG_seq jl hK;u_reg jl hK;iterate 4 u_op jl hK
 refine Goes.stop (fun w₁ h₁=>?_);replace hK:=jl hK h₁;clear h₁;refine⟨rfl,fun v hv hw=>?_⟩;have e0:IntKind.u64.wrap ((v:Int)*KK+4294967296)=((v:Int)+1)*KK:=by rw[IntKind.wrap_u64];simp only[KK];omega
 refine⟨_,(stepG_add_atomic rfl rfl (by k_ne) rfl H.f_addU64 (x_addU64_n L) (x_addU64_b L) (x_addU64_x L) .u64 (x_addU64_f L) rfl rfl hw.cellSt (hw.thaw 0)).trans (by rw[e0];rfl),fun hv0=>⟨200,?_⟩,fun hv0=>⟨200,?_⟩⟩
 ·subst hv0;replace hK:=J.setSt hCW hK hw ((((0:Nat):Int)+1)*KK);refine Sil.of (w:=w₁.setCell (stA Φ.Wg) (.int .u64 ((((0:Nat):Int)+1)*KK))) ?_;generalize w₁.setCell (stA Φ.Wg) (.int .u64 ((((0:Nat):Int)+1)*KK))=w₂ at hK;clear hw;have z:(((0:Nat):Int)+1)*KK=4294967296:=by simp[KK]
  rw[z];walk_nrm;u_op jl hK;u_c stepG_region_end jl hK;u_c stepG_ret' jl hK;u_leave1 H.f_uAdd jl hK;u_op jl hK;u_c stepG_region_end jl hK;iterate 2 u_c stepG_seq jl hK
  u_reg jl hK;iterate 4 u_op jl hK
  iterate 2 u_skip jl hK
  u_op jl hK;u_c stepG_region_end jl hK;u_cond false jl hK;u_c stepG_skip jl hK;u_c stepG_seq jl hK;u_reg jl hK;iterate 4 u_op jl hK
  u_c stepG_region_end jl hK;u_c stepG_seq jl hK;u_reg jl hK;iterate 4 u_op jl hK
  u_c stepG_region_end jl hK;iterate 2 u_c stepG_seq jl hK
  u_reg jl hK;iterate 10 u_op jl hK
  u_c stepG_region_end jl hK;u_cond true jl hK;u_reg jl hK;iterate 3 u_op jl hK
  u_conv H.underlying_tPU32 H.room_tU32 (J.cell1 hK).choose_spec jl hK;refine Goes.stop (fun w₁ h₁=>?_);replace hK:=jl hK h₁;clear h₁;refine⟨rfl,_,stepG_markAt .read (by simp) rfl rfl (by k_ne) rfl H.f_raceRead (x_raceRead_n L) (x_raceRead_b L) (x_raceRead_x L) (x_raceRead_f L) (ad:=⟨Φ.Wg,1,none⟩) (by simp[Act.eval]),200,Sil.of (w:=w₁) ?_⟩;walk_nrm;u_c stepG_region_end jl hK;iterate 2 u_c stepG_seq jl hK
  u_reg jl hK;iterate 2 u_op jl hK
  u_c stepG_region_end jl hK;u_cond false jl hK;u_c stepG_skip jl hK;iterate 2 u_c stepG_seq jl hK
  u_reg jl hK;iterate 3 u_op jl hK
  iterate 2 u_skip jl hK
  iterate 2 u_op jl hK
  iterate 4 u_skip jl hK
  u_op jl hK;u_c stepG_region_end jl hK;u_cond false jl hK;u_c stepG_skip jl hK;iterate 2 u_c stepG_seq jl hK
  u_reg jl hK;iterate 3 u_op jl hK
  iterate 2 u_skip jl hK
  u_op jl hK;u_c stepG_region_end jl hK;u_cond true jl hK;u_c stepG_ret' jl hK;refine Goes.stop (fun w₁ h₁=>?_);replace hK:=jl hK h₁;clear h₁;refine⟨rfl,_,stepG_unwind_entry (v:=.tuple #[]) (evs:=#[Go.ConcR.mk .enable]) rfl H.f_enable (x_enable_n L) (x_enable_b L) (x_enable_x L) (x_enable_f L) (by simp[Extern.Race.none_]) (by simp[Go.ConcR.mk]) (by simp[Go.ConcR.mk]),10,Sil.of (w:=w₁) ?_⟩;u_leave0 H.f_add jl hK;exact Goes.stop fun _ _=>⟨_,_,rfl,hN⟩
 ·replace hK:=J.setSt hCW hK hw (((v:Int)+1)*KK);refine Sil.of (w:=w₁.setCell (stA Φ.Wg) (.int .u64 (((v:Int)+1)*KK))) ?_;generalize w₁.setCell (stA Φ.Wg) (.int .u64 (((v:Int)+1)*KK))=w₂ at hK;clear hw e0;obtain⟨V,hV⟩:∃V:Int,(v:Int)+1=V:=⟨_,rfl⟩;obtain⟨S,hS⟩:∃S:Int,V*KK=S:=⟨_,rfl⟩;have a1:S/4294967296=V:=by rw[<-hS];simp only[KK];omega
  have b1:bits .and .u64 S 2147483648=0:=by rw[<-hS,<-hV];have:=st_flag (v+1) 0 (by omega) (by omega);simpa[KK]using this
  have b2:bits .and .u64 S 2147483647=0:=by rw[<-hS,<-hV];have:=st_waiters (v+1) 0 (by omega) (by omega);simpa[KK]using this
  have c1:IntKind.i32.wrap V=V:=by rw[IntKind.wrap_i32];omega
  have q3:decide (V<0)=false:=mR (by omega);have q4:decide (0<V)=true:=nU (by omega);have q5:(V==1)=false:=by simp;omega
  have q6:decide (V=1)=false:=mR (by omega);rw[hV,hS];walk_nrm;u_op jl hK;u_c stepG_region_end jl hK;u_c stepG_ret' jl hK;u_leave1 H.f_uAdd jl hK;u_op jl hK;u_c stepG_region_end jl hK;iterate 2 u_c stepG_seq jl hK
  u_reg jl hK;iterate 4 u_op jl hK
  iterate 2 u_skip jl hK
  u_op jl hK;u_c stepG_region_end jl hK;u_cnd false jl hK;u_c stepG_skip jl hK;u_c stepG_seq jl hK;u_reg jl hK;iterate 4 u_op jl hK
  u_c stepG_region_end jl hK;u_c stepG_seq jl hK;u_reg jl hK;iterate 4 u_op jl hK
  u_c stepG_region_end jl hK;iterate 2 u_c stepG_seq jl hK
  u_reg jl hK;iterate 10 u_op jl hK
  u_c stepG_region_end jl hK;u_cnd false jl hK;u_c stepG_skip jl hK;iterate 2 u_c stepG_seq jl hK
  u_reg jl hK;iterate 2 u_op jl hK
  u_c stepG_region_end jl hK;u_cnd false jl hK;u_c stepG_skip jl hK;iterate 2 u_c stepG_seq jl hK
  u_reg jl hK;iterate 3 u_op jl hK
  iterate 2 u_skip jl hK
  iterate 2 u_op jl hK
  iterate 4 u_skip jl hK
  u_op jl hK;u_c stepG_region_end jl hK;u_cnd false jl hK;u_c stepG_skip jl hK;iterate 2 u_c stepG_seq jl hK
  u_reg jl hK;iterate 3 u_op jl hK
  iterate 2 u_skip jl hK
  u_op jl hK;u_c stepG_region_end jl hK;u_cnd true jl hK;u_c stepG_ret' jl hK;refine Goes.stop (fun w₁ h₁=>?_);replace hK:=jl hK h₁;clear h₁;refine⟨rfl,_,stepG_unwind_entry (v:=.tuple #[]) (evs:=#[Go.ConcR.mk .enable]) rfl H.f_enable (x_enable_n L) (x_enable_b L) (x_enable_x L) (x_enable_f L) (by simp[Extern.Race.none_]) (by simp[Go.ConcR.mk]) (by simp[Go.ConcR.mk]),10,Sil.of (w:=w₁) ?_⟩;u_leave0 H.f_add jl hK;exact Goes.stop fun _ _=>⟨_,_,rfl,hN⟩
end
end Go.Eng
namespace Go.Eng
open Go Go.Conc Go.RowKit Go.Conc.Lib Go.ConcR.Gen Go.ConcN.Gen
open Go.ConcN hiding upd upd_same upd_ne AtD4 AtD3 AtD2 AtD1 AtK1 AtR0 AtAcq AtKe AtW4 AtW3 AtW2 AtW1 AtKd WSit AtA1
open Go.ConcR (KK wgBlock WgAt stA smA rd wr DC0 Payload)
section
variable [Payload]{P:Program}{L:WgLink}{Φ:Ph}{cs:List Frame}{qt:Nat}
variable {b₀:Frame}{a₀:Act}{ops₀:Array Oper}{i₀:Nat}{rest₀:List Nat}{k₀:List Item}
theorem Yt(H:WgLib P L)(hCW:Φ.C≠Φ.Wg)(hT:QuitsD P qt 0 (G (b₀.at (a₀.put ((ops₀[i₀]?).bind (·.dst)) (.tuple #[])) (.inRegion ops₀ rest₀::k₀)) cs))(w:World)(hK:Φ.J w) :
  Goes P false (fun _ w₁=>Φ.J w₁) DC0 (AtR0 P Φ) 100
   (G ((base L.add).at ⟨#[.pointer (some ⟨Φ.Wg,0,none⟩),.int .i64 (-1),undef,undef,undef,undef,undef,undef,undef,undef,undef,undef,undef,undef,undef,undef,undef,undef,undef,undef,undef,undef,undef,undef,undef,undef,undef,undef,undef,undef,undef,undef,undef,undef,undef,undef,undef,undef,undef,undef,undef,undef,undef,undef,undef,undef,undef,undef,undef,undef,undef,undef,undef,undef,undef,undef,undef,undef,undef,undef,undef,undef,undef,undef,undef,undef,undef,undef,undef,undef,undef,undef,undef,undef,undef,undef,undef,undef,undef,undef,undef,undef,undef,undef,undef,undef,undef,undef,undef,undef,undef,undef,undef,undef,undef,undef,undef,undef,undef,undef,undef,undef,undef,undef,undef,undef,undef,undef,undef,undef,undef,undef,undef,undef,undef,undef,undef],[]⟩ [.code (body_add L)]) (b₀.at a₀ (.inRegion ops₀ (i₀::rest₀)::k₀)::cs)) w:=by
 lib_facts
 simp only[body_add,addFn,pG];u_c stepG_seq jl hK;u_cond true jl hK;iterate 2 u_c stepG_seq jl hK
 u_reg jl hK;iterate 2 u_op jl hK
 u_c stepG_region_end jl hK;u_cond true jl hK;u_reg jl hK;u_op jl hK;u_conv H.underlying_tWgP H.room_tWg (J.cell0 hK).choose_spec jl hK;refine Goes.stop (fun w₁ h₁=>?_);replace hK:=jl hK h₁;clear h₁;refine⟨rfl,_,stepG_markAt .releaseMerge (by simp) rfl rfl (by k_ne) rfl H.f_relMerge (x_relMerge_n L) (x_relMerge_b L) (x_relMerge_x L) (x_relMerge_f L) (by simp[Act.eval,stA]),100,Sil.of (w:=w₁) ?_⟩;walk_nrm;u_c stepG_region_end jl hK;u_c stepG_seq jl hK;u_reg jl hK;refine Goes.stop (fun w₁ h₁=>?_);replace hK:=jl hK h₁;clear h₁;refine⟨rfl,_,stepG_mark0 .disable (by simp) rfl rfl (by k_ne) rfl H.f_disable (x_disable_n L) (x_disable_b L) (x_disable_x L) (x_disable_f L),100,Sil.of (w:=w₁) ?_⟩;walk_nrm;u_c stepG_region_end jl hK;u_reg jl hK;u_defer jl hK;u_c stepG_region_end jl hK;u_c stepG_seq jl hK;u_reg jl hK;u_op jl hK;u_c stepG_region_end jl hK;iterate 2 u_c stepG_seq jl hK
 u_reg jl hK;u_bub jl hK;u_c stepG_region_end jl hK;u_cond false jl hK;u_c stepG_skip jl hK;u_c stepG_seq jl hK;u_reg jl hK;iterate 6 u_op jl hK
 u_call H.f_uAdd (nm_uAdd L) uAddFn jl hK;u_c stepG_seq jl hK;u_reg jl hK;u_op jl hK;u_c stepG_region_end jl hK;u_c stepG_seq jl hK;u_reg jl hK;iterate 4 u_op jl hK
 refine Goes.stop (fun w₁ h₁=>?_);replace hK:=jl hK h₁;clear h₁;refine⟨rfl,fun v wt hwt hv hw=>?_⟩;have e0:IntKind.u64.wrap (((v:Int)+1)*KK+wt+18446744069414584320)=(v:Int)*KK+wt:=by rw[IntKind.wrap_u64];simp only[KK];omega
 refine⟨_,(stepG_add_atomic rfl rfl (by k_ne) rfl H.f_addU64 (x_addU64_n L) (x_addU64_b L) (x_addU64_x L) .u64 (x_addU64_f L) rfl rfl hw.cellSt (hw.thaw 0)).trans (by rw[e0];rfl),fun hl=>?_,fun hl=>?_⟩
 ·obtain⟨rfl,rfl⟩:=hl;have z:((0:Nat):Int)*KK+((1:Nat):Int)=1:=by simp
  replace hK:=J.setSt hCW hK hw (((0:Nat):Int)*KK+((1:Nat):Int));refine⟨200,Sil.of (w:=w₁.setCell (stA Φ.Wg) (.int .u64 (((0:Nat):Int)*KK+((1:Nat):Int)))) ?_⟩;generalize w₁.setCell (stA Φ.Wg) (.int .u64 (((0:Nat):Int)*KK+((1:Nat):Int)))=w₂ at hK;clear hw e0;rw[z];walk_nrm;u_op jl hK;u_c stepG_region_end jl hK;u_c stepG_ret' jl hK;u_leave1 H.f_uAdd jl hK;u_op jl hK;u_c stepG_region_end jl hK;iterate 2 u_c stepG_seq jl hK
  u_reg jl hK;iterate 4 u_op jl hK
  iterate 2 u_skip jl hK
  u_op jl hK;u_c stepG_region_end jl hK;u_cond false jl hK;u_c stepG_skip jl hK;u_c stepG_seq jl hK;u_reg jl hK;iterate 4 u_op jl hK
  u_c stepG_region_end jl hK;u_c stepG_seq jl hK;u_reg jl hK;iterate 4 u_op jl hK
  u_c stepG_region_end jl hK;iterate 2 u_c stepG_seq jl hK
  u_reg jl hK;iterate 5 u_op jl hK
  iterate 4 u_skip jl hK
  u_op jl hK;u_c stepG_region_end jl hK;u_cond false jl hK;u_c stepG_skip jl hK;iterate 2 u_c stepG_seq jl hK
  u_reg jl hK;iterate 2 u_op jl hK
  u_c stepG_region_end jl hK;u_cond false jl hK;u_c stepG_skip jl hK;iterate 2 u_c stepG_seq jl hK
  u_reg jl hK;iterate 7 u_op jl hK
  iterate 4 u_skip jl hK
  u_op jl hK;u_c stepG_region_end jl hK;u_cond false jl hK;u_c stepG_skip jl hK;iterate 2 u_c stepG_seq jl hK
  u_reg jl hK;iterate 6 u_op jl hK
  u_c stepG_region_end jl hK;u_cond false jl hK;u_c stepG_skip jl hK;iterate 2 u_c stepG_seq jl hK
  u_reg jl hK;iterate 3 u_op jl hK
  u_call H.f_uLoad (nm_uLoad L) uLoadFn jl hK;u_c stepG_seq jl hK;u_reg jl hK;u_op jl hK;u_c stepG_region_end jl hK;u_c stepG_seq jl hK;u_reg jl hK;iterate 3 u_op jl hK
  refine Goes.stop (fun w₁ h₁=>?_);replace hK:=jl hK h₁;clear h₁;refine⟨rfl,fun hw=>⟨_,stepG_load_atomic rfl rfl (by k_ne) rfl H.f_loadU64 (x_loadU64_n L) (x_loadU64_b L) (x_loadU64_x L) .u64 (x_loadU64_f L) rfl hw.cellSt,200,Sil.of (w:=w₁) ?_⟩⟩;clear hw;walk_nrm;u_op jl hK;u_c stepG_region_end jl hK;u_c stepG_ret' jl hK;u_leave1 H.f_uLoad jl hK;iterate 2 u_op jl hK
  u_c stepG_region_end jl hK;u_cond false jl hK;u_c stepG_skip jl hK;u_c stepG_seq jl hK;u_reg jl hK;iterate 3 u_op jl hK
  u_call H.f_uStore (nm_uStore L) uStoreFn jl hK;u_reg jl hK;iterate 4 u_op jl hK
  refine Goes.stop (fun w₁ h₁=>?_);replace hK:=jl hK h₁;clear h₁;refine⟨rfl,fun hw=>⟨_,stepG_store_atomic rfl rfl (by k_ne) rfl H.f_storeU64 (x_storeU64_n L) (x_storeU64_b L) (x_storeU64_x L) (x_storeU64_f L) rfl rfl hw.cellSt (hw.thaw 0),200,Sil.of (w:=w₁.setCell (stA Φ.Wg) (.int .u64 0)) ?_⟩⟩;replace hK:=J.setSt hCW hK hw 0;generalize w₁.setCell (stA Φ.Wg) (.int .u64 0)=w₂ at hK;clear hw;walk_nrm;u_c stepG_region_end jl hK;u_c stepG_end jl hK;u_leave0 H.f_uStore jl hK;u_c stepG_region_end jl hK;iterate 2 u_c stepG_seq jl hK
  u_reg jl hK;u_op jl hK;u_c stepG_region_end jl hK;u_cond false jl hK;u_c stepG_skip jl hK;u_c stepG_block jl hK;u_c stepG_loop jl hK;iterate 2 u_c stepG_seq jl hK
  u_reg jl hK;iterate 2 u_op jl hK
  u_c stepG_region_end jl hK;u_cond true jl hK;u_c stepG_skip jl hK;u_c stepG_seq jl hK;u_c stepG_block jl hK;u_reg jl hK;iterate 3 u_op jl hK
  refine Goes.stop (fun w₁ h₁=>?_);replace hK:=jl hK h₁;clear h₁;refine⟨rfl,mayWake_entry rfl rfl H.f_semrelease (x_semrelease_b L),fun hw=>⟨_,(stepG_semrelease rfl rfl (by k_ne) rfl H.f_semrelease (x_semrelease_n L) (x_semrelease_b L) (x_semrelease_x L) (x_semrelease_f L) (by simp[Act.eval,smA]) hw.cellSm (hw.thaw 1)).trans (by rfl),qt+19,?_⟩⟩;clear hw;have q3:True:=trivial;have q4:True:=trivial;have q5:True:=trivial;have c1:True:=trivial;have c3:IntKind.u32.wrap 0=0:=by decide
  have c4:IntKind.u32.wrap 1=1:=by decide
  walk_nrm
  q_c stepG_region_end
  q_c stepG_inBlock
  q_reg
  iterate 3 (apply QuitsD.value;(case ho=>rfl);(case hw=>rfl);(case hk=>k_ne);(case hr=>intro w;go_simp;(try simp only[q3,q4,q5,c1,c3,c4]);first | rfl | (w_num;rfl));(case he=>intro w;simp[go_sem, *]);walk_nrm)
  q_c stepG_region_end
  q_c stepG_inLoop
  iterate 2 q_c stepG_seq
  q_reg
  iterate 2 (apply QuitsD.value;(case ho=>rfl);(case hw=>rfl);(case hk=>k_ne);(case hr=>intro w;go_simp;(try simp only[q3,q4,q5,c1,c3,c4]);first | rfl | (w_num;rfl));(case he=>intro w;simp[go_sem, *]);walk_nrm)
  q_c stepG_region_end
  q_cond false
  q_exit
  q_c stepG_end
  q_enable
  q_leave0 H.f_add
  exact hT
 ·refine⟨qt+89,?_⟩;clear e0 hw hK;obtain⟨S,hS⟩:∃S:Int,(v:Int)*KK+wt=S:=⟨_,rfl⟩;have a1:S/4294967296=(v:Int):=by rw[<-hS];simp only[KK];omega
  have b1:bits .and .u64 S 2147483648=0:=by rw[<-hS];have:=st_flag v wt (by omega) (by omega);simpa[KK]using this
  have b2:bits .and .u64 S 2147483647=(wt:Int):=by rw[<-hS];have:=st_waiters v wt (by omega) (by omega);simpa[KK]using this
  have c1:IntKind.i32.wrap (v:Int)=(v:Int):=by rw[IntKind.wrap_i32];omega
  have c2:IntKind.u32.wrap (wt:Int)=(wt:Int):=by rw[pT];omega
  have q3:decide ((v:Int)<0)=false:=mR (by omega);rw[hS];have c3:IntKind.u32.wrap 0=0:=by decide
  have c4:IntKind.u32.wrap 1=1:=by decide
  have hcase:wt=0\/wt=1:=by omega
  rcases hcase with rfl | rfl
  ·replace b2:bits .and .u64 S 2147483647=0:=b2;clear c2;rcases Nat.eq_zero_or_pos v with rfl | hvp
   ·have z:S=0:=by rw[<-hS];simp
    subst z;have q4:True:=trivial;have q5:True:=trivial;simp only[Int.natCast_zero]at c1 q3 a1 b1 b2;walk_nrm
    (apply QuitsD.value;(case ho=>rfl);(case hw=>rfl);(case hk=>k_ne);(case hr=>intro w;go_simp;(try simp only[q3,q4,q5,c1,c3,c4]);first | rfl | (w_num;rfl));(case he=>intro w;simp[go_sem, *]);walk_nrm)
    q_c stepG_region_end
    q_c stepG_ret'
    q_leave1 H.f_uAdd
    (apply QuitsD.value;(case ho=>rfl);(case hw=>rfl);(case hk=>k_ne);(case hr=>intro w;go_simp;(try simp only[q3,q4,q5,c1,c3,c4]);first | rfl | (w_num;rfl));(case he=>intro w;simp[go_sem, *]);walk_nrm)
    q_c stepG_region_end
    iterate 2 q_c stepG_seq
    q_reg
    iterate 4 (apply QuitsD.value;(case ho=>rfl);(case hw=>rfl);(case hk=>k_ne);(case hr=>intro w;go_simp;(try simp only[q3,q4,q5,c1,c3,c4]);first | rfl | (w_num;rfl));(case he=>intro w;simp[go_sem, *]);walk_nrm)
    iterate 2 q_skip
    (apply QuitsD.value;(case ho=>rfl);(case hw=>rfl);(case hk=>k_ne);(case hr=>intro w;go_simp;(try simp only[q3,q4,q5,c1,c3,c4]);first | rfl | (w_num;rfl));(case he=>intro w;simp[go_sem, *]);walk_nrm)
    q_c stepG_region_end
    q_cond false
    q_c stepG_skip
    q_c stepG_seq
    q_reg
    iterate 4 (apply QuitsD.value;(case ho=>rfl);(case hw=>rfl);(case hk=>k_ne);(case hr=>intro w;go_simp;(try simp only[q3,q4,q5,c1,c3,c4]);first | rfl | (w_num;rfl));(case he=>intro w;simp[go_sem, *]);walk_nrm)
    q_c stepG_region_end
    q_c stepG_seq
    q_reg
    iterate 4 (apply QuitsD.value;(case ho=>rfl);(case hw=>rfl);(case hk=>k_ne);(case hr=>intro w;go_simp;(try simp only[q3,q4,q5,c1,c3,c4]);first | rfl | (w_num;rfl));(case he=>intro w;simp[go_sem, *]);walk_nrm)
    q_c stepG_region_end
    iterate 2 q_c stepG_seq
    q_reg
    iterate 5 (apply QuitsD.value;(case ho=>rfl);(case hw=>rfl);(case hk=>k_ne);(case hr=>intro w;go_simp;(try simp only[q3,q4,q5,c1,c3,c4]);first | rfl | (w_num;rfl));(case he=>intro w;simp[go_sem, *]);walk_nrm)
    iterate 4 q_skip
    (apply QuitsD.value;(case ho=>rfl);(case hw=>rfl);(case hk=>k_ne);(case hr=>intro w;go_simp;(try simp only[q3,q4,q5,c1,c3,c4]);first | rfl | (w_num;rfl));(case he=>intro w;simp[go_sem, *]);walk_nrm)
    q_c stepG_region_end
    q_cond false
    q_c stepG_skip
    iterate 2 q_c stepG_seq
    q_reg
    iterate 2 (apply QuitsD.value;(case ho=>rfl);(case hw=>rfl);(case hk=>k_ne);(case hr=>intro w;go_simp;(try simp only[q3,q4,q5,c1,c3,c4]);first | rfl | (w_num;rfl));(case he=>intro w;simp[go_sem, *]);walk_nrm)
    q_c stepG_region_end
    q_cond false
    q_c stepG_skip
    iterate 2 q_c stepG_seq
    q_reg
    iterate 3 (apply QuitsD.value;(case ho=>rfl);(case hw=>rfl);(case hk=>k_ne);(case hr=>intro w;go_simp;(try simp only[q3,q4,q5,c1,c3,c4]);first | rfl | (w_num;rfl));(case he=>intro w;simp[go_sem, *]);walk_nrm)
    iterate 2 q_skip
    iterate 2 (apply QuitsD.value;(case ho=>rfl);(case hw=>rfl);(case hk=>k_ne);(case hr=>intro w;go_simp;(try simp only[q3,q4,q5,c1,c3,c4]);first | rfl | (w_num;rfl));(case he=>intro w;simp[go_sem, *]);walk_nrm)
    iterate 4 q_skip
    (apply QuitsD.value;(case ho=>rfl);(case hw=>rfl);(case hk=>k_ne);(case hr=>intro w;go_simp;(try simp only[q3,q4,q5,c1,c3,c4]);first | rfl | (w_num;rfl));(case he=>intro w;simp[go_sem, *]);walk_nrm)
    q_c stepG_region_end
    q_cond false
    q_c stepG_skip
    iterate 2 q_c stepG_seq
    q_reg
    iterate 6 (apply QuitsD.value;(case ho=>rfl);(case hw=>rfl);(case hk=>k_ne);(case hr=>intro w;go_simp;(try simp only[q3,q4,q5,c1,c3,c4]);first | rfl | (w_num;rfl));(case he=>intro w;simp[go_sem, *]);walk_nrm)
    q_c stepG_region_end
    q_cond true
    q_c stepG_ret'
    q_enable
    q_leave0 H.f_add
    exact hT
   ·have q4:decide (0<(v:Int))=true:=nU (by omega);have q5:((v:Int)==0)=false:=by simp;omega
    walk_nrm
    (apply QuitsD.value;(case ho=>rfl);(case hw=>rfl);(case hk=>k_ne);(case hr=>intro w;go_simp;(try simp only[q3,q4,q5,c1,c3,c4]);first | rfl | (w_num;rfl));(case he=>intro w;simp[go_sem, *]);walk_nrm)
    q_c stepG_region_end
    q_c stepG_ret'
    q_leave1 H.f_uAdd
    (apply QuitsD.value;(case ho=>rfl);(case hw=>rfl);(case hk=>k_ne);(case hr=>intro w;go_simp;(try simp only[q3,q4,q5,c1,c3,c4]);first | rfl | (w_num;rfl));(case he=>intro w;simp[go_sem, *]);walk_nrm)
    q_c stepG_region_end
    iterate 2 q_c stepG_seq
    q_reg
    iterate 4 (apply QuitsD.value;(case ho=>rfl);(case hw=>rfl);(case hk=>k_ne);(case hr=>intro w;go_simp;(try simp only[q3,q4,q5,c1,c3,c4]);first | rfl | (w_num;rfl));(case he=>intro w;simp[go_sem, *]);walk_nrm)
    iterate 2 q_skip
    (apply QuitsD.value;(case ho=>rfl);(case hw=>rfl);(case hk=>k_ne);(case hr=>intro w;go_simp;(try simp only[q3,q4,q5,c1,c3,c4]);first | rfl | (w_num;rfl));(case he=>intro w;simp[go_sem, *]);walk_nrm)
    q_c stepG_region_end
    q_cond false
    q_c stepG_skip
    q_c stepG_seq
    q_reg
    iterate 4 (apply QuitsD.value;(case ho=>rfl);(case hw=>rfl);(case hk=>k_ne);(case hr=>intro w;go_simp;(try simp only[q3,q4,q5,c1,c3,c4]);first | rfl | (w_num;rfl));(case he=>intro w;simp[go_sem, *]);walk_nrm)
    q_c stepG_region_end
    q_c stepG_seq
    q_reg
    iterate 4 (apply QuitsD.value;(case ho=>rfl);(case hw=>rfl);(case hk=>k_ne);(case hr=>intro w;go_simp;(try simp only[q3,q4,q5,c1,c3,c4]);first | rfl | (w_num;rfl));(case he=>intro w;simp[go_sem, *]);walk_nrm)
    q_c stepG_region_end
    iterate 2 q_c stepG_seq
    q_reg
    iterate 5 (apply QuitsD.value;(case ho=>rfl);(case hw=>rfl);(case hk=>k_ne);(case hr=>intro w;go_simp;(try simp only[q3,q4,q5,c1,c3,c4]);first | rfl | (w_num;rfl));(case he=>intro w;simp[go_sem, *]);walk_nrm)
    iterate 4 q_skip
    (apply QuitsD.value;(case ho=>rfl);(case hw=>rfl);(case hk=>k_ne);(case hr=>intro w;go_simp;(try simp only[q3,q4,q5,c1,c3,c4]);first | rfl | (w_num;rfl));(case he=>intro w;simp[go_sem, *]);walk_nrm)
    q_c stepG_region_end
    q_cond false
    q_c stepG_skip
    iterate 2 q_c stepG_seq
    q_reg
    iterate 2 (apply QuitsD.value;(case ho=>rfl);(case hw=>rfl);(case hk=>k_ne);(case hr=>intro w;go_simp;(try simp only[q3,q4,q5,c1,c3,c4]);first | rfl | (w_num;rfl));(case he=>intro w;simp[go_sem, *]);walk_nrm)
    q_c stepG_region_end
    q_cond false
    q_c stepG_skip
    iterate 2 q_c stepG_seq
    q_reg
    iterate 3 (apply QuitsD.value;(case ho=>rfl);(case hw=>rfl);(case hk=>k_ne);(case hr=>intro w;go_simp;(try simp only[q3,q4,q5,c1,c3,c4]);first | rfl | (w_num;rfl));(case he=>intro w;simp[go_sem, *]);walk_nrm)
    iterate 2 q_skip
    iterate 2 (apply QuitsD.value;(case ho=>rfl);(case hw=>rfl);(case hk=>k_ne);(case hr=>intro w;go_simp;(try simp only[q3,q4,q5,c1,c3,c4]);first | rfl | (w_num;rfl));(case he=>intro w;simp[go_sem, *]);walk_nrm)
    iterate 4 q_skip
    (apply QuitsD.value;(case ho=>rfl);(case hw=>rfl);(case hk=>k_ne);(case hr=>intro w;go_simp;(try simp only[q3,q4,q5,c1,c3,c4]);first | rfl | (w_num;rfl));(case he=>intro w;simp[go_sem, *]);walk_nrm)
    q_c stepG_region_end
    q_cond false
    q_c stepG_skip
    iterate 2 q_c stepG_seq
    q_reg
    iterate 3 (apply QuitsD.value;(case ho=>rfl);(case hw=>rfl);(case hk=>k_ne);(case hr=>intro w;go_simp;(try simp only[q3,q4,q5,c1,c3,c4]);first | rfl | (w_num;rfl));(case he=>intro w;simp[go_sem, *]);walk_nrm)
    iterate 2 q_skip
    (apply QuitsD.value;(case ho=>rfl);(case hw=>rfl);(case hk=>k_ne);(case hr=>intro w;go_simp;(try simp only[q3,q4,q5,c1,c3,c4]);first | rfl | (w_num;rfl));(case he=>intro w;simp[go_sem, *]);walk_nrm)
    q_c stepG_region_end
    q_cond true
    q_c stepG_ret'
    q_enable
    q_leave0 H.f_add
    exact hT
  ·replace b2:bits .and .u64 S 2147483647=1:=b2;clear c2;have hvp:0<v:=by omega
   have q4:decide (0<(v:Int))=true:=nU (by omega);have q5:((v:Int)==0)=false:=by simp;omega
   walk_nrm
   (apply QuitsD.value;(case ho=>rfl);(case hw=>rfl);(case hk=>k_ne);(case hr=>intro w;go_simp;(try simp only[q3,q4,q5,c1,c3,c4]);first | rfl | (w_num;rfl));(case he=>intro w;simp[go_sem, *]);walk_nrm)
   q_c stepG_region_end
   q_c stepG_ret'
   q_leave1 H.f_uAdd
   (apply QuitsD.value;(case ho=>rfl);(case hw=>rfl);(case hk=>k_ne);(case hr=>intro w;go_simp;(try simp only[q3,q4,q5,c1,c3,c4]);first | rfl | (w_num;rfl));(case he=>intro w;simp[go_sem, *]);walk_nrm)
   q_c stepG_region_end
   iterate 2 q_c stepG_seq
   q_reg
   iterate 4 (apply QuitsD.value;(case ho=>rfl);(case hw=>rfl);(case hk=>k_ne);(case hr=>intro w;go_simp;(try simp only[q3,q4,q5,c1,c3,c4]);first | rfl | (w_num;rfl));(case he=>intro w;simp[go_sem, *]);walk_nrm)
   q_skip
   q_skip
   (apply QuitsD.value;(case ho=>rfl);(case hw=>rfl);(case hk=>k_ne);(case hr=>intro w;go_simp;(try simp only[q3,q4,q5,c1,c3,c4]);first | rfl | (w_num;rfl));(case he=>intro w;simp[go_sem, *]);walk_nrm)
   q_c stepG_region_end
   q_cond false
   q_c stepG_skip
   q_c stepG_seq
   q_reg
   iterate 4 (apply QuitsD.value;(case ho=>rfl);(case hw=>rfl);(case hk=>k_ne);(case hr=>intro w;go_simp;(try simp only[q3,q4,q5,c1,c3,c4]);first | rfl | (w_num;rfl));(case he=>intro w;simp[go_sem, *]);walk_nrm)
   q_c stepG_region_end
   q_c stepG_seq
   q_reg
   iterate 4 (apply QuitsD.value;(case ho=>rfl);(case hw=>rfl);(case hk=>k_ne);(case hr=>intro w;go_simp;(try simp only[q3,q4,q5,c1,c3,c4]);first | rfl | (w_num;rfl));(case he=>intro w;simp[go_sem, *]);walk_nrm)
   q_c stepG_region_end
   iterate 2 q_c stepG_seq
   q_reg
   iterate 5 (apply QuitsD.value;(case ho=>rfl);(case hw=>rfl);(case hk=>k_ne);(case hr=>intro w;go_simp;(try simp only[q3,q4,q5,c1,c3,c4]);first | rfl | (w_num;rfl));(case he=>intro w;simp[go_sem, *]);walk_nrm)
   iterate 4 q_skip
   (apply QuitsD.value;(case ho=>rfl);(case hw=>rfl);(case hk=>k_ne);(case hr=>intro w;go_simp;(try simp only[q3,q4,q5,c1,c3,c4]);first | rfl | (w_num;rfl));(case he=>intro w;simp[go_sem, *]);walk_nrm)
   q_c stepG_region_end
   q_cond false
   q_c stepG_skip
   iterate 2 q_c stepG_seq
   q_reg
   iterate 2 (apply QuitsD.value;(case ho=>rfl);(case hw=>rfl);(case hk=>k_ne);(case hr=>intro w;go_simp;(try simp only[q3,q4,q5,c1,c3,c4]);first | rfl | (w_num;rfl));(case he=>intro w;simp[go_sem, *]);walk_nrm)
   q_c stepG_region_end
   q_cond false
   q_c stepG_skip
   iterate 2 q_c stepG_seq
   q_reg
   iterate 7 (apply QuitsD.value;(case ho=>rfl);(case hw=>rfl);(case hk=>k_ne);(case hr=>intro w;go_simp;(try simp only[q3,q4,q5,c1,c3,c4]);first | rfl | (w_num;rfl));(case he=>intro w;simp[go_sem, *]);walk_nrm)
   iterate 4 q_skip
   (apply QuitsD.value;(case ho=>rfl);(case hw=>rfl);(case hk=>k_ne);(case hr=>intro w;go_simp;(try simp only[q3,q4,q5,c1,c3,c4]);first | rfl | (w_num;rfl));(case he=>intro w;simp[go_sem, *]);walk_nrm)
   q_c stepG_region_end
   q_cond false
   q_c stepG_skip
   iterate 2 q_c stepG_seq
   q_reg
   iterate 3 (apply QuitsD.value;(case ho=>rfl);(case hw=>rfl);(case hk=>k_ne);(case hr=>intro w;go_simp;(try simp only[q3,q4,q5,c1,c3,c4]);first | rfl | (w_num;rfl));(case he=>intro w;simp[go_sem, *]);walk_nrm)
   q_skip
   q_skip
   (apply QuitsD.value;(case ho=>rfl);(case hw=>rfl);(case hk=>k_ne);(case hr=>intro w;go_simp;(try simp only[q3,q4,q5,c1,c3,c4]);first | rfl | (w_num;rfl));(case he=>intro w;simp[go_sem, *]);walk_nrm)
   q_c stepG_region_end
   q_cond true
   q_c stepG_ret'
   q_enable
   q_leave0 H.f_add
   exact hT
end
end Go.Eng
namespace Go.Eng
open Go Go.Conc Go.RowKit Go.Conc.Lib Go.ConcR.Gen Go.ConcN.Gen
open Go.ConcN hiding upd upd_same upd_ne AtD4 AtD3 AtD2 AtD1 AtK1 AtR0 AtAcq AtKe AtW4 AtW3 AtW2 AtW1 AtKd WSit AtA1
open Go.ConcR (KK wgBlock WgAt stA smA rd wr DC0 Payload)
variable {ops:Array Oper}{i:Nat}{o:Oper}
section
variable [Payload]{P:Program}{L:WgLink}{Φ:Ph}{cs:List Frame}{qt:Nat}
theorem Z1(fr:Frame)(cs:List Frame):gor fr cs=G fr cs:=rfl
theorem Ws(H:WgLib P L)(hCW:Φ.C≠Φ.Wg){c:Frame}(hcm:c.mode=.returning)(hT:QuitsD P qt 0 (G c cs))(w:World)(hK:Φ.J w) :
  Goes P false (fun _ w₁=>Φ.J w₁) DC0 (AtR0 P Φ) 103 (G ((baseD L.done).at ⟨#[.pointer (some ⟨Φ.Wg,0,none⟩),undef,undef,undef],[]⟩ [.code (body_done L)]) (c::cs)) w:=by
 lib_facts
 have hA:=@Yt _ P L Φ;simp only[body_done,body_add,doneFn,addFn,pG]at hA ⊢;u_reg jl hK;u_op jl hK;u_in jl hK;refine goes_call rfl rfl (by k_ne) rfl H.f_add (nm_add L) rfl ⟨by u_nil,?_⟩
 walk_nrmf addFn
 refine hA (qt:=qt+3) H hCW ?_ _ hK
 q_c stepG_region_end
 q_c stepG_end
 exact QuitsD.leaveD rfl rfl H.f_done rfl hcm hT
variable {b₀:Frame}{a₀:Act}{ops₀:Array Oper}{i₀:Nat}{rest₀:List Nat}{k₀:List Item}
def PH(P:Program)(fr₁:Frame)(cs₁:List Frame)(fr:Frame)(cs:List Frame):Prop:=
 ∀(S:Shared) (Post:Frame->List Frame->Heap->Prop) (h:Heap),Safe P S Post fr₁ cs₁ h->Safe P S Post fr cs h
section
variable {S:Shared}{Post:Frame -> List Frame -> Heap -> Prop}{h:Heap}{b:Frame}{a:Act}{k:List Item}
theorem FQ{rest:List Nat}(v:Value)(ho:ops[i]? = some o)(hw:Region.wanted o (yielded ops a.tmps)=true)(hk:b.kind ≠ .early)
  (hr:∀w,(execOp a.eval o).run P w=.ok (.value v) w)(he:∀w,(execOp a.eval o).events P w #[]=#[])
  (K:Safe P S Post (b.at (a.put o.dst v) (.inRegion ops rest::k)) cs h):Safe P S Post (b.at a (.inRegion ops (i::rest)::k)) cs h:=
 .ym (fun w m=>by show stepG P m (G _ _) w=_;rw[stepG_value ho hw hk (hr w)];unfold listed;rw[he w,seen_none];rfl) K
theorem QB{rest:List Nat}(ho:ops[i]? = some o)(hw:Region.wanted o (yielded ops a.tmps)=false)
  (K:Safe P S Post (b.at (a.put o.dst undef) (.inRegion ops rest::k)) cs h):Safe P S Post (b.at a (.inRegion ops (i::rest)::k)) cs h:=
 .ym (fun _ _=>stepG_unwanted ho hw) K
theorem Nn{fn:Func}{b₀:Frame}{a₀:Act}{rest:List Nat}{todo:List Item}(hn:b.kind=.normal)(hd:a.defers=[])(hf:P.funcs[b.fn]? = some fn)(hr:fn.results=#[])
  (K:Safe P S Post (b₀.at (a₀.put ((ops[i]?).bind (·.dst)) (.tuple #[])) (.inRegion ops rest::k)) cs h):Safe P S Post { b.at a todo with mode:=.returning } (b₀.at a₀ (.inRegion ops (i::rest)::k)::cs) h:=
 .ym (fun w m=>by show stepG P m (G _ _) w=_;rw[stepG_leave hn hd hf (results_none hr _ P w) (events_results_none hr _ _),Frame.finish_at];rfl) K
end
def S4(L:WgLink)(Wg:Nat)(c:Frame)(cs:List Frame)(g:Goroutine):Prop:=
 ∃T:Array Value,g=G ((base L.wait).at ⟨T,[]⟩ [.code (L7 L),.inLoop (L7 L),.inBlock 0]) (c::cs)/\T.size=84/\T[0]? = some (.pointer (some ⟨Wg,0,none⟩))
theorem UG(H:WgLib P L)(hCW:Φ.C≠Φ.Wg)(g:Goroutine)(h:S4 L Φ.Wg (b₀.at a₀ (.inRegion ops₀ (i₀::rest₀)::k₀)) cs g)(w:World)(hK:Φ.J w) :
  Goes P true (fun _ w₁=>Φ.J w₁) DC0 (AtW1 P Φ (PH P (b₀.at (a₀.put ((ops₀[i₀]?).bind (·.dst)) (.tuple #[])) (.inRegion ops₀ rest₀::k₀)) cs) (S4 L Φ.Wg (b₀.at a₀ (.inRegion ops₀ (i₀::rest₀)::k₀)) cs)) 100 g w:=by
 lib_facts
 obtain⟨T,rfl,hT84,t0⟩:=h;obtain⟨v0,v1,v2,v3,v4,v5,v6,v7,v8,v9,v10,v11,v12,v13,v14,v15,v16,v17,v18,v19,v20,v21,v22,v23,v24,v25,v26,v27,v28,v29,v30,v31,v32,v33,v34,v35,v36,v37,v38,v39,v40,v41,v42,v43,v44,v45,v46,v47,v48,v49,v50,v51,v52,v53,v54,v55,v56,v57,v58,v59,v60,v61,v62,v63,v64,v65,v66,v67,v68,v69,v70,v71,v72,v73,v74,v75,v76,v77,v78,v79,v80,v81,v82,v83,rfl⟩:=array84 T hT84;simp only[pE,vC,uY]at t0;subst t0;simp only[L7,body_wait,waitFn,pG];u_c stepG_block jl hK;u_c stepG_seq jl hK;u_reg jl hK;iterate 3 u_op jl hK
 u_call H.f_uLoad (nm_uLoad L) uLoadFn jl hK;u_c stepG_seq jl hK;u_reg jl hK;u_op jl hK;u_c stepG_region_end jl hK;u_c stepG_seq jl hK;u_reg jl hK;iterate 3 u_op jl hK
 refine Goes.stop (fun w₁ h₁=>?_);replace hK:=jl hK h₁;clear h₁;refine⟨rfl,fun v hv hw=>?_⟩;rcases Nat.eq_zero_or_pos v with rfl | hvp
 ·replace hw:WgAt Φ.ty Φ.Wg w₁ 0 0:=by simpa using hw
  refine⟨_,stepG_load_atomic (v:=0) rfl rfl (by k_ne) rfl H.f_loadU64 (x_loadU64_n L) (x_loadU64_b L) (x_loadU64_x L) .u64 (x_loadU64_f L) rfl hw.cellSt,fun _=>⟨100,Sil.of (w:=w₁) ?_⟩,fun h=>absurd rfl h⟩;clear hw;walk_nrm;u_op jl hK;u_c stepG_region_end jl hK;u_c stepG_ret' jl hK;u_leave1 H.f_uLoad jl hK;u_op jl hK;u_c stepG_region_end jl hK;u_c stepG_seq jl hK;u_reg jl hK;iterate 4 u_op jl hK
  u_c stepG_region_end jl hK;u_c stepG_seq jl hK;u_reg jl hK;iterate 4 u_op jl hK
  u_c stepG_region_end jl hK;iterate 2 u_c stepG_seq jl hK
  u_reg jl hK;iterate 2 u_op jl hK
  u_c stepG_region_end jl hK;u_cond true jl hK;u_c stepG_seq jl hK;u_cond true jl hK;u_c stepG_seq jl hK;u_reg jl hK;refine Goes.stop (fun w₁ h₁=>?_);replace hK:=jl hK h₁;clear h₁;refine⟨rfl,_,stepG_mark0 .enable (by simp) rfl rfl (by k_ne) rfl H.f_enable (x_enable_n L) (x_enable_b L) (x_enable_x L) (x_enable_f L),100,Sil.of (w:=w₁) ?_⟩;walk_nrm;u_c stepG_region_end jl hK;u_reg jl hK;u_op jl hK;u_conv H.underlying_tWgP H.room_tWg (J.cell0 hK).choose_spec jl hK;refine Goes.stop (fun w₁ h₁=>?_);replace hK:=jl hK h₁;clear h₁;refine⟨rfl,_,_,stepG_markAt .acquire (by simp) rfl rfl (by k_ne) rfl H.f_acquire (x_acquire_n L) (x_acquire_b L) (x_acquire_x L) (x_acquire_f L) (by simp[Act.eval,stA]),fun S Post hh K=>?_⟩;clear hK;walk_nrm;refine Safe.ym (fun _ _=>stepG_region_end) ?_;refine Safe.ym (fun _ _=>stepG_seq) ?_;refine Safe.ym (fun _ _=>stepG_seq) ?_
  (refine Safe.ym (fun _ _=>stepG_region) ?_;simp only[gB,uC,uG,Nat.reduceAdd,uD,List.range,List.range.loop])
  iterate 8 (apply FQ;(case ho=>rfl);(case hw=>rfl);(case hk=>k_ne);(case hr=>intro w;go_simp;(try simp only[q3,q4,q5,q6,a1,b1,b2,c1,c3,c4]);first | rfl | (w_num;rfl));(case he=>intro w;simp[go_sem, *]);walk_nrm)
  iterate 2 (refine QB rfl rfl ?_;walk_nrm)
  (apply FQ;(case ho=>rfl);(case hw=>rfl);(case hk=>k_ne);(case hr=>intro w;go_simp;(try simp only[q3,q4,q5,q6,a1,b1,b2,c1,c3,c4]);first | rfl | (w_num;rfl));(case he=>intro w;simp[go_sem, *]);walk_nrm)
  refine Safe.ym (fun _ _=>stepG_region_end) ?_
  (refine Safe.ym (fun _ _=>stepG_cond (t:=false) rfl) ?_;simp only[vK,↓reduceIte])
  refine Safe.ym (fun _ _=>stepG_skip) ?_;refine Safe.ym (fun _ _=>stepG_ret') ?_;refine Nn rfl rfl H.f_wait rfl ?_;exact K
 ·obtain⟨S,hS⟩:∃S:Int,(v:Int)*KK=S:=⟨_,rfl⟩;have a1:S/4294967296=(v:Int):=by rw[<-hS];simp only[KK];omega
  have b1:bits .and .u64 S 2147483648=0:=by rw[<-hS];have:=st_flag v 0 (by omega) (by omega);simpa[KK]using this
  have b2:bits .and .u64 S 2147483647=0:=by rw[<-hS];have:=st_waiters v 0 (by omega) (by omega);simpa[KK]using this
  have c1:IntKind.i32.wrap (v:Int)=(v:Int):=by rw[IntKind.wrap_i32];omega
  have w1:IntKind.u64.wrap (S+1)=S+1:=by rw[IntKind.wrap_u64,<-hS];simp only[KK];omega
  have q3:decide ((v:Int)<0)=false:=mR (by omega);have q4:decide (0<(v:Int))=true:=nU (by omega);have q5:((v:Int)==0)=false:=by simp;omega
  have q6:decide ((v:Int)=0)=false:=mR (by omega);rw[hS]at hw;refine⟨_,stepG_load_atomic (v:=S) rfl rfl (by k_ne) rfl H.f_loadU64 (x_loadU64_n L) (x_loadU64_b L) (x_loadU64_x L) .u64 (x_loadU64_f L) rfl hw.cellSt,fun h0=>absurd h0 (by omega),fun _=>⟨200,Sil.of (w:=w₁) ?_⟩⟩;clear hw;walk_nrm;u_op jl hK;u_c stepG_region_end jl hK;u_c stepG_ret' jl hK;u_leave1 H.f_uLoad jl hK;u_op jl hK;u_c stepG_region_end jl hK;u_c stepG_seq jl hK;u_reg jl hK;iterate 4 u_op jl hK
  u_c stepG_region_end jl hK;u_c stepG_seq jl hK;u_reg jl hK;iterate 4 u_op jl hK
  u_c stepG_region_end jl hK;iterate 2 u_c stepG_seq jl hK
  u_reg jl hK;iterate 2 u_op jl hK
  u_c stepG_region_end jl hK;u_cnd false jl hK;u_c stepG_skip jl hK;u_c stepG_seq jl hK;u_reg jl hK;iterate 6 u_op jl hK
  u_call H.f_uCas (nm_uCas L) uCasFn jl hK;u_c stepG_seq jl hK;u_reg jl hK;u_op jl hK;u_c stepG_region_end jl hK;u_c stepG_seq jl hK;u_reg jl hK;iterate 5 u_op jl hK
  refine Goes.stop (fun w₁ h₁=>?_);replace hK:=jl hK h₁;clear h₁;refine⟨rfl,fun v' hv' hw=>⟨fun e=>?_,fun e=>?_⟩⟩
  ·subst e;rw[hS]at hw ⊢;refine⟨_,(stepG_cas_hit (v:=S) (n:=S+1) rfl rfl (by k_ne) rfl H.f_casU64 (x_casU64_n L) (x_casU64_b L) (x_casU64_x L) .u64 (x_casU64_f L) rfl rfl rfl hw.cellSt (hw.thaw 0)).trans (by rfl),200,Sil.of (w:=w₁.setCell (stA Φ.Wg) (.int .u64 (S+1))) ?_⟩;replace hK:=J.setSt hCW hK hw (S+1);generalize w₁.setCell (stA Φ.Wg) (.int .u64 (S+1))=w₂ at hK;clear hw;walk_nrm;u_op jl hK;u_c stepG_region_end jl hK;u_c stepG_ret' jl hK;u_leave1 H.f_uCas jl hK;u_c stepG_region_end jl hK;u_cond true jl hK;iterate 2 u_c stepG_seq jl hK
   u_reg jl hK;iterate 4 u_op jl hK
   u_c stepG_region_end jl hK;u_cond true jl hK;u_reg jl hK;iterate 3 u_op jl hK
   u_conv H.underlying_tPU32 H.room_tU32 (J.cell1 hK).choose_spec jl hK;refine Goes.stop (fun w₁ h₁=>?_);replace hK:=jl hK h₁;clear h₁;refine⟨rfl,_,stepG_markAt .write (by simp) rfl rfl (by k_ne) rfl H.f_raceWrite (x_raceWrite_n L) (x_raceWrite_b L) (x_raceWrite_x L) (x_raceWrite_f L) (ad:=⟨Φ.Wg,1,none⟩) (by simp[Act.eval]),200,Sil.of (w:=w₁) ?_⟩;walk_nrm;u_c stepG_region_end jl hK;u_c stepG_seq jl hK;u_reg jl hK;u_op jl hK;u_c stepG_region_end jl hK;iterate 2 u_c stepG_seq jl hK
   u_reg jl hK;iterate 4 u_op jl hK
   u_skip jl hK;u_op jl hK;u_c stepG_region_end jl hK;u_cond false jl hK;u_c stepG_skip jl hK;u_c stepG_seq jl hK;u_reg jl hK;iterate 4 u_op jl hK
   refine Goes.stop (fun w₁ h₁=>?_);replace hK:=jl hK h₁;clear h₁;refine⟨rfl,rfl,fun⟨st,hw⟩=>stepG_semacquire_wait rfl rfl rfl H.f_semacquire (x_semacquire_n L) (x_semacquire_b L) (x_semacquire_x L) (x_semacquire_f L) (by simp[Act.eval,smA]) hw.cellSm,fun hf=>?_⟩;refine⟨_,(stepG_semacquire (n:=1) rfl rfl (by k_ne) rfl H.f_semacquire (x_semacquire_n L) (x_semacquire_b L) (x_semacquire_x L) (x_semacquire_f L) (by simp[Act.eval,smA]) hf.cellSm (by k_ne) (hf.thaw 1)).trans (by rfl),200,Sil.of (w:=w₁.setCell (smA Φ.Wg) (.int .u32 0)) ?_⟩;replace hK:=J.setSm hCW hK hf 0;generalize w₁.setCell (smA Φ.Wg) (.int .u32 0)=w₂ at hK;clear hf;walk_nrm;u_c stepG_region_end jl hK;u_c stepG_seq jl hK;u_reg jl hK;iterate 3 u_op jl hK
   u_call H.f_uLoad (nm_uLoad L) uLoadFn jl hK;u_c stepG_seq jl hK;u_reg jl hK;u_op jl hK;u_c stepG_region_end jl hK;u_c stepG_seq jl hK;u_reg jl hK;iterate 3 u_op jl hK
   refine Goes.stop (fun w₁ h₁=>?_);replace hK:=jl hK h₁;clear h₁;refine⟨rfl,fun hw=>⟨_,stepG_load_atomic (v:=0) rfl rfl (by k_ne) rfl H.f_loadU64 (x_loadU64_n L) (x_loadU64_b L) (x_loadU64_x L) .u64 (x_loadU64_f L) rfl hw.cellSt,200,Sil.of (w:=w₁) ?_⟩⟩;clear hw;walk_nrm;u_op jl hK;u_c stepG_region_end jl hK;u_c stepG_ret' jl hK;u_leave1 H.f_uLoad jl hK;iterate 2 u_op jl hK
   u_c stepG_region_end jl hK;u_c stepG_seq jl hK;u_cond true jl hK;u_c stepG_seq jl hK;u_reg jl hK;refine Goes.stop (fun w₁ h₁=>?_);replace hK:=jl hK h₁;clear h₁;refine⟨rfl,_,stepG_mark0 .enable (by simp) rfl rfl (by k_ne) rfl H.f_enable (x_enable_n L) (x_enable_b L) (x_enable_x L) (x_enable_f L),100,Sil.of (w:=w₁) ?_⟩;walk_nrm;u_c stepG_region_end jl hK;u_reg jl hK;u_op jl hK;u_conv H.underlying_tWgP H.room_tWg (J.cell0 hK).choose_spec jl hK;refine Goes.stop (fun w₁ h₁=>?_);replace hK:=jl hK h₁;clear h₁;refine⟨rfl,_,_,stepG_markAt .acquire (by simp) rfl rfl (by k_ne) rfl H.f_acquire (x_acquire_n L) (x_acquire_b L) (x_acquire_x L) (x_acquire_f L) (by simp[Act.eval,stA]),fun S Post hh K=>?_⟩;clear hK;walk_nrm;refine Safe.ym (fun _ _=>stepG_region_end) ?_;refine Safe.ym (fun _ _=>stepG_seq) ?_;refine Safe.ym (fun _ _=>stepG_seq) ?_
   (refine Safe.ym (fun _ _=>stepG_region) ?_;simp only[gB,uC,uG,uD,List.range,List.range.loop])
   (apply FQ;(case ho=>rfl);(case hw=>rfl);(case hk=>k_ne);(case hr=>intro w;go_simp;(try simp only[q3,q4,q5,q6,a1,b1,b2,c1,c3,c4]);first | rfl | (w_num;rfl));(case he=>intro w;simp[go_sem, *]);walk_nrm)
   refine Safe.ym (fun _ _=>stepG_region_end) ?_
   (refine Safe.ym (fun _ _=>stepG_cond (t:=false) rfl) ?_;simp only[vK,↓reduceIte])
   refine Safe.ym (fun _ _=>stepG_skip) ?_;refine Safe.ym (fun _ _=>stepG_ret') ?_;refine Nn rfl rfl H.f_wait rfl ?_;exact K
  ·refine⟨_,stepG_cas_miss (v:=(v':Int)*KK) (old:=S) (n:=S+1) rfl rfl (by k_ne) rfl H.f_casU64 (x_casU64_n L) (x_casU64_b L) (x_casU64_x L) .u64 (x_casU64_f L) rfl rfl rfl hw.cellSt (hw.thaw 0) (by rw[<-hS];simp only[KK];omega),100,Sil.of (w:=w₁) ?_⟩;clear hw;walk_nrm;u_op jl hK;u_c stepG_region_end jl hK;u_c stepG_ret' jl hK;u_leave1 H.f_uCas jl hK;u_c stepG_region_end jl hK;u_cond false jl hK;u_c stepG_skip jl hK;u_c stepG_inBlock jl hK;u_c stepG_inLoop jl hK;exact Goes.stop fun _ _=>⟨_,rfl,by simp,by simp⟩
theorem Wt(H:WgLib P L)(hCW:Φ.C≠Φ.Wg)(w:World)(hK:Φ.J w) :
  kV P Φ (PH P (b₀.at (a₀.put ((ops₀[i₀]?).bind (·.dst)) (.tuple #[])) (.inRegion ops₀ rest₀::k₀)) cs)
   ((base L.wait).at ⟨#[.pointer (some ⟨Φ.Wg,0,none⟩),undef,undef,undef,undef,undef,undef,undef,undef,undef,undef,undef,undef,undef,undef,undef,undef,undef,undef,undef,undef,undef,undef,undef,undef,undef,undef,undef,undef,undef,undef,undef,undef,undef,undef,undef,undef,undef,undef,undef,undef,undef,undef,undef,undef,undef,undef,undef,undef,undef,undef,undef,undef,undef,undef,undef,undef,undef,undef,undef,undef,undef,undef,undef,undef,undef,undef,undef,undef,undef,undef,undef,undef,undef,undef,undef,undef,undef,undef,undef,undef,undef,undef,undef],[]⟩ [.code (body_wait L)]) (b₀.at a₀ (.inRegion ops₀ (i₀::rest₀)::k₀)::cs):=by
 refine⟨S4 L Φ.Wg (b₀.at a₀ (.inRegion ops₀ (i₀::rest₀)::k₀)) cs,fun g hg=>⟨100,Sil.of (UG H hCW g hg w hK)⟩,100,Sil.of (w:=w) ?_⟩
 lib_facts
 simp only[Z1];simp only[body_wait,waitFn,pG];u_c stepG_seq jl hK;u_cond true jl hK;u_reg jl hK;refine Goes.stop (fun w₁ h₁=>?_);replace hK:=jl hK h₁;clear h₁;refine⟨rfl,_,stepG_mark0 .disable (by simp) rfl rfl (by k_ne) rfl H.f_disable (x_disable_n L) (x_disable_b L) (x_disable_x L) (x_disable_f L),3,Sil.of (w:=w₁) ?_⟩;walk_nrm;u_c stepG_region_end jl hK;u_c stepG_block jl hK;u_c stepG_loop jl hK;exact Goes.stop (fun w₂ h₂=>⟨_,rfl,by simp,by simp⟩)
end
end Go.Eng
namespace Go.Eng
open Go
variable {z:Nat}
section
variable {P:Program}{S:Shared}{ops:Array Oper}{Q:Act -> Heap -> Heap -> Prop}
theorem Wu{Post:Frame->List Frame->Heap->Prop}{b:Frame}{k:List Item}{cs:List Frame}(hp:Up S Post)(r:List Nat) :
  ∀(l:List Nat) (a:Act) (L h:Heap),Ok S h L->qM P S ops Q l a L h->(∀a' L' h',Ok S h' L'->Q a' L' h'->Safe P S Post (b.at a' (.inRegion ops r::k)) cs (plus h' L')) ->
   Safe P S Post (b.at a (.inRegion ops (l++r)::k)) cs (plus h L):=by
 intro l;induction l with
 | nil=>intro a L h ha H K;exact K a L h ha H
 | cons i rest ih=>
  intro a L h ha H K;simp only[qM,kY]at H;cases ho:ops[i]? with
  | none=>
   simp only[ho]at H;refine .J7 (by simp[ho]) ?_;simp only[ho,Option.bind_none,Act.put];exact ih a L h ha H K
  | some o=>
   simp only[ho]at H;by_cases hw:Region.wanted o (yielded ops a.tmps)=true
   ·simp only[hw,uL]at H;cases H with
    | step H=>exact .op ho hw fun w hh=>kX _ (H w hh) fun n w' ⟨v,L',h',h1,h2,h3,_,_,h5⟩=>⟨v,plus h' L',h1,h3,ih _ L' h' h2 h5 K⟩
    | call f args R hx hc H=>exact .SM hp ho hw hx hc ha.apart fun v h' hr hi hap=>ih _ L h' ⟨hap,hi⟩ (H v h' hr ⟨hap,hi⟩).2 K
   ·simp only[hw,vV,vK]at H;refine .J7 (by simp[ho];simpa using hw) ?_;simp only[ho,mA];exact ih _ L h ha H K
theorem put_defers(a:Act)(d:Option Tmp)(v:Value):(a.put d v).defers=a.defers:=by cases d <;> rfl
theorem QC:∀(l:List Nat) (a:Act) (L h:Heap),qM P S ops Q l a L h->qM P S ops (fun a' L' h'=>a'.defers=a.defers/\Q a' L' h') l a L h:=by
 have mono:∀(l:List Nat) (a:Act) (L h:Heap) {Q Q':Act->Heap->Heap->Prop},(∀a L h,Q a L h->Q' a L h)->qM P S ops Q l a L h->qM P S ops Q' l a L h:=by
  intro l;induction l with
  | nil=>intro a L h Q Q' hk H;exact hk _ _ _ H
  | cons i rest ih=>
   intro a L h Q Q' hk H;simp only[qM,kY]at H ⊢;cases ho:ops[i]? with
   | none=>simp only[ho]at H ⊢;exact ih _ _ _ hk H
   | some o=>
    simp only[ho]at H ⊢;by_cases hw:Region.wanted o (yielded ops a.tmps)=true
    ·simp only[hw,uL]at H ⊢;exact H.mono fun v L' h' _ _ ⟨h1,h2⟩=>⟨h1,ih _ _ _ hk h2⟩
    ·simp only[hw,vV,vK]at H ⊢;exact ih _ _ _ hk H
 intro l;induction l with
 | nil=>intro a L h H;exact⟨rfl,H⟩
 | cons i rest ih=>
  intro a L h H;simp only[qM,kY]at H ⊢;cases ho:ops[i]? with
  | none=>simp only[ho]at H ⊢;exact ih _ _ _ H
  | some o=>
   simp only[ho]at H ⊢;by_cases hw:Region.wanted o (yielded ops a.tmps)=true
   ·simp only[hw,uL]at H ⊢;exact H.mono fun v L' h' _ _ ⟨h1,h2⟩=>⟨h1,mono _ _ _ _ (fun a' L' h' ⟨e,hq⟩=>⟨e.trans (put_defers ..),hq⟩) (ih _ _ _ h2)⟩
   ·simp only[hw,vV,vK]at H ⊢;exact mono _ _ _ _ (fun a' L' h' ⟨e,hq⟩=>⟨e.trans (put_defers ..),hq⟩) (ih _ _ _ H)
theorem S5(hn:ops.size=z+1)(h3:∀i o,ops[i]? = some o->∀e∈o.after,Region.binds .any e=true->e.on<i)
  (h2:∀o,ops[z]? = some o->∀i<z,∃e∈o.after,Region.binds .any e=true/\e.on=i){listed:Array Bool}(hs:listed.size=z+1)(hz:listed.getD z true=false)
  (hu:∃i<z,listed.getD i true=false):Region.ready .any ops listed=Region.ready .any ops (listed.setIfInBounds z true)/\Region.ready .any ops listed ≠ []:=by
 have gd:∀i:Nat,i≠z->∀d,(listed.setIfInBounds z true).getD i d=listed.getD i d:=fun i hi d=>by
  simp only[pD,pX (pN hi)]
 have gz:∀d,(listed.setIfInBounds z true).getD z d=true:=fun d=>by
  simp[pD,hs]
 have dd:∀i<z,listed.getD i true=listed.getD i false:=fun i hi=>by
  simp[pD,nI (show i<listed.size by omega)]
 constructor
 ·unfold Region.ready;refine List.filter_congr fun i hi=>?_
  rw[nG,hn]at hi;by_cases e:i=z
  ·subst e;rw[gz,hz];obtain⟨j,hj,hju⟩:=hu;cases ho:ops[i]? with
   | none=>simp
   | some o=>
    obtain⟨ed,he,hb,hon⟩:=h2 o ho j hj;have:(o.after.all fun e => !Region.binds .any e||listed.getD e.on false)=false:=by
     rw[Bool.eq_false_iff];intro hall;have h4:=hZ.1 hall ed he;rw[hb,hon,<-dd j hj,hju]at h4;cases h4
    simp only[pH,pG,this,Bool.not_true,Bool.false_and,Bool.and_false]
  ·rw[gd i e];congr 1;cases ho:ops[i]? with
   | none=>simp
   | some o=>
    simp only[pH,pG];rw[Bool.eq_iff_iff,hZ,hZ];refine forall_congr' fun ed=>forall_congr' fun hed=>?_
    cases hb:Region.binds .any ed with
    | false=>simp
    | true=>
     have:=h3 i o ho ed hed hb;rw[gd ed.on (by omega)]
 ·intro hnil;have all:∀n i,i<n->i<z->listed.getD i true=true:=by
   intro n;induction n with
   | zero=>intro i h;omega
   | succ n ih=>
    intro i hin hiz;cases hl:listed.getD i true with
    | true=>rfl
    | false=>
     have hi:i<ops.size:=by omega
     have:i∈Region.ready .any ops listed:=mem_ready.2 ⟨hl,ops[i],nI hi,fun ed hed hb=>by
      have h5:=h3 i _ (nI hi) ed hed hb
      rw[<-dd ed.on (by omega)]
      exact ih ed.on (by omega) (by omega)⟩
     rw[hnil]at this;cases this
  obtain⟨j,hj,hju⟩:=hu;rw[all (j+1) j (by omega) hj]at hju;cases hju
theorem Mr(hn:ops.size=z+1)(h3:∀i o,ops[i]? = some o->∀e∈o.after,Region.binds .any e=true->e.on<i)
  (h2:∀o,ops[z]? = some o->∀i<z,∃e∈o.after,Region.binds .any e=true/\e.on=i):∀(fuel t:Nat) (listed:Array Bool),listed.size=z+1->listed.getD z true=false ->
   ((List.range z).filter fun i => !listed.getD i true).length=fuel ->
   ∃t',Region.linearise.go .any ops (fuel+1) t listed []=Region.linearise.go .any ops fuel t (listed.setIfInBounds z true) []++[z]/\t'=t:=by
 intro fuel;induction fuel with
 | zero=>
  intro t listed hs hz hc;refine⟨t,?_,rfl⟩;have hall:∀i<z,listed.getD i true=true:=fun i hi=>by
   cases h:listed.getD i true with
   | true=>rfl
   | false=>
    have:i∈(List.range z).filter fun i => !listed.getD i true:=nJ.2 ⟨nG.2 hi,by simp[h]⟩
    rw[List.length_eq_zero_iff.1 hc]at this;cases this
  have hr:Region.ready .any ops listed=[z]:=by
   unfold Region.ready;rw[hn,gJ,List.filter_append];have e1:(List.range z).filter (fun i => !listed.getD i true&&((ops[i]?).map (·.after.all fun e => !Region.binds .any e||listed.getD e.on false)).getD false)=[]:=by
    rw[List.filter_eq_nil_iff];intro i hi;rw[hall i (nG.1 hi)];simp
   rw[e1,vH];have hzl:z<ops.size:=by omega
   have e2:((ops[z]?).map (·.after.all fun e => !Region.binds .any e||listed.getD e.on false)).getD false=true:=by
    rw[nI hzl];simp only[pH,pG];rw[hZ];intro ed hed;cases hb:Region.binds .any ed with
    | false=>simp
    | true=>
     have h5:=h3 z _ (nI hzl) ed hed hb;have h6:=hall ed.on h5;simp[pD,nI (show ed.on<listed.size by omega)]at h6 ⊢;exact h6
   exact List.filter_eq_self.2 fun i hi=>by cases uF.1 hi;rw[hz,e2];rfl
  simp only[Region.linearise.go];change (match(Region.ready .any ops listed)[t%(Region.ready .any ops listed).length]? with
   | some i=>Region.linearise.go .any ops 0 (t/(Region.ready .any ops listed).length) (listed.setIfInBounds i true) [i]
   | none=>[].reverse)=_
  rw[hr];simp[gN,Region.linearise.go]
 | succ fuel ih=>
  intro t listed hs hz hc;refine⟨t,?_,rfl⟩;have hu:∃i<z,listed.getD i true=false:=by
   cases hl:(List.range z).filter fun i => !listed.getD i true with
   | nil=>rw[hl]at hc;cases hc
   | cons i r=>
    have:i∈(List.range z).filter fun i => !listed.getD i true:=by rw[hl];exact List.mem_cons_self
    obtain⟨h4,h5⟩:=nJ.1 this;exact⟨i,nG.1 h4,by simpa using h5⟩
  obtain⟨he,hne⟩:=S5 hn h3 h2 hs hz hu;have A:∀(f t:Nat) (l:Array Bool),Region.linearise.go .any ops (f+1) t l []=(match(Region.ready .any ops l)[t%(Region.ready .any ops l).length]? with
   | some i=>Region.linearise.go .any ops f (t/(Region.ready .any ops l).length) (l.setIfInBounds i true) [i]
   | none=>[]):=fun f t l=>by simp only[Region.linearise.go];rfl
  rw[A,A,<-he];have hlt:t%(Region.ready .any ops listed).length<(Region.ready .any ops listed).length:=gF _ (by
   cases hr:Region.ready .any ops listed with
   | nil=>exact absurd hr hne
   | cons x xs=>simp)
  rw[vO hlt];simp only[];have hmem:=uX hlt;generalize (Region.ready .any ops listed)[t%(Region.ready .any ops listed).length]=i at hmem;have hi1:=(mem_ready.1 hmem).1;have hiz:i≠z:=fun e=>by
   subst e;rw[he]at hmem;have:=(mem_ready.1 hmem).1;simp[pD,hs]at this
  have hilt:i<z:=by
   rcases nS i listed.size with h | h
   ·omega
   ·simp[pD,mX h]at hi1
  rw[linearise_go_acc,linearise_go_acc _ _ _ _ _ [i]];have gi:∀j:Nat,(listed.setIfInBounds i true).getD j true=(if j=i then true else listed.getD j true):=fun j=>by
   by_cases e:j=i
   ·subst e;simp only[uL,pD,Array.getElem?_setIfInBounds];split <;> simp
   ·simp only[vM e,pD,pX (pN e)]
  obtain⟨_,h6,_⟩:=ih (t/(Region.ready .any ops listed).length) (listed.setIfInBounds i true) (by simp[hs]) (by rw[gi,vM (pN hiz)];exact hz) (by
   have key:∀l:List Nat,l.Nodup->i∈l->(l.filter fun j => !(listed.setIfInBounds i true).getD j true).length+1=(l.filter fun j => !listed.getD j true).length:=by
    intro l
    induction l with
    | nil=>intro _ h;cases h
    | cons x xs ihl=>
     intro hnd hm
     obtain⟨hx,hnd⟩:=nY.1 hnd
     rw[List.filter_cons,List.filter_cons]
     rcases uM.1 hm with rfl | hm
     ·have e5:(xs.filter fun j => !(listed.setIfInBounds i true).getD j true)=xs.filter fun j => !listed.getD j true:=
       List.filter_congr fun j hj=>by rw[gi,vM (fun e=>hx (by rw[<-e];exact hj))]
      rw[gi,vP rfl,hi1,e5];simp
     ·have hxi:x≠i:=fun e=>hx (by rw[e];exact hm)
      rw[gi,vM hxi]
      have:=ihl hnd hm
      cases listed.getD x true <;> simp only[Bool.not_true,Bool.not_false,vK,uC,↓reduceIte] <;> omega
   have:=key (List.range z) List.nodup_range (nG.2 hilt)
   omega)
  rw[h6,Array.setIfInBounds_comm _ _ hiz];simp
end
end Go.Eng
namespace Go.Eng
open Go
def PK(ops:Array Oper)(z:Nat):Bool:=
 ops.size==z+1&&((List.range (z+1)).all fun i=>match ops[i]? with | some o=>o.after.all (fun e => !Region.binds .any e||decide (e.on<i)) | none=>true) &&
  (match ops[z]? with | some o=>(List.range z).all fun i=>o.after.any fun e=>Region.binds .any e&&e.on==i | none=>true)
theorem linearise_last'{ops:Array Oper}{z:Nat}(h:PK ops z=true)(t:Nat) :
  Region.linearise.go .any ops (z+1) t (Array.replicate (z+1) false) []=Region.linearise.go .any ops z t ((Array.replicate (z+1) false).setIfInBounds z true) []++[z]:=by
 unfold PK at h;simp only[uE,uK]at h;obtain⟨⟨h1,h2⟩,h3⟩:=h;refine(Mr h1 (fun i o ho e he hb=>?_) (fun o ho i hi=>?_) z t _ (by simp) (by simp[pD]) ?_).choose_spec.1
 ·have hlt:i<z+1:=by
   rcases nS i ops.size with h | h
   ·omega
   ·rw[mX h]at ho;cases ho
  have h4:=pJ.1 h2 i (nG.2 hlt);rw[ho]at h4;have h5:=hZ.1 h4 e he;rw[hb]at h5;simpa using h5
 ·rw[ho]at h3;have h4:=pJ.1 h3 i (nG.2 hi);obtain⟨e,he,h5⟩:=Array.any_eq_true'.1 h4;simp only[uE,uK]at h5;exact⟨e,he,h5.1,h5.2⟩
 ·have:(List.range z).filter (fun i => !(Array.replicate (z+1) false).getD i true)=List.range z:=List.filter_eq_self.2 fun i hi=>by
   have:=nG.1 hi;simp[pD,show i<z+1 by omega]
  rw[this,List.length_range]
end Go.Eng
namespace Go.Eng
open Go
def Ms(l:List (Option (Sh×Nat))):List GV:=l.map fun | some (s,j)=>⟨[],.x (.var s j)⟩ | none=>⟨[],.junk⟩
variable {env:List Value}
theorem Wv{nums:List Nat}{s:Sh}{j:Nat}{u:Value}(h:env[j]? = some u)(hc:coerce s u=u):Good env nums (.var s j) u:=fun xs ys=>by
 have hlt:j<env.length:=(vS.1 h).1;simp only[Ex.ev,pI,vZ hlt,h,pG,hc]
theorem Rel.init{l:List (Option (Sh×Nat))}{a:Act}{n d:Nat}{dv:Bool}(hn:n=env.length)(hl:l.length=a.tmps.size)(hd:dv=false->a.defers=[])
  (hv:∀(i:Nat) s j,l[i]? = some (some (s,j))->∃u,env[j]? = some u/\a.tmps.getD i undef=u/\coerce s u=u) :
  Rel { tmps:=Ms l,loc:=[],n:=n,known:=[],d:=d,dv:=dv } env [] a (fun _=>none):=by
 have key:∀(i:Nat) gv,(Ms l)[i]? = some gv->gv=⟨[],.junk⟩\/∃s j,l[i]? = some (some (s,j))/\gv=⟨[],.x (.var s j)⟩:=by
  intro i gv h;unfold Ms at h;rw[uT]at h;obtain⟨x,h1,rfl⟩:=vT.1 h;cases x with
  | none=>exact .inl rfl
  | some p=>exact .inr ⟨p.1,p.2,h1,rfl⟩
 refine⟨hn,rfl,by simp[Ms,hl],hd,?_,?_,?_,by simp,by simp,by simp⟩
 ·intro i g v h e he;rcases key i _ h with h | ⟨s,j,_,h⟩ <;> cases h <;> cases he
 ·intro i g v h _;rcases key i _ h with h | ⟨s,j,h1,h⟩
  ·cases h;trivial
  ·cases h
   obtain⟨u,h2,h3,h4⟩:=hv i s j h1;rw[h3];exact Wv h2 h4
 ·rintro i g v h ⟨e,he,_⟩;rcases key i _ h with h | ⟨s,j,_,h⟩ <;> cases h <;> cases he
end Go.Eng
namespace Go.Eng
open Go
def sxs(cfg:Cfg):List Code->St->Option Tr
 | [],st=>some (.leaf (.norm st))
 | r::rs,st=>match r with
  | .region _ ops draw=>(match sxR cfg ops draw st with | some t=>JE t (sxs cfg rs) | none=>none)
  | _=>none
def nest:List Code->Code->Code
 | [],c=>c
 | r::rs,c=>.seq r (nest rs c)
variable {n:Nat}{is:List Nat}{a:Act}{ps:List (Nat×Sh)}{env:List Value}{t:Tr}{h:Heap}{P:Program}{cs:List Frame}
section
variable {S:Shared}{cfg:Cfg}{Λ:Hand}{Q:Value -> Heap -> Prop}{Ks:List Kt}{Post:Frame -> List Frame -> Heap -> Prop}{b:Frame}{k:List Item}{c:Code}
theorem Z5(hT:zJ P cfg.tab)(hm:P.follows .mixedOrders=true)(hp:Up S Post)(hΛ:Λ.Er):∀(rs:List Code) (st:St) (t:Tr) (env:List Value) (nums:List Nat) (a:Act) (L h:Heap),
  sxs cfg rs st=some t->t.wp P S Λ Q env h Ks->Rel st env nums a L->Ok S h L ->
  (∀st' vs ms a' L' h',Λ (.norm st') (env++vs) h' Ks->Rel st' (env++vs) (nums++ms) a' L'->Ok S h' L'->Safe P S Post (b.at a' (.code c::k)) cs (plus h' L')) ->
  Safe P S Post (b.at a (.code (nest rs c)::k)) cs (plus h L):=by
 intro rs;induction rs with
 | nil=>
  intro st t env nums a L h ht hw H ha hf;simp only[sxs]at ht;cases ht
  exact hf st [] [] a L h (by simpa[Tr.wp]using hw) (by simpa using H) ha
 | cons r rs ih=>
  intro st t env nums a L h ht hw H ha hf;simp only[sxs]at ht;split at ht
  ·rename_i id ops draw;split at ht
   ·rename_i t1 ht1;have hw1:=Tr.wp_bind hΛ t1 t ht env h Ks hw;refine .seq (GL hT hm hp ht1 hw1 H ha ?_);rintro st' vs ms a' L' h' ⟨u,hu,huw⟩ H' ha' _;refine ih st' u _ _ a' L' h' hu huw H' ha' fun st2 vs2 ms2 a2 L2 h2 h3 h4 h5=>?_
    rw[vX]at h3 h4;rw[vX]at h4;exact hf st2 _ _ a2 L2 h2 h3 h4 h5
   ·cases ht
  ·cases ht
def got(st:St)(env:List Value)(i:Nat):Value:=match st.tmps[i]? with | some ⟨[],.x e⟩=>e.ev env [] | _=>undef
def isX(st:St)(i:Nat):Bool:=match st.tmps[i]? with | some ⟨[],.x _⟩=>true | _=>false
def jV(n:Nat)(is:List Nat)(R:(Nat->Value)->Heap->Prop):Hand:=fun l env h _=>∃st,l=.norm st/\st.loc=[]/\st.dv=false/\st.tmps.length=n/\is.all (isX st)=true/\R (got st env) h
theorem jV.mono{R:(Nat->Value)->Heap->Prop}:(jV n is R).Er:=fun _ _ _ _ _ _ h=>h
def Reach(S:Shared)(b:Frame)(n:Nat)(k:List Item)(cs:List Frame)(is:List Nat)(R:(Nat->Value)->Heap->Prop)(fr:Frame)(cs':List Frame)(H:Heap):Prop:=
 cs'=cs/\∃a f h',fr=b.at a k/\a.tmps.size=n/\a.defers=[]/\(∀i∈is,a.tmps.getD i undef=f i)/\R f h'/\Sub h' H/\Inv S h'
theorem Reach.up{R:(Nat->Value)->Heap->Prop}:Up S (Reach S b n k cs is R):=
 fun _ _ _ _ ⟨h1,a,f,h',h2,h3,h4,h5,h6,h7,h8⟩ hs _=>⟨h1,a,f,h',h2,h3,h4,h5,h6,h7.trans hs,h8⟩
def lOf(n:Nat)(ps:List (Nat×Sh)):List (Option (Sh×Nat)):=(List.range n).map fun i=>(ps.zipIdx.find? fun p=>p.1.1==i).map fun p=>(p.1.2,p.2)
def EB(n:Nat)(ps:List (Nat×Sh)):St:={ tmps:=Ms (lOf n ps),loc:=[],n:=ps.length,known:=[],d:=0,dv:=false }
def wB(a:Act):List (Nat×Sh)->List Value->Prop
 | [],[]=>True
 | p::ps,u::us=>a.tmps.getD p.1 undef=u/\coerce p.2 u=u/\wB a ps us
 | _,_=>False
theorem wB.get:∀ {ps:List (Nat×Sh)} {us:List Value},wB a ps us->ps.length=us.length/\∀(j:Nat) (p:Nat×Sh),ps[j]? = some p->∃u,us[j]? = some u/\a.tmps.getD p.1 undef=u/\coerce p.2 u=u
 | [],[],_=>⟨rfl,fun j p h=>by simp at h⟩
 | p::ps,u::us,⟨h1,h2,h3⟩=>by
  obtain⟨e,ih⟩:=wB.get h3;refine⟨by simp[e],fun j q h=>?_⟩;cases j with
  | zero=>simp at h;subst h;exact⟨u,rfl,h1,h2⟩
  | succ j=>exact ih j q (by simpa using h)
 | [],_::_,h=>h.elim
 | _::_,[],h=>h.elim
theorem Rel.of(hs:wB a ps env)(hn:a.tmps.size=n)(hd:a.defers=[]):Rel (EB n ps) env [] a (fun _=>none):=by
 obtain⟨e,hg⟩:=hs.get;refine Rel.init e (by simp[lOf,hn]) (fun _=>hd) fun i s j h=>?_
 unfold lOf at h;rw[uT]at h;obtain⟨i',h1,h2⟩:=vT.1 h;have hii:i'=i:=by
  have:=(vS.1 h1).2;simpa using this.symm
 subst hii;obtain⟨⟨p,j'⟩,h3,h4⟩:=vT.1 h2;simp only[uZ]at h4;obtain⟨rfl,rfl⟩:=h4;have h5:=List.find?_some h3;have h6:=nD.1 (List.mem_of_find?_eq_some h3);simp only[uK]at h5 h6;obtain⟨u,k1,k2,k3⟩:=hg _ _ h6;exact⟨u,k1,by rw[<-h5];exact k2,k3⟩
theorem FR(hT:zJ P cfg.tab)(hm:P.follows .mixedOrders=true){rs:List Code}{R:(Nat->Value)->Heap->Prop}
  (ht:sxs cfg rs (EB n ps)=some t)(hs:wB a ps env)(hn:a.tmps.size=n)(hd:a.defers=[])(hi:Inv S h)(hw:t.wp P S (jV n is R) (fun _ _=>True) env h []) :
  Safe P S (Reach S b n (.code c::k) cs is R) (b.at a (.code (nest rs c)::k)) cs h:=by
 have ha:Ok S h (fun _=>none):=⟨fun b hb=>absurd rfl hb,hi⟩;rw[<-xK h];refine Z5 (Q:=fun _ _=>True) (Ks:=[]) hT hm Reach.up jV.mono rs _ t env [] a _ h ht hw (Rel.of hs hn hd) ha ?_;rintro st' vs ms a' L' h' ⟨st,e,hl,hdv,hsz,his,hR⟩ H' ha';cases e
 have hms:ms=[]:=by
  have:=H'.m;rw[hl]at this;simpa using this.symm
 subst hms;refine .done ⟨rfl,a',_,h',rfl,?_,H'.df hdv,fun i hi=>?_,hR,fun x o hx=>by simp[plus,hx],ha'.inv⟩
 ·rw[<-H'.sz];exact hsz
 ·have hx:=pJ.1 his i hi;unfold isX at hx;unfold got;split at hx
  ·rename_i e he;have:=Good.at (H'.vl i [] _ he (by simp));simpa using this.symm
  ·cases hx
theorem Z6(hT:zJ P cfg.tab)(hm:P.follows .mixedOrders=true){r:Code}{R:(Nat->Value)->Heap->Prop}
  (ht:sxs cfg [r] (EB n ps)=some t)(hs:wB a ps env)(hn:a.tmps.size=n)(hd:a.defers=[])(hi:Inv S h)(hw:t.wp P S (jV n is R) (fun _ _=>True) env h []) :
  Safe P S (Reach S b n k cs is R) (b.at a (.code r::k)) cs h:=by
 have ha:Ok S h (fun _=>none):=⟨fun b hb=>absurd rfl hb,hi⟩;rw[<-xK h];simp only[sxs]at ht;split at ht
 ·rename_i id ops draw;split at ht
  ·rename_i t1 ht1;have hw1:=Tr.wp_bind jV.mono t1 t ht env h [] hw;refine GL (Ks:=[]) hT hm Reach.up ht1 hw1 (Rel.of hs hn hd) ha ?_;rintro st' vs ms a' L' h' ⟨u,hu,huw⟩ H' ha' _;cases hu
   obtain⟨st,e,hl,hdv,hsz,his,hR⟩:=huw;cases e
   have hms:ms=[]:=by
    have:=H'.m;rw[hl]at this;simpa using this.symm
   subst hms;refine .done ⟨rfl,a',_,h',rfl,by rw[<-H'.sz];exact hsz,H'.df hdv,fun i hi=>?_,hR,fun x o hx=>by simp[plus,hx],ha'.inv⟩;have hx:=pJ.1 his i hi;unfold isX at hx;unfold got;split at hx
   ·rename_i e he;have:=Good.at (H'.vl i [] _ he (by simp));simpa using this.symm
   ·cases hx
  ·cases ht
 ·cases ht
end
section
open Go.Conc Go.ConcR
variable {Φ:Ph}{cs' : List Frame}{fr fr' : Frame}
theorem Sil.step{main:Bool}{J:World->Prop}{Stop:Goroutine->World->Prop}{n:Nat}{g g':Goroutine}(hr:g.status=.running)(hs:∀w,stepG P main g w=.go g' w #[])(H:Sil P main J Stop n g'):Sil P main J Stop (n+1) g:=
 fun w=>Goes.step hr fun w₁ h₁=>by
  rw[hs w₁];exact⟨⟨rfl,rfl⟩,H w₁⟩
theorem Bi.step{Nx:Frame->List Frame->Prop}(hs:∀w,stepG P true (gor fr cs) w=.go (gor fr' cs') w #[])(H:Bi P Φ Nx fr' cs'):Bi P Φ Nx fr cs:=
 let⟨m,h⟩:=H
 ⟨m+1,Sil.step rfl hs h⟩
theorem kV.step{Nx:Frame->List Frame->Prop}(hs:∀w,stepG P true (gor fr cs) w=.go (gor fr' cs') w #[])(H:kV P Φ Nx fr' cs'):kV P Φ Nx fr cs:=
 let⟨Anch,h1,m,h⟩:=H
 ⟨Anch,h1,m+1,Sil.step rfl hs h⟩
theorem PM{s:GStep}{g:Goroutine}{w:World}{es:Array Event}(h:s.goes (fun g' w' es'=>g'=g/\w'=w/\es'=es)):s=.go g w es:=by
 cases s <;> simp only[GStep.goes]at h
 obtain⟨rfl,rfl,rfl⟩:=h;rfl
theorem Sp.pre{Q:Frame->List Frame->Heap->Prop}{r:Nat}(H:Safe P Φ.S (fun fr cs h=>Sp P Φ Q r fr cs h) fr cs h):Sp P Φ Q r fr cs h:=by
 cases r with
 | zero=>exact H.bind fun _ _ _ x=>x
 | succ r=>exact H.bind fun _ _ _ x=>x
end
end Go.Eng
end
section
namespace Go.Proofs.YtopmdepgpabipaaGreatDoor
open Go Go.Eng Go.Conc Go.RowKit Go.Conc.Lib Go.ConcR.Gen
open Go.ConcR (KK wgBlock WgAt stA smA rd wr DC0 Payload)
instance:Payload:=⟨70⟩
noncomputable def Lb:Code:=Tryz.f103.body.getD .skip
noncomputable def Jv:Array Oper:=match Lb with | .seq (.region _ ops _) _=>ops | _=>#[]
noncomputable def Aw:Array Oper:=match Lb with | .seq _ (.region _ ops _)=>ops | _=>#[]
theorem Ww:Lb=.seq (.region 0 Jv false) (.region 1 Aw true):=by kernel_rfl
def Z7:List (TypeId×TyD):=[(0,⟨.oth,1,0,[],none,some []⟩),(3,⟨(.int .i64),1,8,[.int .i64],some [(1,(.int .i64 0))],none⟩),(5,⟨(.int .u8),1,1,[.int .u8],some [(1,(.int .u8 0))],none⟩),(70,⟨(.int .u32),1,4,[.int .u32],some [(1,(.int .u32 0))],none⟩),(22,⟨(.sl 5),1,24,[.slice],some [(1,.nilSl)],none⟩),(137,⟨(.sl 70),1,24,[.slice],some [(1,.nilSl)],none⟩),(140,⟨.fnk,1,8,[.fnv],some [(1,.nilFn)],none⟩)]
theorem Z8:zJ oPP Z7:=IY (by kernel_rfl)
theorem Z9:oPP.follows .mixedOrders=true:=by kernel_rfl
def cW:Cfg:=⟨Z7,[],[],[]⟩
def stW:St:={ tmps:=[⟨[],.x (.var .addr 0)⟩,⟨[],.x (.var .addr 1)⟩,⟨[],.x (.var .addr 2)⟩,⟨[],.x (.var .addr 3)⟩,⟨[],.x (.var .addr 4)⟩]++List.replicate 6 ⟨[],.junk⟩,loc:=[],n:=5,known:=[],d:=0,dv:=true }
def stW':St:={ tmps:=[⟨[],.x (.var .addr 0)⟩,⟨[],.x (.var .addr 1)⟩,⟨[],.x (.var .addr 2)⟩,⟨[],.x (.var .addr 3)⟩,⟨[],.x (.var .addr 4)⟩,⟨[],.x (.var .slice 5)⟩,⟨[],.x (.var (.int .i64) 6)⟩,⟨[],.x (.var .fnv 7)⟩,⟨[],.x (.var .slice 8)⟩,⟨[],.x (.var (.int .u32) 9)⟩,⟨[],.x (.ix 1 (.var .slice 5) (.var (.int .i64) 6))⟩],loc:=[],n:=10,known:=[],d:=0,dv:=true }
def tW:Tr:=
(.load (.var (.addr) 3) [.slice]
(.load (.var (.addr) 4) [.int .i64]
(.load (.var (.addr) 1) [.fnv]
(.load (.var (.addr) 2) [.slice]
(.callv (.var (.fnv) 7) [(.x (.var (.slice) 8))] false [(false,[.int .u32])]
(.still [((.var (.addr) 4),(.var (.int .i64) 6)),((.var (.addr) 3),(.var (.slice) 5))]
(.need (.nt (.nn (.var (.slice) 5)))
(.need (.cm .leq (.cst (.int .i64 0)) (.var (.int .i64) 6))
(.need (.cm .lss (.var (.int .i64) 6) (.ln (.var (.slice) 5)))
(.leaf (.norm stW')))))))))))
def Io:Array Bool:=(Array.replicate 7 false).setIfInBounds 6 true
theorem sW:sxA cW Aw 6 Io [] stW=some tW:=by kernel_rfl
theorem za3:PK Aw 6=true:=by kernel_rfl
theorem zaX:Region.noSelect Aw=true:=by kernel_rfl
theorem za4:Aw.size=7:=by kernel_rfl
theorem zaY:Aw[6]? = some { dst:=none,op:=.store 70 (.tmp 10) (.tmp 9),type:=0,pos:=(Aw[6]?.map (·.pos)).getD "",after:=(Aw[6]?.map (·.after)).getD #[],guard:=none }:=by kernel_rfl
theorem ZA:(oPP.funcs[(baseD 103).fn]?).any (·.norace)=false:=by kernel_rfl
noncomputable def bot:Frame:={ (default:Frame)with fn:=oPP.funcs.size,defers:=[],mode:=.panicking [goexitEntry] }
def Fo(wg fb pb sb ib:Nat):Deferred:={ target:=.fn (.func 103) #[.pointer (some ⟨wg,0,none⟩),.pointer (some ⟨fb,0,none⟩),.pointer (some ⟨pb,0,none⟩),.pointer (some ⟨sb,0,none⟩),.pointer (some ⟨ib,0,none⟩)],args:=#[] }
noncomputable def Og(d:Deferred):Frame:={ (default:Frame)with fn:=oPP.funcs.size,defers:=[d],mode:=.panicking [goexitEntry] }
def qq(wg fb pb sb ib:Nat):Array Value:=#[.pointer (some ⟨wg,0,none⟩),.pointer (some ⟨fb,0,none⟩),.pointer (some ⟨pb,0,none⟩),.pointer (some ⟨sb,0,none⟩),.pointer (some ⟨ib,0,none⟩)]
theorem UH(wg fb pb sb ib:Nat)(m:Bool)(w:World):stepG oPP m (gor (Og (Fo wg fb pb sb ib)) []) w =
  .go (gor ((baseD 103).at ⟨qq wg fb pb sb ib++#[undef,undef,undef,undef,undef,undef],[]⟩ [.code Lb]) [bot]) w #[]:=by
 simp[gor,Og,qq,Fo,stepG,unwind,callDeferred,invoke,callFunc,Tryz.func103,Tryz.f103,seen,GStep.after,Frame.enter,Frame.at,baseD,bot,Lb]
variable {x:Int}
section
variable {Φ:Ph}{i:Nat}
theorem Wx:Up Φ.S (Ik oPP Φ i):=fun fr cs h1 h2 H hs _ w hw hJ=>H w (fun b o hb=>hw b o (hs b o hb)) hJ
theorem ZB(T:Array Value)(td:List Item):QuitsD oPP 2 0 (G { (baseD 103).at ⟨T,[]⟩ td with mode:=.returning } [bot]):=by
 refine QuitsD.ctl (g':=G bot []) rfl (fun w=>?_) ?_
 ·simp[G,stepG,unwind,doReturn,results,Frame.at,baseD,bot,Tryz.func103,Tryz.f103,seen,GStep.after,goexitEntry]
 refine QuitsD.ctl (g':={ G bot []with status:=.finished }) rfl (fun w=>?_) ⟨rfl,rfl⟩;simp[G,stepG,unwind,bot,goexitEntry,Frame.catches];rfl
theorem za5(hty:Φ.ty=Tryz.link.tWg)(hCW:Φ.C≠Φ.Wg)(hi:i<Φ.n)(hval:Φ.val i=.int .u32 x){a:Act}(hd:a.defers=[dcall 104 #[.pointer (some ⟨Φ.Wg,0,none⟩)]])
  (h9:a.tmps.getD 9 undef=.int .u32 x)(h10:a.tmps.getD 10 undef=.pointer (some ⟨Φ.C,i,none⟩))(h:qaA) :
  Ik oPP Φ i ((baseD 103).at a [.inRegion Aw [6]]) [bot] h:=by
 intro w hw hJ;obtain⟨arr,p1,p2⟩:=hJ.2;have hc:w.cell? ⟨Φ.C,i,none⟩=some (arr[i]'(by omega)):=by simp[World.cell?,p1,p2,hi]
 have hz:w.frozen? ⟨Φ.C,i,none⟩=false:=by simp[World.frozen?,p1]
 have hr:(execOp a.eval { dst:=none,op:=.store 70 (.tmp 10) (.tmp 9),type:=0,pos:=(Aw[6]?.map (·.pos)).getD "",after:=(Aw[6]?.map (·.after)).getD #[],guard:=none }).run oPP w=.ok .skip (w.setCell ⟨Φ.C,i,none⟩ (.int .u32 x)):=by
  unfold execOp;simp only[Act.eval,h9,h10];simp[go_sem,stored,hc,hz]
 have he:(execOp a.eval { dst:=none,op:=.store 70 (.tmp 10) (.tmp 9),type:=0,pos:=(Aw[6]?.map (·.pos)).getD "",after:=(Aw[6]?.map (·.after)).getD #[],guard:=none }).events oPP w #[]=#[⟨.cell ⟨Φ.C,i,none⟩,true,false⟩]:=by
  unfold execOp;simp only[Act.eval,h9,h10];simp[go_sem,storedEv,hc,hz]
 have st:=stepG_none (P:=oPP) (main:=false) (b:=baseD 103) (a:=a) (k:=[]) (cs:=[bot]) (w:=w) (rest:=[]) zaY rfl (by decide) hr;unfold listed at st;rw[he,seen_eq ZA (by simp)]at st;rw[hval];refine⟨_,st,200,?_⟩;have hK:Φ.J (w.setCell ⟨Φ.C,i,none⟩ (.int .u32 x)):=by
  refine⟨let⟨st,sm,y⟩:=hJ.1;⟨st,sm,y.of_block ((aside_setCell _ ⟨Φ.C,i,none⟩ _).block _ (pN hCW))⟩,arr.setIfInBounds i (.int .u32 x),?_,by simpa using p2⟩;rw[setCell_eq_setRow w Φ.C i arr _ (0,0) _ p1,setRow_heap w Φ.C _ _ _ _ p1]
 generalize w.setCell ⟨Φ.C,i,none⟩ (.int .u32 x)=w₁ at hK;clear st he hr hc hz p1 hw hJ;refine Sil.of (w:=w₁) ?_;obtain⟨T,D⟩:=a;simp only at hd;subst hd;simp only[Act.put];u_c stepG_region_end jl hK;u_c stepG_end jl hK;u_in jl hK;rw[stepG_unwind_enter rfl Tryz.func104 (nm_done Tryz.link) rfl];simp only[goes_go];refine⟨by u_nil,?_⟩
 walk_nrmf Tryz.f104
 have hA:=@Ws _ oPP Tryz.link Φ [bot] 2 Tryz.KU hCW _ rfl (ZB T []) _ hK;simp only[body_done,doneFn,pG]at hA;exact Goes.mono hA (by omega)
theorem Yu:(Jv[0]?.map fun o=>(o.dst,o.guard))=some (none,none):=by kernel_rfl
theorem Yv:(Jv[0]?.map fun o=>o.op)=some (.defer { callee:=.value (.func 104),args:=#[.tmp 0],argTypes:=((Jv[0]?.map fun o=>match o.op with | .defer c=>c.argTypes | _=>#[]).getD #[]) }):=by kernel_rfl
theorem ZC:∃o ats,Jv[0]? = some o/\o.dst=none/\o.guard=none/\o.op=.defer { callee:=.value (.func 104),args:=#[.tmp 0],argTypes:=ats }:=by
 have h1:=Yu;have h2:=Yv;cases h:Jv[0]? with
 | none=>rw[h]at h1;cases h1
 | some o=>
  rw[h]at h1 h2;simp only[pH,uY,uZ]at h1 h2;exact⟨o,_,rfl,h1.1,h1.2,h2⟩
theorem za6:Jv.size=1:=by kernel_rfl
def lW:List (Option (Sh×Nat)):=[some (.addr,0),some (.addr,1),some (.addr,2),some (.addr,3),some (.addr,4),none,none,none,none,none,none]
theorem ZD:stW={ tmps:=Ms lW,loc:=[],n:=5,known:=[],d:=0,dv:=true }:=rfl
def ZE(C:Nat)(i:Nat)(x:Int):Hand:=fun l env _ _=>l=.norm stW'/\(∃n c,env[5]? = some (.slice (some ⟨C,0,none⟩) n c))/\env[6]? = some (.int .i64 i)/\env[9]? = some (.int .u32 x)
theorem za7(hnb:∀fr cs h Q,¬Φ.S.big fr cs h Q)(hty:Φ.ty=Tryz.link.tWg)(hCW:Φ.C≠Φ.Wg)(hi:i<Φ.n)(hval:Φ.val i=.int .u32 x){hc:qaA}(hin:Inv Φ.S hc)
  {fb pb sb ib:Nat}{g:FuncId}{pa:Option Addr}{pl pc:Nat}
  (hf:zj hc ⟨fb,0,none⟩=some (.func (.func g) #[] #[]))(hp:zj hc ⟨pb,0,none⟩=some (.slice pa pl pc))(hs:zj hc ⟨sb,0,none⟩=some (.slice (some ⟨Φ.C,0,none⟩) Φ.n Φ.n))
  (hib:zj hc ⟨ib,0,none⟩=some (.int .i64 i))(hsum:zb oPP Φ.S g #[.slice pa pl pc] hc (fun v h'=>v=.int .u32 x/\qaB hc h')) :
  Works oPP Φ i (Og (Fo Φ.Wg fb pb sb ib)) [] hc:=by
 refine Safe.zaU hnb false Φ.J ?_;refine Safe.ym (fun w m=>UH _ _ _ _ _ m w) ?_;rw[Ww];refine .seq (.region ?_);rw[za6];obtain⟨oD,ats,d1,d2,d3,d4⟩:=ZC;refine Safe.ym (fun w m=>stepG_defer (rest:=[]) d1 (by simp[Region.wanted,d3]) (by decide) d4) ?_;rw[d2];refine .BP (.J6 fun t'=>?_);have e:Region.schedule (oPP.follows .mixedOrders) Aw t'=Region.linearise.go .any Aw 6 t' Io []++[6]:=by
  simp only[Region.schedule,Z9,Region.linearise,za4,Bool.true_or,uL];exact linearise_last' za3 t'
 rw[e,<-xK hc];have ha:Ok Φ.S hc (fun _=>none):=⟨fun b hb=>absurd rfl hb,hin⟩;have env:List Value:=[];have H:Rel stW [.pointer (some ⟨Φ.Wg,0,none⟩),.pointer (some ⟨fb,0,none⟩),.pointer (some ⟨pb,0,none⟩),.pointer (some ⟨sb,0,none⟩),.pointer (some ⟨ib,0,none⟩)] []
   (Act.put ⟨qq Φ.Wg fb pb sb ib++#[undef,undef,undef,undef,undef,undef],[dcall 104 (#[.tmp 0].map (Act.eval ⟨qq Φ.Wg fb pb sb ib++#[undef,undef,undef,undef,undef,undef],[]⟩))]⟩ none undef) (fun _=>none):=by
  rw[ZD];refine Rel.init rfl rfl (fun h=>by cases h) fun i s j h=>?_
  match i,h with
  | 0,h=>cases h;exact⟨_,rfl,rfl,rfl⟩
  | 1,h=>cases h;exact⟨_,rfl,rfl,rfl⟩
  | 2,h=>cases h;exact⟨_,rfl,rfl,rfl⟩
  | 3,h=>cases h;exact⟨_,rfl,rfl,rfl⟩
  | 4,h=>cases h;exact⟨_,rfl,rfl,rfl⟩
  | 5,h=>cases h
  | 6,h=>cases h
  | 7,h=>cases h
  | 8,h=>cases h
  | 9,h=>cases h
  | 10,h=>cases h
  | _+11,h=>cases h
 refine Wu Wx [6] _ _ _ _ ha (QC _ _ _ _ (J9 6 t' [] Io _ _ _ ha (To Z8 zaX (R:=fun a' _ _=>a'.tmps.getD 9 undef=.int .u32 x/\a'.tmps.getD 10 undef=.pointer (some ⟨Φ.C,i,none⟩))
  (Λ:=ZE Φ.C i x) (Q:=fun _ _=>True) (Ks:=[]) 6 Io [] stW tW _ [] _ _ hc [] sW ?_ H ha (fun q hq=>by cases hq) (.nil _) ?_))) ?_
 ·have hn:∀ {a:Addr} {v:Value} {h':qaA},qaB hc h'->zj hc a=some v->zj h' a=some v:=fun s hv=>by
   unfold zj at hv ⊢;cases e:hc _ with
   | none=>rw[e]at hv;cases hv
   | some o=>rw[e]at hv;rw[s _ o e];exact hv
  simp only[tW,Tr.wp,z4,Ex.ev,coerce,toInt_int,za,zc,ze,zd,zf,zM,z9,Cst.val,SV.den,zn,zL,zz,zk,zi,zy,zq,vF,vG,vA,vB,vC,vQ,vL,vD,vE,vI,vH,vJ,vW,pF,vV,vK,ZE];refine⟨_,_,_,hs,_,hib,_,rfl,hf,_,_,_,hp,g,#[],#[],rfl,?_⟩;refine hsum.mono ?_;rintro _ h' ⟨rfl,sub⟩;refine⟨x,rfl,fun p hp=>?_,rfl,by omega,by omega,⟨_,_,rfl⟩,rfl,rfl⟩;rcases uM.1 hp with rfl | hp
  ·exact hn sub hib
  ·cases uF.1 hp
   exact hn sub hs
 ·rintro st' vs ms a' L' h' ⟨e1,⟨n5,c5,e5⟩,e6,e9⟩ H' _ _;cases e1
  have v9:=H'.vl 9 [] _ rfl (by simp);have v10:=H'.vl 10 [] _ rfl (by simp);generalize ([.pointer (some ⟨Φ.Wg,0,none⟩),.pointer (some ⟨fb,0,none⟩),.pointer (some ⟨pb,0,none⟩),.pointer (some ⟨sb,0,none⟩),.pointer (some ⟨ib,0,none⟩)]++vs:List Value)=en at e5 e6 e9 v9 v10;have w9:=Good.at v9;have w10:=Good.at v10;simp only[Ex.ev,pI,e5,e6,e9,pG,coerce,toInt_int,zd,zc,ze]at w9 w10;refine⟨w9.symm,w10.symm.trans ?_⟩;simp[Addr.add];omega
 ·rintro a' L' h' _ ⟨hd,h9,h10⟩;exact .done (za5 hty hCW hi hval (hd.trans (by simp[Act.put,Act.eval,qq])) h9 h10 _)
end
end Go.Proofs.YtopmdepgpabipaaGreatDoor
end
namespace Go.Proofs.YtopmdepgpabipaaGreatDoor
open Go Go.Eng Go.IntWalk
section
def ZF:List (TypeId×TyD):=[(0,⟨.oth,1,0,[],none,some []⟩),(1,⟨.fnk,1,8,[.fnv],some [(1,.nilFn)],none⟩),(2,⟨(.int .i64),1,8,[oL],some [(1,(.int .i64 0))],none⟩),(3,⟨(.int .i64),1,8,[oL],some [(1,(.int .i64 0))],none⟩),(4,⟨.bool,1,1,[.bool],some [(1,(.bool false))],none⟩),(5,⟨(.int .u8),1,1,[oO],some [(1,(.int .u8 0))],none⟩),(22,⟨(.sl 5),1,24,[.slice],some [(1,.nilSl)],none⟩),(70,⟨(.int .u32),1,4,[oN],some [(1,(.int .u32 0))],none⟩),(89,⟨(.sl 2),1,24,[.slice],some [(1,.nilSl)],none⟩),(97,⟨(.int .u64),1,8,[oM],some [(1,(.int .u64 0))],none⟩),(137,⟨(.sl 70),1,24,[.slice],some [(1,.nilSl)],none⟩),(140,⟨.fnk,1,8,[.fnv],some [(1,.nilFn)],none⟩),(176,⟨(.st []),0,0,[],some [],none⟩),(177,⟨(.st []),0,0,[],some [],none⟩),(178,⟨(.st []),0,0,[],some [],none⟩),(180,⟨(.st [(0,177),(0,178),(0,97)]),1,8,[oM],some [(1,(.int .u64 0))],none⟩),(182,⟨(.st [(0,176),(0,180),(1,70)]),2,16,[oM,oN],some [(1,(.int .u64 0)),(1,(.int .u32 0))],none⟩)]
theorem Fp:zJ oPP ZF:=IY (by kernel_rfl)
theorem Fq:oPP.follows .mixedOrders=true:=by kernel_rfl
def cP:Cfg:=⟨ZF,[],[3,7,9,10,11],[.tmp 4,.tmp 5]⟩
noncomputable def Oh:Code:=Tryz.f82.body.getD .skip
noncomputable def ZG:List Code:=match Oh with
 | .seq r0 (.seq r1 (.seq r2 (.seq r3 (.seq (.seq r4 (.block 0 (.loop (.seq r5 (.seq _ (.seq (.block 1 (.seq r6 (.seq r7 (.seq r8 (.seq r9 r10))))) r11)))))) (.seq r12 z)))))=>[r0,r1,r2,r3,r4,r5,r6,r7,r8,r9,r10,r11,r12,z]
 | _=>[]
noncomputable def rP(i:Nat):Code:=ZG.getD i .skip
noncomputable def Oi:Code:=.seq (rP 5) (.seq (.cond (.tmp 24) .skip (.exit 0)) (.seq (.block 1 (nest [rP 6,rP 7,rP 8] (.seq (rP 9) (rP 10)))) (rP 11)))
theorem Wy:Oh=nest [rP 0,rP 1,rP 2,rP 3] (.seq (.seq (rP 4) (.block 0 (.loop Oi))) (.seq (rP 12) (rP 13))):=by kernel_rfl
def Wz:St:={ tmps:=[oX oa8,⟨[],(.x (.var (.fnv) 1))⟩,oJ,oX obn,⟨[],(.x oak)⟩,⟨[],(.x oak)⟩,⟨[],(.x oaa)⟩,oX (oA 5),oX oa2,oX ofc,oJ,oJ,oX oa8,⟨[],(.x oap)⟩,⟨[],(.x oa6)⟩,⟨[],(.x ob7)⟩,⟨[],(.x oaa)⟩,⟨[],(.x oaa)⟩,oX oaw,⟨[],(.x oaa)⟩,oX oa2,⟨[],(.agg [oad,oaj])⟩,oJ,oJ,oJ,oJ,oJ,oJ,oJ,oJ,oJ,oJ,oJ,oJ,oJ,oJ,oJ,oJ,oJ,oJ,oJ,oJ,oJ,oJ,oJ,oJ,oJ],loc:=[],n:=7,known:=[],d:=0 }
def W0:St:={ tmps:=[oX oa8,⟨[],(.x (.var (.fnv) 1))⟩,oJ,oX obn,⟨[],(.x oak)⟩,⟨[],(.x oak)⟩,⟨[],(.x oaa)⟩,oX oea,oX oa1,oX ofc,oJ,oJ,oX oa8,⟨[],(.x oap)⟩,⟨[],(.x oa6)⟩,⟨[],(.x ob7)⟩,⟨[],(.x oaa)⟩,⟨[],(.x oaa)⟩,oX oaw,⟨[],(.x oaa)⟩,oX oa1,⟨[],(.agg [oad,oaj])⟩,oJ,oJ,oJ,oJ,oJ,oJ,oJ,oJ,oJ,oJ,oJ,oJ,oJ,oJ,oJ,oJ,oJ,oJ,oJ,oJ,oJ,oJ,oJ,oJ,oJ],loc:=[],n:=7,known:=[],d:=0 }
def W3:St:={ tmps:=[oX oa8,⟨[],(.x (.var (.fnv) 1))⟩,oJ,oX obn,⟨[],(.x oak)⟩,⟨[],(.x oak)⟩,⟨[],(.x oaa)⟩,oX oea,oX oa1,oX ofc,oJ,oJ,oX oa8,⟨[],(.x oap)⟩,⟨[],(.x oa6)⟩,⟨[],(.x ob7)⟩,⟨[],(.x oaa)⟩,⟨[],(.x oaa)⟩,oX oaw,⟨[],(.x oaa)⟩,oX oa1,⟨[],(.agg [oad,oaj])⟩,oJ,oJ,oJ,oJ,oJ,oJ,oJ,oJ,oJ,oJ,oJ,oJ,oJ,oJ,oJ,oJ,oJ,oJ,oJ,oJ,oJ,oJ,oJ,oJ,oJ],loc:=[],n:=7,known:=[],d:=0 }
def W4:St:={ tmps:=[oX oa8,⟨[],(.x (.var (.fnv) 1))⟩,oJ,oX obn,⟨[],(.x oak)⟩,⟨[],(.x oak)⟩,⟨[],(.x oaa)⟩,oX (oA 5),oX oaw,oX ofc,oJ,oJ,oX oa8,⟨[],(.x oap)⟩,⟨[],(.x oa6)⟩,⟨[],(.x ob7)⟩,⟨[],(.x oaa)⟩,⟨[],(.x oaa)⟩,oX oa2,⟨[],(.x oaa)⟩,oX oaw,⟨[],(.agg [oad,oaj])⟩,oJ,oJ,oJ,oJ,oJ,oJ,oJ,oJ,oJ,oJ,oJ,oJ,oJ,oJ,oJ,oJ,oJ,oJ,oJ,oJ,oJ,oJ,oJ,oJ,oJ],loc:=[],n:=7,known:=[],d:=0 }
def W5:St:={ tmps:=[oX oa8,⟨[],(.x (.var (.fnv) 1))⟩,oJ,oX obn,⟨[],(.x oak)⟩,⟨[],(.x oak)⟩,⟨[],(.x oaa)⟩,oX oea,oX oaw,oX ofc,oJ,oJ,oX oa8,⟨[],(.x oap)⟩,⟨[],(.x oa6)⟩,⟨[],(.x ob7)⟩,⟨[],(.x oaa)⟩,⟨[],(.x oaa)⟩,oX oa1,⟨[],(.x oaa)⟩,oX oaw,⟨[],(.agg [oad,oaj])⟩,oJ,oJ,oJ,oJ,oJ,oJ,oJ,oJ,oJ,oJ,oJ,oJ,oJ,oJ,oJ,oJ,oJ,oJ,oJ,oJ,oJ,oJ,oJ,oJ,oJ],loc:=[],n:=7,known:=[],d:=0 }
def W6:St:={ tmps:=[oX oa8,⟨[],(.x (.var (.fnv) 1))⟩,oJ,oX obn,⟨[],(.x oak)⟩,⟨[],(.x oak)⟩,⟨[],(.x oaa)⟩,oX (oA 3),oX oa1,oX ofc,oJ,oJ,oX oa8,⟨[],(.x oap)⟩,⟨[],(.x oa6)⟩,⟨[],(.x ob7)⟩,⟨[],(.x oaa)⟩,⟨[],(.x oaa)⟩,oX oa2,⟨[],(.x oaa)⟩,oX oa1,⟨[],(.agg [oad,oaj])⟩,oJ,oJ,oJ,oJ,oJ,oJ,oJ,oJ,oJ,oJ,oJ,oJ,oJ,oJ,oJ,oJ,oJ,oJ,oJ,oJ,oJ,oJ,oJ,oJ,oJ],loc:=[],n:=7,known:=[],d:=0 }
def W7:St:={ tmps:=[oX oa8,⟨[],(.x (.var (.fnv) 1))⟩,oJ,oX obn,⟨[],(.x oak)⟩,⟨[],(.x oak)⟩,⟨[],(.x oaa)⟩,oX (oA 3),oX oa1,oX ofc,oJ,oJ,oX oa8,⟨[],(.x oap)⟩,⟨[],(.x oa6)⟩,⟨[],(.x ob7)⟩,⟨[],(.x oaa)⟩,⟨[],(.x oaa)⟩,oX oa2,⟨[],(.x oaa)⟩,oX oa1,⟨[],(.agg [oad,oaj])⟩,oJ,oJ,oJ,oJ,oJ,oJ,oJ,oJ,oJ,oJ,oJ,oJ,oJ,oJ,oJ,oJ,oJ,oJ,oJ,oJ,oJ,oJ,oJ,oJ,oJ],loc:=[],n:=7,known:=[],d:=0 }
def W8:St:={ tmps:=[oX oa8,⟨[],(.x (.var (.fnv) 1))⟩,oJ,oX obn,⟨[],(.x oak)⟩,⟨[],(.x oak)⟩,⟨[],(.x oaa)⟩,oX (oA 3),oX oa2,oX ofc,oJ,oJ,oX oa8,⟨[],(.x oap)⟩,⟨[],(.x oa6)⟩,⟨[],(.x ob7)⟩,⟨[],(.x oaa)⟩,⟨[],(.x oaa)⟩,oX oa1,⟨[],(.x oaa)⟩,oX oa2,⟨[],(.agg [oad,oaj])⟩,oJ,oJ,oJ,oJ,oJ,oJ,oJ,oJ,oJ,oJ,oJ,oJ,oJ,oJ,oJ,oJ,oJ,oJ,oJ,oJ,oJ,oJ,oJ,oJ,oJ],loc:=[],n:=7,known:=[],d:=0 }
def tA:Tr:=
(.hall 140 [(1,(.var (.fnv) 1))] (.both (.mks 70 1 4 [(.int .u32 0)] oaa oaa (.both (.mks 2 1 8 [(.int .i64 0)] oaa oaa (.hall 137 [(1,oak)] (.hsto (oA 5) [oaw] (.hall 182 [(1,oad),(1,oaj)] (.hsto ofc [oad,oaj] (.leaf (.norm Wz))))))) (.hall 137 [(1,oak)] (.both (.mks 2 1 8 [(.int .i64 0)] oaa oaa (.hsto oea [oaw] (.hall 182 [(1,oad),(1,oaj)] (.hsto ofc [oad,oaj] (.leaf (.norm W0)))))) (.hsto oea [oaw] (.mks 2 1 8 [(.int .i64 0)] oaa oaa (.hall 182 [(1,oad),(1,oaj)] (.hsto ofc [oad,oaj] (.leaf (.norm W3)))))))))) (.both (.mks 2 1 8 [(.int .i64 0)] oaa oaa (.both (.mks 70 1 4 [(.int .u32 0)] oaa oaa (.hall 137 [(1,oak)] (.hsto (oA 5) [oa2] (.hall 182 [(1,oad),(1,oaj)] (.hsto ofc [oad,oaj] (.leaf (.norm W4))))))) (.hall 137 [(1,oak)] (.mks 70 1 4 [(.int .u32 0)] oaa oaa (.hsto oea [oa1] (.hall 182 [(1,oad),(1,oaj)] (.hsto ofc [oad,oaj] (.leaf (.norm W5))))))))) (.hall 137 [(1,oak)] (.both (.mks 70 1 4 [(.int .u32 0)] oaa oaa (.both (.mks 2 1 8 [(.int .i64 0)] oaa oaa (.hsto (oA 3) [oa2] (.hall 182 [(1,oad),(1,oaj)] (.hsto ofc [oad,oaj] (.leaf (.norm W6)))))) (.hsto (oA 3) [oa2] (.mks 2 1 8 [(.int .i64 0)] oaa oaa (.hall 182 [(1,oad),(1,oaj)] (.hsto ofc [oad,oaj] (.leaf (.norm W7)))))))) (.mks 2 1 8 [(.int .i64 0)] oaa oaa (.mks 70 1 4 [(.int .u32 0)] oaa oaa (.hsto (oA 3) [oa1] (.hall 182 [(1,oad),(1,oaj)] (.hsto ofc [oad,oaj] (.leaf (.norm W8))))))))))))
theorem sA:sxs cP [rP 0,rP 1,rP 2,rP 3] (EB 47 [(0,.slice),(1,.fnv)])=some tA:=by kernel_rfl
def ZH:St:={ tmps:=[oX oa8,oJ,oJ,oX oe7,oJ,oJ,oX oal,oX obn,oX oaw,oX oea,oJ,oJ,oJ,oJ,oJ,oJ,oJ,oJ,oJ,oJ,oJ,oJ,oX oal,oX oac,oJ,oJ,oJ,oJ,oJ,oJ,oJ,oJ,oJ,oJ,oJ,oJ,oJ,oJ,oJ,oJ,oJ,oJ,oJ,oJ,oJ,oJ,oJ],loc:=[],n:=6,known:=[],d:=0 }
def t4:Tr:=
(.leaf (.norm ZH))
theorem s4:sxs cP [rP 4] (EB 47 [(0,.slice),(3,.addr),(7,.addr),(8,.slice),(9,.addr),(6,.int .i64)])=some t4:=by kernel_rfl
def W9:St:={ tmps:=[oX oa8,oJ,oJ,oX oe7,oJ,oJ,oJ,oX obn,oX oaw,oX oea,oJ,oJ,oJ,oJ,oJ,oJ,oJ,oJ,oJ,oJ,oJ,oJ,oX oal,oX oa0,⟨[],(.x (.cm .lss oa0 oal))⟩,oJ,oJ,oJ,oJ,oJ,oJ,oJ,oJ,oJ,oJ,oJ,oJ,oJ,oJ,oJ,oJ,oJ,oJ,oJ,oJ,oJ,oJ],loc:=[],n:=7,known:=[],d:=0 }
def t5:Tr:=
(.leaf (.norm W9))
theorem s5:sxs cP [rP 5] (EB 47 [(0,.slice),(3,.addr),(7,.addr),(8,.slice),(9,.addr),(22,.int .i64),(23,.int .i64)])=some t5:=by kernel_rfl
def Xj:St:={ tmps:=[oX oa8,oJ,oJ,oX oe7,oJ,oJ,oJ,oX obn,oX oaw,oX oea,oX (oA 7),oX (oA 10),oJ,oJ,oJ,oJ,oJ,oJ,oJ,oJ,oJ,oJ,oX oal,oX oa0,oJ,oX oa0,oX oa8,oX obm,⟨[],(.x odr)⟩,oX oco,⟨[],(.x oel)⟩,⟨[],(.x (.ar .mul .i64 oel oa4))⟩,oX oa8,⟨[],(.x oap)⟩,⟨[],(.x oan)⟩,⟨[],(.x (.sub 1 oa8 odr oan .nl))⟩,oX oaw,oX ocj,oX oer,⟨[],(.x (.ln oer))⟩,⟨[],(.x (.ix 1 oaw ocj))⟩,oJ,oJ,oJ,oJ,oJ,oJ],loc:=[],n:=13,known:=[],d:=0 }
def tBk:Tr:=
(.hall 3 [(1,oac)] (.hsto (oA 7) [oa0] (.load (oA 7) [oL] (.load (oA 7) [oL] (.need (.cm .leq oac oan) (.need (.cm .leq oan (.cp oa8)) (.need (.cm .leq oac odr) (.need (.cm .leq odr oan) (.hall 22 [(1,oak)] (.hsto (oA 10) [(.sub 1 oa8 odr oan .nl)] (.load (oA 7) [oL] (.load (oA 10) [.slice] (.need odm (.need (.cm .leq oac ocj) (.need (.cm .lss ocj ocv) (.hsto (.ix 1 oaw ocj) [(.ln oer)] (.leaf (.norm Xj))))))))))))))))))
theorem sBk:sxs cP [rP 6,rP 7,rP 8] (EB 47 [(0,.slice),(3,.addr),(7,.addr),(8,.slice),(9,.addr),(22,.int .i64),(23,.int .i64)])=some tBk:=by kernel_rfl
def S6:St:={ tmps:=[oX oa8,oJ,oJ,oX oe7,oJ,oJ,oJ,oX obn,oX oaw,oX oea,oJ,oJ,oJ,oJ,oJ,oJ,oJ,oJ,oJ,oJ,oJ,oJ,oX oal,⟨[],(.x obe)⟩,oJ,oJ,oJ,oJ,oJ,oJ,oJ,oJ,oJ,oJ,oJ,oJ,oJ,oJ,oJ,oJ,oJ,oJ,oJ,⟨[],(.x obe)⟩,oJ,oJ,oJ],loc:=[],n:=7,known:=[],d:=0 }
def t11:Tr:=
(.leaf (.norm S6))
theorem s11:sxs cP [rP 11] (EB 47 [(0,.slice),(3,.addr),(7,.addr),(8,.slice),(9,.addr),(22,.int .i64),(23,.int .i64)])=some t11:=by kernel_rfl
def tZ:Tr:=
(.load (oA 0) [.slice] (.ret (.tup [(false,[obw]),(false,[obk])])))
theorem sZ:sxC cP (rP 13) (EB 47 [(7,.addr),(8,.slice)])=some tZ:=by kernel_rfl
end
end Go.Proofs.YtopmdepgpabipaaGreatDoor
section
namespace Go.Proofs.YtopmdepgpabipaaGreatDoor
open Go Go.Eng Go.Conc Go.RowKit Go.Conc.Lib Go.ConcR.Gen
open Go.ConcR (KK wgBlock WgAt stA smA rd wr DC0 Payload)
variable {b c j l n x:Nat}{o:Obj}{u v:Value}{T:TypeId}{a:Option Addr}
section
variable {S:Shared}{h:qaA}
theorem yT{h:qaA}:upd h b o x=none<->x≠b/\h x=none:=by
 unfold upd;by_cases e:x=b <;> simp[e]
theorem yS{h:qaA}:upd h b o b=some o:=by simp[upd]
theorem yI{h:qaA}(e:x≠b:=by omega):upd h b o x=h x:=by simp[upd,e]
theorem EC{K:qaA->Prop}(hb:h b=some (.cells #[u] T))(hS:¬S b)(k:K (upd h b (.cells #[v] T))):yk S ⟨b,0,none⟩ 0 [v] h K:=by
 have e:zQ h (Addr.add ⟨b,0,none⟩ 0) v=upd h b (.cells #[v] T):=by
  funext x;by_cases hx:x=b
  ·subst hx;simp[zQ,upd,Addr.add,hb]
  ·simp[zQ,upd,Addr.add,hx]
 refine⟨⟨⟨u,by simp[zj,Addr.add,hb]⟩,by simp[yN,Addr.add,hb],by simpa[Addr.add]using hS⟩,?_⟩;rw[e];exact k
theorem HD{u u2 v v2:Value}{K:qaA->Prop}(hb:h b=some (.cells #[u,u2] T))(hS:¬S b)(k:K (upd h b (.cells #[v,v2] T))):yk S ⟨b,0,none⟩ 0 [v,v2] h K:=by
 have e:zQ (zQ h (Addr.add ⟨b,0,none⟩ 0) v) (Addr.add ⟨b,0,none⟩ 1) v2=upd h b (.cells #[v,v2] T):=by
  funext x;by_cases hx:x=b
  ·subst hx;simp[zQ,upd,Addr.add,hb]
  ·simp[zQ,upd,Addr.add,hx]
 refine⟨⟨⟨u,by simp[zj,Addr.add,hb]⟩,by simp[yN,Addr.add,hb],by simpa[Addr.add]using hS⟩,⟨⟨u2,by simp[zQ,zj,Addr.add,hb]⟩,by simp[zQ,yN,Addr.add,hb],by simpa[Addr.add]using hS⟩,?_⟩;rw[e];exact k
theorem zaZ{cs:Array Value}{K:qaA->Prop}(hb:h b=some (.cells cs T))(hj:j<cs.size)(hS:¬S b)(k:K (upd h b (.cells (cs.setIfInBounds j v) T))) :
  yk S (((some (⟨b,0,none⟩:Addr)).getD default).add (((j:Int).toNat)*1)) 0 [v] h K:=by
 have ea:(((some (⟨b,0,none⟩:Addr)).getD default).add (((j:Int).toNat)*1)).add 0=⟨b,j,none⟩:=by
  have e0:∀(x:Addr),x.add 0=x:=fun x=>by simp[Addr.add]
  rw[e0,vN,pR,pG,zu,uD]
 refine⟨⟨⟨cs[j],by rw[ea];simp[zj,hb,hj]⟩,by rw[ea];simp[yN,hb],by rw[ea];exact hS⟩,?_⟩;have e:zQ h ((((some (⟨b,0,none⟩:Addr)).getD default).add (((j:Int).toNat)*1)).add 0) v=upd h b (.cells (cs.setIfInBounds j v) T):=by
  rw[ea];funext x;by_cases hx:x=b
  ·subst hx;simp[zQ,upd,hb]
  ·simp[zQ,upd,hx]
 rw[e];exact k
theorem jV.intro{is:List Nat}{R:(Nat->Value)->qaA->Prop}{env:List Value}{Ks:List Kt}(st:St)(h1:st.loc=[])(h2:st.dv=false)(h3:st.tmps.length=n)(h4:is.all (isX st)=true)(h5:R (got st env) h) :
  jV n is R (.norm st) env h Ks:=⟨st,rfl,h1,h2,h3,h4,h5⟩
def RA(h:qaA)(da:Value)(fv:Value)(n:Nat)(f:Nat->Value)(h':qaA):Prop:=
 ∃fb bC bS sb wg:Nat,f 0=da/\f 3=.pointer (some ⟨fb,0,none⟩)/\f 6=.int .i64 n/\f 7=.pointer (some ⟨sb,0,none⟩)/\f 8=.slice (some ⟨bS,0,none⟩) n n/\f 9=.pointer (some ⟨wg,0,none⟩) /\
  [fb,bC,bS,sb,wg].Nodup/\(∀b ∈ [fb,bC,bS,sb,wg],h b=none)/\qaB h h' /\
  h' fb=some (.cells #[fv] 140)/\h' bC=some (.cells (yl n #[.int .u32 0]) 70)/\h' bS=some (.cells (yl n #[.int .i64 0]) 2) /\
  h' sb=some (.cells #[.slice (some ⟨bC,0,none⟩) n n] 137)/\h' wg=some (wgBlock 182 0 0)
theorem wpA{fv:Value}(hfv:Aj fv=fv)(hi:Inv S h)(hl:l<2^40)(hn:n=(l+32767)/32768) :
  tA.wp oPP S (jV 47 [0,3,6,7,8,9] (RA h (.slice a l c) fv n)) (fun _ _=>True) [.slice a l c,fv] h []:=by
 have ns:∀b,h b=none->¬S b:=fun b hb hS=>hi b hS hb
 have e1:IntKind.i64.wrap ((IntKind.i64.wrap (IntKind.i64.wrap ((l:Int)+32768)-1)).tdiv 32768)=(n:Int):=by
  have w1:IntKind.i64.wrap ((l:Int)+32768)=(l:Int)+32768:=by rw[mD];omega
  have w2:IntKind.i64.wrap ((l:Int)+32768-1)=(l:Int)+32767:=by rw[mD];omega
  rw[w1,w2,uQ (by omega),mD];omega
 have e2:IntKind.i64.wrap (n:Int)=(n:Int):=by rw[mD];omega
 have hb4:((4:Nat):Int)*(n:Int)<=2^48:=by omega
 have hb8:((8:Nat):Int)*(n:Int)<=2^48:=by omega
 simp only[tA,Tr.wp,Fx,Ex.ev,coerce,toInt_int,zc,ze,zd,zf,arith,Cst.val,yF,vF,vG,nN,vA,vB,vD,vE,vI,vH,vJ,e1,e2,vN,pR,hfv];have nn:(0:Int)<=(n:Int):=by omega
 have sub5:∀ {h':qaA},(∀x,(∀b,h b=none->x≠b)->h' x=h x)->qaB h h':=by
  intro h' hx x o ho;rw[hx x (fun b hb e=>by subst e;rw[hb]at ho;cases ho)];exact ho
 intro fb g0;refine⟨⟨nn,pP _,hb4,fun b1 g1=>⟨⟨nn,pP _,hb8,fun b2 g2 b3 g3=>?_⟩,fun b2 g2=>⟨⟨nn,pP _,hb8,fun b3 g3=>?_⟩,?_⟩⟩⟩,
  ⟨⟨nn,pP _,hb8,fun b1 g1=>⟨⟨nn,pP _,hb4,fun b2 g2 b3 g3=>?_⟩,fun b2 g2=>⟨nn,pP _,hb4,fun b3 g3=>?_⟩⟩⟩,
   fun b1 g1=>⟨⟨nn,pP _,hb4,fun b2 g2=>⟨⟨nn,pP _,hb8,fun b3 g3=>?_⟩,?_⟩⟩,⟨nn,pP _,hb8,fun b2 g2=>⟨nn,pP _,hb4,fun b3 g3=>?_⟩⟩⟩⟩⟩
 have so:∀ {T:TypeId} {b b':Nat} {h:qaA} {o:Obj} {v:Value},b'≠b->(upd h b (.cells #[v] T)) b'=h b':=fun e=>yI e
 ·simp only[yT]at g1 g2 g3;refine EC (b:=b3) yS (ns _ (by first | exact g1.2 | exact g2.2.2 | exact g3.2.2.2)) ?_;intro b4 g4;simp only[yT]at g4;refine HD yS (ns _ (by simp only[g4])) ?_;refine jV.intro Wz rfl rfl rfl rfl ⟨fb,b1,b2,b3,b4,rfl,rfl,?_,rfl,rfl,rfl,?_,?_,?_,?_,?_,?_,?_,?_⟩
  all_goals first
   | (simp only[got,Wz,Ex.ev,coerce,toInt_int,zc,ze,zd,arith,Cst.val,vA,vC,vQ];rw[e1];done)
   | (simp only[nY,uM,uO,pM,mZ,nK,mO,vW];omega)
   | (intro b hb;simp only[uM,uO,pM]at hb;rcases hb with rfl | rfl | rfl | rfl | rfl <;> first | exact g0 | exact g1.2 | exact g2.2.2 | exact g3.2.2.2 | exact g4.2.2.2.2.2 | exact g2.2.2.2 | exact g3.2.2.2.2)
   | (refine sub5 fun x hx=>?_;simp only[upd];repeat rw[vM (hx _ (by first | exact g0 | exact g1.2 | exact g2.2.2 | exact g3.2.2.2 | exact g4.2.2.2.2.2 | exact g3.2.2.2.2))])
   | (simp only[upd,wgBlock];repeat first | rw[vP trivial] | rw[vP rfl] | rw[vM (by omega)])
 ·simp only[yT]at g1 g2 g3;refine EC (b:=b2) ((yI).trans yS) (ns _ (by first | exact g1.2 | exact g2.2.2 | exact g3.2.2.2)) ?_;intro b4 g4;simp only[yT]at g4;refine HD yS (ns _ (by simp only[g4])) ?_;refine jV.intro W0 rfl rfl rfl rfl ⟨fb,b1,b3,b2,b4,rfl,rfl,?_,rfl,rfl,rfl,?_,?_,?_,?_,?_,?_,?_,?_⟩
  all_goals first
   | (simp only[got,W0,Ex.ev,coerce,toInt_int,zc,ze,zd,arith,Cst.val,vA,vC,vQ];rw[e1];done)
   | (simp only[nY,uM,uO,pM,mZ,nK,mO,vW];omega)
   | (intro b hb;simp only[uM,uO,pM]at hb;rcases hb with rfl | rfl | rfl | rfl | rfl <;> first | exact g0 | exact g1.2 | exact g2.2.2 | exact g3.2.2.2 | exact g4.2.2.2.2.2 | exact g2.2.2.2 | exact g3.2.2.2.2)
   | (refine sub5 fun x hx=>?_;simp only[upd];repeat rw[vM (hx _ (by first | exact g0 | exact g1.2 | exact g2.2.2 | exact g3.2.2.2 | exact g4.2.2.2.2.2 | exact g3.2.2.2.2))])
   | (simp only[upd,wgBlock];repeat first | rw[vP trivial] | rw[vP rfl] | rw[vM (by omega)])
 ·simp only[yT]at g1 g2;refine EC (b:=b2) yS (ns _ (by first | exact g1.2 | exact g2.2.2)) ⟨nn,pP _,hb8,fun b3 g3=>?_⟩;simp only[yT]at g3;intro b4 g4;simp only[yT]at g4;refine HD yS (ns _ (by simp only[g4])) ?_;refine jV.intro W3 rfl rfl rfl rfl ⟨fb,b1,b3,b2,b4,rfl,rfl,?_,rfl,rfl,rfl,?_,?_,?_,?_,?_,?_,?_,?_⟩
  all_goals first
   | (simp only[got,W3,Ex.ev,coerce,toInt_int,zc,ze,zd,arith,Cst.val,vA,vC,vQ];rw[e1];done)
   | (simp only[nY,uM,uO,pM,mZ,nK,mO,vW];omega)
   | (intro b hb;simp only[uM,uO,pM]at hb;rcases hb with rfl | rfl | rfl | rfl | rfl <;> first | exact g0 | exact g1.2 | exact g2.2.2 | exact g3.2.2.2 | exact g4.2.2.2.2.2 | exact g2.2.2.2 | exact g3.2.2.2.2)
   | (refine sub5 fun x hx=>?_;simp only[upd];repeat rw[vM (hx _ (by first | exact g0 | exact g1.2 | exact g2.2.2 | exact g3.2.2.2 | exact g4.2.2.2.2.2 | exact g3.2.2.2.2))])
   | (simp only[upd,wgBlock];repeat first | rw[vP trivial] | rw[vP rfl] | rw[vM (by omega)])
 ·simp only[yT]at g1 g2 g3;refine EC (b:=b3) yS (ns _ (by first | exact g1.2 | exact g2.2.2 | exact g3.2.2.2)) ?_;intro b4 g4;simp only[yT]at g4;refine HD yS (ns _ (by simp only[g4])) ?_;refine jV.intro W4 rfl rfl rfl rfl ⟨fb,b2,b1,b3,b4,rfl,rfl,?_,rfl,rfl,rfl,?_,?_,?_,?_,?_,?_,?_,?_⟩
  all_goals first
   | (simp only[got,W4,Ex.ev,coerce,toInt_int,zc,ze,zd,arith,Cst.val,vA,vC,vQ];rw[e1];done)
   | (simp only[nY,uM,uO,pM,mZ,nK,mO,vW];omega)
   | (intro b hb;simp only[uM,uO,pM]at hb;rcases hb with rfl | rfl | rfl | rfl | rfl <;> first | exact g0 | exact g1.2 | exact g2.2.2 | exact g3.2.2.2 | exact g4.2.2.2.2.2 | exact g2.2.2.2 | exact g3.2.2.2.2)
   | (refine sub5 fun x hx=>?_;simp only[upd];repeat rw[vM (hx _ (by first | exact g0 | exact g1.2 | exact g2.2.2 | exact g3.2.2.2 | exact g4.2.2.2.2.2 | exact g3.2.2.2.2))])
   | (simp only[upd,wgBlock];repeat first | rw[vP trivial] | rw[vP rfl] | rw[vM (by omega)])
 ·simp only[yT]at g1 g2 g3;refine EC (b:=b2) ((yI).trans yS) (ns _ (by first | exact g1.2 | exact g2.2.2 | exact g3.2.2.2)) ?_;intro b4 g4;simp only[yT]at g4;refine HD yS (ns _ (by simp only[g4])) ?_;refine jV.intro W5 rfl rfl rfl rfl ⟨fb,b3,b1,b2,b4,rfl,rfl,?_,rfl,rfl,rfl,?_,?_,?_,?_,?_,?_,?_,?_⟩
  all_goals first
   | (simp only[got,W5,Ex.ev,coerce,toInt_int,zc,ze,zd,arith,Cst.val,vA,vC,vQ];rw[e1];done)
   | (simp only[nY,uM,uO,pM,mZ,nK,mO,vW];omega)
   | (intro b hb;simp only[uM,uO,pM]at hb;rcases hb with rfl | rfl | rfl | rfl | rfl <;> first | exact g0 | exact g1.2 | exact g2.2.2 | exact g3.2.2.2 | exact g4.2.2.2.2.2 | exact g2.2.2.2 | exact g3.2.2.2.2)
   | (refine sub5 fun x hx=>?_;simp only[upd];repeat rw[vM (hx _ (by first | exact g0 | exact g1.2 | exact g2.2.2 | exact g3.2.2.2 | exact g4.2.2.2.2.2 | exact g3.2.2.2.2))])
   | (simp only[upd,wgBlock];repeat first | rw[vP trivial] | rw[vP rfl] | rw[vM (by omega)])
 ·simp only[yT]at g1 g2 g3;refine EC (b:=b1) ((yI).trans ((yI).trans yS)) (ns _ (by first | exact g1.2 | exact g2.2.2 | exact g3.2.2.2)) ?_;intro b4 g4;simp only[yT]at g4;refine HD yS (ns _ (by simp only[g4])) ?_;refine jV.intro W6 rfl rfl rfl rfl ⟨fb,b2,b3,b1,b4,rfl,rfl,?_,rfl,rfl,rfl,?_,?_,?_,?_,?_,?_,?_,?_⟩
  all_goals first
   | (simp only[got,W6,Ex.ev,coerce,toInt_int,zc,ze,zd,arith,Cst.val,vA,vC,vQ];rw[e1];done)
   | (simp only[nY,uM,uO,pM,mZ,nK,mO,vW];omega)
   | (intro b hb;simp only[uM,uO,pM]at hb;rcases hb with rfl | rfl | rfl | rfl | rfl <;> first | exact g0 | exact g1.2 | exact g2.2.2 | exact g3.2.2.2 | exact g4.2.2.2.2.2 | exact g2.2.2.2 | exact g3.2.2.2.2)
   | (refine sub5 fun x hx=>?_;simp only[upd];repeat rw[vM (hx _ (by first | exact g0 | exact g1.2 | exact g2.2.2 | exact g3.2.2.2 | exact g4.2.2.2.2.2 | exact g3.2.2.2.2))])
   | (simp only[upd,wgBlock];repeat first | rw[vP trivial] | rw[vP rfl] | rw[vM (by omega)])
 ·simp only[yT]at g1 g2;refine EC (b:=b1) ((yI).trans yS) (ns _ (by first | exact g1.2 | exact g2.2.2)) ⟨nn,pP _,hb8,fun b3 g3=>?_⟩;simp only[yT]at g3;intro b4 g4;simp only[yT]at g4;refine HD yS (ns _ (by simp only[g4])) ?_;refine jV.intro W7 rfl rfl rfl rfl ⟨fb,b2,b3,b1,b4,rfl,rfl,?_,rfl,rfl,rfl,?_,?_,?_,?_,?_,?_,?_,?_⟩
  all_goals first
   | (simp only[got,W7,Ex.ev,coerce,toInt_int,zc,ze,zd,arith,Cst.val,vA,vC,vQ];rw[e1];done)
   | (simp only[nY,uM,uO,pM,mZ,nK,mO,vW];omega)
   | (intro b hb;simp only[uM,uO,pM]at hb;rcases hb with rfl | rfl | rfl | rfl | rfl <;> first | exact g0 | exact g1.2 | exact g2.2.2 | exact g3.2.2.2 | exact g4.2.2.2.2.2 | exact g2.2.2.2 | exact g3.2.2.2.2)
   | (refine sub5 fun x hx=>?_;simp only[upd];repeat rw[vM (hx _ (by first | exact g0 | exact g1.2 | exact g2.2.2 | exact g3.2.2.2 | exact g4.2.2.2.2.2 | exact g3.2.2.2.2))])
   | (simp only[upd,wgBlock];repeat first | rw[vP trivial] | rw[vP rfl] | rw[vM (by omega)])
 ·simp only[yT]at g1 g2 g3;refine EC (b:=b1) ((yI).trans ((yI).trans yS)) (ns _ (by first | exact g1.2 | exact g2.2.2 | exact g3.2.2.2)) ?_;intro b4 g4;simp only[yT]at g4;refine HD yS (ns _ (by simp only[g4])) ?_;refine jV.intro W8 rfl rfl rfl rfl ⟨fb,b3,b2,b1,b4,rfl,rfl,?_,rfl,rfl,rfl,?_,?_,?_,?_,?_,?_,?_,?_⟩
  all_goals first
   | (simp only[got,W8,Ex.ev,coerce,toInt_int,zc,ze,zd,arith,Cst.val,vA,vC,vQ];rw[e1];done)
   | (simp only[nY,uM,uO,pM,mZ,nK,mO,vW];omega)
   | (intro b hb;simp only[uM,uO,pM]at hb;rcases hb with rfl | rfl | rfl | rfl | rfl <;> first | exact g0 | exact g1.2 | exact g2.2.2 | exact g3.2.2.2 | exact g4.2.2.2.2.2 | exact g2.2.2.2 | exact g3.2.2.2.2)
   | (refine sub5 fun x hx=>?_;simp only[upd];repeat rw[vM (hx _ (by first | exact g0 | exact g1.2 | exact g2.2.2 | exact g3.2.2.2 | exact g4.2.2.2.2.2 | exact g3.2.2.2.2))])
   | (simp only[upd,wgBlock];repeat first | rw[vP trivial] | rw[vP rfl] | rw[vM (by omega)])
def qD(l i:Nat):Nat:=min ((i+1)*32768) l-i*32768
def partOf(xs:List Int)(i:Nat):List Int:=(xs.drop (i*32768)).take (qD xs.length i)
theorem Ah(xs:List Int)(i:Nat):(partOf xs i).length=qD xs.length i:=by
 unfold partOf qD;rw[pK,pL];omega
def szv(n l j:Nat):Array Value:=((List.range n).map fun i=>if i<j then Value.int .i64 (qD l i)else .int .i64 0).toArray
theorem WA(n l j:Nat):(szv n l j).size=n:=by simp[szv]
theorem WB(n l:Nat):yl n #[.int .i64 0]=szv n l 0:=by
 apply Array.ext
 ·simp[yl,szv]
 ·intro i h1 h2;simp[yl,szv,gN]
theorem Yw(hj:j<n):(szv n l j).setIfInBounds j (.int .i64 (qD l j))=szv n l (j+1):=by
 apply Array.ext
 ·simp[szv]
 ·intro i h1 h2;simp only[szv];by_cases e:j=i
  ·subst e;simp
  ·have e2:(i<j+1)=(i<j):=by apply propext;omega
   simp[e,e2]
def RB(h0 h:qaA)(xs:List Int)(da:Value)(fb sb bS wg n j:Nat)(f:Nat->Value)(h':qaA):Prop:=
 ∃(ib pb:Nat) (a':Option Addr) (c':Nat),f 0=da/\f 3=.pointer (some ⟨fb,0,none⟩)/\f 7=.pointer (some ⟨sb,0,none⟩)/\f 8=.slice (some ⟨bS,0,none⟩) n n/\f 9=.pointer (some ⟨wg,0,none⟩) /\
  f 10=.pointer (some ⟨ib,0,none⟩)/\f 11=.pointer (some ⟨pb,0,none⟩)/\f 22=.int .i64 n/\f 23=.int .i64 j /\
  h ib=none/\h pb=none/\ib≠pb/\zo h0 .u8 a' (partOf xs j)/\h' ib=some (.cells #[.int .i64 j] 3)/\h' pb=some (.cells #[.slice a' (partOf xs j).length c'] 22) /\
  h' bS=some (.cells (szv n xs.length (j+1)) 2)/\∀x,x≠ib->x≠pb->x≠bS->h' x=h x
theorem wpB{h0:qaA}{xs:List Int}(hx:zo h0 .u8 a xs)(hc:xs.length<=c)(hl:xs.length<2^40)(hi:Inv S h)(hn:n=(xs.length+32767)/32768)(hj:j<n)
  {fb sb bS wg:Nat}(hS:¬S bS)(hbS:h bS=some (.cells (szv n xs.length j) 2)) :
  tBk.wp oPP S (jV 47 [0,3,7,8,9,10,11,22,23] (RB h0 h xs (.slice a xs.length c) fb sb bS wg n j)) (fun _ _=>True)
   [.slice a xs.length c,.pointer (some ⟨fb,0,none⟩),.pointer (some ⟨sb,0,none⟩),.slice (some ⟨bS,0,none⟩) n n,.pointer (some ⟨wg,0,none⟩),.int .i64 n,.int .i64 j] h []:=by
 have ns:∀b,h b=none->¬S b:=fun b hb hS=>hi b hS hb
 have w1:IntKind.i64.wrap ((j:Int)*32768)=((j*32768:Nat):Int):=by rw[mD];omega
 have w2:IntKind.i64.wrap ((j:Int)+1)=(j:Int)+1:=by rw[mD];omega
 have w3:IntKind.i64.wrap (((j:Int)+1)*32768)=(((j+1)*32768:Nat):Int):=by rw[mD];omega
 simp only[tBk,Tr.wp,Ex.ev,coerce,toInt_int,za,zc,ze,zd,zf,zM,xL,xW,jI,z9,arith,Cst.val,yF,zy,zq,vF,vG,nN,vA,vB,vL,vD,vE,vI,vH,vJ,vW];intro ib g0;refine EC yS (ns _ g0) ?_;have eM:(if(xs.length:Int)<(((j+1)*32768:Nat):Int)then(xs.length:Int)else(((j+1)*32768:Nat):Int))=((min ((j+1)*32768) xs.length:Nat):Int):=by split <;> omega
 have cell1:∀ {h:qaA} {b:Nat} {v:Value} {T:TypeId},h b=some (.cells #[v] T)->zj h (Addr.add ⟨b,0,none⟩ 0)=some v:=fun hb=>by simp[zj,Addr.add,hb]
 refine⟨j,cell1 yS,j,cell1 yS,?_⟩;simp only[w1,w2,w3,eM,vN];obtain⟨a',es,hp⟩:=wG hx (lo:=j*32768) (hi:=min ((j+1)*32768) xs.length) (m:=c);rw[es];have ep:(xs.drop (j*32768)).take (min ((j+1)*32768) xs.length-j*32768)=partOf xs j:=rfl;rw[ep]at hp ⊢;refine⟨by omega,by omega,by omega,by omega,fun pb g1=>?_⟩;simp only[yT]at g1;have hbi:bS≠ib:=fun e=>by subst e;rw[g0]at hbS;cases hbS
 have hbp:bS≠pb:=fun e=>by subst e;rw[g1.2.2]at hbS;cases hbS
 refine EC yS (ns _ g1.2.2) ?_;refine⟨j,cell1 ((yI (pN g1.1)).trans ((yI (pN g1.1)).trans yS)),a',_,_,cell1 yS,rfl,by omega,by omega,?_⟩;refine zaZ (cs:=szv n xs.length j) (T:=2) ?_ (by rw[WA];exact hj) hS ?_
 ·rw[yI hbp,yI hbp,yI hbi,yI hbi];exact hbS
 refine jV.intro Xj rfl rfl rfl rfl ⟨ib,pb,a',c-j*32768,rfl,rfl,rfl,rfl,rfl,rfl,rfl,rfl,rfl,g0,g1.2.2,pN g1.1,hp,?_,?_,?_,?_⟩
 ·rw[yI (pN hbi),yI (pN g1.1),yI (pN g1.1),yS]
 ·rw[yI (pN hbp),yS]
 ·rw[yS,Ah,Yw hj]
 ·intro x h1 h2 h3;rw[yI h3,yI h2,yI h2,yI h1,yI h1]
end
end Go.Proofs.YtopmdepgpabipaaGreatDoor
end
section
namespace Go.Proofs.YtopmdepgpabipaaGreatDoor
open Go Go.Eng Go.Conc Go.RowKit Go.Conc.Lib Go.ConcR.Gen
open Go.ConcR (KK wgBlock WgAt stA smA rd wr DC0 Payload)
def S7:List (Nat×Sh):=[(0,.slice),(3,.addr),(7,.addr),(8,.slice),(9,.addr),(22,.int .i64),(23,.int .i64)]
def WC(da:Value)(fb sb bS wg n j:Nat):List Value:=[da,.pointer (some ⟨fb,0,none⟩),.pointer (some ⟨sb,0,none⟩),.slice (some ⟨bS,0,none⟩) n n,.pointer (some ⟨wg,0,none⟩),.int .i64 n,.int .i64 j]
structure AtL(a:Act)(da:Value)(fb sb bS wg n j:Nat):Prop where
 sz:a.tmps.size=47
 df:a.defers=[]
 s0:a.tmps.getD 0 undef=da
 s3:a.tmps.getD 3 undef=.pointer (some ⟨fb,0,none⟩)
 s7:a.tmps.getD 7 undef=.pointer (some ⟨sb,0,none⟩)
 s8:a.tmps.getD 8 undef=.slice (some ⟨bS,0,none⟩) n n
 s9:a.tmps.getD 9 undef=.pointer (some ⟨wg,0,none⟩)
 s22:a.tmps.getD 22 undef=.int .i64 n
 s23:a.tmps.getD 23 undef=.int .i64 j
variable {a:Act}
theorem AtL.Ip{x:Option Addr}{l c fb sb bS wg n j:Nat}(A:AtL a (.slice x l c) fb sb bS wg n j):wB a S7 (WC (.slice x l c) fb sb bS wg n j):=
 ⟨A.s0,rfl,A.s3,rfl,A.s7,rfl,A.s8,rfl,A.s9,rfl,A.s22,rfl,A.s23,rfl,trivial⟩
theorem Jw(a:Act)(d i:Nat)(v:Value)(hd:d<a.tmps.size):(a.put (some d) v).tmps.getD i undef=if i=d then v else a.tmps.getD i undef:=by
 by_cases e:i=d
 ·subst e;simp[Act.put,pD,hd]
 ·simp only[Act.put,pD,pX (pN e),vM e]
theorem WE(a:Act)(d:Nat)(v:Value):(a.put (some d) v).tmps.size=a.tmps.size:=by simp[Act.put]
theorem AtL.put{a:Act}{da:Value}{fb sb bS wg n j:Nat}(A:AtL a da fb sb bS wg n j)(d:Nat)(v:Value)(hd:d=41\/d=42\/d=44):AtL (a.put (some d) v) da fb sb bS wg n j:=by
 have hs:d<a.tmps.size:=by rw[A.sz];omega
 have g:∀i,i≠d->(a.put (some d) v).tmps.getD i undef=a.tmps.getD i undef:=fun i hi=>by rw[Jw a d i v hs,vM hi]
 exact⟨by rw[WE];exact A.sz,A.df,(g 0 (by omega)).trans A.s0,(g 3 (by omega)).trans A.s3,(g 7 (by omega)).trans A.s7,(g 8 (by omega)).trans A.s8,(g 9 (by omega)).trans A.s9,(g 22 (by omega)).trans A.s22,(g 23 (by omega)).trans A.s23⟩
def RS(h:qaA)(da:Value)(fb sb bS wg n j:Nat)(f:Nat->Value)(h':qaA):Prop:=
 f 0=da/\f 3=.pointer (some ⟨fb,0,none⟩)/\f 7=.pointer (some ⟨sb,0,none⟩)/\f 8=.slice (some ⟨bS,0,none⟩) n n/\f 9=.pointer (some ⟨wg,0,none⟩)/\f 22=.int .i64 n/\f 23=.int .i64 j/\h'=h
noncomputable def xO(i:Nat):Array Oper:=match rP i with | .region _ ops _=>ops | _=>#[]
theorem rP9:rP 9=.region 9 (xO 9) false:=by kernel_rfl
theorem zba:rP 10=.region 10 (xO 10) false:=by kernel_rfl
theorem zbb:rP 12=.region 12 (xO 12) false:=by kernel_rfl
theorem za8:(xO 9).size=1:=by kernel_rfl
theorem ZI:(xO 10).size=2:=by kernel_rfl
theorem ZJ:(xO 12).size=1:=by kernel_rfl
variable {ops:Array Oper}{i:Nat}
theorem Oj{d:Option Tmp}{p:Op->Bool}(h1:(ops[i]?.map fun o=>(o.dst,o.guard))=some (d,none)){q:Op}(h2:(ops[i]?.map fun o=>o.op)=some q) :
  ∃o,ops[i]? = some o/\o.dst=d/\o.guard=none/\o.op=q:=by
 cases h:ops[i]? with
 | none=>rw[h]at h1;cases h1
 | some o=>
  rw[h]at h1 h2;simp only[pH,uY,uZ]at h1 h2;exact⟨o,rfl,h1.1,h1.2,h2⟩
def S8(o:Option Oper):Array TypeId:=match o with | some o=>(match o.op with | .call c=>c.argTypes | .go c=>c.argTypes | _=>#[]) | none=>#[]
theorem c9a:((xO 9)[0]?.map fun o=>(o.dst,o.guard))=some (some 41,none):=by kernel_rfl
theorem c9b:((xO 9)[0]?.map fun o=>o.op)=some (.call { callee:=.value (.func 102),args:=#[.tmp 9,.const (.int .i64 1)],argTypes:=S8 (xO 9)[0]? }):=by kernel_rfl
theorem zbc:((xO 12)[0]?.map fun o=>(o.dst,o.guard))=some (some 44,none):=by kernel_rfl
theorem zbd:((xO 12)[0]?.map fun o=>o.op)=some (.call { callee:=.value (.func 105),args:=#[.tmp 9],argTypes:=S8 (xO 12)[0]? }):=by kernel_rfl
theorem zbe:((xO 10)[0]?.map fun o=>(o.dst,o.guard))=some (some 42,none):=by kernel_rfl
theorem zbf:((xO 10)[0]?.map fun o=>o.op)=some (.makeFunc (.func 103) #[] #[.tmp 9,.tmp 3,.tmp 11,.tmp 7,.tmp 10]):=by kernel_rfl
theorem zbg:((xO 10)[1]?.map fun o=>(o.dst,o.guard))=some (none,none):=by kernel_rfl
theorem zbh:((xO 10)[1]?.map fun o=>o.op)=some (.go { callee:=.value (.tmp 42),args:=#[],argTypes:=S8 (xO 10)[1]? }):=by kernel_rfl
variable {b:Frame}{cs:List Frame}
theorem Lc{P:Program}{k:List Item}{rest:List Nat}{o:Oper}{f:FuncId}{fn:Func}{c:Code}{args:Array Operand}{ats:Array TypeId}
  (ho:ops[i]? = some o)(hw:Region.wanted o (yielded ops a.tmps)=true)(hk:b.kind ≠ .early)(hop:o.op=.call { callee:=.value (.func f),args,argTypes:=ats })
  (hf:P.funcs[f]? = some fn)(hname:(fn.name == "runtime.NumGoroutine")=false)(hb:fn.body=some c)(main:Bool)(w:World) :
  stepG P main (gor (b.at a (.inRegion ops (i::rest)::k)) cs) w=.go (gor ((base f).at { tmps:=args.map a.eval++Array.replicate (fn.ntmps-(args.map a.eval).size) undef,defers:=[] } [.code c]) (b.at a (.inRegion ops (i::rest)::k)::cs)) w #[]:=
 PM (goes_call ho hw hk hop hf hname hb ⟨rfl,rfl,rfl⟩)
theorem za9(L:WgLink):(addFn L).body=some (body_add L):=rfl
theorem ZK(L:WgLink):(waitFn L).body=some (body_wait L):=rfl
theorem zaA(L:WgLink)(x y:Value):#[x,y]++Array.replicate ((addFn L).ntmps-(#[x,y]:Array Value).size) undef=#[x,y,undef,undef,undef,undef,undef,undef,undef,undef,undef,undef,undef,undef,undef,undef,undef,undef,undef,undef,undef,undef,undef,undef,undef,undef,undef,undef,undef,undef,undef,undef,undef,undef,undef,undef,undef,undef,undef,undef,undef,undef,undef,undef,undef,undef,undef,undef,undef,undef,undef,undef,undef,undef,undef,undef,undef,undef,undef,undef,undef,undef,undef,undef,undef,undef,undef,undef,undef,undef,undef,undef,undef,undef,undef,undef,undef,undef,undef,undef,undef,undef,undef,undef,undef,undef,undef,undef,undef,undef,undef,undef,undef,undef,undef,undef,undef,undef,undef,undef,undef,undef,undef,undef,undef,undef,undef,undef,undef,undef,undef,undef,undef,undef,undef,undef,undef]:=by kernel_rfl
theorem ZL(L:WgLink)(x:Value):#[x]++Array.replicate ((waitFn L).ntmps-(#[x]:Array Value).size) undef=#[x,undef,undef,undef,undef,undef,undef,undef,undef,undef,undef,undef,undef,undef,undef,undef,undef,undef,undef,undef,undef,undef,undef,undef,undef,undef,undef,undef,undef,undef,undef,undef,undef,undef,undef,undef,undef,undef,undef,undef,undef,undef,undef,undef,undef,undef,undef,undef,undef,undef,undef,undef,undef,undef,undef,undef,undef,undef,undef,undef,undef,undef,undef,undef,undef,undef,undef,undef,undef,undef,undef,undef,undef,undef,undef,undef,undef,undef,undef,undef,undef,undef,undef,undef]:=by kernel_rfl
section
variable {Φ:Ph}{k:List Item}
theorem zbi(hty:Φ.ty=Tryz.link.tWg)(hCW:Φ.C≠Φ.Wg)(hk:b.kind ≠ .early)(h9:a.tmps.getD 9 undef=.pointer (some ⟨Φ.Wg,0,none⟩)){Nx:Frame->List Frame->Prop}
  (hN:Nx (b.at (a.put (some 41) (.tuple #[])) (.inRegion (xO 9) []::k)) cs):Bi oPP Φ Nx (b.at a (.inRegion (xO 9) [0]::k)) cs:=by
 obtain⟨o,d1,d2,d3,d4⟩:=Oj (p:=fun _=>true) c9a c9b;by_cases hJ:∃w,Φ.J w
 ·obtain⟨w,hw⟩:=hJ;refine Bi.step (fun w=>Lc d1 (by simp[Region.wanted,d3]) hk d4 Tryz.KU.f_add (nm_add Tryz.link) (za9 Tryz.link) true w) ⟨100,?_⟩;have e:(#[Operand.tmp 9,.const (.int .i64 1)].map a.eval)=#[.pointer (some ⟨Φ.Wg,0,none⟩),.int .i64 1]:=by simp[Act.eval,h9]
  rw[e,zaA];have W:=@Ys _ oPP Tryz.link Φ cs b a (xO 9) 0 [] k Tryz.KU hCW Nx (by rw[d1];simp only[mA,d2];exact hN) w hw;exact Sil.of (w:=w) W
 ·exact⟨0,fun w w₁ h=>absurd ⟨w₁,h⟩ hJ⟩
theorem ZM(hty:Φ.ty=Tryz.link.tWg)(hCW:Φ.C≠Φ.Wg)(hk:b.kind ≠ .early)(h9:a.tmps.getD 9 undef=.pointer (some ⟨Φ.Wg,0,none⟩)) :
  kV oPP Φ (PH oPP (b.at (a.put (some 44) (.tuple #[])) (.inRegion (xO 12) []::k)) cs) (b.at a (.inRegion (xO 12) [0]::k)) cs:=by
 obtain⟨o,d1,d2,d3,d4⟩:=Oj (p:=fun _=>true) zbc zbd;by_cases hJ:∃w,Φ.J w
 ·obtain⟨w,hw⟩:=hJ;refine kV.step (fun w=>Lc d1 (by simp[Region.wanted,d3]) hk d4 Tryz.KU.f_wait (nm_wait Tryz.link) (ZK Tryz.link) true w) ?_;have e:(#[Operand.tmp 9].map a.eval)=#[.pointer (some ⟨Φ.Wg,0,none⟩)]:=by simp[Act.eval,h9]
  rw[e,ZL];have W:=@Wt _ oPP Tryz.link Φ cs b a (xO 12) 0 [] k Tryz.KU hCW w hw;rw[d1]at W;simp only[mA,d2]at W;exact W
 ·exact⟨fun _=>True,fun g _=>⟨0,fun w w₁ h=>absurd ⟨w₁,h⟩ hJ⟩,0,fun w w₁ h=>absurd ⟨w₁,h⟩ hJ⟩
end
end Go.Proofs.YtopmdepgpabipaaGreatDoor
end
section
namespace Go.Proofs.YtopmdepgpabipaaGreatDoor
open Go Go.Eng Go.Conc Go.RowKit Go.Conc.Lib Go.ConcR.Gen
open Go.ConcR (KK wgBlock WgAt stA smA rd wr DC0 Payload)
variable {a:Act}{bS c fb ib j l n pb sb wg:Nat}{h:qaA}{x:Option Addr}
section
variable {S:Shared}{Φ:Ph}{b:Frame}{k:List Item}{cs:List Frame}
theorem Yx{i fb pb sb ib:Nat}(hk:b.kind ≠ .early)(h42:a.tmps.getD 42 undef=.func (.func 103) #[] (qq Φ.Wg fb pb sb ib)){Nx:Frame->List Frame->qaA->Prop}{hh h1 hc:qaA}
  (s1:qaB h1 hh)(sc:qaB hc hh)(hap:∀x,¬Φ.S x->hc x≠none->h1 x=none)(hro:∀x,Φ.S x->h1 x=hh x)(hW:Works oPP Φ i (Og (Fo Φ.Wg fb pb sb ib)) [] hc)
  (hN:Nx (b.at a (.inRegion (xO 10) []::k)) cs h1):CP oPP Φ i Nx (b.at a (.inRegion (xO 10) [1]::k)) cs hh:=by
 obtain⟨o,d1,d2,d3,d4⟩:=Oj (p:=fun _=>true) zbg zbh;refine⟨h1,hc,s1,sc,hap,hro,fun w hw hJ=>⟨_,_,_,_,?_,hW,hN⟩⟩;have hr:(execOp a.eval o).run oPP w=.ok (.spawn (Fo Φ.Wg fb pb sb ib)) w:=by
  unfold execOp;simp only[d4,resolve,Deferred.ofValue,Act.eval,h42];simp[Fo,qq,go_sem]
 have he:(execOp a.eval o).events oPP w #[]=#[]:=by
  unfold execOp;simp only[d4,resolve,Deferred.ofValue,Act.eval,h42];simp[qq,go_sem]
 have st:=stepG_spawn (P:=oPP) (main:=true) (b:=b) (a:=a) (k:=k) (cs:=cs) (w:=w) (rest:=[]) d1 (by simp[Region.wanted,d3]) hk hr rfl;unfold listed at st;rw[he,seen_none,d2]at st;exact st
theorem ZN(hk:b.kind ≠ .early){rest:List Nat}{Post:Frame->List Frame->qaA->Prop}
  (h9:a.tmps.getD 9 undef=.pointer (some ⟨wg,0,none⟩))(h3:a.tmps.getD 3 undef=.pointer (some ⟨fb,0,none⟩))(h11:a.tmps.getD 11 undef=.pointer (some ⟨pb,0,none⟩))(h7:a.tmps.getD 7 undef=.pointer (some ⟨sb,0,none⟩))(h10:a.tmps.getD 10 undef=.pointer (some ⟨ib,0,none⟩))
  (K:Eng.Safe oPP S Post (b.at (a.put (some 42) (.func (.func 103) #[] (qq wg fb pb sb ib))) (.inRegion (xO 10) rest::k)) cs h):Eng.Safe oPP S Post (b.at a (.inRegion (xO 10) (0::rest)::k)) cs h:=by
 obtain⟨o,d1,d2,d3,d4⟩:=Oj (p:=fun _=>true) zbe zbf;refine FQ (.func (.func 103) #[] (qq wg fb pb sb ib)) d1 (by simp[Region.wanted,d3]) hk (fun w=>?_) (fun w=>?_) (by rw[d2];exact K)
 ·unfold execOp;simp[d4,Act.eval,h9,h3,h11,h7,h10,qq,go_sem]
 ·unfold execOp;simp[d4,Act.eval,h9,h3,h11,h7,h10,go_sem]
theorem go5{c0:Code}(A:AtL a (.slice x l c) fb sb bS wg n j)(hi:Inv S h) :
  Eng.Safe oPP S (Eng.Reach S b 47 (.code c0::k) cs [0,3,7,8,9,22,23,24] (fun f h'=>RS h (.slice x l c) fb sb bS wg n j f h'/\f 24=.bool (decide ((j:Int)<n)))) (b.at a (.code (.seq (rP 5) c0)::k)) cs h:=by
 refine FR (rs:=[rP 5]) (ps:=S7) Fp Fq s5 A.Ip A.sz A.df hi ?_;simp only[t5,Tr.wp];exact jV.intro W9 rfl rfl rfl rfl ⟨⟨rfl,rfl,rfl,rfl,rfl,rfl,rfl,rfl⟩,by simp only[got,W9,WC,Ex.ev,coerce,toInt_int,z9,vA,vB,vC,vQ]⟩
theorem zbj(A:AtL a (.slice x l c) fb sb bS wg n j)(hi:Inv S h)(hj:j<2^40) :
  Eng.Safe oPP S (Eng.Reach S b 47 k cs [0,3,7,8,9,22,23] (RS h (.slice x l c) fb sb bS wg n (j+1))) (b.at a (.code (rP 11)::k)) cs h:=by
 refine Z6 (ps:=S7) Fp Fq s11 A.Ip A.sz A.df hi ?_;simp only[t11,Tr.wp];have w2:IntKind.i64.wrap ((j:Int)+1)=((j+1:Nat):Int):=by rw[mD];omega
 exact jV.intro S6 rfl rfl rfl rfl ⟨rfl,rfl,rfl,rfl,rfl,rfl,by simp only[got,S6,WC,Ex.ev,coerce,toInt_int,arith,Cst.val,vA,vB,vC,vQ,w2],rfl⟩
theorem AtL.reach{x:Value}{f:Nat->Value}{h h':qaA}{is:List Nat}(hs:a.tmps.size=47)(hd:a.defers=[])(hf:∀i∈is,a.tmps.getD i undef=f i)
  (hi:[0,3,7,8,9,22,23].all (fun i=>is.contains i)=true)(R:RS h x fb sb bS wg n j f h'):AtL a x fb sb bS wg n j:=by
 obtain⟨r0,r3,r7,r8,r9,r22,r23,_⟩:=R;have g:∀i,i∈([0,3,7,8,9,22,23]:List Nat)->a.tmps.getD i undef=f i:=fun i h=>hf i (by simpa using pJ.1 hi i h)
 exact⟨hs,hd,(g 0 (by simp)).trans r0,(g 3 (by simp)).trans r3,(g 7 (by simp)).trans r7,(g 8 (by simp)).trans r8,(g 9 (by simp)).trans r9,(g 22 (by simp)).trans r22,(g 23 (by simp)).trans r23⟩
end
end Go.Proofs.YtopmdepgpabipaaGreatDoor
end
section
namespace Go.Proofs.YtopmdepgpabipaaGreatDoor
open Go Go.Eng Go.Conc Go.RowKit Go.Conc.Lib Go.ConcR.Gen
open Go.ConcR (KK wgBlock WgAt stA smA rd wr DC0 Payload)
variable {xs:List Int}
section
variable {Φ:Ph}{b:Frame}{cs:List Frame}
theorem WG{h h':qaA}{k:IntKind}{a:Option Addr}(H:zo h k a xs)(s:qaB h h'):zo h' k a xs:=fun i x hx=>by
 obtain⟨ad,h1,h2⟩:=H i x hx;refine⟨ad,h1,?_⟩;unfold zj at h2 ⊢;cases e:h (ad.add i).block with
 | none=>rw[e]at h2;cases h2
 | some o=>rw[e]at h2;rw[s _ _ e];exact h2
theorem ZO{H h0:qaA}{n:Nat}(hty:Φ.ty=Tryz.link.tWg)(hCW:Φ.C≠Φ.Wg)(hnb:∀fr cs h Q,¬Φ.S.big fr cs h Q)(hΦn:Φ.n=n){x:Option Addr}{c:Nat}(hx:zo h0 .u8 x xs)(hc:xs.length<=c)
  (hl:xs.length<2^40)(hn:n=(xs.length+32767)/32768){fb sb bS:Nat}{g:FuncId}{F:List Int->Int}(hSd:∀y,Φ.S y->H y≠none)(h0S:∀y o,h0 y=some o->Φ.S y/\H y=some o)(hSb:¬Φ.S bS)
  (hfS:Φ.S fb)(hsS:Φ.S sb)(hfb:H fb=some (.cells #[.func (.func g) #[] #[]] 140))(hsb:H sb=some (.cells #[.slice (some ⟨Φ.C,0,none⟩) n n] 137))
  (hval:∀i,i<n->Φ.val i=.int .u32 (F (partOf xs i)))
  (hsum:∀(h':qaA) (a':Option Addr) (c':Nat) (ys:List Int),Inv Φ.S h'->zo h' .u8 a' ys->ys.length<=32768->(∀y∈ys,y∈xs)->zb oPP Φ.S g #[.slice a' ys.length c'] h' (fun v h''=>v=.int .u32 (F ys)/\qaB h' h''))
  (hk:b.kind ≠ .early){Q:Frame->List Frame->qaA->Prop}
  (hQ:∀a hh,AtL a (.slice x xs.length c) fb sb bS Φ.Wg n n->(∀y,Φ.S y->hh y=H y)->hh bS=some (.cells (szv n xs.length n) 2) ->
   ∀fr' cs',PH oPP (b.at (a.put (some 44) (.tuple #[])) [.inRegion (xO 12) [],.code (rP 13)]) cs fr' cs'->Q fr' cs' hh) :
  ∀r j,j+r=n->∀a hh,AtL a (.slice x xs.length c) fb sb bS Φ.Wg n j->(∀y,Φ.S y->hh y=H y)->hh bS=some (.cells (szv n xs.length j) 2) ->
   Sp oPP Φ Q r (b.at a [.code Oi,.inLoop Oi,.inBlock 0,.code (.seq (rP 12) (rP 13))]) cs hh:=by
 have inv:∀ {hh:qaA},(∀y,Φ.S y->hh y=H y)->Inv Φ.S hh:=fun hro y hy=>by rw[hro y hy];exact hSd y hy
 have agr:∀ {h' H':qaA},qaB h' H'->Inv Φ.S h'->∀y,Φ.S y->H' y=h' y:=by
  intro h' H' s hi y hy;cases e:h' y with
  | none=>exact absurd e (hi y hy)
  | some o=>exact s y o e
 intro r;induction r with
 | zero=>
  intro j hj a hh A hro hbS;have hjn:j=n:=by omega
  subst hjn;unfold Sp;refine(go5 (c0:=_) A (inv hro)).bind ?_;rintro _ _ H' ⟨rfl,a',f,h',rfl,hsz,hdf,hf,⟨R,f24⟩,hsub,hinv⟩;have A':=AtL.reach hsz hdf hf rfl R;obtain⟨_,_,_,_,_,_,_,rfl⟩:=R;have e24:a'.eval (.tmp 24)=.bool false:=by
   show a'.tmps.getD 24 undef=_;rw[hf 24 (by simp),f24];simp
  refine .seq (.cond (t:=false) e24 ?_);simp only[vK,vV];refine .exit (k':=[.code (.seq (rP 12) (rP 13))]) (by simp[exitTo]) (.seq ?_);rw[zbb];refine .region ?_;rw[ZJ];have hro':∀y,Φ.S y->H' y=H y:=fun y hy=>(agr hsub hinv y hy).trans (hro y hy)
  refine .done (kV.mono (fun fr' cs' hB=>?_) (ZM hty hCW hk A'.s9));exact hQ a' H' A' hro' (hsub _ _ hbS) fr' cs' hB
 | succ r ih=>
  intro j hj a hh A hro hbS;have hjn:j<n:=by omega
  unfold Sp;refine(go5 (c0:=_) A (inv hro)).bind ?_;rintro _ _ H1 ⟨rfl,a1,f1,h1,rfl,hsz1,hdf1,hf1,⟨R1,f24⟩,hsub1,hinv1⟩;have A1:=AtL.reach hsz1 hdf1 hf1 rfl R1;obtain⟨_,_,_,_,_,_,_,rfl⟩:=R1;have e24:a1.eval (.tmp 24)=.bool true:=by
   show a1.tmps.getD 24 undef=_;rw[hf1 24 (by simp),f24];simp only[Value.bool.injEq,vL];omega
  have hro1:∀y,Φ.S y->H1 y=H y:=fun y hy=>(agr hsub1 hinv1 y hy).trans (hro y hy)
  have hbS1:=hsub1 _ _ hbS;refine .seq (.cond (t:=true) e24 ?_);simp only[uL];refine .skip (.seq (.block ?_));refine(FR (rs:=[rP 6,rP 7,rP 8]) (ps:=S7) Fp Fq sBk A1.Ip A1.sz A1.df (inv hro1) (wpB (S:=Φ.S) (h:=H1) (h0:=h0) (n:=n) (j:=j) (fb:=fb) (sb:=sb) (wg:=Φ.Wg) hx hc hl (inv hro1) hn hjn hSb hbS1)).bind ?_;rintro _ _ H2 ⟨rfl,a2,f2,h2,rfl,hsz2,hdf2,hf2,⟨ib,pb,xa,xc,r0,r3,r7,r8,r9,r10,r11,r22,r23,nib,npb,hne,hpi,cib,cpb,cbS,crest⟩,hsub2,hinv2⟩;have A2:AtL a2 (.slice x xs.length c) fb sb bS Φ.Wg n j:=⟨hsz2,hdf2,(hf2 0 (by simp)).trans r0,(hf2 3 (by simp)).trans r3,(hf2 7 (by simp)).trans r7,(hf2 8 (by simp)).trans r8,(hf2 9 (by simp)).trans r9,(hf2 22 (by simp)).trans r22,(hf2 23 (by simp)).trans r23⟩;have t10:=(hf2 10 (by simp)).trans r10;have t11:=(hf2 11 (by simp)).trans r11;have sne:∀y,Φ.S y->y≠ib/\y≠pb/\y≠bS:=fun y hy=>
   ⟨fun e=>by subst e;exact inv hro1 y hy nib,fun e=>by subst e;exact inv hro1 y hy npb,fun e=>by subst e;exact hSb hy⟩
  have hro2:∀y,Φ.S y->H2 y=H y:=fun y hy=>by
   obtain⟨e1,e2,e3⟩:=sne y hy;rw[agr hsub2 hinv2 y hy,crest y e1 e2 e3,hro1 y hy]
  have hib2:=hsub2 _ _ cib;have hpb2:=hsub2 _ _ cpb;have hbS2:=hsub2 _ _ cbS;have bne:bS≠ib/\bS≠pb:=⟨fun e=>(by rw[e,nib]at hbS1;cases hbS1),fun e=>(by rw[e,npb]at hbS1;cases hbS1)⟩;refine .seq ?_;rw[rP9];refine .region ?_;rw[za8];refine .done (zbi hty hCW hk A2.s9 ?_);have A3:=A2.put 41 (.tuple #[]) (.inl rfl);have hs2:41<a2.tmps.size:=by rw[hsz2];omega
  have g3:∀i,i≠41->(a2.put (some 41) (.tuple #[])).tmps.getD i undef=a2.tmps.getD i undef:=fun i hi=>by rw[Jw _ _ _ _ hs2,vM hi]
  have u10:=(g3 10 (by omega)).trans t10;have u11:=(g3 11 (by omega)).trans t11;generalize a2.put (some 41) (.tuple #[])=a3 at A3 u10 u11;refine .BP ?_;rw[zba];refine .region ?_;rw[ZI];refine ZN hk A3.s9 A3.s3 u11 A3.s7 u10 (.done ?_);have A4:=A3.put 42 (.func (.func 103) #[] (qq Φ.Wg fb pb sb ib)) (.inr (.inl rfl));have h42:(a3.put (some 42) (.func (.func 103) #[] (qq Φ.Wg fb pb sb ib))).tmps.getD 42 undef=.func (.func 103) #[] (qq Φ.Wg fb pb sb ib):=by
   rw[Jw _ _ _ _ (by rw[A3.sz];omega),vP rfl]
  generalize a3.put (some 42) (.func (.func 103) #[] (qq Φ.Wg fb pb sb ib))=a4 at A4 h42;have ej:Φ.n-(r+1)=j:=by rw[hΦn];omega
  rw[ej]
  classical
  let hcw:qaA:=fun y=>if Φ.S y\/y=ib\/y=pb then H2 y else none
  let hm:qaA:=fun y=>if y=ib\/y=pb then none else H2 y
  have hcS:∀y,Φ.S y->hcw y=H y:=fun y hy=>by show(if _ then _ else _)=_;rw[vP (.inl hy)];exact hro2 y hy
  have sub0:qaB h0 hcw:=fun y o ho=>by
   obtain⟨e1,e2⟩:=h0S y o ho;rw[hcS y e1];exact e2
  have c1:∀ {y:Nat} {v:Value} {T:TypeId},hcw y=some (.cells #[v] T)->zj hcw ⟨y,0,none⟩=some v:=fun e=>by simp[zj,e]
  refine Yx (ib:=ib) (pb:=pb) (fb:=fb) (sb:=sb) (h1:=hm) (hc:=hcw) hk h42 (fun y o ho=>?_) (fun y o ho=>?_) (fun y hS hy=>?_) (fun y hy=>?_) ?_ ?_
  ·simp only[hm]at ho;split at ho
   ·cases ho
   ·exact ho
  ·simp only[hcw]at ho;split at ho
   ·exact ho
   ·cases ho
  ·simp only[hcw]at hy;split at hy
   ·rename_i hor;show(if _ then _ else _)=_;rw[vP (hor.resolve_left hS)]
   ·exact absurd rfl hy
  ·show(if _ then _ else _)=_;obtain⟨e1,e2,_⟩:=sne y hy;rw[vM (by simp[e1,e2])]
  ·refine za7 hnb hty hCW (by rw[hΦn];exact hjn) (hval j hjn) (fun y hy=>?_) (c1 ((hcS fb hfS).trans hfb)) (c1 (T:=22) ?_) ?_ (c1 (T:=3) ?_) (hsum hcw xa xc _ (fun y hy=>?_) (WG hpi sub0) (by rw[Ah];unfold qD;omega) (fun y hy=>gG (lP (by unfold partOf at hy;exact hy))))
   ·rw[hcS y hy];exact hSd y hy
   ·show(if _ then _ else _)=_;rw[vP (.inr (.inr rfl))];exact hpb2
   ·rw[hΦn];exact c1 ((hcS sb hsS).trans hsb)
   ·show(if _ then _ else _)=_;rw[vP (.inr (.inl rfl))];exact hib2
   ·rw[hcS y hy];exact hSd y hy
  ·refine Sp.pre (.BP (.inBlock ?_));have hrom:∀y,Φ.S y->hm y=H y:=fun y hy=>by
    obtain⟨e1,e2,_⟩:=sne y hy;show(if _ then _ else _)=_;rw[vM (by simp[e1,e2])];exact hro2 y hy
   have hbm:hm bS=some (.cells (szv n xs.length (j+1)) 2):=by
    show(if _ then _ else _)=_;rw[vM (by simp[bne.1,bne.2])];exact hbS2
   refine(zbj A4 (inv hrom) (by omega)).bind ?_;rintro _ _ H5 ⟨rfl,a5,f5,h5,rfl,hsz5,hdf5,hf5,R5,hsub5,hinv5⟩;have A5:=AtL.reach hsz5 hdf5 hf5 rfl R5;obtain⟨_,_,_,_,_,_,_,rfl⟩:=R5;refine .inLoop (.done ?_);exact ih (j+1) (by omega) a5 H5 A5 (fun y hy=>(agr hsub5 hinv5 y hy).trans (hrom y hy)) (hsub5 _ _ hbm)
end
end Go.Proofs.YtopmdepgpabipaaGreatDoor
end
section
namespace Go.Proofs.YtopmdepgpabipaaGreatDoor
open Go Go.Eng Go.Conc Go.RowKit Go.Conc.Lib Go.ConcR.Gen
open Go.ConcR (KK wgBlock WgAt stA smA rd wr DC0 Payload)
theorem S9:Tryz.f82.body=some Oh:=by kernel_rfl
theorem ZP:Tryz.f82.ntmps=47:=by kernel_rfl
theorem zbk:Tryz.f82.results.toList=cP.results:=by kernel_rfl
def SA(F:List Int->Int)(xs:List Int)(n:Nat):Array Value:=((List.range n).map fun i=>Value.int .u32 (F (partOf xs i))).toArray
theorem zbl(v0 v1:Value)(m:Nat):(#[v0,v1]++Array.replicate m undef).getD 0 undef=v0:=by
 rw[pD,lG (by simp)];rfl
theorem zbm(v0 v1:Value)(m:Nat):(#[v0,v1]++Array.replicate m undef).getD 1 undef=v1:=by
 rw[pD,lG (by simp)];rfl
def phP(H:qaA)(wg bC bS n:Nat)(F:List Int->Int)(xs:List Int):Ph:=
 { ty:=182,Wg:=wg,C:=bC,ety:=70,n:=n,S:=⟨fun y=>H y≠none/\y≠wg/\y≠bC/\y≠bS,fun _ _ _ _=>False⟩,val:=fun i=>.int .u32 (F (partOf xs i)) }
theorem Mt{s:Nat->Prop}{h:qaA}(hi:Inv (jz oPP s) h){x:Option Addr}{c:Nat}{xs:List Int}(hx:zo h .u8 x xs)(hc:xs.length<=c)(hl:xs.length<2^40){g:FuncId}{F:List Int->Int}
  (hsum:∀(S':Shared) (h':qaA) (a':Option Addr) (c':Nat) (ys:List Int),Inv S' h'->zo h' .u8 a' ys->ys.length<=32768->(∀y∈ys,y∈xs)->zb oPP S' g #[.slice a' ys.length c'] h' (fun v h''=>v=.int .u32 (F ys)/\qaB h' h'')){n:Nat}(hn:n=(xs.length+32767)/32768) :
  zb oPP (jz oPP s) yX #[.slice x xs.length c,.func (.func g) #[] #[]] h (fun v h'=>∃bC bS,v=.tuple #[.slice (some ⟨bC,0,none⟩) n n,.slice (some ⟨bS,0,none⟩) n n] /\
   h' bC=some (.cells (SA F xs n) 70)/\h' bS=some (.cells (szv n xs.length n) 2)/\qaB h h'):=by
 refine .inl ⟨fun vs w=>Ts Tryz.func82 (by kernel_rfl) (by kernel_rfl) vs w,fun cs=>?_⟩;have hent:Frame.enter oPP yX #[.slice x xs.length c,.func (.func g) #[] #[]] .normal=(Frame.enter oPP yX #[.slice x xs.length c,.func (.func g) #[] #[]] .normal).at
   { tmps:=#[.slice x xs.length c,.func (.func g) #[] #[]]++Array.replicate (Tryz.f82.ntmps-(#[.slice x xs.length c,.func (.func g) #[] #[]]:Array Value).size) undef,defers:=[] } [.code Oh]:=by
  simp[Frame.enter,Frame.at,yX,Tryz.func82,S9]
 have zt:(Frame.enter oPP yX #[.slice x xs.length c,.func (.func g) #[] #[]] .normal).kind=.normal:=rfl;have hfn:(Frame.enter oPP yX #[.slice x xs.length c,.func (.func g) #[] #[]] .normal).fn=yX:=rfl;rw[hent];generalize Frame.enter oPP yX #[.slice x xs.length c,.func (.func g) #[] #[]] .normal=b at zt hfn;rw[Wy,ZP];refine(FR (rs:=[rP 0,rP 1,rP 2,rP 3]) (ps:=[(0,.slice),(1,.fnv)]) (env:=[.slice x xs.length c,.func (.func g) #[] #[]]) Fp Fq sA ⟨zbl _ _ _,rfl,zbm _ _ _,rfl,trivial⟩ (by simp) rfl hi (wpA rfl hi hl hn)).bind ?_;rintro _ cs H ⟨rfl,a,f,h',rfl,hsz,hdf,hf,⟨fb,bC,bS,sb,wg,r0,r3,r6,r7,r8,r9,hnd,hnone,hsubh,cfb,cbC,cbS,csb,cwg⟩,hsub,hinv⟩;have sH:qaB h H:=fun y o ho=>hsub y o (hsubh y o ho)
 have iH:Inv (jz oPP s) H:=fun y hy=>by
  cases e:h y with
  | none=>exact absurd e (hi y hy)
  | some o=>rw[sH y o e];simp
 replace cfb:=hsub _ _ cfb;replace cbC:=hsub _ _ cbC;replace cbS:=hsub _ _ cbS;replace csb:=hsub _ _ csb;replace cwg:=hsub _ _ cwg;simp only[nY,uM,uO,pM,mZ,nK,mO,vW]at hnd;have hne:∀y,h y≠none->y≠wg/\y≠bC/\y≠bS:=fun y hy=>⟨fun e=>hy (hnone y (by simp[e])),fun e=>hy (hnone y (by simp[e])),fun e=>hy (hnone y (by simp[e]))⟩
 have q:∀i,i∈([0,3,6,7,8,9]:List Nat)->a.tmps.getD i undef=f i:=hf;refine .seq ?_;refine(FR (rs:=[rP 4]) (ps:=[(0,.slice),(3,.addr),(7,.addr),(8,.slice),(9,.addr),(6,.int .i64)])
  (env:=[.slice x xs.length c,.pointer (some ⟨fb,0,none⟩),.pointer (some ⟨sb,0,none⟩),.slice (some ⟨bS,0,none⟩) n n,.pointer (some ⟨wg,0,none⟩),.int .i64 n]) (is:=[0,3,7,8,9,22,23]) (R:=RS H (.slice x xs.length c) fb sb bS wg n 0) (c:=.block 0 (.loop Oi)) Fp Fq s4
  ⟨(q 0 (by simp)).trans r0,rfl,(q 3 (by simp)).trans r3,rfl,(q 7 (by simp)).trans r7,rfl,(q 8 (by simp)).trans r8,rfl,(q 9 (by simp)).trans r9,rfl,(q 6 (by simp)).trans r6,rfl,trivial⟩ hsz hdf iH (by
   simp only[t4,Tr.wp]
   exact jV.intro ZH rfl rfl rfl rfl ⟨rfl,rfl,rfl,rfl,rfl,rfl,rfl,rfl⟩)).bind ?_
 rintro _ cs H' ⟨rfl,a1,f1,h1,rfl,hsz1,hdf1,hf1,R1,hsub1,hinv1⟩;have A1:=AtL.reach hsz1 hdf1 hf1 rfl R1;obtain⟨_,_,_,_,_,_,_,rfl⟩:=R1;replace cfb:=hsub1 _ _ cfb;replace cbC:=hsub1 _ _ cbC;replace cbS:=hsub1 _ _ cbS;replace csb:=hsub1 _ _ csb;replace cwg:=hsub1 _ _ cwg;replace sH:qaB h H':=fun y o ho=>hsub1 y o (sH y o ho)
 clear iH hinv1 hsub1 hsub hf q hinv hsubh;refine .block (.loop ?_);have hk:b.kind ≠ .early:=by rw[zt];decide
 let Φ:=phP H' wg bC bS n F xs
 have hS:∀y,Φ.S y<->(H' y≠none/\y≠wg/\y≠bC/\y≠bS):=fun y=>Iff.rfl
 have rest_eq:∀y,Φ.S y->Φ.rest H' y=H' y:=fun y hy=>by
  unfold Ph.rest;rw[vM];rintro(e | e)
  ·exact hy.2.1 e
  ·exact hy.2.2.1 e
 refine .big H' (fun _=>none) (fun fr' cs' h''=>∃a2,AtL a2 (.slice x xs.length c) fb sb bS wg n n/\PH oPP (b.at (a2.put (some 44) (.tuple #[])) [.inRegion (xO 12) [],.code (rP 13)]) cs fr' cs' /\
   h'' bC=some (.cells (SA F xs n) 70)/\h'' bS=some (.cells (szv n xs.length n) 2)/\∀y,Φ.S y->h'' y=H' y) (xK _).symm (fun y hy=>absurd rfl hy) ?_ ?_
 ·refine⟨Φ,yl n #[.int .u32 0],⟨fun _ _ _ _ h=>h,?_,?_,cwg,cbC,by simp[yl,Φ,phP],fun y hy=>?_,fun y hy=>?_⟩,?_⟩
  ·show n<_;omega
  ·show bC≠wg;omega
  ·have e1:=hi y hy;refine⟨?_,hne y e1⟩;cases e:h y with
   | none=>exact absurd e e1
   | some o=>rw[sH y o e];simp
  ·rw[rest_eq y hy];exact hy.1
  ·refine ZO (Φ:=Φ) (H:=H') (h0:=h) (n:=n) (g:=g) (F:=F) rfl (show bC≠wg by omega) (fun _ _ _ _ h=>h) rfl hx hc hl hn (fun y hy=>hy.1) (fun y o ho=>⟨⟨by rw[sH y o ho];simp,hne y (by rw[ho];simp)⟩,sH y o ho⟩)
    (fun hy=>hy.2.2.2 rfl) ⟨by rw[cfb];simp,by omega,by omega,by omega⟩ ⟨by rw[csb];simp,by omega,by omega,by omega⟩ cfb csb (fun i _=>rfl) (fun h' a' c' ys=>hsum Φ.S h' a' c' ys) hk ?_ n 0 (by omega) a1 _ A1 rest_eq ?_
   ·intro a2 hh A2 hro hbS fr' cs' hB;refine⟨a2,A2,hB,?_,?_,fun y hy=>?_⟩
    ·exact yS
    ·exact(yI (show bS≠bC by omega)).trans hbS
    ·exact(yI hy.2.2.1).trans (hro y hy)
   ·unfold Ph.rest;rw[vM (by rintro(e | e);exact absurd (show bS=wg from e) (by omega);exact absurd (show bS=bC from e) (by omega)),cbS,WB]
 ·rintro fr' cs' h2 ⟨a2,A2,hB,e1,e2,e3⟩ _ _;rw[xK];refine hB _ _ _ (.BP ?_);have A3:=A2.put 44 (.tuple #[]) (.inr (.inr rfl));have i2:Inv (jz oPP s) h2:=fun y hy=>by
   have x1:=hi y hy;cases e:h y with
   | none=>exact absurd e x1
   | some o=>
    have x2:=sH y o e;rw[e3 y ⟨by rw[x2];simp,hne y x1⟩,x2];simp
  have s2:qaB h h2:=fun y o ho=>by
   have x2:=sH y o ho;rw[e3 y ⟨by rw[x2];simp,hne y (by rw[ho];simp)⟩];exact x2
  have csb2:h2 sb=some (.cells #[.slice (some ⟨bC,0,none⟩) n n] 137):=by
   rw[e3 sb ⟨by rw[csb];simp,by omega,by omega,by omega⟩];exact csb
  have ha:Ok (jz oPP s) h2 (fun _=>none):=⟨fun b hb=>absurd rfl hb,i2⟩;rw[<-xK h2];refine Tq (cfg:=cP) (f:=yX) (Λ:=yb) (Ks:=[]) Fp Fq zt hfn Tryz.func82 zbk (rP 13) (EB 47 [(7,.addr),(8,.slice)]) tZ [.pointer (some ⟨sb,0,none⟩),.slice (some ⟨bS,0,none⟩) n n] [] _ _ h2 [] sZ Es
   (Rel.of ⟨A3.s7,rfl,A3.s8,rfl,trivial⟩ A3.sz A3.df) ha rfl ?_ ⟨?_,?_⟩
  ·simp only[tZ,Tr.wp,Ex.ev,coerce,zc,ze,zd,zf,SV.den,zy,zq,vA,vB,vD,vE,vI,vH,vW,vV,vK];refine⟨some ⟨bC,0,none⟩,n,n,by simp[zj,Addr.add,csb2],bC,bS,?_,e1,e2,s2⟩;rfl
  ·intro _ _ _ _ _ _ _ h;exact h.elim
  ·intro _ _ _ _ _ _ _ _ h;exact h.elim
end Go.Proofs.YtopmdepgpabipaaGreatDoor
end
namespace Go.Proofs.YtopmdepgpabipaaGreatDoor
open Go Go.Eng Go.IntWalk
section
variable {S:Shared}{h:qaA}
section
theorem Jx(hi:qaC S h)(p q n:Int)(hn:0<=n/\n<=1000000) :
  zb oPP S Ar #[.int .u32 p,.int .u32 q,.int .i64 n] h (fun v h'=>v=.int .u32 (KS p q n)/\h'=h):=by
 refine Hd (vs:=[.int .u32 p,.int .u32 q,.int .i64 n]) ⟨rfl,rfl,rfl,trivial⟩ hi ?_;simp only[Ds,Tr.wp,Ex.ev,coerce,toInt_int,za,jA,z9,arith,Cst.val,SV.den,vA,vB,vL,vW];refine⟨fun c=>?_,fun _=>rfl⟩;simp only[pV,vL]at c;omega
theorem UI(xs:List Int){n j:Nat}(hn:n=(xs.length+32767)/32768)(hj:j<n):xs.take (min ((j+1)*32768) xs.length)=xs.take (min (j*32768) xs.length)++partOf xs j:=by
 have e1:min (j*32768) xs.length=j*32768:=by omega
 have h1:j*32768<=min ((j+1)*32768) xs.length:=by omega
 have e2:min ((j+1)*32768) xs.length=j*32768+qD xs.length j:=(Nat.add_sub_cancel' h1).symm;rw[e1,e2,List.take_add];simp only[partOf]
theorem Yy{xs:List Int}(hb:okB xs)(j:Nat):okB (partOf xs j):=fun x hx=>by
 unfold partOf at hx;have h1:=lP hx;have h2:=gG h1;exact hb x h2
theorem Ch{s:Nat->Prop}(hi:qaC (jz oPP s) h)(c0:Int)(hc0:0<=c0/\c0<4294967296)(a:Option Addr)(c:Nat)(xs:List Int)(hb:okB xs)(hx:zo h .u8 a xs)(hc:xs.length<=c)(hl:xs.length<2^40:=by omega) :
  zb oPP (jz oPP s) kg #[.int .u32 c0,.slice a xs.length c] h (fun v h'=>v=.int .u32 (yQ c0 xs)/\qaB h h'):=by
 refine FC (vs:=[.int .u32 c0,.slice a xs.length c]) ⟨rfl,rfl,trivial⟩ hi ?_;simp only[BY,Tr.wp,z4,Ex.ev,coerce,toInt_int,za,zc,ze,zd,zf,zM,z9,arith,Cst.val,SV.den,zn,zL,zz,zk,zi,zy,zV,zq,vF,vG,vA,vB,vC,vQ,vL,vR,vD,vE,vI,vH,vJ,uC,uG,uD,vW,uL,vV,vK];refine⟨fun hle=>?_,fun hgt=>?_⟩
 ·refine(DD hi c0 a c xs hx (by omega)).mono ?_;rintro _ h' ⟨rfl,rfl⟩;exact⟨_,rfl,rfl,fun _ _ h=>h⟩
 ·refine(DD hi c0 none 0 [] (fun i x hx=>by simp at hx) (by simp)).mono ?_;rintro _ h' ⟨rfl,rfl⟩;refine⟨_,rfl,?_⟩;obtain⟨n,hn⟩:∃n,n=(xs.length+32767)/32768:=⟨_,rfl⟩;refine(Mt (g:=83) (F:=yQ 1) hi hx hc hl (fun S' h' a' c' ys hi' hx' hl' _=>U7 hi' a' c' ys hx' (by omega)) hn).mono ?_;rintro _ h1 ⟨bC,bS,rfl,e1,e2,s1⟩;have i1:qaC (jz oPP s) h1:=fun y hy=>by
   cases e:h' y with
   | none=>exact absurd e (hi y hy)
   | some o=>rw[s1 y o e];simp
  have ok0:=Yd hc0;refine⟨_,_,_,_,_,_,rfl,fun us h2=>∃j:Nat,us=[.int .u32 (yQ c0 (xs.take (min (j*32768) xs.length))),.int .i64 j]/\j<=n/\h2=h1,fun us _=>n-(toInt (us.getD 1 undef)).toNat,⟨0,by simp,by omega,rfl⟩,?_⟩;rintro x y h2 ⟨j,hx1,hj,rfl⟩;simp only[uJ,uP,pF,vW]at hx1;obtain⟨rfl,rfl⟩:=hx1;refine⟨fun hlt=>?_,fun hge=>?_⟩
  ·have hjn:j<n:=by omega
   have w2:IntKind.i64.wrap ((j:Int)+1)=((j+1:Nat):Int):=zr;have c1:zj h2 (((((some (⟨bC,0,none⟩:Addr)).getD default).add ((j:Int).toNat*1))).add 0)=some (.int .u32 (yQ 1 (partOf xs j))):=by
    simp[zu,zj,e1,SA,hjn]
   have c2:zj h2 (((((some (⟨bS,0,none⟩:Addr)).getD default).add ((j:Int).toNat*1))).add 0)=some (.int .i64 (qD xs.length j)):=by
    simp[zu,zj,e2,szv,hjn]
   refine⟨rfl,by omega,by omega,_,c1,rfl,by omega,by omega,_,c2,?_⟩;have hpl:qD xs.length j<=1000000:=by unfold qD;omega
   refine(Jx i1 _ _ _ ⟨by omega,by omega⟩).mono ?_;rintro _ h3 ⟨rfl,rfl⟩;refine⟨_,rfl,⟨j+1,?_,by omega,rfl⟩,?_⟩
   ·have okt:okB (xs.take (min (j*32768) xs.length)):=fun z hz=>hb z (lP hz)
    have J:=Sz (Mm ok0 okt) (Yy hb j) (by rw[Ah];exact hpl);rw[Ah]at J;rw[w2,UI xs hn hjn];simp only[uJ,uP,pF,vW];unfold yQ at J ⊢;rw[J,List.foldl_append]
   ·simp only[w2,vB,vA,toInt_int,vN];omega
  ·obtain rfl:j=n:=by omega
   refine⟨?_,s1⟩;rw[show min (j*32768) xs.length=xs.length by omega,mJ]
end
variable {bm c:Nat}{a:Option Addr}{bs:List Int}{T:TypeId}{x:Int}{h0:qaA}
section
section
structure ErrZ(h:qaA):Prop where
 el:ErrL h
 e4:zj h ⟨2,0,none⟩=some (.int .i64 4)
 e5:zj h ⟨1,0,none⟩=some (.int .i64 5)
theorem ErrZ.sub{h':qaA}(H:ErrZ h)(s:qaB h h'):ErrZ h':=⟨H.el.sub s,xF s H.e4,xF s H.e5⟩
theorem ZQ{x b:Int}(hx:0<=x/\x<16777216)(hb:0<=b/\b<256):Go.bits .or .u32 (x*256) b=x*256+b:=by
 obtain⟨n,rfl⟩:=vU hx.1;obtain⟨m,rfl⟩:=vU hb.1;have e:((n:Int)*256)=((n*256:Nat):Int):=by omega
 have h1:(BitVec.ofInt 32 ((n*256:Nat):Int)).toNat=n*256:=by rw[lM,hH];exact nO (by omega)
 have h2:(BitVec.ofInt 32 (m:Int)).toNat=m:=by rw[lM,hH];exact nO (by omega)
 have e2:=Nat.two_pow_add_eq_or_of_lt (i:=8) (b:=m) (by omega) n;rw[e];show IntKind.u32.wrap ((BitVec.ofInt 32 ((n*256:Nat):Int) ||| BitVec.ofInt 32 (m:Int)).toNat:Int)=_;have e3:n*256=2^8*n:=by omega
 rw[BitVec.toNat_or,h1,h2,e3,<-e2,pT];omega
section
variable {m:MC}
theorem SB(hi:qaC S h0)(G:Errs h0)(hx:zo h0 .u8 a bs)(L:bs.length<=1048576)(p:Nat)(hp:p<=8*bs.length)(n:Nat)(hn:n<=4)(M:MAt h0 h bm a c bs p m T) :
  zb oPP S j1 #[.pointer (some ⟨bm,0,none⟩),.int .i64 n] h (fun v h'=>∃p':Nat,p'<=8*bs.length /\
   v=.tuple #[.int .u32 (if(hig bs n ⟨p,0⟩ 0).1.k=0 then(hig bs n ⟨p,0⟩ 0).2 else 0),yh (hig bs n ⟨p,0⟩ 0).1.k]/\((hig bs n ⟨p,0⟩ 0).1.k=0->(hig bs n ⟨p,0⟩ 0).1=⟨p',0⟩)/\h'=upd h bm (zX a c bs p' m T)):=by
 refine Gy (vs:=[.pointer (some ⟨bm,0,none⟩),.int .i64 n]) ⟨rfl,rfl,trivial⟩ (hi.sub M.sb) ?_;simp only[CC,Tr.wp,z4,Ex.ev,coerce,toInt_int,za,zf,zx,xb,z9,arith,Cst.val,SV.den,zn,zL,zz,zk,zi,zy,zV,vF,vG,vA,vB,vC,vL,vR,vD,vE,vI,vH,vJ,uC,uG,uD,uB,uL,vV,vK,zu];refine⟨fun us h'=>∃(j p':Nat) (x:Int),us=[.int .u32 x,.int .i64 j]/\j<=n/\p'<=8*bs.length/\0<=x/\x<256^j/\hig bs (n-j) ⟨p',0⟩ x=hig bs n ⟨p,0⟩ 0/\h'=upd h bm (zX a c bs p' m T),fun us _=>n-(toInt (us.getD 1 undef)).toNat,
  ⟨0,p,0,rfl,by omega,hp,by omega,by simp,by simp,(qR M.hb).symm⟩,?_⟩
 rintro x y h' ⟨j,p',x',hx1,hj,hp',g0,g1,e,rfl⟩;simp only[uJ,uP,pF,vW]at hx1;obtain⟨rfl,rfl⟩:=hx1;refine⟨fun hlt=>?_,fun hge=>?_⟩
 ·have hjn:j<n:=by omega
  refine⟨by simp,?_⟩;refine(Jm hi G hx L p' hp' 8 (by omega) (M.keep rfl)).mono ?_;rintro _ h2 ⟨rfl,rfl⟩;rw[xw];have nm:=yp (bs:=bs) (n:=8) (r:=⟨(p':Int),0⟩);have e8:(2:Int)^8=256:=by decide
  rw[e8]at nm;have est:hig bs n ⟨p,0⟩ 0=hig bs (n-(j+1)) (tk bs 8 ⟨p',0⟩).1 (256*x+(tk bs 8 ⟨p',0⟩).2):=by
   rw[<-e,show n-j=n-(j+1)+1 by omega];rfl
  have okt:okR bs (tk bs 8 ⟨(p':Int),0⟩).1:=y7 fun _=>⟨by simp only;omega,by simp only;omega⟩
  have hpos:∃q:Nat,q<=8*bs.length/\(tk bs 8 ⟨(p':Int),0⟩).1.i=q:=by
   unfold tk;rw[vP rfl];split
   ·exact⟨p',hp',rfl⟩
   ·rename_i h;simp only at h;exact⟨p'+8,by omega,by simp only;omega⟩
  obtain⟨q,hq,eq⟩:=hpos;refine⟨_,yh (tk bs 8 ⟨p',0⟩).1.k,zg,by rw[zg],fun hz=>?_,fun hz=>?_⟩
  ·rw[zg,zP]at hz;have hk:(tk bs 8 ⟨(p':Int),0⟩).1.k≠0:=by simpa using hz
   have eb:(hig bs n ⟨p,0⟩ 0).1=(tk bs 8 ⟨p',0⟩).1:=by rw[est,BE hk]
   rw[eb];exact⟨q,hq,by rw[vM hk,zg],fun h=>absurd h hk,by rw[eq]⟩
  ·rw[zg,zP]at hz;have hk:(tk bs 8 ⟨(p':Int),0⟩).1.k=0:=by simpa using hz
   have hp3:(256:Int)^j<=256^3:=by
    have:((256^j:Nat):Int)<=((256^3:Nat):Int):=by exact_mod_cast uW (by decide) (show j<=3 by omega)
    simpa using this
   have e3:(256:Int)^3=16777216:=by decide
   have ws:IntKind.u32.wrap (x*2^min (Int.toNat 8) IntKind.u32.bits)=x*256:=by
    rw[show(2:Int)^min (Int.toNat 8) IntKind.u32.bits=256 from rfl,pT];omega
   have wb:IntKind.u32.wrap (tk bs 8 ⟨(p':Int),0⟩).2=(tk bs 8 ⟨(p':Int),0⟩).2:=by rw[pT];omega
   have w2:IntKind.i64.wrap ((j:Int)+1)=((j+1:Nat):Int):=zr;rw[ws,wb,ZQ (by omega) nm,w2,eq];have er:(tk bs 8 ⟨(p':Int),0⟩).1=⟨(q:Int),0⟩:=by
    generalize (tk bs 8 ⟨(p':Int),0⟩).1=X at hk eq;obtain⟨i,kk⟩:=X;simp only at hk eq;rw[hk,eq]
   rw[er,lS 256 x]at est;refine⟨⟨j+1,q,_,rfl,by omega,hq,by omega,by rw[mH];omega,est.symm,rfl⟩,by simp only[vB,vA,toInt_int];omega⟩
 ·obtain rfl:j=n:=by omega
  rw[mB]at e;have eh:hig bs j ⟨p,0⟩ 0=(⟨p',0⟩,x):=e.symm;rw[eh];exact⟨p',hp',by simp[yh],fun _=>rfl,rfl⟩
end
end
section
variable {k:KC}{F:Nat}{Fin:Rd × List Int}
theorem WH(hi:qaC S h0)(G:ErrL h0)(hro:k.room<=200000)(hdl:k.dl<=40000)(hsz:1<=k.sz/\k.sz<=32768)(hx:zo h0 .u8 k.a k.bs)(L:k.bs.length<=1048576)(hFl:8*k.bs.length+1<=F){n0:Nat}(H0:Bh h0 k F Fin (fnV k yq) h n0) :
  zb oPP S qe #[.pointer (some ⟨k.bm,0,none⟩)] h (Pt h0 k Fin):=by
 refine E6 (vs:=[.pointer (some ⟨k.bm,0,none⟩)]) ⟨rfl,trivial⟩ (hi.sub (by obtain⟨_,_,hb,_,_,_,s,H,_⟩:=H0;exact s.trans H.sb)) ?_;simp only[AX,Tr.wp,z4,Ex.ev,coerce,za,zf,zx,xb,SV.den,zn,zL,zz,zk,zi,zy,vF,vG,vA,vB,vD,vE,vI,vH,vJ,uB,vV,vK,zu];refine⟨by simp,by simp,?_⟩;refine zb.mono (Xc hi G hro hdl hsz hx L hFl H0) ?_;rintro _ h3 ⟨hb,last,l,d,rfl,sb,H3,ok3⟩;exact⟨_,zg,by rw[zg],hb,last,l,d,by rw[zg],sb,H3,ok3⟩
end
section
variable {s:Nat -> Prop}
def PF(h0:qaA)(bm:Nat)(a:Option Addr)(c:Nat)(bs:List Int)(T:TypeId)(x:qo)(v:Value)(h':qaA):Prop:=
 ∃(K:Int) (p:Nat) (m:MC) (xs:List Int) (ao:Option Addr) (co:Nat),v=yh K/\h' bm=some (zX a c bs p m T)/\m.out=.slice ao xs.length co/\Part .u8 h' (.slice ao xs.length co) xs/\qaD h0 (.slice ao xs.length co)/\qaB h0 h'/\p<=8*bs.length /\
  (K≠0->x=(K,xs,0,()))/\(K=0->x=(1,xs,((p/8:Nat):Int),()))
theorem Xk{h1:qaA}(hi:qaC (jz oPP s) h)(G:ErrZ h)(hx:zo h .u8 a bs)(L:bs.length<=65536)(p:Nat)(hp:p<=8*bs.length)(hb:h bm=none)(sb:qaB h h1)
  (hm:h1 bm=some (zX a c bs p ⟨.pointer none,.slice none 0 0,100000,false,.pointer none,.pointer none⟩ T))(hx0:0<=x)(hx1:x<65536)(hx7:x/4096<=7){au:Option Addr}{cu:Nat}{us:List Int}(hu:zo h1 .u8 au us)(hcu:us.length<=cu)(hul:us.length<=1048576)(hub:okB us)(Ks:List Kt)(e1 e3:Value) :
  ziE.wp oPP (jz oPP s) yb (PF h bm a c bs T (zA bs (zS x) us ⟨p,0⟩)) [.pointer (some ⟨bm,0,none⟩),e1,.int .u32 x,e3,.slice au us.length cu] h1 Ks:=by
 simp only[ziE,Tr.wp,z4,Ex.ev,coerce,toInt_int,za,zc,ze,zd,zf,zx,xb,z9,arith,Cst.val,SV.den,zn,zL,zz,zk,zi,zy,zq,yk,vF,vG,vA,vB,vL,vD,vE,vI,vH,vJ,uC,uG,uD,uB,vW,uL,vV,vK,zu];have eS:zS x=2^(x/4096+8).toNat:=by unfold zS;rw[vP hx7]
 have hS1:1<=zS x:=by rw[eS];exact Nat.one_le_two_pow
 have hS2:=Xe hx0;have ws:Int.fdiv x (2^min (Int.toNat 8) IntKind.u32.bits)=x/256:=by rw[show(2:Int)^min (Int.toNat 8) IntKind.u32.bits=256 from rfl,lH _ (by omega)]
 have wq:IntKind.u32.wrap ((x/256).tdiv 16)=x/4096:=by rw[uQ (by omega),pT];omega
 have wa:IntKind.u32.wrap (x/4096+8)=x/4096+8:=by rw[pT];omega
 have wz:IntKind.i64.wrap (1*2^min (x/4096+8).toNat IntKind.i64.bits)=((zS x:Nat):Int):=by
  have:IntKind.i64.bits=64:=rfl;rw[eS,Int.one_mul,show min (x/4096+8).toNat IntKind.i64.bits=(x/4096+8).toNat by rw[this];omega,yC];exact i64_in _ (by omega)
 rw[ws,wq,wa,wz];refine⟨by omega,?_⟩;refine zb.mono (Pf (sz:=zS x) (hi.sub sb) au cu us hcu (by omega) hu hS1 hS2) ?_;rintro _ h2 ⟨bw,TW,rfl,RW⟩;obtain⟨dd,at_,nn,hbw,R,s2,hnw⟩:=RW;have ne:bm≠bw:=fun e=>by rw[<-e,hm]at hnw;cases hnw
 have hm2:=s2 _ _ hm;have hsb:¬(jz oPP s) bm:=fun hs=>hi bm hs hb
 obtain⟨_,_,g2,_⟩:=yO hm2;refine⟨_,rfl,by simp,kS hm2 hsb g2,?_⟩;obtain⟨k,hk⟩:∃k:KC,k=⟨a,c,bs,(zB (zS x) us).length,100000,zS x,T,TW,bm,bw,[]⟩:=⟨_,rfl⟩;obtain⟨h3,hh3⟩:∃h3,h3=upd h2 bm (zX a c bs p ⟨.pointer (some ⟨bw,0,none⟩),.slice none 0 0,100000,false,.pointer none,.pointer none⟩ T):=⟨_,rfl⟩;have es:zQ h2 ⟨bm,2,none⟩ (.pointer (some ⟨bw,0,none⟩))=h3:=by rw[hh3,hset_cells' hm2];rfl
 rw[es];have sb2:=sb.trans s2;have s3:qaB h h3:=by rw[hh3];exact xJ sb2 hb
 have hnw0:h bw=none:=ya sb hnw;obtain⟨f1,f2,f3⟩:=Pw (bs:=bs) (us:=us) (r:=⟨(p:Int),0⟩) hS2;have okr:okR bs ⟨(p:Int),0⟩:=fun _=>⟨by simp only;omega,by simp only;omega⟩
 have H0:IM h h3 k ⟨(p:Int),0⟩ (zB (zS x) us) false (.pointer none) (.pointer none):=by
  subst hk;have ed:(zB (zS x) us).drop (zB (zS x) us).length=[]:=List.drop_length;refine⟨⟨p,none,0,hp,fun _=>rfl,?_,?_,?_⟩,⟨dd,at_,nn,?_,by rw[F7];exact R,s3,hnw0⟩,hb,ne,s3,⟨uI _,lT _ _,by simp⟩⟩
  ·rw[hh3,upd_same];simp only[xk,KC.otl,ed,mB];rfl
  ·simp only[KC.otl,ed,vJ];exact Part.nil
  ·intro z hz;simp only[KC.otl,ed]at hz;cases hz
  ·rw[hh3,upd_ne (pN ne)];exact hbw
 have RA:Bh h k (8*bs.length+1) (zE bs (zS x) us ⟨(p:Int),0⟩) (fnV k yq) h3 (mz k ⟨(p:Int),0⟩+0):=by
  refine⟨⟨(p:Int),0⟩,zB (zS x) us,h,false,_,_,fun _ _ e=>e,H0,rfl,by subst hk;exact okr,8*bs.length+1,by subst hk;simp only;omega,.inl ⟨rfl,rfl,?_⟩⟩;subst hk;rfl
 have K:=WH (S:=jz oPP s) hi G.el (by subst hk;simp) (by subst hk;simp only;omega) (by subst hk;simp only;omega) (by subst hk;exact hx) (by subst hk;simp only;omega) (by subst hk;exact uI _) RA;have ebm:k.bm=bm:=by rw[hk]
 rw[ebm]at K;refine zb.mono K ?_;clear K;rintro _ h4 ⟨hb4,last,l,d,rfl,sb4,H4,ok4⟩;have ebs:k.bs=bs:=by rw[hk]
 have ekc:∀p4 m4,zX k.a k.c k.bs p4 m4 k.T=zX a c bs p4 m4 T:=fun p4 m4=>by rw[hk]
 have eotl:k.otl (zE bs (zS x) us ⟨(p:Int),0⟩).2=zO bs (zS x) us ⟨(p:Int),0⟩:=by rw[hk];rfl
 have hO:(zO bs (zS x) us ⟨(p:Int),0⟩).length<=100000:=by unfold zO;rw[pL];omega
 have hOb:=Zw (bs:=bs) (sz:=zS x) (r:=⟨(p:Int),0⟩) hub;generalize hE:zE bs (zS x) us ⟨(p:Int),0⟩=X at H4 ok4 eotl;obtain⟨xs,hxs⟩:∃xs,xs=zO bs (zS x) us ⟨(p:Int),0⟩:=⟨_,rfl⟩;rw[<-hxs]at eotl hO hOb;refine⟨_,zg,by rw[zg],fun hz=>?_,fun hz=>?_⟩
 ·rw[zg,zP]at hz;have hk1:X.1.k≠0:=by simpa using hz
  obtain⟨p4,ao,co,hp4,hr4,hbm4,P4,N4⟩:=H4.mt;rw[ebm,ekc]at hbm4;rw[eotl]at hbm4 P4 N4;have eA:=Yj (bs:=bs) (us:=us) (sz:=zS x) (r:=⟨(p:Int),0⟩) (by rw[hE];exact hk1);rw[hE,<-hxs]at eA;rw[zg];exact⟨X.1.k,p4,_,xs,ao,co,rfl,hbm4,rfl,P4,fun z hz=>ya sb4 (IM.xH N4 hz).2.2,sb4.trans H4.sb,by rw[ebs]at hp4;exact hp4,fun _=>eA,fun h=>absurd h hk1⟩
 ·rw[zg,zP]at hz;have hk1:X.1.k=0:=by simpa using hz
  have hib:=hi.sub sb4;have H4':=H4;rw[show h4=h4 from rfl]at H4';have KA:=Rj hib (by rw[ebs];omega) H4 hk1;rw[ebm]at KA;refine⟨by simp,zb.mono KA ?_⟩;rintro _ h5 ⟨rfl,H5⟩;have oka:okR bs (alg X.1):=Bg (by rw[ebs]at ok4;exact ok4);obtain⟨p5,ao,co,hp5,hr5,hbm5,P5,N5⟩:=H5.mt;rw[ebm,ekc]at hbm5;rw[eotl]at hbm5 P5 N5;rw[ebs]at hp5;have hka:(alg X.1).k=0:=by unfold alg;rw[vP hk1]
  have ea:alg X.1=⟨(p5:Int),0⟩:=by
   have:=hr5 hka;generalize alg X.1=Y at hka this;obtain⟨i,kk⟩:=Y;simp only at hka this;rw[hka,this]
  have hnb4:hb4 bm=none:=ebm▸H5.nm;have KB:=SB hib ((G.sub sb4).el.es) (hx.sub sb4) (by omega) p5 hp5 4 (by omega) ⟨hbm5,hnb4,H5.sb⟩;refine⟨rfl,zb.mono KB ?_⟩;rintro _ h6 ⟨p6,hp6,rfl,hr6,rfl⟩;have eT:hig bs 4 ⟨(p5:Int),0⟩ 0=zT bs (zS x) us ⟨(p:Int),0⟩:=by unfold zT;rw[hE,ea]
  rw[eT]at hr6 ⊢;have s56:qaB h (upd h5 bm (zX a c bs p6 (xk k X.2 (.slice ao xs.length co) last l d) T)):=xJ (sb4.trans H5.sb) hb;have hm6:upd h5 bm (zX a c bs p6 (xk k X.2 (.slice ao xs.length co) last l d) T) bm=some (zX a c bs p6 (xk k X.2 (.slice ao xs.length co) last l d) T):=upd_same;have P6:Part .u8 (upd h5 bm (zX a c bs p6 (xk k X.2 (.slice ao xs.length co) last l d) T)) (.slice ao xs.length co) xs:=P5.keep fun z hz=>upd_ne (ebm▸(IM.xH N5 hz).1)
  have N6:qaD h (.slice ao xs.length co):=fun z hz=>ya sb4 (IM.xH N5 hz).2.2
  generalize upd h5 bm (zX a c bs p6 (xk k X.2 (.slice ao xs.length co) last l d) T)=h6 at s56 hm6 P6;refine⟨_,_,zg,by rw[zg],fun hz=>?_,fun hz=>?_⟩
  ·rw[zg,zP]at hz;have hkT:(zT bs (zS x) us ⟨(p:Int),0⟩).1.k≠0:=by simpa using hz
   have eA:=Yk (bs:=bs) (us:=us) (sz:=zS x) (r:=⟨(p:Int),0⟩) hkT;rw[<-hxs]at eA;rw[zg];exact⟨_,p6,_,xs,ao,co,rfl,hm6,rfl,P6,N6,s56,hp6,fun _=>eA,fun h=>absurd h hkT⟩
  ·rw[zg,zP]at hz;have hkT:(zT bs (zS x) us ⟨(p:Int),0⟩).1.k=0:=by simpa using hz
   obtain⟨_,_,_,u3,_⟩:=yO hm6;obtain⟨_,_,eo,hco,go⟩:=P6.ints;cases eo
   refine⟨by simp,_,_,_,u3,?_⟩;refine zb.mono (Ch (hi.sub s56) 1 ⟨by omega,by omega⟩ ao co xs hOb go hco) ?_;rintro _ h7 ⟨rfl,s7⟩;rw[vP hkT];refine⟨_,rfl,fun hne=>?_,fun heq=>?_⟩
   ·have hne:(zT bs (zS x) us ⟨(p:Int),0⟩).2≠yQ 1 xs:=by simpa using hne
    have eA:=Zx (bs:=bs) (us:=us) (sz:=zS x) (r:=⟨(p:Int),0⟩) hkT (by rw[<-hxs];exact hne);rw[<-hxs]at eA;exact⟨4,(G.sub (s56.trans s7)).e4,4,p6,_,xs,ao,co,rfl,s7 _ _ hm6,rfl,P6.sub s7,N6,s56.trans s7,hp6,fun _=>eA,fun h=>by cases h⟩
   ·have heq:(zT bs (zS x) us ⟨(p:Int),0⟩).2=yQ 1 xs:=by simpa using heq
    have eA:=Yn (bs:=bs) (us:=us) (sz:=zS x) (r:=⟨(p:Int),0⟩) hkT (by rw[<-hxs];exact heq);rw[<-hxs,hr6 hkT]at eA;exact⟨0,p6,_,xs,ao,co,rfl,s7 _ _ hm6,rfl,P6.sub s7,N6,s56.trans s7,hp6,fun h=>absurd rfl h,fun _=>by rw[eA];rfl⟩
end
end
end
end Go.Proofs.YtopmdepgpabipaaGreatDoor
section
namespace Go.Proofs.YtopmdepgpabipaaGreatDoor
open Go Go.Eng Go.ChangeShapes Go.WideShapes Go.ChangeAt Go.RowKit Go.Conc
theorem zaB:oPP.globalNamed "loop.example/s02972/impl.errSum" = some 2:=by kernel_rfl
theorem ZR:oPP.globalNamed "loop.example/s02972/impl.errDict" = some 1:=by kernel_rfl
theorem ZS:(oPP.globals[(2:Nat)]?).map (·.type)=some tCl:=by kernel_rfl
theorem Yz:(oPP.globals[(1:Nat)]?).map (·.type)=some tCl:=by kernel_rfl
noncomputable def Ld(os:Os):World:=
 let w0:=Ui os
 let put (g:Nat) (v:Value) (hp:Array Obj):Array Obj:=hp.modify g fun
   | .cells _ t frozen=>.cells #[v] t frozen
   | o=>o
 { w0 with heap:=put 2 (.int .i64 4) (put 1 (.int .i64 5) w0.heap) }
section
variable {H:Type}{enc:TypeId × Value -> H}
theorem Fs{a:Assume}{C:Checked}{os:Os}{f:FuncId}{fn:Func}{s:ChangeSpec}{conds:List PathCond}{apart fresh handsOn again:Bool}{X:World->Array Value->Prop}
  (hX:∀(w w':World) (args:Array Value),w.heap=w'.heap->X w args->X w' args)
  (own:ownKnob C.prog.godebug=none)(started:os.Started)(hfn:C.prog.funcs[f]? = some fn)
  (witness:∃(w:World) (tape:Tape) (i:Input),w.os=os/\(w.forCall tape i).Shaped C.prog/\i.vars=[]/\Input.okWide C.prog (w.forCall tape i) .any w.heap.size f i /\
   ((s.pre enc C.prog fn conds apart (w.forCall tape i).memory i.args/\X (w.forCall tape i).memory i.args)/\sizedMet enc C.prog fn (OpenSpec.ofChange s) apart (w.forCall tape i).memory i.args)/\a.holds C.prog (lone (Frame.enter C.prog f i.args .normal) [] (w.forCall tape i)))
  (runs:∀(W:World) (base:Nat) (args:Array Value) (ds gs:List (DataW H)) (before:List MemPlace),
   (∀(j:Nat) t v,fn.params[j]? = some t->args[j]? = some v->Value.okWide C.prog W .any base t v) ->
   DataW.Whole enc C.prog fn.params.toList s.vars apart W args.toList ds gs before ->
   conds.all (PathCond.test C.prog ⟨fn.params.toList,ds,s.plain.varTypes C.prog,gs⟩)=true ->
   (DataW.weightsEach C.prog (fn.params.toList++s.plain.varTypes C.prog) (ds++gs)).all (· <= reachBytes)=true->X W args ->
   a.holds C.prog (lone (Frame.enter C.prog f args .normal) [] W) ->
   ∃M last o w' t',runNT C.prog (M+1) (solo (G (Frame.enter C.prog f args .normal) []) W) #[]=(.ended o w',t')/\runN C.prog M (solo (G (Frame.enter C.prog f args .normal) []) W)=.next last /\
    step C.prog last=.ended o w'/\Conc.Good C.prog (fun v W'=>s.post enc C.prog fn apart fresh handsOn again W args v W') last o w' t') :
  ReturnsInLeavingWide a C os f .any (fun w args=>(s.pre enc C.prog fn conds apart w args/\X w args)/\sizedMet enc C.prog fn (OpenSpec.ofChange s) apart w args) (s.post enc C.prog fn apart fresh handsOn again):=by
 refine returnsInLeavingWide_of_good own started witness ?_;intro w tape i _ _ _ hok hpre hholds;obtain⟨_,_,_,fn',hfn',_,_,_,_,hval⟩:=hok;have e:fn'=fn:=pQ (hfn'.symm.trans hfn);subst e;obtain⟨⟨⟨ds,gs,before,hw,hc⟩,hx⟩,hz⟩:=hpre;have hw':=DataW.Whole.of_heap (w':=w.forCall tape i) (by rfl) hw;obtain⟨M,last,o,w',t',h1,h2,h3,h4⟩:=runs (w.forCall tape i) w.heap.size i.args ds gs before hval hw' hc (hz.weights hw) (hX _ _ _ (by rfl) hx) hholds;exact⟨M,last,o,w',t',h1,h2,h3,h4.mono fun v hp=>ChangeSpec.post_blind hp⟩
end
theorem Lg(Lk:Looks){p:Pinned}{s:OpenSpec}{c:OpenClaim}(kinds:List LaidKind)(tests:Bool)(har:Bool×String)(lk:Bool)
  (hc:c.holds p s)(hw:c.wfByText s=true)(htie:c.laidByTextAt Lk p kinds tests)
  (hst:c.start=.entering)(hnb:c.noBlocks=false/\c.again=false)(hm:p.checked.prog.mainIs=some (har.1,har.2.toList))(hn:(!har.1&&har.2.isEmpty && !lk)=false)
  (hl:∀f fn,p.checked.prog.funcNamed c.func=some f->p.checked.prog.funcs[f]? = some fn->lk=p.checked.prog.looks []/\∀(j:Nat) t,fn.params[j]? = some t->p.checked.prog.wantsStandIn t=false)
  (hg:true=c.goesBy p.checked.prog) :
  Claim7.holds p (.plain s) { stood:={ row:=c,standIns:=[],harness:=har,looks:=lk },kinds:=[],alts:=[],laidByText:=true,laidKinds:=kinds,laidTests:=tests,laidLooks:=Lk,goes:=true }:=by
 have h6:∀r:OpenClaim,Claim7.isSixth { stood:={ row:=r,standIns:=[],harness:=har,looks:=lk },kinds:=[] }=false:=fun r=>by simpa[Claim7.isSixth]using hn
 refine⟨?_,fun D hD=>(by cases hD),htie,(fun h=>by cases h),hg⟩;exact Claim7.tied_new_at Lk kinds tests (Claim7.new_of_sixth hc har lk hst hnb hm (h6 c) hl) hw
end Go.Proofs.YtopmdepgpabipaaGreatDoor
end
namespace Go.Proofs.YtopmdepgpabipaaGreatDoor
open Go Go.Eng Go.IntWalk
section
variable {A B C al all bs d:List Int}{F L dl i n p room s sz tot:Nat}{cd cl cs:List (Nat×Nat)}{w:Bool}{x:Int}{r:Rd}
section
theorem WI(h:i/8<A.length):xu (A++C) i=xu A i:=by
 unfold xu;rw[pI,pI,vZ h]
theorem Ek:∀ {n:Nat},p+n<=8*A.length->yg (A++C) p n=yg A p n
 | 0,_=>rfl
 | n+1,h=>by rw[yg,yg,Ek (n:=n) (by omega),WI (by omega)]
theorem Lh{p a:Nat}:∀ {d:Nat},yg B p (a+d)=yg B p a+2^a*yg B (p+a) d
 | 0=>by simp[yg]
 | d+1=>by
  rw[<-lV,yg,Lh (d:=d),yg,Int.mul_add,Int.pow_add,lV,Int.add_assoc];congr 2
  ac_rfl
theorem UJ{p a d:Nat}:(yg B p (a+d)).toNat%2^a=(yg B p a).toNat:=by
 have h1:=qS (xs:=B) (a:=p) (n:=a);have h2:=qS (xs:=B) (a:=p) (n:=a+d);have h3:yg B p (a+d)%2^a=yg B p a:=by
  rw[Lh,Int.add_mul_emod_self_left];exact Int.emod_eq_of_lt h1.1 h1.2
 have h4:(((yg B p (a+d)).toNat%2^a:Nat):Int)=((yg B p a).toNat:Int):=by
  push_cast
  rw[Int.toNat_of_nonneg h2.1,Int.toNat_of_nonneg h1.1];exact h3
 exact_mod_cast h4
def Beh(L:Nat)(x y:Rd):Prop:=x.k=2/\(y.k=0->8*(L:Int)<y.i)
theorem Beh.ne{x y:Rd}(H:Beh L x y):x.k≠0:=by rw[H.1];decide
theorem Beh.le{x y z:Rd}(H:Beh L x y)(h:le2 y z):Beh L x z:=⟨H.1,fun hz=>by
 obtain⟨h1,h2⟩:=h hz
 have:=H.2 h1
 omega⟩
theorem Beh.eq{x x' y:Rd}(H:Beh L x y)(h:x'=x):Beh L x' y:=h▸H
section
variable {ex : List Int}
theorem j5(ok:okR bs r):tk bs n r=tk (bs++ex) n r\/Beh bs.length (tk bs n r).1 (tk (bs++ex) n r).1:=by
 unfold tk;by_cases h0:r.k=0
 ·rw[vP h0,vP h0];have ho:=ok h0;by_cases h1:r.i+n>8*(bs.length:Int)
  ·rw[vP h1];split
   ·exact .inl rfl
   ·exact .inr ⟨rfl,fun _=>h1⟩
  ·rw[vM h1,vM (by rw[vY];omega),Ek (by omega)];exact .inl rfl
 ·rw[vM h0,vM h0];exact .inl rfl
theorem Mu(h:r.k≠0):sy bs cs r=(r,0):=by unfold sy;rw[vM h]
theorem js(h:r.k≠0):bd w r=r:=by unfold bd;rw[vM fun e=>h e.1]
theorem ZT(h:r.k≠0):tell dl room r al d=(r,al):=by unfold tell;rw[vM h]
theorem Ru{cs:List (Nat×Nat)}{b b' L d:Nat}(hb:b'%2^L=b):∀ {f l:Nat},f+l=L+1 ->
  nxt cs b f l=nxt cs b' (f+d) l\/(nxt cs b f l=(2,0,0)/\((nxt cs b' (f+d) l).1=1->(L:Int)<(nxt cs b' (f+d) l).2.2))
 | 0,l,h=>by
  refine .inr ⟨rfl,fun h1=>?_⟩;rcases Ho (cs:=cs) (b:=b') (f:=0+d) (l:=l) trivial with⟨_,_,_,g,_⟩ | ⟨g,_⟩
  ·omega
  ·omega
 | f+1,l,h=>by
  have hl:l<=L:=by omega
  have e:b%2^l=b'%2^l:=by rw[<-hb,Nat.mod_mod_of_dvd _ (Nat.pow_dvd_pow 2 hl)]
  have ih:=Ru (cs:=cs) hb (d:=d) (f:=f) (l:=l+1) (by omega);rw[show f+1+d=f+d+1 by omega];simp only[nxt,e];split
  ·exact .inl rfl
  ·split
   ·exact ih
   ·exact .inl rfl
theorem PN(ok:okR bs r):sy bs cs r=sy (bs++ex) cs r\/Beh bs.length (sy bs cs r).1 (sy (bs++ex) cs r).1:=by
 by_cases h0:r.k=0
 ·have ho:=ok h0;obtain⟨d,hd⟩:∃d,look (bs++ex) r.i.toNat=look bs r.i.toNat+d:=⟨look (bs++ex) r.i.toNat-look bs r.i.toNat,by unfold look;rw[vY];omega⟩;have hL:r.i.toNat+look bs r.i.toNat<=8*bs.length:=by unfold look;omega
  have hb:(yg (bs++ex) r.i.toNat (look bs r.i.toNat+d)).toNat%2^look bs r.i.toNat=(yg bs r.i.toNat (look bs r.i.toNat)).toNat:=by
   rw[UJ,Ek hL]
  have K:=Ru (cs:=cs) hb (d:=d) (f:=look bs r.i.toNat+1) (l:=0) (by omega);have eB:nxB (bs++ex) cs r.i.toNat=nxt cs (yg (bs++ex) r.i.toNat (look bs r.i.toNat+d)).toNat (look bs r.i.toNat+1+d) 0:=by
   unfold nxB;rw[hd,show look bs r.i.toNat+d+1=look bs r.i.toNat+1+d by omega]
  have eA:nxB bs cs r.i.toNat=nxt cs (yg bs r.i.toNat (look bs r.i.toNat)).toNat (look bs r.i.toNat+1) 0:=rfl;rw[<-eA,<-eB]at K;by_cases h15:look bs r.i.toNat=15
  ·have hd0:d=0:=by unfold look at hd h15;rw[vY]at hd;omega
   subst hd0;have e1:(yg (bs++ex) r.i.toNat (look bs r.i.toNat+0)).toNat=(yg bs r.i.toNat (look bs r.i.toNat)).toNat:=by
    rw[uB,Ek hL]
   rw[e1,uB,<-eA]at eB;left;unfold sy;rw[eB]
  ·have hl8:look bs r.i.toNat=8*bs.length-r.i.toNat:=by unfold look at h15 ⊢;omega
   unfold sy;rw[vP h0,vP h0];rcases K with e | ⟨e,g⟩
   ·rw[e];exact .inl rfl
   ·right;rw[e];refine⟨rfl,fun hk=>?_⟩;simp only at hk ⊢;rcases wh (bs:=bs++ex) (cs:=cs) (i:=r.i.toNat)with⟨h1,_⟩ | ⟨h1,_⟩
    ·have:=g h1;omega
    ·rcases h1 with h1 | h1 <;> simp[h1]at hk
 ·rw[Mu h0,Mu h0];exact .inl rfl
end
def S2(L:Nat)(x y:Rd×List Int):Prop:=x=y\/(Beh L x.1 y.1/\x.2 <+: y.2)
section
variable {ex : List Int}
theorem FT:al <+: (tell dl room r al d).2:=by
 unfold tell;split
 ·split
  ·exact pO _
  ·exact List.prefix_append _ _
 ·exact pO _
theorem Rv(h:r.k≠0):stL bs dl room n r al=(r,al):=by
 cases n with
 | zero=>rfl
 | succ n=>rw[stL,vM h]
theorem Iq:∀ {n:Nat} {r:Rd} {al:List Int},al <+: (stL bs dl room n r al).2
 | 0,r,al=>pO _
 | n+1,r,al=>by
  unfold stL;split
  ·exact FT.trans Iq
  ·exact pO _
theorem Rw:∀ {n:Nat} {r:Rd} {al:List Int},okR bs r->S2 bs.length (stL bs dl room n r al) (stL (bs++ex) dl room n r al)
 | 0,r,al,_=>.inl rfl
 | n+1,r,al,ok=>by
  unfold stL;by_cases h0:r.k=0
  ·rw[vP h0,vP h0];rcases j5 (ex:=ex) (n:=8) ok with e | B
   ·rw[<-e];exact Rw (wN (y7 ok))
   ·rw[ZT B.ne,Rv B.ne];exact .inr ⟨B.le (AA.trans KF),FT.trans Iq⟩
  ·rw[vM h0,vM h0];exact .inl rfl
theorem Y0(ok:okR bs r):S2 bs.length (stF bs dl room r al) (stF (bs++ex) dl room r al):=by
 have B1:∀ {x:Rd},stR bs r=x->Beh bs.length x (stR (bs++ex) r)->S2 bs.length (stF bs dl room r al) (stF (bs++ex) dl room r al):=fun e B=>by
  unfold stF;rw[e,Rv B.ne];exact .inr ⟨B.le KF,Iq⟩
 rcases j5 (ex:=ex) (n:=16) (Bg ok)with e | B
 ·rcases j5 (ex:=ex) (n:=16) (y7 (n:=16) (Bg ok))with e2 | B
  ·have eN:stN bs r=stN (bs++ex) r:=by unfold stN;rw[e]
   have eR:stR bs r=stR (bs++ex) r:=by unfold stR;rw[<-e,<-e2,eN]
   unfold stF;rw[<-eN,<-eR];exact Rw (jC (y7 (y7 (Bg ok))))
  ·refine B1 (x:=(tk bs 16 (tk bs 16 (alg r)).1).1) (by unfold stR;rw[js B.ne]) ?_;unfold stR;rw[<-e];exact B.le xj
 ·have e2:tk bs 16 (tk bs 16 (alg r)).1=((tk bs 16 (alg r)).1,0):=AD B.ne;refine B1 (x:=(tk bs 16 (alg r)).1) (by unfold stR;rw[e2,js B.ne]) ?_;unfold stR;exact B.le (xq.trans xj)
theorem Mv:al <+: (cpF bs cd dl room sz r al s).2:=by
 unfold cpF;split
 ·exact pO _
 ·split
  ·exact pO _
  ·exact FT
theorem Y3:le2 (cp3 bs cd r s) (cpF bs cd dl room sz r al s).1:=by
 have h5:le2 (cp3 bs cd r s) (cp5 bs cd sz r al s):=xq.trans xj;unfold cpF;split
 ·exact le2.refl
 ·split
  ·exact h5
  ·exact h5.trans AA
theorem YA(h:¬(cp3 bs cd r s).k≠0):le2 (cp4 bs cd r s).1 (cpF bs cd dl room sz r al s).1:=by
 have h5:le2 (cp4 bs cd r s).1 (cp5 bs cd sz r al s):=xj;unfold cpF;rw[vM h];split
 ·exact h5
 ·exact h5.trans AA
theorem YB(ok:okR bs r):S2 bs.length (cpF bs cd dl room sz r al s) (cpF (bs++ex) cd dl room sz r al s):=by
 have B3:∀(x:Rd),cp3 bs cd r s=x->Beh bs.length x (cp3 (bs++ex) cd r s)->S2 bs.length (cpF bs cd dl room sz r al s) (cpF (bs++ex) cd dl room sz r al s):=fun x e B=>by
  have ec:cpF bs cd dl room sz r al s=(x,al):=by unfold cpF;rw[e,vP B.ne]
  rw[ec];exact .inr ⟨B.le Y3,Mv⟩
 rcases j5 (ex:=ex) (n:=(yL s).2) ok with e1 | B
 ·have e1:cp1 bs r s=cp1 (bs++ex) r s:=e1;rcases PN (ex:=ex) (cs:=cd) (r:=(cp1 bs r s).1) (y7 ok)with e2 | B
  ·have e2:cp2 bs cd r s=cp2 (bs++ex) cd r s:=by unfold cp2;rw[<-e1];exact e2
   have e3:cp3 bs cd r s=cp3 (bs++ex) cd r s:=by unfold cp3;rw[e2]
   by_cases hk:(cp3 bs cd r s).k≠0
   ·left;unfold cpF;rw[<-e3,vP hk,vP hk]
   ·have ok3:okR bs (cp3 bs cd r s):=jC (qk (y7 ok));rcases j5 (ex:=ex) (n:=(yW (cp2 bs cd r s).2.toNat).2) ok3 with e4 | B
    ·have e4:cp4 bs cd r s=cp4 (bs++ex) cd r s:=by unfold cp4;rw[<-e2,<-e3];exact e4
     have eD:yE bs cd r s=yE (bs++ex) cd r s:=by unfold yE;rw[e2,e4]
     have eL:jr bs r s=jr (bs++ex) r s:=by unfold jr;rw[e1]
     have e5:cp5 bs cd sz r al s=cp5 (bs++ex) cd sz r al s:=by unfold cp5;rw[eD,e4]
     left;unfold cpF;rw[e3,e5,eD,eL]
    ·have B:Beh bs.length (cp4 bs cd r s).1 (cp4 (bs++ex) cd r s).1:=by
      have:cp4 (bs++ex) cd r s=tk (bs++ex) (yW (cp2 bs cd r s).2.toNat).2 (cp3 bs cd r s):=by unfold cp4;rw[<-e2,<-e3]
      rw[this];exact B
     have e5:cp5 bs cd sz r al s=(cp4 bs cd r s).1:=by unfold cp5;rw[js B.ne]
     have ec:cpF bs cd dl room sz r al s=((cp4 bs cd r s).1,al):=by unfold cpF;rw[vM hk,e5,vP B.ne]
     rw[ec];exact .inr ⟨B.le (YA (by rw[<-e3];exact hk)),Mv⟩
  ·have B:Beh bs.length (cp2 bs cd r s).1 (cp2 (bs++ex) cd r s).1:=by
    have:cp2 (bs++ex) cd r s=sy (bs++ex) cd (cp1 bs r s).1:=by unfold cp2;rw[<-e1]
    rw[this];exact B
   exact B3 _ (by unfold cp3;rw[js B.ne]) (B.le xj)
 ·have B:Beh bs.length (cp1 bs r s).1 (cp1 (bs++ex) r s).1:=B;have e2:cp2 bs cd r s=((cp1 bs r s).1,0):=Mu B.ne;exact B3 (cp1 bs r s).1 (by unfold cp3;rw[e2,js B.ne]) (B.le (FK.trans xj))
theorem Rx:al <+: (sy1 bs cd dl room sz r al x).2:=by
 unfold sy1;split
 ·exact FT
 ·split
  ·exact pO _
  ·exact Mv
theorem YC(ok:okR bs r):S2 bs.length (sy1 bs cd dl room sz r al x) (sy1 (bs++ex) cd dl room sz r al x):=by
 unfold sy1;split
 ·exact .inl rfl
 ·split
  ·exact .inl rfl
  ·exact YB ok
theorem CS:∀ {f:Nat} {r:Rd} {al:List Int},al <+: (syF bs cl cd dl room sz f r al).2
 | 0,r,al=>pO _
 | f+1,r,al=>by
  unfold syF;split
  ·split
   ·exact pO _
   ·exact Rx.trans CS
  ·exact pO _
theorem Mw{cl cd:List (Nat×Nat)}:∀ {f:Nat} {r:Rd} {al:List Int},okR bs r->S2 bs.length (syF bs cl cd dl room sz f r al) (syF (bs++ex) cl cd dl room sz f r al)
 | 0,r,al,_=>.inl rfl
 | f+1,r,al,ok=>by
  unfold syF;by_cases h0:r.k=0
  ·rw[vP h0,vP h0];rcases PN (ex:=ex) (cs:=cl) ok with e | B
   ·rw[<-e];by_cases h1:(sy bs cl r).1.k≠0\/(sy bs cl r).2=256
    ·rw[vP h1,vP h1];exact .inl rfl
    ·rw[vM h1,vM h1];rcases YC (ex:=ex) (cd:=cd) (dl:=dl) (room:=room) (sz:=sz) (al:=al) (x:=(sy bs cl r).2) (qk (cs:=cl) ok)with e2 | ⟨B,p⟩
     ·rw[<-e2];exact Mw (KE (qk ok))
     ·rw[BA B.ne];exact .inr ⟨B.le Fh,p.trans CS⟩
   ·rw[vP (.inl B.ne)];split
    ·exact .inr ⟨B,pO _⟩
    ·exact .inr ⟨B.le (KD.trans Fh),Rx.trans CS⟩
  ·rw[vM h0,vM h0];exact .inl rfl
theorem UK(h:r.k≠0):∀ {k:Nat},(sm bs r k).1=r
 | 0=>rfl
 | k+1=>by
  have:=UK h (k:=k);simp only[sm];rw[this,AD h]
theorem UL(ok:okR bs r):∀ {k:Nat},sm bs r k=sm (bs++ex) r k\/Beh bs.length (sm bs r k).1 (sm (bs++ex) r k).1
 | 0=>.inl rfl
 | k+1=>by
  simp only[sm];rcases UL ok (k:=k)with e | B
  ·rw[<-e];rcases j5 (ex:=ex) (n:=3) (K8 (k:=k) ok)with e2 | B
   ·rw[<-e2];exact .inl rfl
   ·exact .inr B
  ·rw[AD B.ne];exact .inr (B.le xq)
theorem ZU(ok:okR bs r):rp bs r all x=rp (bs++ex) r all x\/Beh bs.length (rp bs r all x).1 (rp (bs++ex) r all x).1:=by
 unfold rp;split
 ·rcases j5 (ex:=ex) (n:=2) (jC (w:=all.length==0) ok)with e | B
  ·rw[e];exact .inl rfl
  ·exact .inr B
 ·split
  ·rcases j5 (ex:=ex) (n:=3) ok with e | B
   ·rw[e];exact .inl rfl
   ·exact .inr B
  ·split
   ·rcases j5 (ex:=ex) (n:=7) ok with e | B
    ·rw[e];exact .inl rfl
    ·exact .inr B
   ·exact .inl rfl
theorem YD(ok:okR bs r):lg1 bs cs tot r all=lg1 (bs++ex) cs tot r all\/Beh bs.length (lg1 bs cs tot r all).1 (lg1 (bs++ex) cs tot r all).1:=by
 rcases PN (ex:=ex) (cs:=cs) ok with e | B
 ·unfold lg1;rw[<-e];split
  ·rcases ZU (ex:=ex) (all:=all) (x:=(sy bs cs r).2) (qk (cs:=cs) ok)with e2 | B
   ·rw[e2];exact .inl rfl
   ·right;simp only;rw[js B.ne];exact B.le xj
  ·exact .inl rfl
 ·right;have el:lg1 bs cs tot r all=((sy bs cs r).1,all):=by unfold lg1;rw[vM B.ne]
  rw[el];refine B.le ?_;unfold lg1;split
  ·exact WY.trans xj
  ·exact le2.refl
theorem UM{cs:List (Nat×Nat)}{tot:Nat}:∀ {n:Nat} {r:Rd} {all:List Int},tot-all.length<=n->okR bs r->lg bs cs tot r all=lg (bs++ex) cs tot r all\/Beh bs.length (lg bs cs tot r all).1 (lg (bs++ex) cs tot r all).1
 | 0,r,all,hn,ok=>by rw[yU (fun e=>by omega),yU (fun e=>by omega)];exact .inl rfl
 | n+1,r,all,hn,ok=>by
  by_cases h:r.k=0/\all.length<tot
  ·rw[A9 h,A9 h];rcases YD (ex:=ex) (cs:=cs) (tot:=tot) (all:=all) ok with e | B
   ·rw[<-e];by_cases hk:(lg1 bs cs tot r all).1.k=0
    ·have:=(A8 (bs:=bs) (cs:=cs) (tot:=tot) (r:=r) (all:=all)).2.2 hk;exact UM (n:=n) (by omega) (K7 ok)
    ·rw[yU (fun e=>hk e.1),yU (fun e=>hk e.1)];exact .inl rfl
   ·rw[yU (fun e=>B.ne e.1)];exact .inr (B.le (Oa (uI _)))
  ·rw[yU h,yU h];exact .inl rfl
theorem No:le2 (xi bs r).1 (zN bs r).1:=by
 unfold zN;split
 ·exact xj
 ·exact le2.refl
theorem UN:le2 (jT bs r) (zN bs r).1:=(Oa (uI _):le2 (jT bs r) (xi bs r).1).trans No
theorem Li(h:(xi bs r).1.k≠0):zN bs r=((xi bs r).1,[],[]):=by unfold zN;rw[vM h]
theorem SC(h:(jT bs r).k≠0):zN bs r=(jT bs r,[],[]):=by
 have e:xi bs r=(jT bs r,[]):=yU fun e=>h e.1
 have:zN bs r=((xi bs r).1,[],[]):=Li (by rw[e];exact h);rw[this,e]
theorem Lj(h:(yv bs r).1.k≠0):zN bs r=((yv bs r).1,[],[]):=by
 have e:jT bs r=(yv bs r).1:=js h;have:zN bs r=(jT bs r,[],[]):=SC (by rw[e];exact h);rw[this,e]
theorem Ll(h:(tk bs 4 (y9 bs r)).1.k≠0):zN bs r=((tk bs 4 (y9 bs r)).1,[],[]):=by
 have e:(yv bs r).1=(tk bs 4 (y9 bs r)).1:=UK h;have:zN bs r=((yv bs r).1,[],[]):=Lj (by rw[e];exact h);rw[this,e]
theorem Ln(h:(y9 bs r).k≠0):zN bs r=(y9 bs r,[],[]):=by
 have e:tk bs 4 (y9 bs r)=(y9 bs r,0):=AD h;have:zN bs r=((tk bs 4 (y9 bs r)).1,[],[]):=Ll (by rw[e];exact h);rw[this,e]
theorem SD(h:(yJ bs r).k≠0):zN bs r=(yJ bs r,[],[]):=by
 have e:y9 bs r=yJ bs r:=by unfold y9;rw[AD h,js h]
 have:zN bs r=(y9 bs r,[],[]):=Ln (by rw[e];exact h);rw[this,e]
theorem HE:le2 (yv bs r).1 (zN bs r).1:=xj.trans UN
theorem Np:le2 (y9 bs r) (zN bs r).1:=(xq.trans NZ:le2 (y9 bs r) (yv bs r).1).trans HE
theorem UO:le2 (yJ bs r) (zN bs r).1:=(xq.trans xj:le2 (yJ bs r) (y9 bs r)).trans Np
theorem UP(ok:okR bs r):zN bs r=zN (bs++ex) r\/Beh bs.length (zN bs r).1 (zN (bs++ex) r).1:=by
 obtain⟨k0,k1,k2,k3,k4⟩:=Fg ok;rcases j5 (ex:=ex) (n:=5) ok with e | B
 ·have e0:yJ bs r=yJ (bs++ex) r:=by unfold yJ;rw[e]
  have eL:w7 bs r=w7 (bs++ex) r:=by unfold w7;rw[e]
  rcases j5 (ex:=ex) (n:=5) k0 with e | B
  ·have e1:y9 bs r=y9 (bs++ex) r:=by unfold y9;rw[<-e0,e]
   have eD:Bd bs r=Bd (bs++ex) r:=by unfold Bd;rw[<-e0,e]
   rcases j5 (ex:=ex) (n:=4) k1 with e | B
   ·rcases UL (ex:=ex) (k:=(tk bs 4 (y9 bs r)).2.toNat+4) (y7 (n:=4) k1)with e2 | B
    ·have e2:yv bs r=yv (bs++ex) r:=by unfold yv;rw[<-e1,<-e];exact e2
     have e3:jT bs r=jT (bs++ex) r:=by unfold jT;rw[e2]
     rcases UM (ex:=ex) (cs:=zl (yv bs r).2) (tot:=w7 bs r+Bd bs r) (all:=[]) (uI _) k3 with e4 | B
     ·have e4:xi bs r=xi (bs++ex) r:=by unfold xi;rw[<-e2,<-eL,<-eD,<-e3];exact e4
      left;unfold zN;rw[e4,eL]
     ·have B:Beh bs.length (xi bs r).1 (xi (bs++ex) r).1:=by
       have:xi (bs++ex) r=lg (bs++ex) (zl (yv bs r).2) (w7 bs r+Bd bs r) (jT bs r) []:=by unfold xi;rw[<-e2,<-eL,<-eD,<-e3]
       rw[this];exact B
      rw[Li B.ne];exact .inr (B.le No)
    ·have B:Beh bs.length (yv bs r).1 (yv (bs++ex) r).1:=by
      have:yv (bs++ex) r=sm (bs++ex) (tk bs 4 (y9 bs r)).1 ((tk bs 4 (y9 bs r)).2.toNat+4):=by unfold yv;rw[<-e1,<-e]
      rw[this];exact B
     rw[Lj B.ne];exact .inr (B.le HE)
   ·rw[Ll B.ne];rw[e1]at B ⊢;exact .inr (B.le ((NZ:le2 _ (yv (bs++ex) r).1).trans HE))
  ·have e1:y9 bs r=(tk bs 5 (yJ bs r)).1:=js B.ne;rw[Ln (by rw[e1];exact B.ne),e1];rw[e0]at B ⊢;exact .inr (B.le ((xj:le2 _ (y9 (bs++ex) r)).trans Np))
 ·have e1:yJ bs r=(tk bs 5 r).1:=js B.ne;rw[SD (by rw[e1];exact B.ne),e1];exact .inr (B.le ((xj:le2 _ (yJ (bs++ex) r)).trans UO))
theorem Ft:al <+: (blk bs dl room sz F r al).2:=by
 unfold blk;split
 ·exact pO _
 ·split
  ·exact Iq
  ·split
   ·exact CS
   ·split
    ·exact pO _
    ·exact CS
theorem YE(ok:okR bs r):S2 bs.length (blk bs dl room sz F r al) (blk (bs++ex) dl room sz F r al):=by
 have B3:∀(x:Rd),bk3 bs r=x->Beh bs.length x (bk3 (bs++ex) r)->S2 bs.length (blk bs dl room sz F r al) (blk (bs++ex) dl room sz F r al):=fun x e B=>by
  have ec:blk bs dl room sz F r al=(x,al):=by unfold blk;rw[e,vP B.ne]
  rw[ec];exact .inr ⟨B.le KM,Ft⟩
 have k3:=KN ok;rcases j5 (ex:=ex) (n:=1) ok with e | B
 ·have e1:bk1 bs r=bk1 (bs++ex) r:=e;rcases j5 (ex:=ex) (n:=2) (r:=(bk1 bs r).1) (y7 ok)with e | B
  ·have e2:bk2 bs r=bk2 (bs++ex) r:=by unfold bk2;rw[<-e1];exact e
   have e3:bk3 bs r=bk3 (bs++ex) r:=by unfold bk3;rw[e2]
   unfold blk;rw[<-e3,<-e2];split
   ·exact .inl rfl
   ·split
    ·exact Y0 k3
    ·split
     ·exact Mw k3
     ·rcases UP (ex:=ex) k3 with e | B
      ·rw[<-e];split
       ·exact .inl rfl
       ·exact Mw (AB k3)
      ·rw[vP B.ne];split
       ·exact .inr ⟨B,pO _⟩
       ·exact .inr ⟨B.le Fh,CS⟩
  ·have B:Beh bs.length (bk2 bs r).1 (bk2 (bs++ex) r).1:=by
    have:bk2 (bs++ex) r=tk (bs++ex) 2 (bk1 bs r).1:=by unfold bk2;rw[<-e1]
    rw[this];exact B
   exact B3 _ (by unfold bk3;rw[js B.ne]) (B.le xj)
 ·have B:Beh bs.length (bk1 bs r).1 (bk1 (bs++ex) r).1:=B;have e2:bk2 bs r=((bk1 bs r).1,0):=AD B.ne;exact B3 (bk1 bs r).1 (by unfold bk3;rw[e2,js B.ne]) (B.le (xq.trans xj))
theorem Mx:∀ {f:Nat} {r:Rd} {al:List Int},al <+: (blF bs dl room sz F f r al).2
 | 0,r,al=>pO _
 | f+1,r,al=>by
  unfold blF;split
  ·split
   ·exact Ft
   ·exact Ft.trans Mx
  ·exact pO _
theorem Ir:le2 (bk1 bs r).1 (blk bs dl room sz F r al).1:=(xq.trans xj:le2 (bk1 bs r).1 (bk3 bs r)).trans KM
theorem PQ:∀ {f:Nat} {r:Rd} {al:List Int},le2 r (blF bs dl room sz F f r al).1
 | 0,r,al=>le2.refl
 | f+1,r,al=>by
  unfold blF;split
  ·split
   ·exact xq.trans Ir
   ·exact(xq.trans Ir).trans PQ
  ·exact le2.refl
theorem Ry{F:Nat}:∀ {f:Nat} {r:Rd} {al:List Int},okR bs r->S2 bs.length (blF bs dl room sz F f r al) (blF (bs++ex) dl room sz F f r al)
 | 0,r,al,_=>.inl rfl
 | f+1,r,al,ok=>by
  unfold blF;by_cases h0:r.k=0
  ·rw[vP h0,vP h0];rcases j5 (ex:=ex) (n:=1) ok with e | B
   ·have e1:bk1 bs r=bk1 (bs++ex) r:=e;rw[<-e1];rcases YE (ex:=ex) (dl:=dl) (room:=room) (sz:=sz) (F:=F) (al:=al) ok with e | ⟨B,p⟩
    ·rw[<-e];split
     ·exact .inl rfl
     ·exact Ry (Hw ok)
    ·split
     ·exact .inr ⟨B,p⟩
     ·rw[BB B.ne];exact .inr ⟨B.le PQ,p.trans Mx⟩
   ·have B:Beh bs.length (bk1 bs r).1 (bk1 (bs++ex) r).1:=B;have e2:bk2 bs r=((bk1 bs r).1,0):=AD B.ne;have e3:bk3 bs r=(bk1 bs r).1:=by unfold bk3;rw[e2,js B.ne]
    have ek:blk bs dl room sz F r al=((bk1 bs r).1,al):=by unfold blk;rw[e3,vP B.ne]
    have ez:(bk1 bs r).2=0:=by
     have h2:(tk bs 1 r).1.k=2:=B.1;show(tk bs 1 r).2=0;unfold tk at h2 ⊢;rw[vP h0]at h2 ⊢;split
     ·rfl
     ·rename_i hn;rw[vM hn]at h2;cases h2
    rw[vM (fun h=>h ez),ek];rw[BB B.ne];split
    ·exact .inr ⟨B.le Ir,Ft⟩
    ·exact .inr ⟨B.le (Ir.trans PQ),Ft.trans Mx⟩
  ·rw[vM h0,vM h0];exact .inl rfl
theorem Jy{cl cd:List (Nat×Nat)}:∀ {f f':Nat} {r:Rd} {al:List Int},okR bs r->(r.k=0->8*(bs.length:Int)-r.i<f)->f<=f'->syF bs cl cd dl room sz f r al=syF bs cl cd dl room sz f' r al
 | 0,f',r,al,ok,h,_=>by
  have hk:r.k≠0:=fun hk=>by have:=ok hk;have:=h hk;omega
  rw[BA hk,BA hk]
 | f+1,0,r,al,ok,h,hf=>by omega
 | f+1,f'+1,r,al,ok,h,hf=>by
  unfold syF;by_cases h0:r.k=0
  ·rw[vP h0,vP h0];split
   ·rfl
   ·rename_i hn;have hs:(sy bs cl r).1.k=0:=by
     by_cases e:(sy bs cl r).1.k=0
     ·exact e
     ·exact absurd (.inl e) hn
    have hlt:=NY hs;refine Jy (KE (qk ok)) (fun hk=>?_) (by omega);have h1:=(KD (bs:=bs) (cd:=cd) (dl:=dl) (room:=room) (sz:=sz) (al:=al) (x:=(sy bs cl r).2) hk).2;have:=h h0;omega
  ·rw[vM h0,vM h0]
theorem WJ{F F':Nat}(ok:okR bs r)(h:r.k=0->8*(bs.length:Int)-r.i<F)(hf:F<=F'):blk bs dl room sz F r al=blk bs dl room sz F' r al:=by
 have k3:=KN ok;have h3:∀ {q:Rd},le2 (bk3 bs r) q->q.k=0->8*(bs.length:Int)-q.i<F:=fun hq hk=>by
  obtain⟨g1,g2⟩:=hq hk;obtain⟨g3,g4⟩:=KL g1;have:=h g3;omega
 unfold blk;split
 ·rfl
 ·split
  ·rfl
  ·split
   ·exact Jy k3 (h3 le2.refl) hf
   ·split
    ·rfl
    ·exact Jy (AB k3) (h3 FM) hf
theorem PS{F F':Nat}(hF:F<=F'):∀ {f f':Nat} {r:Rd} {al:List Int},okR bs r->(r.k=0->8*(bs.length:Int)-r.i<f)->(r.k=0->8*(bs.length:Int)-r.i<F)->f<=f'->blF bs dl room sz F f r al=blF bs dl room sz F' f' r al
 | 0,f',r,al,ok,h,_,_=>by
  have hk:r.k≠0:=fun hk=>by have:=ok hk;have:=h hk;omega
  rw[BB hk,BB hk]
 | f+1,0,r,al,ok,h,_,hf=>by omega
 | f+1,f'+1,r,al,ok,h,g,hf=>by
  unfold blF;by_cases h0:r.k=0
  ·rw[vP h0,vP h0,<-WJ (F:=F) (F':=F') ok g hF];split
   ·rfl
   ·have hlt:∀hk:(blk bs dl room sz F r al).1.k=0,r.i+3<=(blk bs dl room sz F r al).1.i:=fun hk=>by
     obtain⟨g1,g2⟩:=KM hk;have:=KL g1;omega
    refine PS hF (Hw ok) (fun hk=>?_) (fun hk=>?_) (by omega)
    ·have:=hlt hk;have:=h h0;omega
    ·have:=hlt hk;have:=g h0;omega
  ·rw[vM h0,vM h0]
theorem PT(ok:okR bs r)(h:r.k=0->0<=r.i):S2 bs.length (blF bs dl room sz (8*bs.length+1) (8*bs.length+1) r al) (blF (bs++ex) dl room sz (8*(bs++ex).length+1) (8*(bs++ex).length+1) r al):=by
 have hle:8*bs.length+1<=8*(bs++ex).length+1:=by rw[vY];omega
 rw[PS hle ok (fun hk=>by have:=h hk;push_cast;omega) (fun hk=>by have:=h hk;push_cast;omega) hle];exact Ry ok
end
end
variable {ds us xs ys:List Int}
section
section
def no1(r:Rd):Prop:=r.k≠1
theorem ku(h:no1 r):no1 (tk bs n r).1:=by
 unfold tk;split
 ·split <;> simp[no1]
 ·exact h
theorem wC(h:no1 r):no1 (bd w r):=by
 unfold bd;split
 ·simp[no1]
 ·exact h
theorem HF(h:no1 r):no1 (sy bs cs r).1:=by
 unfold sy;split
 ·simp only[no1];split
  ·decide
  ·split <;> decide
 ·exact h
theorem Jz(h:no1 r):no1 (tell dl room r al d).1:=by
 unfold tell;split
 ·split
  ·simp[no1]
  ·exact h
 ·exact h
theorem YF(h:no1 r):no1 (alg r):=by
 unfold alg;split
 ·simp[no1]
 ·exact h
theorem Rz:∀ {n:Nat} {r:Rd} {al:List Int},no1 r->no1 (stL bs dl room n r al).1
 | 0,r,al,h=>h
 | n+1,r,al,h=>by
  unfold stL;split
  ·exact Rz (Jz (ku h))
  ·exact h
theorem YG(h:no1 r):no1 (cpF bs cd dl room sz r al s).1:=by
 have h3:no1 (cp3 bs cd r s):=wC (HF (ku h));have h5:no1 (cp5 bs cd sz r al s):=wC (ku h3);unfold cpF;split
 ·exact h3
 ·split
  ·exact h5
  ·exact Jz h5
theorem YH(h:no1 r):no1 (sy1 bs cd dl room sz r al x).1:=by
 unfold sy1;split
 ·exact Jz h
 ·split
  ·exact wC h
  ·exact YG h
theorem My:∀ {f:Nat} {r:Rd} {al:List Int},no1 r->no1 (syF bs cl cd dl room sz f r al).1
 | 0,r,al,h=>h
 | f+1,r,al,h=>by
  unfold syF;split
  ·split
   ·exact HF h
   ·exact My (YH (HF h))
  ·exact h
theorem UQ(h:no1 r):∀ {k:Nat},no1 (sm bs r k).1
 | 0=>h
 | k+1=>ku (UQ h)
theorem ZV(h:no1 r):no1 (rp bs r all x).1:=by
 unfold rp;split
 ·exact ku (wC h)
 ·split
  ·exact ku h
  ·split
   ·exact ku h
   ·exact h
theorem R4(h:no1 r):no1 (lg1 bs cs tot r all).1:=by
 unfold lg1;split
 ·exact wC (ZV (HF h))
 ·exact HF h
theorem UR{cs:List (Nat×Nat)}{tot:Nat}:∀ {n:Nat} {r:Rd} {all:List Int},tot-all.length<=n->no1 r->no1 (lg bs cs tot r all).1
 | 0,r,all,hn,H=>by rw[yU (fun e=>by omega)];exact H
 | n+1,r,all,hn,H=>by
  by_cases h:r.k=0/\all.length<tot
  ·rw[A9 h];by_cases hk:(lg1 bs cs tot r all).1.k=0
   ·have:=(A8 (bs:=bs) (cs:=cs) (tot:=tot) (r:=r) (all:=all)).2.2 hk;exact UR (n:=n) (by omega) (R4 H)
   ·rw[yU (fun e=>hk e.1)];exact R4 H
  ·rw[yU h];exact H
theorem Nq(h:no1 r):no1 (zN bs r).1:=by
 have h1:no1 (y9 bs r):=wC (ku (wC (ku h)));have h4:no1 (xi bs r).1:=UR (uI _) (wC (UQ (ku h1)));unfold zN;split
 ·exact wC h4
 ·exact h4
theorem R9(h:no1 r):no1 (blk bs dl room sz F r al).1:=by
 have h3:no1 (bk3 bs r):=wC (ku (ku h));unfold blk;split
 ·exact h3
 ·split
  ·exact Rz (wC (ku (ku (YF h3))))
  ·split
   ·exact My h3
   ·split
    ·exact Nq h3
    ·exact My (Nq h3)
theorem RD:∀ {f:Nat} {r:Rd} {al:List Int},no1 r->no1 (blF bs dl room sz F f r al).1
 | 0,r,al,h=>h
 | f+1,r,al,h=>by
  unfold blF;split
  ·split
   ·exact R9 h
   ·exact RD (R9 h)
  ·exact h
end
section
variable {ex : List Int}{n:Int}
theorem PU{n:Nat}(p:xs <+: ys):xs.drop n <+: ys.drop n:=by
 obtain⟨t,e⟩:=p;exact⟨t.drop (n-xs.length),by rw[<-e,List.drop_append]⟩
theorem HG{m:Nat}:S2 bs.length (yM bs m ds) (yM (bs++ex) m ds):=
 PT (fun _=>⟨pP _,by show(0:Int)<=_;omega⟩) (fun _=>pP _)
theorem RE(hl:bs.length<=65536)(hn:1<=n/\n<=32768):(zK bs n ds).2.1=(yM bs n.toNat ds).2.drop (zB n.toNat ds).length:=by
 unfold zK;rw[vM (by omega),vM (by omega)];split <;> rfl
theorem YI(hl:(bs++ex).length<=65536):(zK bs n ds).2.1 <+: (zK (bs++ex) n ds).2.1:=by
 have hl2:bs.length<=65536:=by rw[vY]at hl;omega
 by_cases hn:1<=n/\n<=32768
 ·rw[RE hl2 hn,RE hl hn];rcases HG (bs:=bs) (ex:=ex) (ds:=ds) (m:=n.toNat)with e | ⟨_,p⟩
  ·rw[e];exact pO _
  ·exact PU p
 ·have e:(zK bs n ds).2.1=[]:=by unfold zK;rw[vM (by omega),vP (by omega)]
  rw[e];exact List.nil_prefix
theorem PV(h:(zK bs n ds).1=1):bs.length<=65536/\(1<=n/\n<=32768)/\(yM bs n.toNat ds).1.k=0:=by
 unfold zK at h;by_cases h1:bs.length>65536
 ·rw[vP h1]at h;simp at h
 ·rw[vM h1]at h;by_cases h2:n<1\/n>32768
  ·rw[vP h2]at h;simp at h
  ·rw[vM h2]at h;by_cases h3:(yM bs n.toNat ds).1.k≠0
   ·rw[vP h3]at h;exact absurd h (RD (r:=⟨0,0⟩) (by simp[no1]))
   ·exact⟨by omega,by omega,by omega⟩
theorem WK(h:(zK bs n ds).1=1):0<=(zK bs n ds).2.2.1/\(zK bs n ds).2.2.1<=8*(bs.length:Int):=by
 obtain⟨g1,g2,g3⟩:=PV h;have okF:okR bs (yM bs n.toNat ds).1:=KP (fun _=>⟨pP _,by show(0:Int)<=_;omega⟩);have e:zK bs n ds=(1,(yM bs n.toNat ds).2.drop (zB n.toNat ds).length,(yM bs n.toNat ds).1.i,()):=by
  unfold zK;rw[vM (by omega),vM (by omega),vM (by omega)]
 rw[e];exact okF g3
theorem YJ{q:Nat}{more:List Int}(h:(zK bs n ds).1=1)(hq:(q:Int)=((zK bs n ds).2.2.1+7)/8)(hm:(bs.take q++more).length<=65536):q<=bs.length/\zK (bs.take q++more) n ds=zK bs n ds:=by
 obtain⟨g1,g2,g3⟩:=PV h;have eA:∀ {B:List Int},B.length<=65536->(yM B n.toNat ds).1.k=0->zK B n ds=(1,(yM B n.toNat ds).2.drop (zB n.toNat ds).length,(yM B n.toNat ds).1.i,()):=fun hB hk=>by
  unfold zK;rw[vM (by omega),vM (by omega),vM (by omega)]
 have e1:=eA g1 g3;rw[e1]at hq;simp only at hq;have okF:okR bs (yM bs n.toNat ds).1:=KP (fun _=>⟨pP _,by show(0:Int)<=_;omega⟩);have hb:=okF g3;have hql:q<=bs.length:=by omega
 refine⟨hql,?_⟩;have lt:(bs.take q).length=q:=by rw[pK];omega
 have e2:yM (bs.take q) n.toNat ds=yM bs n.toNat ds:=by
  have K:=HG (bs:=bs.take q) (ex:=bs.drop q) (ds:=ds) (m:=n.toNat);rw[pZ,lt]at K;rcases K with e | ⟨B,_⟩
  ·exact e
  ·have:=B.2 g3;omega
 have e3:yM (bs.take q++more) n.toNat ds=yM bs n.toNat ds:=by
  rcases HG (bs:=bs.take q) (ex:=more) (ds:=ds) (m:=n.toNat)with e | ⟨B,_⟩
  ·rw[<-e,e2]
  ·exact absurd (by rw[e2];exact g3) B.ne
 rw[eA hm (by rw[e3];exact g3),e3,e1]
end
section
variable {ex : List Int}
theorem US:∀ {n:Nat} {r:Rd} {x:Int},le2 r (hig bs n r x).1
 | 0,r,x=>le2.refl
 | n+1,r,x=>by unfold hig;exact xq.trans US
theorem Mz:∀ {n:Nat} {r:Rd} {x:Int},okR bs r->hig bs n r x=hig (bs++ex) n r x\/Beh bs.length (hig bs n r x).1 (hig (bs++ex) n r x).1
 | 0,r,x,_=>.inl rfl
 | n+1,r,x,ok=>by
  unfold hig;rcases j5 (ex:=ex) (n:=8) ok with e | B
  ·rw[<-e];exact Mz (y7 ok)
  ·rw[BE B.ne];exact .inr (B.le US)
theorem M0:(zA B sz us r).2.1=zO B sz us r:=by unfold zA;split <;> rfl
theorem PW(h:r.k≠0):zO B sz us r=[]:=by rw[<-M0,UC h]
theorem UT(ok:okR bs r):zO bs sz us r <+: zO (bs++ex) sz us r:=by
 by_cases h0:r.k=0
 ·have:=ok h0;rcases PT (ex:=ex) (dl:=(zB sz us).length) (room:=100000) (sz:=sz) (al:=zB sz us) ok (fun h=>(ok h).1)with e | ⟨_,p⟩
  ·unfold zO zE;rw[e];exact pO _
  ·exact PU p
 ·rw[PW h0];exact List.nil_prefix
theorem ZW(hl:(bs++ex).length<=65536):(xM bs ds).2.1 <+: (xM (bs++ex) ds).2.1:=by
 have hl2:bs.length<=65536:=by rw[vY]at hl;omega
 unfold xM;rw[vM (by omega),vM (by omega),M0,M0];have ok0:okR bs ⟨0,0⟩:=fun _=>⟨pP _,by show(0:Int)<=_;omega⟩
 have okH:okR bs (zH bs).1:=Fl ok0;have okR':okR bs (zR bs):=jC okH;rcases Mz (ex:=ex) (n:=2) (x:=0) ok0 with e | B
 ·have eH:zH bs=zH (bs++ex):=e;have eR:zR bs=zR (bs++ex):=by unfold zR;rw[eH]
  by_cases hd:(zH bs).2/32%2=1
  ·rcases Mz (ex:=ex) (n:=4) (r:=zR bs) (x:=0) okR' with e | B
   ·have eI:zId bs=zId (bs++ex):=by unfold zId;rw[<-eR];exact e
    have eD:zD bs ds=zD (bs++ex) ds:=by unfold zD;rw[<-eH,<-eI,<-eR]
    rw[<-eD,<-eH];refine UT ?_;unfold zD;rw[vP hd];exact Pv (by decide) (Fl okR')
   ·have hb:(zD bs ds).1.k≠0:=by
     have e2:(zD bs ds).1=(zId bs).1:=by unfold zD;rw[vP hd];exact BD B.ne
     rw[e2];exact B.ne
    rw[PW hb];exact List.nil_prefix
  ·have eD:zD bs ds=(zR bs,[]):=by unfold zD;rw[vM hd]
   have eD2:zD (bs++ex) ds=(zR bs,[]):=by unfold zD;rw[<-eH,vM hd,<-eR]
   rw[eD,eD2,<-eH];exact UT okR'
 ·have B:Beh bs.length (zH bs).1 (zH (bs++ex)).1:=B;have eR:zR bs=(zH bs).1:=by unfold zR;rw[js B.ne]
  have hk:(zD bs ds).1.k≠0:=by
   unfold zD;split
   ·have e2:(zId bs).1=zR bs:=by unfold zId;exact BE (by rw[eR];exact B.ne)
    rw[BD (by rw[e2,eR];exact B.ne),e2,eR];exact B.ne
   ·simp only;rw[eR];exact B.ne
  rw[PW hk];exact List.nil_prefix
end
end
variable {h h0 h1:qaA}{S:Shared}{b c:Nat}{T:TypeId}{code:List Int}{a:Option Addr}
section
def zI(h0 h:qaA)(b:Nat)(T:TypeId)(code:List Int)(a:Option Addr)(c:Nat):Prop:=
 ∃(i:Nat) (hh:Int),h b=some (.cells #[.slice a code.length c,.int .i64 i,.int .i64 hh] T)/\i<=code.length/\zo h0 .u8 a code/\qaB h0 h/\h0 b=none
theorem zI.sub(H:zI h0 h b T code a c):qaB h0 h:=by obtain⟨_,_,_,_,_,s,_⟩:=H;exact s
theorem zI.held(H:zI h0 h b T code a c):h b≠none:=by obtain⟨_,_,hb,_⟩:=H;rw[hb];simp
theorem zI.mono(H:zI h0 h b T code a c)(s:qaB h h1):zI h0 h1 b T code a c:=by
 obtain⟨i,hh,hb,hi,hx,s0,hn⟩:=H;exact⟨i,hh,s b _ hb,hi,hx,s0.trans s,hn⟩
theorem zI.keep(H:zI h0 h b T code a c)(s:qaB h0 h1)(hk:h1 b=h b):zI h0 h1 b T code a c:=by
 obtain⟨i,hh,hb,hi,hx,s0,hn⟩:=H;exact⟨i,hh,hk.trans hb,hi,hx,s,hn⟩
theorem RF(hi:qaC S h)(hx:zo h .u8 a code)(hl:code.length<=1048576) :
  zb oPP S AM #[.slice a code.length c] h (fun v h'=>∃b T,v=.pointer (some ⟨b,0,none⟩)/\zI h h' b T code a c):=by
 refine LV (vs:=[.slice a code.length c]) ⟨rfl,trivial⟩ hi ?_;simp only[Hh,Tr.wp,Ex.ev,coerce,toInt_int,za,zc,ze,zd,zf,zM,z9,arith,Cst.val,SV.den,yF,zy,zV,zq,vF,vG,nN,vA,vB,vC,vL,vR,vD,vE,vI,vH,vJ,vW];refine⟨fun us h'=>∃(i:Nat) (x:Int),us=[.int .i64 x,.int .i64 i]/\i<=code.length/\h'=h,fun us _=>code.length-(toInt (us.getD 1 undef)).toNat,⟨0,_,rfl,by omega,rfl⟩,?_⟩;rintro x y h' ⟨i,z,hx1,hi2,eq⟩;subst eq;obtain⟨rfl,rfl⟩:x=z/\y=i:=by simpa using hx1
 refine⟨fun hlt=>?_,fun hge=>?_⟩
 ·have hi3:i<code.length:=by omega
  obtain⟨g1,g2⟩:=hx.cell (vO hi3);have w2:IntKind.i64.wrap ((i:Int)+1)=((i+1:Nat):Int):=zr;rw[w2];exact⟨by simpa using g2,by omega,hlt,code[i],by simpa[add_add]using g1,⟨i+1,_,rfl,by omega,rfl⟩,by simp only[vB,vA,toInt_int];omega⟩
 ·intro b hb;exact⟨b,_,rfl,0,x,upd_same,gO _,hx,Sub.zC hb,hb⟩
theorem DG(hi:qaC S h0)(H:zI h0 h b T code a c)(hl:code.length<=1048576) :
  zb oPP S jy #[.pointer (some ⟨b,0,none⟩)] h (fun v h'=>∃x,v=.int .i64 x/\0<=x/\x<=255/\zI h0 h' b T code a c/\∀y,y≠b->h' y=h y):=by
 obtain⟨i,hh,hb,hi2,hx,s,hn⟩:=H;have hsb:¬S b:=fun hs=>hi b hs hn
 refine Kp (vs:=[.pointer (some ⟨b,0,none⟩)]) ⟨rfl,trivial⟩ (hi.sub s) ?_;simp only[Gp,Tr.wp,Ex.ev,coerce,toInt_int,za,zc,ze,zd,zf,zx,zM,xb,z9,arith,Cst.val,SV.den,zy,zq,yk,vA,vB,vC,vL,vR,vD,vE,vI,vH,uD,uB,vW,zu];have ld:∀ {h':qaA} {i:Nat} {hh:Int},h' b=some (.cells #[.slice a code.length c,.int .i64 i,.int .i64 hh] T)->zj h' ⟨b,0,none⟩=some (.slice a code.length c)/\zj h' ⟨b,1,none⟩=some (.int .i64 i)/\zj h' ⟨b,2,none⟩=some (.int .i64 hh):=fun {h' i hh} hb=>by simp[zj,hb]
 obtain⟨g0,g1,g2⟩:=ld hb;have VB:∀m:Int,zQ h ⟨b,2,none⟩ (.int .i64 m)=upd h b (.cells #[.slice a code.length c,.int .i64 i,.int .i64 m] T):=fun m=>by rw[hset_cells' hb];rfl
 have ok2:xE S h ⟨b,2,none⟩:=⟨⟨_,g2⟩,by simp[yN,hb],hsb⟩;refine⟨by simp,hh,g2,by simp,ok2,?_⟩;rw[VB];obtain⟨m,hm⟩:∃m,m=IntKind.i64.wrap (IntKind.i64.wrap (hh*6364136223846793005)+1442695040888963407):=⟨_,rfl⟩;rw[<-hm];have hb1:upd h b (.cells #[.slice a code.length c,.int .i64 i,.int .i64 m] T) b=some (.cells #[.slice a code.length c,.int .i64 i,.int .i64 m] T):=upd_same;obtain⟨k0,k1,k2⟩:=ld hb1;have hs1:qaB h0 (upd h b (.cells #[.slice a code.length c,.int .i64 i,.int .i64 m] T)):=fun y o hy=>by rw[upd_ne (fun e=>by rw[e,hn]at hy;cases hy)];exact s y o hy
 refine⟨by simp,m,k2,by simp,m,k2,by simp,i,k1,by simp,_,_,_,k0,fun hlt=>?_,fun hge _=>?_⟩
 ·have hi3:i<code.length:=by omega
  obtain⟨e1,e2⟩:=(hx.sub hs1).cell (vO hi3);refine⟨by simp,_,_,_,k0,by simp,i,k1,by simpa using e2,by omega,hlt,code[i],by simpa[add_add]using e1,by simp,i,k1,by simp,⟨⟨_,k1⟩,by simp[yN,hb1],hsb⟩,?_⟩;intro _;have w2:IntKind.i64.wrap ((i:Int)+1)=((i+1:Nat):Int):=zr;have VA:zQ (upd h b (.cells #[.slice a code.length c,.int .i64 i,.int .i64 m] T)) ⟨b,1,none⟩ (.int .i64 ((i+1:Nat):Int))=upd h b (.cells #[.slice a code.length c,.int .i64 ((i+1:Nat):Int),.int .i64 m] T):=by rw[hset_cells' hb1,xw];rfl
  rw[w2,VA];have hm:=OP (y:=IntKind.i64.wrap (Go.bits .and .i64 (Go.bits .xor .i64 (m.fdiv (2^min (Int.toNat 33) IntKind.i64.bits)) (m.fdiv (2^min (Int.toNat 45) IntKind.i64.bits))) 255+IntKind.i64.wrap code[i])) (m:=255);exact⟨_,rfl,hm.1,hm.2,⟨i+1,m,upd_same,by omega,hx,fun y o hy=>by rw[upd_ne (fun e=>by rw[e,hn]at hy;cases hy)];exact s y o hy,hn⟩,fun y hy=>upd_ne hy⟩
 ·have hm:=OP (y:=Go.bits .xor .i64 (m.fdiv (2^min (Int.toNat 33) IntKind.i64.bits)) (m.fdiv (2^min (Int.toNat 45) IntKind.i64.bits))) (m:=255);exact⟨_,rfl,hm.1,hm.2,⟨i,m,upd_same,hi2,hx,hs1,hn⟩,fun y hy=>upd_ne hy⟩
theorem zU(hi:qaC S h0)(H:zI h0 h b T code a c)(hl:code.length<=1048576)(n:Int)(h1:1<=n:=by omega)(h2:n<=1000000:=by omega) :
  zb oPP S zw #[.pointer (some ⟨b,0,none⟩),.int .i64 n] h (fun v h'=>∃x,v=.int .i64 x/\0<=x/\x<n/\zI h0 h' b T code a c/\∀y,y≠b->h' y=h y):=by
 refine Jh (vs:=[.pointer (some ⟨b,0,none⟩),.int .i64 n]) ⟨rfl,rfl,trivial⟩ (hi.sub H.sub) ?_;simp only[EX,Tr.wp,z4,Ex.ev,coerce,toInt_int,za,zx,z9,arith,Cst.val,SV.den,zn,zL,zz,zk,zi,zy,vF,vG,vA,vB,vL,vR,vD,vE,vI,vH,vJ,vV,vK];have hn0:(n != 0)=true:=bne_iff_ne.2 (by omega);have md:∀x:Int,0<=x->0<=x.tmod n/\x.tmod n<n:=fun x hx=>by
  rw[uA hx];exact⟨Int.emod_nonneg _ (by omega),Int.emod_lt_of_pos _ (by omega)⟩
 refine⟨fun hle=>?_,fun hgt=>?_⟩
 ·refine(DG hi H hl).mono ?_;rintro _ h3 ⟨x,rfl,x0,x1,C,f⟩;have:=md x x0;exact⟨_,rfl,hn0,_,rfl,this.1,this.2,C,f⟩
 ·refine(DG hi H hl).mono ?_;rintro _ h3 ⟨x,rfl,x0,x1,C,f⟩;refine⟨_,rfl,?_⟩;refine(DG hi C hl).mono ?_;rintro _ h4 ⟨y,rfl,y0,y1,C2,f2⟩;refine⟨_,rfl,?_⟩;refine(DG hi C2 hl).mono ?_;rintro _ h5 ⟨z,rfl,z0,z1,C3,f3⟩;have w:IntKind.i64.wrap (IntKind.i64.wrap (IntKind.i64.wrap (x*65536)+IntKind.i64.wrap (y*256))+z)=x*65536+y*256+z:=by
   rw[i64_in (x*65536) (by omega),i64_in (y*256) (by omega),i64_in (x*65536+y*256) (by omega),i64_in _ (by omega)]
  refine⟨_,rfl,hn0,?_⟩;rw[w];have:=md (x*65536+y*256+z) (by omega);exact⟨_,rfl,this.1,this.2,C3,fun y hy=>by rw[f3 y hy,f2 y hy,f y hy]⟩
theorem PX(hi:qaC S h0)(H:zI h0 h b T code a c)(hl:code.length<=1048576)(n:Nat)(h2:n<=100000:=by omega) :
  zb oPP S jx #[.pointer (some ⟨b,0,none⟩),.int .i64 n] h (fun v h'=>∃ys:List Int,ys.length=n/\tB.O h' v ys/\tB.New h v/\zI h0 h' b T code a c/\(∀y,h y≠none->y≠b->h' y=h y)/\∀y∈ys,0<=y/\y<256):=by
 refine Ko (vs:=[.pointer (some ⟨b,0,none⟩),.int .i64 n]) ⟨rfl,rfl,trivial⟩ (hi.sub H.sub) ?_;simp only[Gn,Tr.wp,z4,Ex.ev,coerce,toInt_int,za,zc,ze,zd,zx,z9,arith,Cst.val,SV.den,zn,zL,zz,zk,zi,zy,zV,vF,vG,vA,vB,vC,vL,vR,vD,vE,vI,vH,vJ,vV,vK];intro b0 hb0;have hb00:=ya H.sub hb0;have hne0:b0≠b:=fun e=>H.held (e▸hb0)
 have s0:qaB h (upd h b0 (.cells (ints .u8 []) 5)):=Sub.zC hb0;refine⟨fun us h'=>∃(a1:Option Addr) (c1 i:Nat) (ys:List Int),us=[.slice a1 i c1,.int .i64 i]/\i<=n/\ys.length=i/\Part .u8 h' (.slice a1 i c1) ys/\(∀y,zh (.slice a1 i c1)=some y->h y=none)/\zI h0 h' b T code a c/\(∀y,h y≠none->y≠b->h' y=h y)/\∀y∈ys,0<=y/\y<256,
  fun us _=>n-(toInt (us.getD 1 undef)).toNat,⟨_,_,0,[],rfl,by omega,rfl,(Own.made []).part,New.of hb0,H.mono s0,fun y hy _=>upd_ne fun e=>hy (e▸hb0),fun y hy=>by cases hy⟩,?_⟩
 rintro a1 l1 c1 x h' ⟨a1',c1',i,ys,hx1,hi2,hy,P,N,C,f,hbs⟩;obtain⟨⟨rfl,rfl,rfl⟩,rfl⟩:(a1=a1'/\l1=i/\c1=c1')/\x=i:=by simpa using hx1
 refine⟨fun hlt=>?_,fun hge=>?_⟩
 ·refine(DG hi C hl).mono ?_;rintro _ h3 ⟨x,rfl,x0,x1,C2,f2⟩;have hnb:zh (.slice a1 l1 c1)≠some b:=fun e=>by have:=N b e;exact H.held this
  have P2:Part .u8 h3 (.slice a1 l1 c1) ys:=P.keep fun y hy=>f2 y fun e=>hnb (e▸hy)
  refine⟨_,rfl,fun b1 hb1=>?_⟩;have s3:qaB h3 (upd h3 b1 (.cells (ints .u8 [IntKind.u8.wrap x]) 5)):=Sub.zC hb1;refine yA hi (C2.sub.trans s3) (P2.sub s3) (fun y hy=>ya H.sub (N y hy)) (ys:=[IntKind.u8.wrap x]) zo.new (by simp only[pC];omega) fun v' h4 o n4 s4 keep hblk=>?_
  obtain⟨a4,c4,rfl,_,_⟩:=o.ints;have keep':∀y,upd h3 b1 (.cells (ints .u8 [IntKind.u8.wrap x]) 5) y≠none->zh (.slice a1 l1 c1)≠some y->h4 y=upd h3 b1 (.cells (ints .u8 [IntKind.u8.wrap x]) 5) y:=keep;have h3b:upd h3 b1 (.cells (ints .u8 [IntKind.u8.wrap x]) 5) b=h3 b:=upd_ne fun e=>C2.held (e▸hb1)
  have w2:IntKind.i64.wrap ((l1:Int)+1)=((l1+1:Nat):Int):=zr;have el:(ys++[IntKind.u8.wrap x]).length=l1+1:=by simp[hy]
  rw[el]at o n4 hblk;simp only[zd,zc,ze,w2,el];refine⟨⟨a4,c4,l1+1,_,rfl,by omega,el,o,?_,C2.keep s4 (by rw[keep' b (by rw[h3b];exact C2.held) hnb,h3b]),fun y hy1 hy2=>?_,fun y hy=>?_⟩,by simp only[vB,vA,toInt_int];omega⟩
  ·rcases hblk with e | e
   ·intro y hy;rw[e]at hy;exact N y hy
   ·intro y hy2;have h5:upd h3 b1 (.cells (ints .u8 [IntKind.u8.wrap x]) 5) y=none:=e y hy2;have h6:=ya s3 h5;by_cases hyb:y=b
    ·subst hyb;exact absurd h6 C2.held
    ·rw[f2 y hyb]at h6;cases hh:h y with
     | none=>rfl
     | some o=>rw[f y (by rw[hh];simp) hyb,hh]at h6;cases h6
  ·have h5:h3 y=h y:=by rw[f2 y hy2,f y hy1 hy2]
   have h6:upd h3 b1 (.cells (ints .u8 [IntKind.u8.wrap x]) 5) y=h3 y:=upd_ne fun e=>hy1 (by rw[<-h5,e];exact hb1)
   rw[keep' y (by rw[h6,h5];exact hy1) (fun e=>hy1 (N y e)),h6,h5]
  ·rcases pU.1 hy with hy | hy
   ·exact hbs y hy
   ·rw[uF.1 hy,mP];omega
 ·obtain rfl:l1=n:=by omega
  exact⟨ys,hy,P,N,C,f,hbs⟩
end
variable {a1:Option Addr}{b1 byt c1 l1:Nat}
section
theorem xP(hi:qaC S h0)(H:zI h0 h b T code a c)(hl:code.length<=1048576)(n:Int)(h1:1<=n:=by omega)(h2:n<=1000000:=by omega) :
  zb oPP S yw #[.pointer (some ⟨b,0,none⟩),.int .i64 n] h (fun v h'=>∃x,v=.bool x/\zI h0 h' b T code a c/\∀y,y≠b->h' y=h y):=by
 refine Kr (vs:=[.pointer (some ⟨b,0,none⟩),.int .i64 n]) ⟨rfl,rfl,trivial⟩ (hi.sub H.sub) ?_;simp only[Gr,Tr.wp,z4,Ex.ev,coerce,toInt_int,zx,z9,Cst.val,SV.den,zn,zL,zz,zk,zi,zy,vF,vG,vA,vB,vD,vE,vI,vH,vJ,vV,vK];refine(zU hi H hl n h1 h2).mono ?_;rintro _ h3 ⟨x,rfl,_,_,C,f⟩;exact⟨_,rfl,_,rfl,C,f⟩
def SE(h0 h:qaA)(b:Nat)(T:TypeId)(code:List Int)(a:Option Addr)(c:Nat)(P:List Int->Prop)(v:Value)(h':qaA):Prop:=
 ∃ys:List Int,P ys/\tB.O h' v ys/\tB.New h v/\zI h0 h' b T code a c/\(∀y,h y≠none->y≠b->h' y=h y)/\∀y∈ys,0<=y/\y<256
theorem WL(hi:qaC S h0)(H:zI h0 h b T code a c){h3:qaA}(hy:ys.length=l1)(P:Part .u8 h3 (.slice a1 l1 c1) ys)(N:∀y,zh (.slice a1 l1 c1)=some y->h y=none)(C2:zI h0 h3 b T code a c)(f:∀y,h y≠none->y≠b->h3 y=h y)(hl:ys.length<=1000000)(hb1:h3 b1=none)(x:Int){ty:TypeId}(hby:byt<=16){K:Value->qaA->Prop}
  (hK:∀a4 c4 h4,Part .u8 h4 (.slice a4 (l1+1) c4) (ys++[x])->(∀y,zh (.slice a4 (l1+1) c4)=some y->h y=none)->zI h0 h4 b T code a c->(∀y,h y≠none->y≠b->h4 y=h y)->K (.slice a4 (l1+1) c4) h4) :
  appW S ty 1 byt [.int .u8 0] (.slice a1 l1 c1) (.slice (some ⟨b1,0,none⟩) 1 1) (upd h3 b1 (.cells (ints .u8 [x]) 5)) K:=by
 have hnb:zh (.slice a1 l1 c1)≠some b:=fun e=>H.held (N b e)
 have s3:qaB h3 (upd h3 b1 (.cells (ints .u8 [x]) 5)):=Sub.zC hb1;have hlen:(ys.length + [x].length)*byt<=1000001*16:=Nat.mul_le_mul (by simp only[pC];omega) hby;refine yA hi (C2.sub.trans s3) (P.sub s3) (fun y hy=>ya H.sub (N y hy)) (ys:=[x]) zo.new (nW hlen (by decide)) fun v' h4 o n4 s4 keep hblk=>?_
 obtain⟨a4,c4,rfl,_,_⟩:=o.ints;have h3b:upd h3 b1 (.cells (ints .u8 [x]) 5) b=h3 b:=upd_ne fun e=>C2.held (e▸hb1)
 have el:(ys++[x]).length=l1+1:=by simp[hy]
 rw[el]at o n4 hblk ⊢;refine hK a4 c4 h4 o ?_ (C2.keep s4 (by rw[keep b (by rw[h3b];exact C2.held) hnb,h3b])) (fun y hy1 hy2=>?_)
 ·rcases hblk with e | e
  ·intro y hy;rw[e]at hy;exact N y hy
  ·intro y hy2;have h6:=ya s3 (e y hy2);cases hh:h y with
   | none=>rfl
   | some o=>
    by_cases hyb:y=b
    ·subst hyb;exact absurd h6 C2.held
    ·rw[f y (by rw[hh];simp) hyb,hh]at h6;cases h6
 ·have h5:h3 y=h y:=f y hy1 hy2;have h6:upd h3 b1 (.cells (ints .u8 [x]) 5) y=h3 y:=upd_ne fun e=>hy1 (by rw[<-h5,e];exact hb1)
  rw[keep y (by rw[h6,h5];exact hy1) (fun e=>hy1 (N y e)),h6,h5]
theorem J0(hi:qaC S h0)(H:zI h0 h b T code a c)(hl:code.length<=1048576)(most:Int)(hm1:1<=most:=by omega)(hm2:most<=100000:=by omega) :
  zb oPP S qz #[.pointer (some ⟨b,0,none⟩),.int .i64 most] h (SE h0 h b T code a c fun ys=>(ys.length:Int)<most):=by
 refine Kq (vs:=[.pointer (some ⟨b,0,none⟩),.int .i64 most]) ⟨rfl,rfl,trivial⟩ (hi.sub H.sub) ?_;simp only[Gq,Tr.wp,z4,Ex.ev,coerce,toInt_int,za,zc,ze,zd,zx,z9,arith,Cst.val,SV.den,zn,zL,zz,zk,zi,zy,zV,vF,vG,vA,vB,vC,vQ,vL,vR,vD,vE,vI,vH,vJ,vV,vK];refine(zU hi H hl most hm1).mono ?_;rintro _ h1 ⟨n,rfl,n0,n1,C1,f1⟩;refine⟨_,rfl,?_⟩;refine(xP hi C1 hl 6).mono ?_;rintro _ h2 ⟨t,rfl,C2,f2⟩;obtain⟨m,rfl⟩:=vU n0;have back:∀y,h2 y=none->h y=none:=fun y hy=>by
  by_cases hyb:y=b
  ·subst hyb;exact absurd hy C2.held
  ·rw[f2 y hyb,f1 y hyb]at hy;exact hy
 have fw:∀y,y≠b->h2 y=h y:=fun y hyb=>by rw[f2 y hyb,f1 y hyb]
 refine⟨_,rfl,fun ht=>?_,fun ht=>?_⟩
 ·refine(PX hi C2 hl m).mono ?_;rintro _ h3 ⟨ys,hy,O,N,C3,f3,hbs⟩;obtain⟨a3,c3,rfl⟩:=So (tB.OR O);exact⟨_,_,_,rfl,ys,by omega,O,fun y hy=>back y (N y hy),C3,fun y h1 h2=>by rw[f3 y (by rw[fw y h2];exact h1) h2,fw y h2],hbs⟩
 ·intro b0 hb0;have s0:qaB h2 (upd h2 b0 (.cells (ints .u8 []) 5)):=Sub.zC hb0;refine⟨fun us h'=>∃(a1:Option Addr) (c1 i:Nat) (ys:List Int),us=[.slice a1 i c1,.int .i64 i]/\i<=m/\ys.length=i/\Part .u8 h' (.slice a1 i c1) ys/\(∀y,zh (.slice a1 i c1)=some y->h y=none)/\zI h0 h' b T code a c/\(∀y,h y≠none->y≠b->h' y=h y)/\∀y∈ys,0<=y/\y<256,
   fun us _=>m-(toInt (us.getD 1 undef)).toNat,⟨_,_,0,[],rfl,by omega,rfl,(Own.made []).part,fun y hy=>back y (New.of hb0 y hy),C2.mono s0,fun y h1 h2=>by rw[upd_ne fun e=>h1 (by rw[<-fw y h2,e];exact hb0),fw y h2],fun y hy=>by cases hy⟩,?_⟩
  rintro a1 l1 c1 x h' ⟨a1',c1',i,ys,hx1,hi2,hy,P,N,C,f,hbs⟩;obtain⟨⟨rfl,rfl,rfl⟩,rfl⟩:(a1=a1'/\l1=i/\c1=c1')/\x=i:=by simpa using hx1
  refine⟨fun hlt=>?_,fun hge=>?_⟩
  ·refine(zU hi C hl 3).mono ?_;rintro _ h3 ⟨x,rfl,x0,x1,C3,f3⟩;have hnb:zh (.slice a1 l1 c1)≠some b:=fun e=>H.held (N b e)
   refine⟨_,rfl,fun b1 hb1=>?_⟩;have w2:IntKind.i64.wrap ((l1:Int)+1)=((l1+1:Nat):Int):=zr;refine WL hi H hy (P.keep fun y hy=>f3 y fun e=>hnb (e▸hy)) N C3 (fun y h1 h2=>by rw[f3 y h2,f y h1 h2]) (by omega) hb1 _ (by omega) fun a4 c4 h4 P4 N4 C4 f4=>?_
   simp only[zd,zc,ze,w2];refine⟨⟨a4,c4,l1+1,_,rfl,by omega,by simp[hy],P4,N4,C4,f4,fun y hy=>?_⟩,by simp only[vB,vA,toInt_int];omega⟩;rcases pU.1 hy with hy | hy
   ·exact hbs y hy
   ·rw[uF.1 hy,mP];omega
  ·obtain rfl:l1=m:=by omega
   exact⟨ys,by omega,P,N,C,f,hbs⟩
end
variable {v v2:Value}{g h' h2:qaA}{k:IntKind}
section
structure GSt(k:IntKind)(h0 h h':qaA)(b:Nat)(T:TypeId)(code:List Int)(a:Option Addr)(c:Nat)(v:Value)(ys:List Int):Prop where
 P:Part k h' v ys
 N:∀y,zh v=some y->h y=none
 C:zI h0 h' b T code a c
 F:∀y,h y≠none->y≠b->h' y=h y
theorem GSt.ne(H0:zI h0 h b T code a c)(L:GSt k h0 h h' b T code a c v ys):zh v≠some b:=fun e=>H0.held (L.N b e)
theorem GSt.step{v:Value}{ys:List Int}(H0:zI h0 h b T code a c)(L:GSt k h0 h h' b T code a c v ys){h2:qaA}(C2:zI h0 h2 b T code a c)(f:∀y,h' y≠none->y≠b->h2 y=h' y):GSt k h0 h h2 b T code a c v ys:=
 ⟨L.P.keep fun y hy=>f y (L.P.held y hy) fun e=>L.ne H0 (e▸hy),L.N,C2,fun y hy hne=>by rw[f y (by rw[L.F y hy hne];exact hy) hne,L.F y hy hne]⟩
theorem GSt.cur(H0:zI h0 h b T code a c)(L:GSt k h0 h h' b T code a c v ys)(C2:zI h0 h2 b T code a c)(f:∀y,y≠b->h2 y=h' y):GSt k h0 h h2 b T code a c v ys:=L.step H0 C2 fun y _=>f y
theorem GSt.sub(H0:zI h0 h b T code a c)(L:GSt k h0 h h' b T code a c v ys)(s:qaB h' h2):GSt k h0 h h2 b T code a c v ys:=L.step H0 (L.C.mono s) fun y hy _=>by
 cases hh:h' y with
 | none=>exact absurd hh hy
 | some o=>exact s y o hh
theorem GSt.was(L:GSt k h0 h h' b T code a c v ys)(hb:h b≠none){y:Nat}(hy:h' y=none):h y=none:=by
 cases hh:h y with
 | none=>rfl
 | some o=>
  by_cases e:y=b
  ·subst e;exact absurd hy L.C.held
  ·rw[L.F y (by rw[hh];simp) e,hh]at hy;cases hy
theorem GSt.base(L:GSt k h0 g h' b T code a c v ys)(hg:∀y,h y≠none->y≠b->g y=h y)(hb:g b≠none):GSt k h0 h h' b T code a c v ys:=by
 refine⟨L.P,fun y hy=>?_,L.C,fun y hy hne=>by rw[L.F y (by rw[hg y hy hne];exact hy) hne,hg y hy hne]⟩;have h1:=L.N y hy;cases hh:h y with
 | none=>rfl
 | some o=>
  by_cases e:y=b
  ·subst e;exact absurd h1 hb
  ·rw[hg y (by rw[hh];simp) e,hh]at h1;cases h1
theorem GSt.more(H0:zI h0 h b T code a c)(L:GSt k h0 h h' b T code a c v ys){ys2:List Int}(P2:Part k h2 v2 ys2)(N2:qaD (xy h' v) v2)(s2:qaB (xy h' v) h2):GSt k h0 h h2 b T code a c v2 ys2:=by
 have kp:∀y,h' y≠none->zh v≠some y->h2 y=h' y:=fun y hy hn=>by
  have e:xy h' v y=h' y:=by unfold xy;rw[vM hn]
  cases hh:h' y with
  | none=>exact absurd hh hy
  | some o=>exact s2 y o (by rw[e,hh])
 have hs:qaB h0 h2:=fun y o hy=>by
  have h1:=L.C.sub y o hy;have h2':=H0.sub y o hy;rw[kp y (by rw[h1];simp) (fun e=>by rw[L.N y e]at h2';cases h2'),h1]
 refine⟨P2,fun y hy=>?_,L.C.keep hs (kp b L.C.held (L.ne H0)),fun y hy hne=>?_⟩
 ·have h1:=N2 y hy;unfold xy at h1;by_cases e:zh v=some y
  ·exact L.N y e
  ·rw[vM e]at h1;exact L.was H0.held h1
 ·rw[kp y (by rw[L.F y hy hne];exact hy) (fun e=>hy (L.N y e)),L.F y hy hne]
theorem GSt.inv(hi:qaC S h0)(H0:zI h0 h b T code a c)(L:GSt k h0 h h' b T code a c v ys):qaB h0 (xy h' v):=fun y o hy=>by
 have h2:=H0.sub y o hy;unfold xy;rw[vM (fun e=>by rw[L.N y e]at h2;cases h2)];exact L.C.sub y o hy
theorem GSt.shape(L:GSt k h0 h h' b T code a c v ys):∃a1 c1,v=.slice a1 ys.length c1/\ys.length<=c1/\zo h' k a1 ys:=L.P.ints
theorem GSt.cell(L:GSt k h0 h h' b T code a c (.slice a1 l1 c1) ys)(hi:i<ys.length):l1=ys.length/\(!a1.isNone)=true/\zj h' (((a1.getD default).add (i*1)).add 0)=some (.int k ys[i]):=by
 obtain⟨a',c',e,_,hxx⟩:=L.P.ints;simp only[uH]at e;obtain⟨rfl,rfl,rfl⟩:=e;obtain⟨g1,g2⟩:=hxx.cell (vO hi);exact⟨rfl,by simpa using g2,by simpa[add_add]using g1⟩
theorem GSt.set(hi:qaC S h0)(H0:zI h0 h b T code a c)(L:GSt k h0 h h' b T code a c (.slice a1 l1 c1) ys)(hil:i<ys.length)(x:Int) :
  xE S h' (((a1.getD default).add (i*1)).add 0)/\GSt k h0 h (zQ h' (((a1.getD default).add (i*1)).add 0) (.int k x)) b T code a c (.slice a1 l1 c1) (ys.set i x):=by
 have hnb:=L.ne H0;obtain⟨g1,g2,g3⟩:=FI (S:=S) L.P (fun y hy hs=>hi y hs (ya H0.sub (L.N y hy))) hil x;refine⟨g1,g2,L.N,L.C.keep (fun y o hy=>?_) (g3 b hnb),fun y hy hne=>by rw[g3 y (fun e=>hy (L.N y e)),L.F y hy hne]⟩;have h2:=H0.sub y o hy;rw[g3 y (fun e=>by rw[L.N y e]at h2;cases h2)];exact L.C.sub y o hy
theorem GSt.new(H0:zI h0 h b T code a c)(hb1:h b1=none)(ys:List Int){ty:TypeId}:GSt k h0 h (upd h b1 (.cells (ints k ys) ty)) b T code a c (.slice (some ⟨b1,0,none⟩) ys.length ys.length) ys:=
 ⟨(Own.made ys).part,New.of hb1,H0.mono (Sub.zC hb1),fun y hy _=>upd_ne fun e=>hy (e▸hb1)⟩
theorem GSt.new'(Hg:zI h0 g b T code a c)(hg:∀y,h y≠none->y≠b->g y=h y)(hb1:g b1=none)(ys:List Int){ty:TypeId}:GSt k h0 h (upd g b1 (.cells (ints k ys) ty)) b T code a c (.slice (some ⟨b1,0,none⟩) ys.length ys.length) ys:=
 (GSt.new Hg hb1 ys).base hg Hg.held
theorem GSt.apps(hi:qaC S h0)(H0:zI h0 h b T code a c)(L:GSt k h0 h h' b T code a c v ys){zs:List Int}(s1:qaB h' h1)(hz:zo h1 k a1 zs){ty:TypeId}(hby:byt<=16)(hl:ys.length+zs.length<=3000000){K:Value->qaA->Prop}
  (hK:∀a2 c2 h2,GSt k h0 h h2 b T code a c (.slice a2 (ys++zs).length c2) (ys++zs)->(∀y,h1 y≠none->zh v≠some y->h2 y=h1 y)->K (.slice a2 (ys++zs).length c2) h2) :
  appW S ty 1 byt [.int k 0] v (.slice a1 zs.length c1) h1 K:=by
 have hnb:=L.ne H0;have hlen:(ys.length+zs.length)*byt<=3000000*16:=Nat.mul_le_mul hl hby;refine yA hi (L.C.sub.trans s1) (L.P.sub s1) (fun y hy=>ya H0.sub (L.N y hy)) hz (nW hlen (by decide)) fun v' h4 o n4 s4 keep hblk=>?_
 obtain⟨a4,c4,rfl,_,_⟩:=o.ints;have h3b:h1 b=h' b:=by
  cases hh:h' b with
  | none=>exact absurd hh L.C.held
  | some o=>exact s1 b o hh
 refine hK _ _ _ ⟨o,?_,L.C.keep s4 (by rw[keep b (by rw[h3b];exact L.C.held) hnb,h3b]),fun y hy1 hy2=>?_⟩ keep
 ·rcases hblk with e | e
  ·intro y hy;rw[e]at hy;exact L.N y hy
  ·intro y hy2;exact L.was H0.held (ya s1 (e y hy2))
 ·have h5:h' y=h y:=L.F y hy1 hy2;have h6:h1 y=h' y:=by
   cases hh:h' y with
   | none=>rw[h5]at hh;exact absurd hh hy1
   | some o=>exact s1 y o hh
  rw[keep y (by rw[h6,h5];exact hy1) (fun e=>hy1 (L.N y e)),h6,h5]
theorem GSt.app(hi:qaC S h0)(H0:zI h0 h b T code a c)(L:GSt k h0 h h' b T code a c (.slice a1 l1 c1) ys){ty ty2:TypeId}(hby:byt<=16)(hl:ys.length<=1000000)(hb1:h' b1=none){K:Value->qaA->Prop}
  (hK:∀a2 c2 h2,GSt k h0 h h2 b T code a c (.slice a2 (ys++[x]).length c2) (ys++[x])->(∀y,h' y≠none->zh (.slice a1 l1 c1)≠some y->h2 y=h' y)->K (.slice a2 (ys++[x]).length c2) h2) :
  appW S ty 1 byt [.int k 0] (.slice a1 l1 c1) (.slice (some ⟨b1,0,none⟩) 1 1) (upd h' b1 (.cells (ints k [x]) ty2)) K:=
 GSt.apps hi H0 L (zs:=[x]) (Sub.zC hb1) zo.new hby (by simp only[pC];omega) fun a2 c2 h2 L2 kp=>hK a2 c2 h2 L2 fun y hy hn=>by
  have e:upd h' b1 (.cells (ints k [x]) ty2) y=h' y:=upd_ne fun e=>hy (e▸hb1)
  rw[kp y (by rw[e];exact hy) hn,e]
theorem GSt.FA(L:GSt k h0 h h' b T code a c (.slice a1 ys.length c1) ys)(hn:n<=ys.length) :
  ∃a2 c2,qa 1 a1 0 n c1=.slice a2 (ys.take n).length c2/\GSt k h0 h h' b T code a c (.slice a2 (ys.take n).length c2) (ys.take n):=by
 obtain⟨_,_,e,hc,_⟩:=L.P.ints;cases e
 obtain⟨a2,c2,e,P2,N2,_⟩:=L.P.FA (h0:=h) L.N hn (show n<=c1 by omega) (uI _);exact⟨a2,c2,e,P2,N2,L.C,L.F⟩
def qu(k:IntKind)(h0 h:qaA)(b:Nat)(T:TypeId)(code:List Int)(a:Option Addr)(c:Nat)(P:List Int->Prop)(v:Value)(h':qaA):Prop:=∃a1 c1 ys,v=.slice a1 ys.length c1/\P ys/\GSt k h0 h h' b T code a c v ys
def jE(zs:List Int):Prop:=∀z∈zs,0<=z/\z<=1
theorem J1(h:jE xs)(g:jE ys):jE (xs++ys):=fun z hz=>(pU.1 hz).elim (h z) (g z)
def Rest(g:qaA)(v:Value)(h':qaA)(v2:Value):Prop:=∀y,g y≠none->zh v≠some y->h' y=g y/\zh v2≠some y
theorem Rest.refl:Rest g v g v:=fun y _ h=>⟨rfl,h⟩
theorem Rest.trans{v v1 v2:Value}(R:Rest g v h1 v1)(Q:Rest h1 v1 h2 v2):Rest g v h2 v2:=fun y hy hn=>by
 obtain⟨r1,r2⟩:=R y hy hn;obtain⟨q1,q2⟩:=Q y (by rw[r1];exact hy) r2;exact⟨by rw[q1,r1],q2⟩
theorem Rest.of(N2:qaD (xy g v) v2)(s2:qaB (xy g v) h2):Rest g v h2 v2:=fun y hy hn=>by
 have e:xy g v y=g y:=by unfold xy;rw[vM hn]
 refine⟨?_,fun e2=>?_⟩
 ·cases hh:g y with
  | none=>exact absurd hh hy
  | some o=>exact s2 y o (by rw[e,hh])
 ·have:=N2 y e2;rw[e]at this;exact hy this
theorem Rest.part{v v2 w:Value}(R:Rest g v h2 v2)(P:Part k g w ys)(hn:∀y,zh w=some y->zh v≠some y):Part k h2 w ys:=P.keep fun y hy=>(R y (P.held y hy) (hn y hy)).1
theorem wD(hi:qaC S h0)(H0:zI h0 h b T code a c)(L:GSt .u8 h0 h h' b T code a c (.slice a1 ys.length c1) ys)(hl:ys.length<=1000000)(o1:jE ys){x n:Int}(hx:0<=x/\x<=100000:=by omega)(hn:0<=n/\n<=16:=by omega) :
  zb oPP S yi #[.slice a1 ys.length c1,.int .u64 x,.int .i64 n] h' (fun v h2=>∃a2 c2 zs,v=.slice a2 zs.length c2/\zs.length=ys.length+n.toNat/\jE zs/\GSt .u8 h0 h h2 b T code a c (.slice a2 zs.length c2) zs/\Rest h' (.slice a1 ys.length c1) h2 (.slice a2 zs.length c2)):=by
 obtain⟨x,rfl⟩:=vU hx.1;obtain⟨n,rfl⟩:=vU hn.1;have hw:qaB (xy h' (.slice a1 ys.length c1)) h':=Ut;have K:=XS (hi.sub (L.inv hi H0)) hw L.P Uu x n (by omega) (by omega) (by omega);refine zb.mono K ?_;rintro v h2 ⟨P2,N2,s2⟩;have L2:=L.more H0 P2 N2 s2;obtain⟨a2,c2,rfl,_,_⟩:=P2.ints;exact⟨a2,c2,_,rfl,by rw[vY,FH];rfl,J1 o1 fun z hz=>Uj z hz,L2,Rest.of N2 s2⟩
end
variable {au:Option Addr}{cu:Nat}
section
theorem UU:kr (xs++ys)=kr xs+kr ys:=by simp[kr]
theorem ZX:kr [x]=xv x:=by simp[kr]
theorem Lo:∀ {xs:List Int} {i:Nat} (h:i<xs.length) (x:Int),kr (xs.set i x)=kr xs-xv xs[i]+xv x
 | y::r,0,h,x=>by simp[kr];omega
 | y::r,i+1,h,x=>by
  have:=Lo (xs:=r) (i:=i) (by simpa using h) x;simp only[kr,mM,vD,mU,List.getElem_cons_succ]at this ⊢;omega
theorem UW{y:Int}(h0:1<=y)(h1:y<=14):2*xv (y+1)=xv y:=by
 have:y=1\/y=2\/y=3\/y=4\/y=5\/y=6\/y=7\/y=8\/y=9\/y=10\/y=11\/y=12\/y=13\/y=14:=by omega
 rcases this with rfl | rfl | rfl | rfl | rfl | rfl | rfl | rfl | rfl | rfl | rfl | rfl | rfl | rfl <;> decide
theorem Xl:∀ {xs:List Int},(∀x∈xs,0<=x)->0<=kr xs
 | [],_=>by simp[kr]
 | x::r,h=>by
  have h1:=At x (h x (by simp));have h2:=Xl (xs:=r) fun y hy=>h y (by simp[hy])
  simp only[kr,vD,mU]at h2 ⊢;omega
theorem M3{p:Int->Prop}(h:∀y∈xs,p y)(hx:p x):∀y∈xs.set i x,p y:=fun y hy=>by
 rcases List.mem_or_eq_of_mem_set hy with g | g
 ·exact h y g
 ·rw[g];exact hx
theorem WM(hi:qaC S h0)(H:zI h0 h b T code a c)(hl:code.length<=1048576)(n k:Nat)(hn:n<=100)(hk:k<=1000) :
  zb oPP S Cn #[.pointer (some ⟨b,0,none⟩),.int .i64 n,.int .i64 k] h (qu .i64 h0 h b T code a c fun ys=>ys.length<=n/\∀y∈ys,0<=y/\y<n):=by
 refine Ku (vs:=[.pointer (some ⟨b,0,none⟩),.int .i64 n,.int .i64 k]) ⟨rfl,rfl,rfl,trivial⟩ (hi.sub H.sub) ?_;simp only[Gs,Tr.wp,z4,Ex.ev,coerce,toInt_int,za,zc,ze,zd,zx,xg,z9,arith,Cst.val,SV.den,zn,zL,zz,zk,zi,zy,zV,vF,vG,vA,vB,vC,vQ,vL,vR,vD,vE,vI,vH,vJ,vV,vK];intro b0 hb0;refine⟨fun us h'=>∃(a1:Option Addr) (c1 i:Nat) (ys:List Int),us=[.slice a1 ys.length c1,.int .i64 i]/\i<=n/\ys.length<=i/\(∀y∈ys,0<=y/\y<(n:Int))/\GSt .i64 h0 h h' b T code a c (.slice a1 ys.length c1) ys,
  fun us _=>n-(toInt (us.getD 1 undef)).toNat,⟨_,_,0,[],rfl,by omega,by simp,by simp,GSt.new H hb0 []⟩,?_⟩
 rintro a1 l1 c1 x h' ⟨a1',c1',i,ys,hx1,hi2,hy,hr,L⟩;simp only[uJ,uP,uH,pF,vW]at hx1;obtain⟨⟨rfl,rfl,rfl⟩,rfl⟩:=hx1;refine⟨fun hlt=>?_,fun hge=>⟨_,_,ys,rfl,⟨by omega,hr⟩,L⟩⟩;have hlt:(i:Int)<n:=by simp at hlt;omega
 have w1:IntKind.i64.wrap ((n:Int)-(i:Int))=((n-i:Nat):Int):=by rw[i64_in _ (by omega)];omega
 have w4:IntKind.i64.wrap ((i:Int)+1)=((i+1:Nat):Int):=zr;rw[w1,w4];refine(zU hi L.C hl ((n-i:Nat):Int)).mono ?_;rintro _ h3 ⟨x,rfl,x0,x1,C3,f3⟩;have L3:=L.cur H C3 f3;have meas:n-(toInt (Value.int .i64 ((i+1:Nat):Int))).toNat<n-(toInt (Value.int .i64 (i:Int))).toNat:=by rw[toInt_int,toInt_int];omega
 refine⟨_,rfl,fun hp b1 hb1=>?_,fun hp _=>?_⟩
 ·refine GSt.app hi H L3 (by omega) (by omega) hb1 fun a2 c2 h2 L4 _=>?_
  simp only[zd,zc,ze];refine fun _=>⟨⟨a2,c2,i+1,ys++[(i:Int)],rfl,by omega,by simp;omega,fun y hy=>by
   rcases pU.1 hy with hy | hy
   ·exact hr y hy
   ·simp only[uF]at hy;omega,L4⟩,meas⟩
 ·exact⟨⟨_,_,i+1,ys,rfl,by omega,by omega,hr,L3⟩,meas⟩
def SF(m:Int)(ys:List Int):Prop:=(∀y∈ys,1<=y/\y<=m)/\kr ys=32768
theorem SG(hi:qaC S h0)(H:zI h0 h b T code a c)(hl:code.length<=1048576)(n:Nat)(hn:n<=400)(m:Int)(hm:1<=m/\m<=15) :
  zb oPP S AT #[.pointer (some ⟨b,0,none⟩),.int .i64 n,.int .i64 m] h (qu .i64 h0 h b T code a c fun ys=>ys.length<=1000/\SF m ys):=by
 refine I2 (vs:=[.pointer (some ⟨b,0,none⟩),.int .i64 n,.int .i64 m]) ⟨rfl,rfl,rfl,trivial⟩ (hi.sub H.sub) ?_;simp only[DX,Tr.wp,z4,Ex.ev,coerce,toInt_int,za,zc,ze,zd,zf,zx,zM,xg,z9,arith,Cst.val,SV.den,zn,zL,zz,zk,zi,zy,zV,zq,yk,vF,vG,vA,vB,vC,vQ,vL,vR,vD,vE,vI,vH,vJ,vW,vV,vK];intro b0 hb0;refine⟨fun us h'=>∃(a1:Option Addr) (c1:Nat) (ys:List Int),us=[.slice a1 ys.length c1]/\2<=ys.length/\ys.length<=402/\SF m ys/\GSt .i64 h0 h h' b T code a c (.slice a1 ys.length c1) ys,
  fun us _=>500-slL (us.getD 0 undef),⟨_,_,[1,1],rfl,by simp,by simp,⟨by simp;omega,by decide⟩,GSt.new H hb0 [1,1]⟩,?_⟩
 rintro a1 l1 c1 h' ⟨a1',c1',ys,hx1,hy2,hy,G,L⟩;simp only[uJ,uH,vW]at hx1;obtain⟨rfl,rfl,rfl⟩:=hx1;refine⟨fun hlt=>?_,fun hge=>⟨_,_,ys,rfl,⟨by omega,G⟩,L⟩⟩;refine(zU hi L.C hl ((ys.length:Nat):Int)).mono ?_;rintro _ h3 ⟨x,rfl,x0,x1,C3,f3⟩;have L3:=L.cur H C3 f3;refine⟨_,rfl,?_⟩;refine⟨fun us h'=>∃i k:Nat,us=[.int .i64 i,.int .i64 k]/\i<ys.length/\k<=ys.length/\h'=h3,fun us _=>500-(toInt (us.getD 1 undef)).toNat,?_,?_⟩
 ·obtain⟨i,rfl⟩:=vU x0;exact⟨i,0,rfl,by omega,by omega,rfl⟩
 rintro x y h4 ⟨i,k,hx2,hi2,hk2,rfl⟩;simp only[uJ,uP,pF,vW]at hx2;obtain⟨rfl,rfl⟩:=hx2;obtain⟨_,g2,g3⟩:=L3.cell hi2;refine⟨g2,by omega,by omega,_,g3,fun hgo=>?_,fun hst=>?_⟩
 ·have hkl:(k:Int)<ys.length:=by simp at hgo;omega
  have w1:IntKind.i64.wrap ((i:Int)+1)=((i+1:Nat):Int):=zr;have w2:IntKind.i64.wrap ((k:Int)+1)=((k+1:Nat):Int):=zr;have w3:((i+1:Nat):Int).tmod ((ys.length:Nat):Int)=(((i+1)%ys.length:Nat):Int):=by rw[uA (by omega)];exact(Int.natCast_emod _ _).symm
  have hz:(ys.length:Int)≠0:=by omega
  rw[w1,w2,w3];refine⟨by simpa using hz,⟨_,_,rfl,gF _ (by omega),by omega,rfl⟩,?_⟩;show 500-(toInt (Value.int .i64 ((k+1:Nat):Int))).toNat<500-(toInt (Value.int .i64 (k:Int))).toNat;rw[toInt_int,toInt_int];omega
 ·refine⟨g2,by omega,by omega,_,g3,fun _=>⟨_,_,ys,rfl,⟨by omega,G⟩,L3⟩,fun hne=>⟨g2,by omega,by omega,_,g3,g2,by omega,by omega,?_⟩⟩;have hyi:=G.1 ys[i] (uX hi2);have hne:ys[i]≠m:=by simpa using hne
  have wy:IntKind.i64.wrap (ys[i]+1)=ys[i]+1:=i64_in _ (by omega);rw[wy];obtain⟨o1,L4⟩:=L3.set hi H hi2 (ys[i]+1);have e4:(ys.set i (ys[i]+1))[i]'(by rw[uR];exact hi2)=ys[i]+1:=by simp
  have G4:SF m (ys.set i (ys[i]+1)++[ys[i]+1]):=by
   refine⟨fun y hy=>?_,?_⟩
   ·rcases pU.1 hy with hy | hy
    ·exact M3 (p:=fun y=>1<=y/\y<=m) G.1 (by omega) y hy
    ·simp only[uF]at hy;omega
   ·have:=UW hyi.1 (by omega);rw[UU,ZX,Lo hi2,G.2];omega
  obtain⟨zs,hzs⟩:∃zs,zs=ys.set i (ys[i]+1):=⟨_,rfl⟩;have hl4:zs.length=ys.length:=by rw[hzs,uR]
  have hi4:i<zs.length:=by omega
  have e4':zs[i]=ys[i]+1:=by simp[hzs]
  rw[<-hzs]at L4 G4;refine⟨o1,g2,by omega,by omega,?_⟩;obtain⟨_,g5,g6⟩:=L4.cell hi4;refine⟨_,g6,fun b1 hb1=>?_⟩;rw[e4'];refine GSt.app hi H L4 (by omega) (by omega) hb1 fun a2 c2 h2 L5 _=>?_
  simp only[zd,zc,ze];have hl5:zs.length+1=(zs++[ys[i]+1]).length:=by simp
  refine⟨⟨_,_,_,rfl,by omega,by omega,G4,L5⟩,?_⟩;show 500-slL (Value.slice a2 _ c2)<500-slL (Value.slice a1 ys.length c1);rw[zc,zc,<-hl5];omega
def wU(ys:List Int):Prop:=(∀y∈ys,0<=y/\y<=15)/\kr ys<=32768
theorem HH(h:wU ys)(hl:ys.length<=320:=by omega):¬(zt ys=0\/zt ys=2):=by
 unfold zt;rw[vM (by omega),vM (fun e=>e h.1)];split
 ·decide
 ·rw[vM (by have:=h.2;omega)];split
  ·decide
  ·split <;> decide
theorem ZY(a:Addr)(n:Nat):(a.add n).block=a.block:=by unfold Addr.add;split <;> rfl
theorem FU(hi:qaC S h0)(H:zI h0 h b T code a c)(hl:code.length<=1048576)(n:Nat)(hn:n<=400)(U:Part .i64 h (.slice au us.length cu) us)(hub:zh (.slice au us.length cu)≠some b)(hul:us.length<=400)(hur:∀y∈us,0<=y/\y<(n:Int))(m:Int)(hm:1<=m/\m<=15:=by omega) :
  zb oPP S kj #[.pointer (some ⟨b,0,none⟩),.int .i64 n,.slice au us.length cu,.int .i64 m] h (qu .i64 h0 h b T code a c fun ys=>ys.length=n/\wU ys/\∀y∈ys,y<=m):=by
 refine I1 (vs:=[.pointer (some ⟨b,0,none⟩),.int .i64 n,.slice au us.length cu,.int .i64 m]) ⟨rfl,rfl,rfl,rfl,trivial⟩ (hi.sub H.sub) ?_;rw[DW];simp only[Tr.wp,Ex.ev,coerce,toInt_int,za,zc,ze,zd,zf,zM,z9,arith,Cst.val,zy,zV,zq,yk,vA,vB,vC,vQ,vL,vR,vD,vE,vI,vH,vW];have useU:∀ {h':qaA},(∀y,h y≠none->y≠b->h' y=h y)->zo h' .i64 au us:=fun f=>by
  have:=U.keep fun y hy=>f y (U.held y hy) fun e=>hub (e▸hy)
  obtain⟨_,_,e,_,hx⟩:=this.ints;cases e
  exact hx
 intro b0 hb0;refine⟨fun vs h'=>∃(a1:Option Addr) (c1:Nat) (ys:List Int),vs=[.slice a1 ys.length c1,.int .i64 ys.length]/\ys.length<=n/\(∀y∈ys,y=0)/\GSt .i64 h0 h h' b T code a c (.slice a1 ys.length c1) ys,
  fun vs _=>n-(toInt (vs.getD 1 undef)).toNat,⟨_,_,[],rfl,by simp,by simp,GSt.new H hb0 []⟩,?_⟩
 rintro a1 l1 c1 x h' ⟨a1',c1',ys,hx1,hy,hz0,L⟩;simp only[uJ,uP,uH,pF,vW]at hx1;obtain⟨⟨rfl,rfl,rfl⟩,rfl⟩:=hx1;refine⟨fun hlt b1 hb1=>?_,fun hge=>?_⟩
 ·have w4:IntKind.i64.wrap ((ys.length:Int)+1)=((ys.length+1:Nat):Int):=zr;rw[w4];refine GSt.app hi H L (by omega) (by omega) hb1 fun a2 c2 h2 L4 _=>?_
  simp only[zd,zc,ze];have el:ys.length+1=(ys++[(0:Int)]).length:=by simp
  refine⟨⟨_,_,_,by rw[el],by omega,fun y hy=>?_,L4⟩,?_⟩
  ·rcases pU.1 hy with hy | hy
   ·exact hz0 y hy
   ·simpa using hy
  ·show n-(toInt (Value.int .i64 ((ys.length+1:Nat):Int))).toNat<n-(toInt (Value.int .i64 (ys.length:Int))).toNat;rw[toInt_int,toInt_int];omega
 obtain rfl:ys.length=n:=by omega
 clear hge hy;have kz:kr ys=0:=Ib (by
  have:=Kz ys
  have:∀(zs:List Int),(∀y∈zs,y=0)->cn zs=0:=fun zs=>by
   induction zs with
   | nil=>intro _;rfl
   | cons z r ih=>intro hz;have:=ih fun y hy=>hz y (by simp[hy]);have h0:=hz z (by simp);subst h0;simpa[cn]using this
  exact this ys hz0)
 have fin:∀(zs:List Int) (h2:qaA),zs.length=ys.length->(∀y∈zs,0<=y/\y<=m)->kr zs<=32768->GSt .i64 h0 h h2 b T code a c (.slice a1 ys.length c1) zs ->
   qu .i64 h0 h b T code a c (fun ys_1=>ys_1.length=ys.length/\wU ys_1/\∀y∈ys_1,y<=m) (.slice a1 ys.length c1) h2:=fun zs h2 hz hr hk L=>by
  rw[<-hz]at L ⊢;exact⟨_,_,zs,rfl,⟨rfl,⟨fun y hy=>by have:=hr y hy;omega,hk⟩,fun y hy=>(hr y hy).2⟩,L⟩
 have key:∀(zs:List Int) (h2:qaA) (Ks:List Kt),zs.length=ys.length->(∀y∈zs,0<=y/\y<=m)->(kr zs<=32768/\(us.length≠1->kr zs=0))->GSt .i64 h0 h h2 b T code a c (.slice a1 ys.length c1) zs ->
   VF.wp oPP S yb (qu .i64 h0 h b T code a c fun ys_1=>ys_1.length=ys.length/\wU ys_1/\∀y∈ys_1,y<=m)
    [.pointer (some ⟨b,0,none⟩),.int .i64 ys.length,.slice au us.length cu,.int .i64 m,.slice (some ⟨b0,0,none⟩) 0 0,.slice a1 ys.length c1,.int .i64 ys.length] h2 ([Ks.getD 0 (fun _ _=>False),Ks.getD 1 (fun _ _=>False)]):=by
  intro zs h2 Ks hz hr hk L;simp only[VF,Tr.wp,z4,Ex.ev,coerce,toInt_int,za,zc,ze,zd,zf,zx,zM,xg,z9,arith,Cst.val,SV.den,zn,zL,zz,zk,zi,zy,zV,zq,yk,vF,vG,vA,vB,vC,vQ,vL,vR,vD,vE,vI,vH,vJ,vW,vV,vK];refine⟨fun hg=>?_,fun _ _=>fin zs h2 hz hr hk.1 L⟩;have hk0:kr zs=0:=hk.2 (fun e=>by rw[e]at hg;simp at hg);refine(SG hi L.C hl us.length hul m hm).mono ?_;rintro _ h3 ⟨al,cl,ls,rfl,⟨hls,G⟩,M⟩;refine⟨al,ls.length,cl,rfl,?_⟩;refine⟨fun vs h'=>∃(i:Nat) (qs:List Int),vs=[.int .i64 i]/\i<=us.length/\qs.length=ys.length/\(∀y∈qs,0<=y/\y<=m)/\kr qs<=kr (ls.take i)/\GSt .i64 h0 h h' b T code a c (.slice a1 ys.length c1) qs/\Part .i64 h' (.slice al ls.length cl) ls/\(∀y,zh (.slice al ls.length cl)=some y->zh (.slice a1 ys.length c1)≠some y),
   fun vs _=>us.length-(toInt (vs.getD 0 undef)).toNat,?_,?_⟩
  ·have hb1:∀y,zh (.slice a1 ys.length c1)=some y->h2 y≠none:=by rw[<-hz]at L ⊢;exact L.P.held
   refine⟨0,zs,rfl,by omega,hz,hr,by rw[hk0];simp[kr],L.step H M.C fun y hy hne=>M.F y hy hne,M.P,fun y e1 e2=>hb1 y e2 (M.N y e1)⟩
  rintro i h4 ⟨i',qs,hx2,hi2,hq,hqr,hqk,L4,P4,hne⟩;simp only[uJ,uP,pF,vW]at hx2;subst hx2;have kt:∀j,kr (ls.take j)<=32768:=fun j=>by
   have e:kr (ls.take j)+kr (ls.drop j)=kr ls:=by rw[<-UU,pZ]
   have:=Xl (xs:=ls.drop j) fun x hx=>by have:=G.1 x (gG hx);omega
   have:=G.2;omega
  refine⟨fun hc=>?_,fun _ _=>fin qs h4 hq hqr (Int.le_trans hqk (kt _)) L4⟩;have hlt:i'<us.length/\i'<ls.length:=by simp at hc;omega
  obtain⟨g1,g2⟩:=(useU (h':=h4) L4.F).cell (vO hlt.1);obtain⟨al2,cl2,e2,_,hl4⟩:=P4.ints;simp only[uH,pF]at e2;obtain⟨rfl,rfl⟩:=e2;obtain⟨g3,g4⟩:=hl4.cell (vO hlt.2);have hr2:=hur us[i'] (uX hlt.1);obtain⟨q,hq0⟩:=vU hr2.1;have hql:q<qs.length:=by omega
  have hlr:=G.1 ls[i'] (uX hlt.2);obtain⟨o1,L5⟩:=L4.set hi H hql ls[i'];have hl1:=L4.cell hql;have nz:(!au.isNone)=true:=by simpa using g2
  have nz2:(!al.isNone)=true:=by simpa using g4
  have w4:IntKind.i64.wrap ((i':Int)+1)=((i'+1:Nat):Int):=zr;refine⟨nz,by omega,by omega,us[i'],by simpa[add_add]using g1,nz2,by omega,by omega,ls[i'],by simpa[add_add]using g3,hl1.2.1,hr2.1,by omega,?_,?_,?_⟩
  ·rw[hq0];exact o1
  ·rw[hq0,w4];refine⟨i'+1,qs.set q ls[i'],rfl,by omega,by rw[uR];exact hq,M3 (p:=fun y=>0<=y/\y<=m) hqr (by omega),?_,L5,P4.keep fun y hy=>?_,hne⟩
   ·rw[Lo hql,B7 hlt.2];have:=At qs[q] (hqr _ (uX hql)).1;omega
   ·cases a1 with
    | none=>simp at hl1
    | some A=>simp only[zQ];rw[vM (fun e=>hne y hy (by rw[e];simp[zh,ZY]))]
  ·rw[w4];show us.length-(toInt (Value.int .i64 ((i'+1:Nat):Int))).toNat<us.length-(toInt (Value.int .i64 (i':Int))).toNat;rw[toInt_int,toInt_int];omega
 have hz:∀y∈ys,0<=y/\y<=m:=fun y hy=>by rw[hz0 y hy];omega
 refine⟨fun h1=>?_,fun _ _=>key ys h' [_,_] rfl hz ⟨by omega,fun _=>kz⟩ L⟩;have h1:us.length=1:=by simp at h1;omega
 have hlt:0<us.length:=by omega
 obtain⟨g1,g2⟩:=(useU (h':=h') L.F).cell (vO hlt);have nz:(!au.isNone)=true:=by simpa using g2
 have hr:=hur us[0] (uX hlt);obtain⟨q,hq0⟩:=vU hr.1;have hql:q<ys.length:=by omega
 obtain⟨o1,L5⟩:=L.set hi H hql 1;refine⟨nz,by simp,by omega,us[0],by simpa[add_add]using g1,(L.cell hql).2.1,hr.1,hr.2,by rw[hq0];exact o1,fun _=>?_⟩;rw[hq0];refine key (ys.set q 1) _ [_,_] (by rw[uR]) (M3 (p:=fun y=>0<=y/\y<=m) hz (by omega)) ⟨?_,fun e=>absurd h1 e⟩ L5;have:=At ys[q] (hz _ (uX hql)).1;have:xv 1=16384:=by decide
 rw[Lo hql,kz];omega
end
section
def srt(ys:List Int):Prop:=ys.Pairwise (· <= ·)
theorem M4(h:srt ys)(hx:∀y∈ys,y<=x):srt (ys++[x]):=
 List.pairwise_append.2 ⟨h,List.pairwise_singleton _ _,fun a ha b hb=>by rw[uF.1 hb];exact hx a ha⟩
theorem PY(h:srt ys)(hn:ys.length=n+1):∀y∈ys,y<=ys[n]'(by omega):=fun y hy=>by
 obtain⟨i,hi,rfl⟩:=List.getElem_of_mem hy;by_cases e:i=n
 ·subst e;exact pP _
 ·exact List.pairwise_iff_getElem.1 h i n _ _ (by omega)
theorem Is{p:Int->Prop}(h:∀y∈xs,p y)(hx:p x:=by omega):∀y∈xs++[x],p y:=fun y hy=>by
 rcases pU.1 hy with g | g
 ·exact h y g
 ·rw[uF.1 g];exact hx
def SH(h0 h:qaA)(b:Nat)(T:TypeId)(code:List Int)(a:Option Addr)(c:Nat)(v:Value)(h':qaA):Prop:=
 ∃a1 c1 xs a2 c2 ds,v=.tuple #[.slice a1 xs.length c1,.slice a2 ds.length c2]/\GSt .i64 h0 h h' b T code a c (.slice a1 xs.length c1) xs/\GSt .i64 h0 h h' b T code a c (.slice a2 ds.length c2) ds/\(257<=xs.length/\xs.length<=288)/\wU xs/\(1<=ds.length/\ds.length<=32)/\wU ds
theorem Xm(hi:qaC S h0)(H:zI h0 h b T code a c)(hl:code.length<=1048576)(L:GSt .i64 h0 h g b T code a c (.slice au us.length cu) us)(hul:us.length<=400)(hn:257<=n/\n<=286)(hur:∀y∈us,0<=y/\y<(n:Int))(Ks:List Kt)(e1 e2 e3 e4 e5 e6 e7 e8 e9:Value) :
  dlT.wp oPP S yb (SH h0 h b T code a c) [.pointer (some ⟨b,0,none⟩),e1,e2,e3,e4,e5,e6,e7,e8,e9,.slice au us.length cu,.int .i64 n] g Ks:=by
 simp only[dlT,Tr.wp,z4,Ex.ev,coerce,toInt_int,za,zc,ze,zd,zx,xL,arith,Cst.val,SV.den,zn,zL,zz,zk,zi,zy,vF,vG,vA,vB,vD,vE,vI,vH,vJ,vV,vK];refine(zU hi L.C hl 12).mono ?_;rintro _ h1 ⟨x,rfl,x0,x1,C1,f1⟩;have L1:=L.cur H C1 f1;refine⟨_,rfl,?_⟩;refine(xP hi C1 hl 6).mono ?_;rintro _ h2 ⟨t,rfl,C2,f2⟩;have L2:=L1.cur H C2 f2;refine⟨_,rfl,?_⟩;obtain⟨m,hm,m1,m2⟩:∃m:Nat,(if t=true then(30:Int)else IntKind.i64.wrap (1+x))=m/\1<=m/\m<=30:=by
  obtain⟨y,rfl⟩:=vU x0;cases t
  ·exact⟨1+y,by rw[vM (by decide)];exact zr,by omega,by omega⟩
  ·exact⟨30,by simp,by omega,by omega⟩
 simp only[hm];have w:IntKind.i64.wrap ((m:Int)+1)=((m+1:Nat):Int):=zr;rw[w];refine(zU hi C2 hl ((m+1:Nat):Int)).mono ?_;rintro _ h3 ⟨y,rfl,y0,y1,C3,f3⟩;have L3:=L2.cur H C3 f3;obtain⟨y,rfl⟩:=vU y0;refine⟨_,rfl,?_⟩;refine(WM hi C3 hl m y (by omega) (by omega)).mono ?_;rintro _ h4 ⟨ad,cd,ds,rfl,⟨hd1,hd2⟩,D4⟩;have L4:=L3.step H D4.C D4.F;refine⟨_,_,_,rfl,?_⟩;refine(FU hi D4.C hl n (by omega) L4.P (L4.ne H) hul hur 15).mono ?_;rintro _ h5 ⟨al,cl,ls,rfl,⟨ll,lf,_⟩,M5⟩;have D5:=D4.step C3 M5.C M5.F;refine⟨_,_,_,rfl,?_⟩;refine(FU hi M5.C hl m (by omega) D5.P (D5.ne C3) (by omega) hd2 15).mono ?_;rintro _ h6 ⟨a6,c6,zs,rfl,⟨l6,f6,_⟩,M6⟩;refine⟨_,_,_,rfl,?_⟩;have M7:=M5.step D4.C M6.C M6.F;have fw:∀y,h y≠none->y≠b->h4 y=h y:=L4.F;exact⟨_,_,ls,_,_,zs,rfl,M7.base fw D4.C.held,M6.base (fun y hy hne=>by rw[M5.F y (by rw[fw y hy hne];exact hy) hne,fw y hy hne]) M5.C.held,by omega,lf,by omega,f6⟩
theorem Qa(hi:qaC S h0)(H:zI h0 h b T code a c)(hl:code.length<=1048576) :
  zb oPP S wS #[.pointer (some ⟨b,0,none⟩)] h (SH h0 h b T code a c):=by
 refine Gz (vs:=[.pointer (some ⟨b,0,none⟩)]) ⟨rfl,trivial⟩ (hi.sub H.sub) ?_;rw[CE];simp only[Tr.wp,z4,Ex.ev,coerce,toInt_int,za,zc,ze,zd,zf,zx,zM,xW,jI,z9,arith,Cst.val,SV.den,zn,zL,zz,zk,zi,zy,zV,zq,vF,vG,vA,vB,vC,vQ,vL,vR,vD,vE,vI,vH,vJ,vW,vV,vK];intro b0 hb0;refine⟨fun us h'=>∃(a1:Option Addr) (c1 s:Nat) (ys:List Int),us=[.slice a1 ys.length c1,.int .i64 s]/\97<=s/\s<=100/\ys.length<=s-97/\(∀y∈ys,97<=y/\y<(s:Int))/\srt ys/\GSt .i64 h0 h h' b T code a c (.slice a1 ys.length c1) ys,
  fun us _=>100-(toInt (us.getD 1 undef)).toNat,⟨_,_,97,[],rfl,by omega,by omega,by simp,by simp,List.Pairwise.nil,GSt.new H hb0 []⟩,?_⟩
 rintro a1 l1 c1 x h' ⟨a1',c1',s,ys,hx1,hs1,hs2,hy,hr,hS,L⟩;simp only[uJ,uP,uH,pF,vW]at hx1;obtain⟨⟨rfl,rfl,rfl⟩,rfl⟩:=hx1;refine⟨fun hlt=>?_,fun hge b1 hb1=>?_⟩
 ·have w4:IntKind.i64.wrap ((s:Int)+1)=((s+1:Nat):Int):=zr;rw[w4];refine(zU hi L.C hl 4).mono ?_;rintro _ h3 ⟨x,rfl,x0,x1,C3,f3⟩;have L3:=L.cur H C3 f3;have meas:100-(toInt (Value.int .i64 ((s+1:Nat):Int))).toNat<100-(toInt (Value.int .i64 (s:Int))).toNat:=by rw[toInt_int,toInt_int];omega
  refine⟨_,rfl,fun hp b1 hb1=>?_,fun hp _=>?_⟩
  ·refine GSt.app hi H L3 (by omega) (by omega) hb1 fun a2 c2 h2 L4 _=>?_
   simp only[zd,zc,ze];exact fun _=>⟨⟨a2,c2,s+1,_,rfl,by omega,by omega,by simp;omega,Is (p:=fun y=>97<=y/\y<((s+1:Nat):Int)) (fun y hy=>by have:=hr y hy;omega),M4 hS fun y hy=>by have:=hr y hy;omega,L4⟩,meas⟩
  ·exact⟨⟨_,_,s+1,ys,rfl,by omega,by omega,by omega,fun y hy=>by have:=hr y hy;omega,hS,L3⟩,meas⟩
 obtain rfl:s=100:=by omega
 refine GSt.app hi H L (by omega) (by omega) hb1 fun a2 c2 h2 L2 _=>?_
 simp only[zd,zc,ze];refine⟨fun us h'=>∃(a1:Option Addr) (c1 s:Nat) (ys:List Int),us=[.slice a1 ys.length c1,.int .i64 s]/\257<=s/\s<=286/\(1<=ys.length/\ys.length<=s-97)/\(∀y∈ys,97<=y/\y<(s:Int))/\(∃y∈ys,(256:Int)<=y)/\srt ys/\GSt .i64 h0 h h' b T code a c (.slice a1 ys.length c1) ys,
  fun us _=>286-(toInt (us.getD 1 undef)).toNat,⟨_,_,257,_,rfl,by omega,by omega,by simp;omega,Is (p:=fun y=>97<=y/\y<((257:Nat):Int)) (fun y hy=>by have:=hr y hy;omega),⟨256,by simp,by omega⟩,M4 hS fun y hy=>by have:=hr y hy;omega,L2⟩,?_⟩
 clear L2 L hr hS hy;rintro a3 l3 c3 x h3 ⟨a3',c3',s,us,hx2,hs1,hs2,hu,hr,hbig,hS,L⟩;simp only[uJ,uP,uH,pF,vW]at hx2;obtain⟨⟨rfl,rfl,rfl⟩,rfl⟩:=hx2;refine⟨fun hlt=>?_,fun hge=>?_⟩
 ·have w4:IntKind.i64.wrap ((s:Int)+1)=((s+1:Nat):Int):=zr;rw[w4];refine(xP hi L.C hl 5).mono ?_;rintro _ h4 ⟨t,rfl,C4,f4⟩;have L4:=L.cur H C4 f4;have meas:286-(toInt (Value.int .i64 ((s+1:Nat):Int))).toNat<286-(toInt (Value.int .i64 (s:Int))).toNat:=by rw[toInt_int,toInt_int];omega
  refine⟨_,rfl,fun hp b1 hb1=>?_,fun hp _=>?_⟩
  ·refine GSt.app hi H L4 (by omega) (by omega) hb1 fun a5 c5 h5 L5 _=>?_
   simp only[zd,zc,ze];obtain⟨y,hy1,hy2⟩:=hbig;exact fun _=>⟨⟨a5,c5,s+1,_,rfl,by omega,by omega,by simp;omega,Is (p:=fun y=>97<=y/\y<((s+1:Nat):Int)) (fun y hy=>by have:=hr y hy;omega),⟨y,List.mem_append_left _ hy1,hy2⟩,M4 hS fun y hy=>by have:=hr y hy;omega,L5⟩,meas⟩
  ·exact⟨⟨_,_,s+1,us,rfl,by omega,by omega,by omega,fun y hy=>by have:=hr y hy;omega,hbig,hS,L4⟩,meas⟩
 obtain rfl:s=286:=by omega
 obtain⟨m,hm⟩:∃m,us.length=m+1:=⟨us.length-1,by omega⟩;have hml:m<us.length:=by omega
 have wm:IntKind.i64.wrap ((us.length:Int)-1)=((m:Nat):Int):=by rw[i64_in _ (by omega)];omega
 obtain⟨_,g2,g3⟩:=L.cell hml;have hlast:=PY hS hm;have hrl:=hr us[m] (uX hml);rw[wm];refine⟨g2,by omega,by omega,us[m],g3,?_⟩;refine(xP hi L.C hl 3).mono ?_;rintro _ h4 ⟨t,rfl,C4,f4⟩;have L4:=L.cur H C4 f4;refine⟨_,rfl,fun ht=>?_,fun ht _=>?_⟩
 ·refine(zU hi C4 hl 30).mono ?_;rintro _ h5 ⟨x,rfl,x0,x1,C5,f5⟩;have L5:=L4.cur H C5 f5;obtain⟨x,rfl⟩:=vU x0;have wx:IntKind.i64.wrap (257+(x:Int))=((257+x:Nat):Int):=zr;refine⟨_,rfl,?_⟩;rw[wx];refine⟨fun vs h'=>∃(a1:Option Addr) (c1:Nat) (ys:List Int),vs=[.slice a1 ys.length c1]/\ys.length<=189/\(∀y∈ys,97<=y/\y<((286:Nat):Int))/\srt ys/\GSt .i64 h0 h h' b T code a c (.slice a1 ys.length c1) ys,
   fun vs _=>slL (vs.getD 0 undef),⟨_,_,us,rfl,by omega,hr,hS,L5⟩,?_⟩
  rintro a6 l6 c6 h6 ⟨a6',c6',ws,hx3,hw,hwr,hwS,L6⟩;simp only[uJ,uH,vW]at hx3;obtain⟨rfl,rfl,rfl⟩:=hx3;have out:(∀y∈ws,y<((257+x:Nat):Int))->∀(Ks:List Kt) (e1 e2 e3 e4 e5 e6 e7 e8 e9:Value),dlT.wp oPP S yb (SH h0 h b T code a c) [.pointer (some ⟨b,0,none⟩),e1,e2,e3,e4,e5,e6,e7,e8,e9,.slice a6 ws.length c6,.int .i64 ((257+x:Nat):Int)] h6 Ks:=fun hlt Ks e1 e2 e3 e4 e5 e6 e7 e8 e9=>
   Xm hi H hl L6 (by omega) (by omega) (fun y hy=>⟨by have:=hwr y hy;omega,hlt y hy⟩) Ks e1 e2 e3 e4 e5 e6 e7 e8 e9
  refine⟨fun hpos=>?_,fun hzero=>?_⟩
  ·obtain⟨q,hq⟩:∃q,ws.length=q+1:=⟨ws.length-1,by omega⟩;have hql:q<ws.length:=by omega
   have wq:IntKind.i64.wrap ((ws.length:Int)-1)=((q:Nat):Int):=by rw[i64_in _ (by omega)];omega
   obtain⟨_,g4,g5⟩:=L6.cell hql;rw[wq];refine⟨g4,by omega,by omega,ws[q],g5,fun _=>⟨fun hge=>⟨by omega,?_⟩,fun hlt _=>?_⟩⟩
   ·obtain⟨_,_,ei,hci,_⟩:=L6.P.ints;cases ei
    refine⟨by omega,?_⟩;obtain⟨a7,c7,e7,L7⟩:=L6.FA (n:=q) (by omega);rw[vN,e7];have hl7:(ws.take q).length=q:=by rw[pK];omega
    refine⟨⟨_,_,ws.take q,rfl,by omega,fun y hy=>hwr y (lP hy),hwS.sublist (List.take_sublist _ _),L7⟩,?_⟩;simp only[vA,zc];omega
   ·have hlw:=PY hwS hq;exact out (fun y hy=>by have:=hlw y hy;simp at hlt;omega) _ _ _ _ _ _ _ _ _ _
  ·exact fun _=>⟨fun hf=>hf.elim,fun _ _=>out (fun y hy=>by have:ws=[]:=List.length_eq_zero_iff.1 (by omega);subst this;cases hy) _ _ _ _ _ _ _ _ _ _⟩
 ·obtain⟨y,hy1,hy2⟩:=hbig;have h256:(256:Int)<=us[m]:=by have:=hlast y hy1;omega
  obtain⟨z,hz⟩:=vU (show 0<=us[m] by omega);have wz:IntKind.i64.wrap (us[m]+1)=((z+1:Nat):Int):=by rw[hz];exact zr
  rw[wz];exact Xm hi H hl L4 (by omega) (by omega) (fun y hy=>⟨by have:=hr y hy;omega,by have:=hlast y hy;omega⟩) _ _ _ _ _ _ _ _ _ _
end
variable {ao:Option Addr}{co:Nat}{f:Bool}
section
theorem qw(U:Part k h (.slice au us.length cu) us)(hub:zh (.slice au us.length cu)≠some b)(f:∀y,h y≠none->y≠b->g y=h y):Part k g (.slice au us.length cu) us:=
 U.keep fun y hy=>f y (U.held y hy) fun e=>hub (e▸hy)
theorem xR(P:Part k h (.slice a1 l1 c1) ys)(hi:i<ys.length:=by omega):l1=ys.length/\(!a1.isNone)=true/\zj h (((a1.getD default).add (i*1)).add 0)=some (.int k ys[i]):=by
 obtain⟨a',c',e,_,hxx⟩:=P.ints;simp only[uH]at e;obtain⟨rfl,rfl,rfl⟩:=e;obtain⟨g1,g2⟩:=hxx.cell (vO hi);exact⟨rfl,by simpa using g2,by simpa[add_add]using g1⟩
structure Op where
 i:Nat
 s:Int
 x:Int
 e:Int
def Op.V(o:Op):Value:=.slice (some ⟨o.i,0,none⟩) 3 3
def Op.ok(o:Op):Prop:=(0<=o.s/\o.s<=18)/\(0<=o.x/\o.x<=127)/\0<=o.e/\o.e<=7
structure OSt(h0 h h':qaA)(b:Nat)(T:TypeId)(code:List Int)(a:Option Addr)(c:Nat)(v:Value)(ops:List Op):Prop where
 P:An h' v (ops.map Op.V)
 N:∀y,zh v=some y->h y=none
 I:∀o∈ops,h o.i=none/\zh v≠some o.i/\∃ty,h' o.i=some (.cells (ints .i64 [o.s,o.x,o.e]) ty)
 C:zI h0 h' b T code a c
 F:∀y,h y≠none->y≠b->h' y=h y
theorem OSt.shape{ops:List Op}(L:OSt h0 h h' b T code a c v ops):∃a1 c1,v=.slice a1 ops.length c1:=by
 obtain⟨a1,c1,e,_,_⟩:=L.P.vals;rw[lZ]at e;exact⟨a1,c1,e⟩
theorem OSt.step(H0:zI h0 h b T code a c){v:Value}{ops:List Op}(L:OSt h0 h h' b T code a c v ops){h2:qaA}(C2:zI h0 h2 b T code a c)(f:∀y,h' y≠none->y≠b->h2 y=h' y):OSt h0 h h2 b T code a c v ops:=by
 have hb:∀y,h y=none->y≠b:=fun y hy e=>H0.held (e▸hy)
 refine⟨L.P.keep fun y hy=>f y (L.P.held y hy) (hb y (L.N y hy)),L.N,fun o ho=>?_,C2,fun y hy hne=>by rw[f y (by rw[L.F y hy hne];exact hy) hne,L.F y hy hne]⟩;obtain⟨i1,i2,ty,i3⟩:=L.I o ho;exact⟨i1,i2,ty,by rw[f o.i (by rw[i3];simp) (hb _ i1),i3]⟩
theorem OSt.was{ops:List Op}(L:OSt h0 h h' b T code a c v ops)(hb:h b≠none){y:Nat}(hy:h' y=none):h y=none:=by
 cases hh:h y with
 | none=>rfl
 | some o=>
  by_cases e:y=b
  ·subst e;exact absurd hy L.C.held
  ·rw[L.F y (by rw[hh];simp) e,hh]at hy;cases hy
theorem OSt.base{ops:List Op}(L:OSt h0 g h' b T code a c v ops)(hg:∀y,h y≠none->y≠b->g y=h y)(hb:g b≠none):OSt h0 h h' b T code a c v ops:=by
 have bk:∀y,g y=none->h y=none:=fun y h1=>by
  cases hh:h y with
  | none=>rfl
  | some o=>
   by_cases e:y=b
   ·subst e;exact absurd h1 hb
   ·rw[hg y (by rw[hh];simp) e,hh]at h1;cases h1
 exact⟨L.P,fun y hy=>bk y (L.N y hy),fun o ho=>by obtain⟨i1,i2⟩:=L.I o ho;exact⟨bk _ i1,i2⟩,L.C,fun y hy hne=>by rw[L.F y (by rw[hg y hy hne];exact hy) hne,hg y hy hne]⟩
structure ORd(h:qaA)(v:Value)(ops:List Op):Prop where
 P:An h v (ops.map Op.V)
 I:∀o∈ops,∃ty,h o.i=some (.cells (ints .i64 [o.s,o.x,o.e]) ty)
theorem OSt.rd{ops:List Op}(L:OSt h0 h h' b T code a c v ops):ORd h' v ops:=⟨L.P,fun o ho=>(L.I o ho).2.2⟩
theorem ORd.same{ops:List Op}(L:ORd h v ops)(f:∀y,zh v=some y->h' y=h y)(g:∀o∈ops,h' o.i=h o.i):ORd h' v ops:=⟨L.P.keep f,fun o ho=>by obtain⟨ty,e⟩:=L.I o ho;exact⟨ty,by rw[g o ho,e]⟩⟩
theorem ORd.get{ops:List Op}(L:ORd h (.slice a1 l1 c1) ops)(hi:i<ops.length):l1=ops.length/\(!a1.isNone)=true/\zj h (((a1.getD default).add (i*1)).add 0)=some ops[i].V /\
  zj h (⟨ops[i].i,0,none⟩:Addr)=some (.int .i64 ops[i].s)/\zj h (⟨ops[i].i,1,none⟩:Addr)=some (.int .i64 ops[i].x)/\zj h (⟨ops[i].i,2,none⟩:Addr)=some (.int .i64 ops[i].e):=by
 obtain⟨a',c',e,_,hv⟩:=L.P.vals;rw[lZ]at e;cases e
 obtain⟨g1,g2⟩:=hv.cell (i:=i) (v:=ops[i].V) (by rw[uT,vO hi];rfl);obtain⟨ty,i3⟩:=L.I ops[i] (uX hi);refine⟨rfl,by simpa using g2,by simpa[add_add]using g1,?_,?_,?_⟩ <;> simp[zj,i3,ints]
theorem OSt.new(H0:zI h0 h b T code a c)(hb1:h b1=none){ty:TypeId}:OSt h0 h (upd h b1 (.cells #[] ty)) b T code a c (.slice (some ⟨b1,0,none⟩) 0 0) []:=
 ⟨An.made [],fun y hy=>(by cases hy;exact hb1),fun o ho=>(by cases ho),H0.mono (Sub.zC hb1),fun y hy _=>upd_ne fun e=>hy (e▸hb1)⟩
theorem OSt.app(hi:qaC S h0)(H0:zI h0 h b T code a c){ops:List Op}(L:OSt h0 h h' b T code a c (.slice a1 l1 c1) ops)(hl:ops.length<=1000000){s x e:Int}{b1 b2:Nat}(hb1:h' b1=none){ty1 ty2 ty:TypeId}(hb2:upd h' b1 (.cells (ints .i64 [s,x,e]) ty1) b2=none){K:Value->qaA->Prop}
  (hK:∀a2 c2 h2,OSt h0 h h2 b T code a c (.slice a2 (ops++[Op.mk b1 s x e]).length c2) (ops++[Op.mk b1 s x e])->K (.slice a2 (ops++[Op.mk b1 s x e]).length c2) h2) :
  appW S ty 1 24 [.slice none 0 0] (.slice a1 l1 c1) (.slice (some ⟨b2,0,none⟩) 1 1) (upd (upd h' b1 (.cells (ints .i64 [s,x,e]) ty1)) b2 (.cells #[.slice (some ⟨b1,0,none⟩) 3 3] ty2)) K:=by
 obtain⟨g,eg⟩:∃g,g=upd (upd h' b1 (.cells (ints .i64 [s,x,e]) ty1)) b2 (.cells #[.slice (some ⟨b1,0,none⟩) 3 3] ty2):=⟨_,rfl⟩;have s1:qaB h' (upd h' b1 (.cells (ints .i64 [s,x,e]) ty1)):=Sub.zC hb1;have s2:qaB (upd h' b1 (.cells (ints .i64 [s,x,e]) ty1)) g:=eg▸Sub.zC hb2;have sg:qaB h' g:=s1.trans s2;have hnb:zh (.slice a1 l1 c1)≠some b:=fun e=>H0.held (L.N b e)
 have g1:g b1=some (.cells (ints .i64 [s,x,e]) ty1):=s2 b1 _ upd_same;have g2:g b2=some (.cells #[.slice (some ⟨b1,0,none⟩) 3 3] ty2):=by rw[eg];exact upd_same
 have keepG:∀y,h' y≠none->g y=h' y:=fun y hy=>by
  cases hh:h' y with
  | none=>exact absurd hh hy
  | some o=>exact sg y o hh
 have hv1:zh (.slice a1 l1 c1)≠some b1:=fun e=>L.P.held b1 e hb1
 have P':An g (.slice a1 l1 c1) (ops.map Op.V):=L.P.keep fun y hy=>keepG y (L.P.held y hy)
 rw[<-eg];refine TH (u:=.slice (some ⟨b1,0,none⟩) 3 3) hi (L.C.sub.trans sg) P' (fun y hy=>ya H0.sub (L.N y hy)) (fun i v hv=>?_) Sd (by rw[lZ];omega) fun v' h4 o n4 s4 keep hblk=>?_
 ·cases i with
  | zero=>simp at hv;subst hv;exact⟨_,rfl,by simp[zj,g2,Addr.add]⟩
  | succ i=>simp at hv
 have el:ops.map Op.V++[(.slice (some ⟨b1,0,none⟩) 3 3:Value)]=(ops++[Op.mk b1 s x e]).map Op.V:=by simp[Op.V]
 rw[el]at o;obtain⟨a4,c4,e4,_,_⟩:=o.vals;rw[lZ]at e4;subst e4;have h1b:h b1=none:=L.was H0.held hb1;refine hK _ _ _ ⟨o,fun y hy=>?_,fun q hq=>?_,L.C.keep s4 (by rw[keep b (by rw[keepG b L.C.held];exact L.C.held) hnb,keepG b L.C.held]),fun y hy1 hy2=>?_⟩
 ·rcases hblk with e | e
  ·rw[e]at hy;exact L.N y hy
  ·exact L.was H0.held (ya sg (e y hy))
 ·have other:∀y,g y≠none->zh (.slice a1 l1 c1)≠some y->zh (.slice a4 (ops++[Op.mk b1 s x e]).length c4)≠some y:=fun y hy hn he=>by
   rcases hblk with e | e
   ·rw[e]at he;exact hn he
   ·exact hy (e y he)
  rcases pU.1 hq with hq | hq
  ·obtain⟨i1,i2,ty,i3⟩:=L.I q hq;have i4:g q.i=some (.cells (ints .i64 [q.s,q.x,q.e]) ty):=by rw[keepG _ (by rw[i3];simp),i3]
   exact⟨i1,other _ (by rw[i4];simp) i2,ty,by rw[keep _ (by rw[i4];simp) i2,i4]⟩
  ·rw[uF.1 hq];exact⟨h1b,other b1 (by rw[g1];simp) hv1,ty1,by rw[keep b1 (by rw[g1];simp) hv1,g1]⟩
 ·have h5:h' y=h y:=L.F y hy1 hy2;have h6:g y=h' y:=keepG y (by rw[h5];exact hy1);rw[keep y (by rw[h6,h5];exact hy1) (fun e=>hy1 (L.N y e)),h6,h5]
section
variable {ax:Option Addr}{cx:Nat}
def PkK(h0 h:qaA)(b:Nat)(T:TypeId)(code:List Int)(a:Option Addr)(c:Nat)(ops:List Op)(lim:Nat)(K:Kt):Prop:=
 ∀(a2:Option Addr) (c2:Nat) (h2:qaA) (ops2:List Op) (n2:Nat),OSt h0 h h2 b T code a c (.slice a2 ops2.length c2) ops2->ops2.length=ops.length+1->(∀o∈ops2,o.ok)->1<=n2->n2<=lim->K [.slice a2 ops2.length c2,.int .i64 n2] h2
theorem UX{ops:List Op}{o:Op}(h:∀o∈ops,o.ok)(g:o.ok):∀q∈ops++[o],q.ok:=fun q hq=>by
 rcases pU.1 hq with e | e
 ·exact h q e
 ·rw[uF.1 e];exact g
theorem M8(hi:qaC S h0)(H:zI h0 h b T code a c){ops:List Op}(L:OSt h0 h g b T code a c (.slice ao ops.length co) ops)(hol:ops.length<=1000)(ho:∀o∈ops,o.ok){n lim:Nat}{m k s e:Int}(h1:1<=n)(hn:n<=lim)(hl:lim<=1000)(hs:0<=s/\s<=18)(hk:1<=k/\k<=m/\m<=127+k/\m<=1000)(hkn:k<=n)(he:0<=e/\e<=7){ty ty1 ty2:TypeId}{K:Kt}{sh:List Sh}(hK:PkK h0 h b T code a c ops lim K) :
  ∀b1,g b1=none->∀b2,upd g b1 (.cells #[.int .i64 s,.int .i64 (IntKind.i64.wrap ((if(n:Int)>m then m else(n:Int))-k)),.int .i64 e] ty1) b2=none ->
   appW S ty 1 24 [.slice none 0 0] (.slice ao ops.length co) (.slice (some ⟨b2,0,none⟩) 1 1) (upd (upd g b1 (.cells #[.int .i64 s,.int .i64 (IntKind.i64.wrap ((if(n:Int)>m then m else(n:Int))-k)),.int .i64 e] ty1)) b2 (.cells #[.slice (some ⟨b1,0,none⟩) 3 3] ty2))
    fun v h'=>jv sh [.slice (slA v) (slL v) (slC v),.int .i64 (if(n:Int)>m then m else(n:Int))]->K [.slice (slA v) (slL v) (slC v),.int .i64 (if(n:Int)>m then m else(n:Int))] h':=by
 intro b1 hb1 b2 hb2;obtain⟨q,hq,q1,q2,q3⟩:∃q:Nat,(if(n:Int)>m then m else(n:Int))=q/\(q:Int)<=m/\k<=(q:Int)/\q<=n:=by
  by_cases h:(n:Int)>m
  ·obtain⟨z,rfl⟩:=vU (show 0<=m by omega);exact⟨z,vP h,by omega,hk.2.1,by omega⟩
  ·exact⟨n,vM h,by omega,hkn,by omega⟩
 rw[hq]at hb2 ⊢;have w:IntKind.i64.wrap ((q:Int)-k)=q-k:=zr;rw[w]at hb2 ⊢;refine OSt.app (s:=s) (x:=q-k) (e:=e) hi H L (by omega) hb1 hb2 fun a2 c2 h2 L2=>?_
 simp only[zd,zc,ze];exact fun _=>hK _ _ _ _ q L2 (by simp) (UX ho ⟨hs,by simp only;omega,he⟩) (by omega) (by omega)
theorem SI(hi:qaC S h0)(H:zI h0 h b T code a c)(U:Part .i64 h (.slice ax xs.length cx) xs)(hub:zh (.slice ax xs.length cx)≠some b)(hx:∀y∈xs,0<=y/\y<=15)(hxl:xs.length<=1000){ops:List Op}(L:OSt h0 h g b T code a c (.slice ao ops.length co) ops)(hol:ops.length<=1000)(ho:∀o∈ops,o.ok)(h1:1<=n)(hin:i+n<=xs.length)(hf:f=true->3<=n)(K0 K1 K2 K3 K4 K5:Kt)(hK:PkK h0 h b T code a c ops n K5){Q:Value->qaA->Prop}(e2 e6 e7 e8 e9 e10 e11 e12 e13 e14 e15 e16 e17 e18 e19 e20 e21 e22:Value) :
  pkD.wp oPP S yb Q [.pointer (some ⟨b,0,none⟩),.slice ax xs.length cx,e2,.slice ao ops.length co,.int .i64 i,.int .i64 n,e6,e7,e8,e9,e10,e11,e12,e13,e14,e15,e16,e17,e18,e19,e20,e21,e22,.bool f] g [K0,K1,K2,K3,K4,K5]:=by
 simp only[pkD,Tr.wp,Ex.ev,coerce,toInt_int,za,zc,ze,zd,zf,zM,xL,z9,arith,Cst.val,zy,zq,vA,vB,vC,vQ,vL,vD,vE,vI,vH,vW];refine⟨fun hfl=>M8 hi H L hol ho h1 (uI n) (by omega) (by omega) (by omega) (by have:=hf hfl;omega) (by omega) hK,fun _=>?_⟩;have P:=qw U hub L.F;obtain⟨_,g2,g3⟩:=xR P (show i<xs.length by omega);refine⟨g2,by omega,by omega,xs[i],by rw[vN];exact g3,fun b1 hb1 b2 hb2=>?_⟩;have hxi:=hx xs[i] (uX _);refine OSt.app (s:=xs[i]) (x:=0) (e:=0) hi H L (by omega) hb1 hb2 fun a2 c2 h2 L2=>?_
 simp only[zd,zc,ze];exact fun _=>hK _ _ _ _ 1 L2 (by simp) (UX ho ⟨by simp only;omega,by simp only;omega,by simp only;omega⟩) (by omega) (by omega)
theorem Xn(hi:qaC S h0)(H:zI h0 h b T code a c)(hl:code.length<=1048576)(U:Part .i64 h (.slice ax xs.length cx) xs)(hub:zh (.slice ax xs.length cx)≠some b)(hx:∀y∈xs,0<=y/\y<=15)(hxl:xs.length<=1000){ops:List Op}(L:OSt h0 h g b T code a c (.slice ao ops.length co) ops)(hol:ops.length<=1000)(ho:∀o∈ops,o.ok)(h1:1<=n)(hin:i+n<=xs.length)(hf:f=true->3<=n)(K0 K1 K2 K3 K4:Kt)(hK:PkK h0 h b T code a c ops n K4){Q:Value->qaA->Prop}(e2 e6 e7 e8 e9 e10 e11 e12 e13 e14 e15 e16 e17:Value) :
  pkB.wp oPP S yb Q [.pointer (some ⟨b,0,none⟩),.slice ax xs.length cx,e2,.slice ao ops.length co,.int .i64 i,.int .i64 n,e6,e7,e8,e9,e10,e11,e12,e13,e14,e15,e16,e17,.bool f] g [K0,K1,K2,K3,K4]:=by
 simp only[pkB,Tr.wp,z4,Ex.ev,coerce,toInt_int,za,zc,ze,zd,zf,zx,zM,xg,xL,z9,arith,Cst.val,SV.den,zn,zL,zz,zk,zi,zy,zq,vF,vG,vA,vB,vC,vQ,vL,vR,vD,vE,vI,vH,vJ,vW,vV,vK];have P:=qw U hub L.F;obtain⟨_,g2,g3⟩:=xR P (show i<xs.length by omega);refine⟨fun hfl=>M8 hi H L hol ho h1 (uI n) (by omega) (by omega) (by omega) (by have:=hf hfl;omega) (by omega) hK,fun _=>⟨fun hpos=>?_,fun _ _=>?_⟩⟩
 ·obtain⟨j,rfl⟩:∃j,i=j+1:=⟨i-1,by omega⟩;have wj:IntKind.i64.wrap (((j+1:Nat):Int)-1)=((j:Nat):Int):=zr;rw[wj];obtain⟨_,g4,g5⟩:=xR P (show j<xs.length by omega);refine⟨g2,by omega,by omega,xs[j],by rw[vN];exact g5,g2,by omega,by omega,xs[j+1],by rw[vN];exact g3,fun hc=>?_,fun _ _=>?_⟩
  ·have h3:3<=n:=by simp at hc;omega
   refine(zU hi L.C hl 5).mono ?_;rintro _ h4 ⟨x,rfl,x0,x1,C4,f4⟩;refine⟨_,rfl,fun _=>?_⟩;refine SI hi H U hub hx hxl (L.step H C4 fun y _=>f4 y) hol ho h1 hin (fun _=>h3) _ _ _ _ _ _ ?_ _ _ _ _ _ _ _ _ _ _ _ _ _ _ _ _ _ _;exact fun a2 c2 h2 ops2 n2 L2 k1 k2 k3 k4 _=>hK a2 c2 h2 ops2 n2 L2 k1 k2 k3 k4
  ·refine SI hi H U hub hx hxl L hol ho h1 hin (fun e=>by cases e) _ _ _ _ _ _ ?_ _ _ _ _ _ _ _ _ _ _ _ _ _ _ _ _ _ _;exact fun a2 c2 h2 ops2 n2 L2 k1 k2 k3 k4 _=>hK a2 c2 h2 ops2 n2 L2 k1 k2 k3 k4
 ·refine SI hi H U hub hx hxl L hol ho h1 hin (fun e=>by cases e) _ _ _ _ _ _ ?_ _ _ _ _ _ _ _ _ _ _ _ _ _ _ _ _ _ _;exact fun a2 c2 h2 ops2 n2 L2 k1 k2 k3 k4 _=>hK a2 c2 h2 ops2 n2 L2 k1 k2 k3 k4
theorem Ol(hi:qaC S h0)(H:zI h0 h b T code a c)(hl:code.length<=1048576)(U:Part .i64 h (.slice ax xs.length cx) xs)(hub:zh (.slice ax xs.length cx)≠some b)(hx:∀y∈xs,0<=y/\y<=15)(hxl:xs.length<=1000){ops:List Op}(L:OSt h0 h g b T code a c (.slice ao ops.length co) ops)(hol:ops.length<=1000)(ho:∀o∈ops,o.ok)(h1:1<=n)(hin:i+n<=xs.length)(hf:f=true->11<=n)(K0 K1 K2 K3:Kt)
  (hK:∀(a2:Option Addr) (c2:Nat) (h2:qaA) (ops2:List Op) (n2:Nat),OSt h0 h h2 b T code a c (.slice a2 ops2.length c2) ops2->ops2.length=ops.length+1->(∀o∈ops2,o.ok)->1<=n2->n2<=n->K0 [.slice a2 ops2.length c2,.int .i64 ((i+n2:Nat):Int)] h2){Q:Value->qaA->Prop}(e2 e6 e7 e8 e9 e10 e11:Value) :
  pkA.wp oPP S yb Q [.pointer (some ⟨b,0,none⟩),.slice ax xs.length cx,e2,.slice ao ops.length co,.int .i64 i,.int .i64 n,e6,e7,e8,e9,e10,e11,.bool f] g [K0,K1,K2,K3]:=by
 simp only[pkA,Tr.wp,z4,Ex.ev,coerce,toInt_int,za,zc,ze,zd,zf,zx,zM,xg,xL,z9,arith,Cst.val,SV.den,zn,zL,zz,zk,zi,zy,zq,vF,vG,vA,vB,vC,vQ,vL,vD,vE,vI,vH,vJ,vW,vV,vK];have P:=qw U hub L.F;obtain⟨_,g2,g3⟩:=xR P (show i<xs.length by omega);have hK4:∀ {K:Kt},(∀a2 c2 h2 ops2 n2,K0 [.slice a2 ops2 c2,.int .i64 (IntKind.i64.wrap ((i:Int)+(n2:Nat)))] h2->K [.slice a2 ops2 c2,.int .i64 (n2:Nat)] h2)->PkK h0 h b T code a c ops n K:=fun hh a2 c2 h2 ops2 n2 L2 k1 k2 k3 k4=>by
  have w:IntKind.i64.wrap ((i:Int)+(n2:Nat))=((i+n2:Nat):Int):=zr;exact hh _ _ _ _ _ (by rw[w];exact hK a2 c2 h2 ops2 n2 L2 k1 k2 k3 k4)
 refine⟨fun hfl=>?_,fun _=>⟨g2,by omega,by omega,xs[i],by rw[vN];exact g3,fun hc=>?_,fun _ _=>?_⟩⟩
 ·exact M8 (K:=fun us h'=>K0 [.slice (slA (us.getD 0 undef)) (slL (us.getD 0 undef)) (slC (us.getD 0 undef)),.int .i64 (IntKind.i64.wrap ((i:Int)+toInt (us.getD 1 undef)))] h') hi H L hol ho h1 (uI n) (by omega) (by omega) (by omega) (by have:=hf hfl;omega) (by omega) (hK4 fun _ _ _ _ _ h=>h)
 ·have h3:3<=n:=by simp at hc;omega
  refine(zU hi L.C hl 5).mono ?_;rintro _ h4 ⟨x,rfl,x0,x1,C4,f4⟩;refine⟨_,rfl,fun _=>?_⟩;refine Xn hi H hl U hub hx hxl (L.step H C4 fun y _=>f4 y) hol ho h1 hin (fun _=>h3) _ _ _ _ _ ?_ _ _ _ _ _ _ _ _ _ _ _ _ _;exact hK4 fun _ _ _ _ _ h _=>h
 ·refine Xn hi H hl U hub hx hxl L hol ho h1 hin (fun e=>by cases e) _ _ _ _ _ ?_ _ _ _ _ _ _ _ _ _ _ _ _ _;exact hK4 fun _ _ _ _ _ h _=>h
theorem WN(hi:qaC S h0)(H:zI h0 h b T code a c)(hl:code.length<=1048576)(U:Part .i64 h (.slice ax xs.length cx) xs)(hub:zh (.slice ax xs.length cx)≠some b)(hx:∀y∈xs,0<=y/\y<=15)(hxl:xs.length<=1000) :
  zb oPP S Co #[.pointer (some ⟨b,0,none⟩),.slice ax xs.length cx] h (fun v h'=>∃a2 c2 ops,v=.slice a2 ops.length c2/\ops.length<=1000/\(∀o∈ops,o.ok)/\OSt h0 h h' b T code a c v ops):=by
 refine Kv (vs:=[.pointer (some ⟨b,0,none⟩),.slice ax xs.length cx]) ⟨rfl,rfl,trivial⟩ (hi.sub H.sub) ?_;rw[Gt];simp only[Tr.wp,z4,Ex.ev,coerce,toInt_int,za,zc,ze,zd,zf,zx,zM,xg,z9,arith,Cst.val,SV.den,zn,zL,zz,zk,zi,zy,zV,zq,vF,vG,vA,vB,vC,vQ,vL,vR,vD,vE,vI,vH,vJ,vW,vV,vK];intro b0 hb0;refine⟨fun us h'=>∃(a1:Option Addr) (c1 i:Nat) (ops:List Op),us=[.slice a1 ops.length c1,.int .i64 i]/\i<=xs.length/\ops.length<=i/\(∀o∈ops,o.ok)/\OSt h0 h h' b T code a c (.slice a1 ops.length c1) ops,
  fun us _=>xs.length-(toInt (us.getD 1 undef)).toNat,⟨_,_,0,[],rfl,by omega,by simp,(fun o ho=>by cases ho),OSt.new H hb0⟩,?_⟩
 rintro a1 l1 c1 x g ⟨a1',c1',i,ops,hx1,hi2,hol,ho,L⟩;simp only[uJ,uP,uH,pF,vW]at hx1;obtain⟨⟨rfl,rfl,rfl⟩,rfl⟩:=hx1;refine⟨fun hlt=>?_,fun hge=>⟨_,_,ops,rfl,by omega,ho,L⟩⟩;have P:=qw U hub L.F;have hil:i<xs.length:=by omega
 obtain⟨_,g2,g3⟩:=xR P hil;refine⟨fun us h'=>∃n:Nat,us=[.int .i64 n]/\1<=n/\i+n<=xs.length/\h'=g,fun us _=>xs.length-(toInt (us.getD 0 undef)).toNat,⟨1,rfl,by omega,by omega,rfl⟩,?_⟩;rintro x h' ⟨n,hx2,h1,hin,rfl⟩;simp only[uJ,uP,pF,vW]at hx2;subst hx2;have win:IntKind.i64.wrap ((i:Int)+(n:Int))=((i+n:Nat):Int):=zr;have w1:IntKind.i64.wrap ((n:Int)+1)=((n+1:Nat):Int):=zr;rw[win,w1];have done':∀ {us:List Value} {hh:qaA},(∃(a1:Option Addr) (c1 i':Nat) (ops':List Op),us=[.slice a1 ops'.length c1,.int .i64 i']/\i'<=xs.length/\ops'.length<=i'/\(∀o∈ops',o.ok)/\OSt h0 h hh b T code a c (.slice a1 ops'.length c1) ops'/\i<i') ->
   (∃(a1:Option Addr) (c1 i:Nat) (ops:List Op),us=[.slice a1 ops.length c1,.int .i64 i]/\i<=xs.length/\ops.length<=i/\(∀o∈ops,o.ok)/\OSt h0 h hh b T code a c (.slice a1 ops.length c1) ops)/\xs.length-(toInt (us.getD 1 undef)).toNat<xs.length-(toInt (Value.int .i64 (i:Int))).toNat:=by
  rintro us hh ⟨a3,c3,i3,ops3,rfl,q1,q2,q3,q4,q5⟩;refine⟨⟨a3,c3,i3,ops3,rfl,q1,q2,q3,q4⟩,?_⟩;simp only[vB,vA,toInt_int];omega
 refine⟨fun hc=>?_,fun hc=>?_⟩
 ·have hc':i+n<xs.length:=by omega
  obtain⟨_,g4,g5⟩:=xR P hc';refine⟨g2,by omega,by omega,xs[i+n],by rw[vN];exact g5,g2,by omega,by omega,xs[i],by rw[vN];exact g3,fun _=>⟨fun _=>⟨⟨n+1,rfl,by omega,by omega,rfl⟩,by simp only[vA,toInt_int];omega⟩,fun _=>?_⟩⟩;refine⟨g2,by omega,by omega,xs[i],by rw[vN];exact g3,fun hd=>?_,fun _ _=>?_⟩
  ·have h11:11<=n:=by simp at hd;omega
   refine(zU hi L.C hl 5).mono ?_;rintro _ h4 ⟨x,rfl,x0,x1,C4,f4⟩;refine⟨_,rfl,fun _=>?_⟩;refine Ol hi H hl U hub hx hxl (L.step H C4 fun y _=>f4 y) (by omega) ho h1 hin (fun _=>h11) _ _ _ _ ?_ _ _ _ _ _ _ _;exact fun a2 c2 h2 ops2 n2 L2 k1 k2 k3 k4=>done' ⟨a2,c2,i+n2,ops2,rfl,by omega,by omega,k2,L2,by omega⟩
  ·refine Ol hi H hl U hub hx hxl L (by omega) ho h1 hin (fun e=>by cases e) _ _ _ _ ?_ _ _ _ _ _ _ _;exact fun a2 c2 h2 ops2 n2 L2 k1 k2 k3 k4=>done' ⟨a2,c2,i+n2,ops2,rfl,by omega,by omega,k2,L2,by omega⟩
 ·refine fun _=>⟨fun e=>e.elim,fun _=>?_⟩
  refine⟨g2,by omega,by omega,xs[i],by rw[vN];exact g3,fun hd=>?_,fun _ _=>?_⟩
  ·have h11:11<=n:=by simp at hd;omega
   refine(zU hi L.C hl 5).mono ?_;rintro _ h4 ⟨x,rfl,x0,x1,C4,f4⟩;refine⟨_,rfl,fun _=>?_⟩;refine Ol hi H hl U hub hx hxl (L.step H C4 fun y _=>f4 y) (by omega) ho h1 hin (fun _=>h11) _ _ _ _ ?_ _ _ _ _ _ _ _;exact fun a2 c2 h2 ops2 n2 L2 k1 k2 k3 k4=>done' ⟨a2,c2,i+n2,ops2,rfl,by omega,by omega,k2,L2,by omega⟩
  ·refine Ol hi H hl U hub hx hxl L (by omega) ho h1 hin (fun e=>by cases e) _ _ _ _ ?_ _ _ _ _ _ _ _;exact fun a2 c2 h2 ops2 n2 L2 k1 k2 k3 k4=>done' ⟨a2,c2,i+n2,ops2,rfl,by omega,by omega,k2,L2,by omega⟩
end
end
variable {ab am:Option Addr}{cb cm:Nat}{ms:List Int}
section
def Lp(h0 h:qaA)(b:Nat)(T:TypeId)(code:List Int)(a:Option Addr)(c:Nat)(m:Nat)(v:Value)(h':qaA):Prop:=
 ∃a2 c2 zs,v=.slice a2 zs.length c2/\zs.length<=m/\jE zs/\GSt .u8 h0 h h' b T code a c (.slice a2 zs.length c2) zs
theorem sub_eq(s:qaB g h1){y:Nat}(hy:g y≠none):h1 y=g y:=by
 cases hh:g y with
 | none=>exact absurd hh hy
 | some o=>exact s y o hh
theorem ORd.sub{ops:List Op}(L:ORd h v ops)(s:qaB h h'):ORd h' v ops:=
 L.same (fun y hy=>sub_eq s (L.P.held y hy)) fun o ho=>by obtain⟨ty,e⟩:=L.I o ho;exact sub_eq s (by rw[e];simp)
theorem ORd.held{ops:List Op}(L:ORd h v ops){o:Op}(ho:o∈ops):h o.i≠none:=by obtain⟨ty,e⟩:=L.I o ho;rw[e];simp
theorem Rest.ord{v v2 w:Value}{ops:List Op}(R:Rest g v h2 v2)(L:ORd g w ops)(hn:∀y,zh w=some y->zh v≠some y)(hm:∀o∈ops,zh v≠some o.i):ORd h2 w ops:=
 L.same (fun y hy=>(R y (L.P.held y hy) (hn y hy)).1) fun o ho=>(R o.i (L.held ho) (hm o ho)).1
theorem CodesAt.get{ac:Option Addr}{l:Nat}(C:CodesAt h ac l cs)(hs:s<l):(!ac.isNone)=true/\∃n x:Nat,zj h (((ac.getD default).add (s*2)).add 0)=some (.int .i64 n)/\zj h (((ac.getD default).add (s*2)).add 1)=some (.int .u64 x)/\n<=15/\x<32768:=by
 obtain⟨⟨ps,hp,hl,_,hc⟩,_,_⟩:=C;have hs2:s<ps.length:=by omega
 obtain⟨n,x,e,_,n1,x1⟩:=hc s ps[s] (vO hs2);obtain⟨g1,g2,g3⟩:=hp.cell (vO hs2);rw[e]at g1 g2;have:2^n<=2^15:=uW (by decide) n1;refine⟨by simpa using g3,n,x,?_,?_,n1,by omega⟩
 ·rw[add_add,uB];exact g1
 ·rw[add_add];exact g2
theorem zaC(hi:qaC S h0)(H:zI h0 h b T code a c)(B:GSt .u8 h0 h g b T code a c (.slice ab bs.length cb) bs)(o1:jE bs)(hbl:bs.length<=2000)
  {ops:List Op}(O:ORd g (.slice ao ops.length co) ops)(hol:ops.length<=1000)(ho:∀o∈ops,o.ok)(hO:∀y,zh (.slice ao ops.length co)=some y->zh (.slice ab bs.length cb)≠some y)(hI:∀o∈ops,zh (.slice ab bs.length cb)≠some o.i)
  (M:Part .i64 g (.slice am ms.length cm) ms)(hm:ms.length=19)(fm:wU ms)(K0 K1 K2 K3 K4 K5:Kt)(e1 e2 e3 e4 e5 e6 e7 e8 e10 e11 e12 e13 e15 e16 e17 e19:Value) :
  hdC.wp oPP S yb (Lp h0 h b T code a c 60000) [.pointer (some ⟨b,0,none⟩),e1,e2,e3,e4,e5,e6,e7,e8,.slice ao ops.length co,e10,e11,e12,e13,.slice am ms.length cm,e15,e16,e17,.slice ab bs.length cb,e19] g [K0,K1,K2,K3,K4,K5]:=by
 simp only[hdC,Tr.wp,z4,Ex.ev,coerce,toInt_int,za,zc,ze,zd,zf,zM,z9,arith,Cst.val,SV.den,zn,zL,zz,zk,zi,zy,zV,zq,vF,vG,vA,vB,vC,vQ,vL,vR,vD,vE,vI,vH,vJ,vW,vV,vK];refine zb.mono (xY (hi.sub B.C.sub) (v:=.slice am ms.length cm) (xs:=ms) M (show ms.length<=1048576 by omega)) ?_;rintro v h1 ⟨Oc,Nc,sc⟩;have hc0:xp h1 v (y8 ms):=Oc;obtain⟨ac,cc,rfl,C⟩:=B8 hc0 (HH fm);refine⟨_,_,_,rfl,?_⟩;have B1:=B.sub H sc;refine⟨fun us h'=>∃(a1:Option Addr) (c1 i:Nat) (zs:List Int),us=[.slice a1 zs.length c1,.int .i64 i]/\i<=ops.length/\zs.length<=2000+40*i/\jE zs/\GSt .u8 h0 h h' b T code a c (.slice a1 zs.length c1) zs/\Rest h1 (.slice ab bs.length cb) h' (.slice a1 zs.length c1),
  fun us _=>ops.length-(toInt (us.getD 1 undef)).toNat,⟨_,_,0,bs,rfl,by omega,by omega,o1,B1,Rest.refl⟩,?_⟩
 rintro a1 l1 c1 x h' ⟨a1',c1',i,zs,hx1,hi2,hz,oz,L,R⟩;simp only[uJ,uP,uH,pF,vW]at hx1;obtain⟨⟨rfl,rfl,rfl⟩,rfl⟩:=hx1;refine⟨fun hlt=>?_,fun hge=>⟨_,_,zs,rfl,by omega,oz,L⟩⟩;have hil:i<ops.length:=by omega
 have O':=R.ord (O.sub sc) hO hI;have C':CodesAt h' ac ms.length (zl ms):=C.same (c:=cc) fun z hz=>(R z (hc0.held z hz) (fun e=>by have:=Nc z hz;have:=B.P.held z e;contradiction)).1
 obtain⟨_,n1,p1,p2,p3,p4⟩:=O'.get hil;obtain⟨⟨s0,s1⟩,⟨x0,x1⟩,q0,q1⟩:=ho ops[i] (uX hil);obtain⟨s,hs⟩:=vU s0;rw[hs]at p2;obtain⟨n2,l,w,r1,r2,l15,w15⟩:=C'.get (s:=s) (by omega);have at0:∀(q n:Nat) (k:Int),k.toNat=n->((((some (⟨q,0,none⟩:Addr)).getD default).add (k.toNat*1)).add 0)=(⟨q,n,none⟩:Addr):=fun q n k e=>by rw[e];simp[zu]
 have w2:IntKind.i64.wrap ((i:Int)+1)=((i+1:Nat):Int):=zr;have wx:IntKind.u64.wrap ops[i].x=ops[i].x:=u64_in _ (by omega);refine⟨n1,by omega,hlt,_,_,_,by rw[vN];exact p1,rfl,rfl,by omega,s,by rw[at0 _ 0 _ rfl];exact p2,n2,by omega,by omega,w,by rw[vN,add_add,uB];exact r2,n2,by omega,by omega,l,by rw[vN,add_add,uB];exact r1,?_⟩;refine(wD hi H L (by omega) oz (x:=w) (n:=l)).mono ?_;rintro _ h2 ⟨a2,c2,zs2,rfl,hz2,oz2,L2,R2⟩;have R':=R.trans R2;obtain⟨_,_,u1,u2,u3,u4⟩:=(R'.ord (O.sub sc) hO hI).get hil;refine⟨_,_,_,rfl,n1,by omega,hlt,_,_,_,by rw[vN];exact u1,rfl,rfl,by omega,ops[i].x,by rw[at0 _ 1 _ rfl];exact u3,n1,by omega,hlt,_,_,_,by rw[vN];exact u1,rfl,rfl,by omega,ops[i].e,by rw[at0 _ 2 _ rfl];exact u4,?_⟩;rw[wx,w2];refine(wD hi H L2 (by omega) oz2 (x:=ops[i].x) (n:=ops[i].e)).mono ?_;rintro _ h3 ⟨a3,c3,zs3,rfl,hz3,oz3,L3,R3⟩;have R'':=R'.trans R3;obtain⟨_,_,v1,v2,v3,v4⟩:=(R''.ord (O.sub sc) hO hI).get hil;refine⟨_,_,_,rfl,?_⟩;refine⟨fun p hp=>?_,⟨_,_,i+1,zs3,rfl,by omega,by omega,oz3,L3,R''⟩,?_⟩
 ·simp only[uM,uO,pM]at hp;rcases hp with rfl | rfl
  ·simp only[Ex.ev,coerce,toInt_int,zc,ze,zd,zf,Cst.val,vA,vB];simpa[zu]using v3
  ·rw[add_add,uB]at v1;simp only[Ex.ev,coerce,toInt_int,zc,ze,zd,zf,vA,vB];rw[vN];exact v1
 ·simp only[vB,vA,toInt_int];omega
theorem Xo(hi:qaC S h0)(H:zI h0 h b T code a c)(B:GSt .u8 h0 h g b T code a c (.slice ab bs.length cb) bs)(o1:jE bs)(hbl:bs.length<=100)
  {ops:List Op}(O:ORd g (.slice ao ops.length co) ops)(hol:ops.length<=1000)(ho:∀o∈ops,o.ok)(hO:∀y,zh (.slice ao ops.length co)=some y->zh (.slice ab bs.length cb)≠some y)(hI:∀o∈ops,zh (.slice ab bs.length cb)≠some o.i)
  (M:Part .i64 g (.slice am ms.length cm) ms)(hM:∀y,zh (.slice am ms.length cm)=some y->zh (.slice ab bs.length cb)≠some y)(hm:ms.length=19)(fm:wU ms)(hm7:∀y∈ms,y<=7)(hn:4<=n/\n<=19)(K0 K1 K2 K3:Kt)(e1 e2 e3 e4 e6 e7 e8 e10 e11 e12 e13 e16:Value) :
  hdP.wp oPP S yb (Lp h0 h b T code a c 60000) [.pointer (some ⟨b,0,none⟩),e1,e2,e3,e4,.slice ab bs.length cb,e6,e7,e8,.slice ao ops.length co,e10,e11,e12,e13,.slice am ms.length cm,.int .i64 n,e16] g [K0,K1,K2,K3]:=by
 simp only[hdP,Tr.wp,z4,Ex.ev,coerce,toInt_int,za,zc,ze,zd,zf,zM,z9,arith,Cst.val,SV.den,zn,zL,zz,zk,zi,zy,zV,zq,vF,vG,vA,vB,vC,vQ,vL,vR,vD,vE,vI,vH,vJ,vW,vV,vK];have wn:IntKind.u64.wrap (IntKind.i64.wrap ((n:Int)-4))=((n-4:Nat):Int):=by rw[i64_in _ (by omega),u64_in _ (by omega)];omega
 rw[wn];refine(wD hi H B (by omega) o1 (x:=((n-4:Nat):Int)) (n:=4)).mono ?_;rintro _ h1 ⟨a1,c1,bs1,rfl,hz1,oz1,B1,R1⟩;refine⟨_,_,_,rfl,?_⟩;refine⟨fun us h'=>∃(a1:Option Addr) (c1 i:Nat) (zs:List Int),us=[.slice a1 zs.length c1,.int .i64 i]/\i<=n/\zs.length<=104+3*i/\jE zs/\GSt .u8 h0 h h' b T code a c (.slice a1 zs.length c1) zs/\Rest g (.slice ab bs.length cb) h' (.slice a1 zs.length c1),
  fun us _=>n-(toInt (us.getD 1 undef)).toNat,⟨_,_,0,bs1,rfl,by omega,by simp at hz1;omega,oz1,B1,R1⟩,?_⟩
 rintro a2 l2 c2 x h' ⟨a2',c2',i,zs,hx1,hi2,hz,oz,L,R⟩;simp only[uJ,uP,uH,pF,vW]at hx1;obtain⟨⟨rfl,rfl,rfl⟩,rfl⟩:=hx1;refine⟨fun hlt=>?_,fun hge=>?_⟩
 ·have hin:i<n:=by omega
  refine(Hq (hi.sub L.C.sub)).mono ?_;rintro _ h2 ⟨b1,T1,hb1,rfl,rfl⟩;have s2:qaB h' (upd h' b1 (.cells (ints .i64 (ord.map Int.ofNat)) T1)):=Sub.zC hb1;have PO:Part .i64 (upd h' b1 (.cells (ints .i64 (ord.map Int.ofNat)) T1)) (.slice (some ⟨b1,0,none⟩) 19 19) (ord.map Int.ofNat):=(Own.made (ord.map Int.ofNat)).part;obtain⟨_,g2,g3⟩:=xR PO (i:=i) (show i<19 by omega);obtain⟨q,hq⟩:∃q,q=(ord.map Int.ofNat)[i]'(show i<19 by omega):=⟨_,rfl⟩;have hq2:0<=q/\q<19:=(show ∀y∈ord.map Int.ofNat,0<=y/\y<19 by decide) q (by rw[hq];exact uX _);rw[<-hq]at g3;obtain⟨q,rfl⟩:=vU hq2.1;have M2:=(R.part M hM).sub s2;obtain⟨_,g4,g5⟩:=xR M2 (i:=q);have hv:=fm.1 ms[q] (uX _);have wv:IntKind.u64.wrap ms[q]=ms[q]:=u64_in _ (by omega);have w1:IntKind.i64.wrap ((i:Int)+1)=((i+1:Nat):Int):=zr;refine⟨_,_,_,rfl,g2,by omega,by omega,q,by rw[vN];exact g3,g4,by omega,by omega,ms[q],by rw[vN];exact g5,?_⟩;rw[wv,w1];refine(wD hi H (L.sub H s2) (by omega) oz (x:=ms[q]) (n:=3)).mono ?_;rintro _ h3 ⟨a3,c3,zs3,rfl,hz3,oz3,L3,R3⟩;have RS:Rest h' (.slice a2 zs.length c2) (upd h' b1 (.cells (ints .i64 (ord.map Int.ofNat)) T1)) (.slice a2 zs.length c2):=fun y hy hn=>⟨sub_eq s2 hy,hn⟩
  refine⟨_,_,_,rfl,⟨_,_,i+1,zs3,rfl,by omega,by simp at hz3;omega,oz3,L3,(R.trans RS).trans R3⟩,?_⟩;simp only[vB,vA,toInt_int];omega
 ·refine zaC hi H L oz (by omega) (R.ord O hO hI) hol ho (fun y hy=>(R y (O.P.held y hy) (hO y hy)).2) (fun o ho'=>(R o.i (O.held ho') (hI o ho')).2) (R.part M hM) hm fm _ _ _ _ _ _ _ _ _ _ _ _ _ _ _ _ _ _ _ _ _ _
theorem zaD(hi:qaC S h0)(H:zI h0 h b T code a c)(hl:code.length<=1048576)(B:GSt .u8 h0 h g b T code a c (.slice ab bs.length cb) bs)(o1:jE bs)(hbl:bs.length<=100)
  {ops:List Op}(O:OSt h0 h g b T code a c (.slice ao ops.length co) ops)(hol:ops.length<=1000)(ho:∀o∈ops,o.ok)(hO:∀y,zh (.slice ao ops.length co)=some y->zh (.slice ab bs.length cb)≠some y)(hI:∀o∈ops,zh (.slice ab bs.length cb)≠some o.i)
  (U:GSt .i64 h0 h g b T code a c (.slice au us.length cu) us)(hul:us.length<=400)(hur:∀y∈us,0<=y/\y<19)(K0 K1:Kt)(e1 e2 e3 e4 e6 e7 e8 e10 e11 e12:Value) :
  hdS.wp oPP S yb (Lp h0 h b T code a c 60000) [.pointer (some ⟨b,0,none⟩),e1,e2,e3,e4,.slice ab bs.length cb,e6,e7,e8,.slice ao ops.length co,e10,e11,e12,.slice au us.length cu] g [K0,K1]:=by
 simp only[hdS,Tr.wp,z4,Ex.ev,coerce,toInt_int,za,zc,ze,zd,zf,zx,zM,z9,arith,Cst.val,SV.den,zn,zL,zz,zk,zi,zy,zV,zq,vF,vG,vA,vB,vC,vQ,vL,vR,vD,vE,vI,vH,vJ,vW,vV,vK];have K:=FU hi B.C hl 19 (by omega) U.P (U.ne H) hul hur 7;refine zb.mono K ?_;rintro _ h1 ⟨am,cm,ms,rfl,⟨lm,fm,m7⟩,M1⟩;refine⟨_,_,_,rfl,?_⟩;have B1:=B.step H M1.C M1.F;have O1:=(O.step H M1.C M1.F).rd;have hM:∀y,zh (.slice am ms.length cm)=some y->zh (.slice ab bs.length cb)≠some y:=fun y hy e=>B.P.held y e (M1.N y hy)
 refine⟨fun us h'=>∃n:Nat,us=[.int .i64 n]/\4<=n/\n<=19/\qaB h1 h',fun us _=>(toInt (us.getD 0 undef)).toNat,⟨19,rfl,by omega,by omega,fun _ _ e=>e⟩,?_⟩;rintro x h' ⟨n,hx1,hn1,hn2,s⟩;simp only[uJ,uP,pF,vW]at hx1;subst hx1;refine⟨fun hgt=>?_,fun hle=>?_⟩
 ·have hn4:4<n:=by omega
  refine(Hq (hi.sub (M1.C.sub.trans s))).mono ?_;rintro _ h2 ⟨b1,T1,hb1,rfl,rfl⟩;have s2:qaB h' (upd h' b1 (.cells (ints .i64 (ord.map Int.ofNat)) T1)):=Sub.zC hb1;have PO:Part .i64 (upd h' b1 (.cells (ints .i64 (ord.map Int.ofNat)) T1)) (.slice (some ⟨b1,0,none⟩) 19 19) (ord.map Int.ofNat):=(Own.made (ord.map Int.ofNat)).part;have hi19:n-1<(ord.map Int.ofNat).length:=show n-1<19 by omega
  obtain⟨_,g2,g3⟩:=xR PO hi19;obtain⟨q,hq⟩:∃q,q=(ord.map Int.ofNat)[n-1]:=⟨_,rfl⟩;have hq2:0<=q/\q<19:=(show ∀y∈ord.map Int.ofNat,0<=y/\y<19 by decide) q (by rw[hq];exact uX _);rw[<-hq]at g3;obtain⟨q,rfl⟩:=vU hq2.1;have M2:=(M1.P.sub s).sub s2;obtain⟨_,g4,g5⟩:=xR M2 (i:=q);have w1:IntKind.i64.wrap ((n:Int)-1)=((n-1:Nat):Int):=by rw[i64_in _ (by omega)];omega
  rw[w1];refine⟨_,_,_,rfl,g2,by omega,by omega,q,by rw[vN];exact g3,g4,by omega,by omega,ms[q],by rw[vN];exact g5,fun _=>⟨fun _=>⟨⟨n-1,rfl,by omega,by omega,s.trans s2⟩,by simp only[vA,toInt_int];omega⟩,fun _=>?_⟩⟩;have st:=s.trans s2;exact Xo hi H (B1.sub H st) o1 hbl (O1.sub st) hol ho hO hI (M1.P.sub st) hM lm fm m7 ⟨hn1,hn2⟩ _ _ _ _ _ _ _ _ _ _ _ _ _ _ _ _
 ·refine fun _=>⟨fun e=>e.elim,fun _=>?_⟩
  exact Xo hi H (B1.sub H s) o1 hbl (O1.sub s) hol ho hO hI (M1.P.sub s) hM lm fm m7 ⟨hn1,hn2⟩ _ _ _ _ _ _ _ _ _ _ _ _ _ _ _ _
theorem SJ(hi:qaC S h0)(H:zI h0 h b T code a c)(hl:code.length<=1048576){a1 a2:Option Addr}{c1 c2:Nat}(X:Part .i64 h (.slice a1 xs.length c1) xs)(hxb:zh (.slice a1 xs.length c1)≠some b)(D:Part .i64 h (.slice a2 ds.length c2) ds)(hdb:zh (.slice a2 ds.length c2)≠some b)(hx:257<=xs.length/\xs.length<=288)(hd:1<=ds.length/\ds.length<=32)(fx:wU xs)(fd:wU ds) :
  zb oPP S AO #[.pointer (some ⟨b,0,none⟩),.slice a1 xs.length c1,.slice a2 ds.length c2] h (Lp h0 h b T code a c 60000):=by
 refine I3 (vs:=[.pointer (some ⟨b,0,none⟩),.slice a1 xs.length c1,.slice a2 ds.length c2]) ⟨rfl,rfl,rfl,trivial⟩ (hi.sub H.sub) ?_;rw[DY];simp only[Tr.wp,z4,Ex.ev,coerce,toInt_int,za,zc,ze,zd,zf,zx,zM,z9,arith,Cst.val,SV.den,zn,zL,zz,zk,zi,zy,zV,zq,vF,vG,vA,vB,vC,vQ,vL,vR,vD,vE,vI,vH,vJ,vW,vV,vK];intro b0 hb0;have B0:GSt .u8 h0 h (upd h b0 (.cells #[] 5)) b T code a c (.slice (some ⟨b0,0,none⟩) 0 0) []:=GSt.new H hb0 [];have wx:IntKind.u64.wrap (IntKind.i64.wrap ((xs.length:Int)-257))=((xs.length-257:Nat):Int):=by rw[i64_in _ (by omega),u64_in _ (by omega)];omega
 have wd:IntKind.u64.wrap (IntKind.i64.wrap ((ds.length:Int)-1))=((ds.length-1:Nat):Int):=by rw[i64_in _ (by omega),u64_in _ (by omega)];omega
 rw[wx];refine(wD hi H (ys:=[]) B0 (by simp) (fun z hz=>by cases hz) (x:=((xs.length-257:Nat):Int)) (n:=5)).mono ?_;rintro _ g1 ⟨ab,cb,bs,rfl,hz1,oz1,B1,_⟩;refine⟨_,_,_,rfl,?_⟩;rw[wd];refine(wD hi H B1 (by simp at hz1;omega) oz1 (x:=((ds.length-1:Nat):Int)) (n:=5)).mono ?_;rintro _ g2 ⟨ab2,cb2,bs2,rfl,hz2,oz2,B2,_⟩;refine⟨_,_,_,rfl,fun b1 hb1=>?_⟩;have X2:=qw X hxb B2.F;have D2:=qw D hdb B2.F;have E3:GSt .i64 h0 g2 (upd g2 b1 (.cells #[] 2)) b T code a c (.slice (some ⟨b1,0,none⟩) 0 0) []:=GSt.new B2.C hb1 [];obtain⟨_,_,ex,_,hx2⟩:=X2.ints;cases ex
 refine GSt.apps hi B2.C E3 (fun _ _ e=>e) (hx2.sub (Sub.zC hb1)) (by omega) (by simp;omega) fun a4 c4 h4 E4 _=>?_
 simp only[zd,zc,ze];have E4:GSt .i64 h0 g2 h4 b T code a c (.slice a4 xs.length c4) xs:=E4;obtain⟨_,_,ed,_,hd4⟩:=(qw D2 hdb E4.F).ints;cases ed
 refine GSt.apps hi B2.C E4 (fun _ _ e=>e) hd4 (by omega) (by omega) fun a5 c5 h5 E5 _=>?_
 simp only[zd,zc,ze];have B5:=B2.step H E5.C E5.F;have hall:∀y∈xs++ds,0<=y/\y<=15:=fun y hy=>(pU.1 hy).elim (fx.1 y) (fd.1 y)
 refine(WN hi E5.C hl E5.P (E5.ne B2.C) hall (by rw[vY];omega)).mono ?_;rintro _ h6 ⟨ao,co,ops,rfl,hol,ho,O6⟩;have hO:∀y,zh (.slice ao ops.length co)=some y->zh (.slice ab2 bs2.length cb2)≠some y:=fun y hy e=>B5.P.held y e (O6.N y hy)
 have hI:∀o∈ops,zh (.slice ab2 bs2.length cb2)≠some o.i:=fun o ho' e=>B5.P.held _ e (O6.I o ho').1
 have B6:=B5.step H O6.C O6.F;have O6':=O6.base B5.F B5.C.held;refine⟨_,_,_,rfl,fun b2 hb2=>?_⟩;refine⟨fun us h'=>∃(a1:Option Addr) (c1 s:Nat) (ys:List Int),us=[.slice a1 ys.length c1,.int .i64 s]/\s<=19/\ys.length<=s/\(∀y∈ys,0<=y/\y<(s:Int))/\GSt .i64 h0 h6 h' b T code a c (.slice a1 ys.length c1) ys,
  fun us _=>19-(toInt (us.getD 1 undef)).toNat,⟨_,_,0,[],rfl,by omega,by simp,by simp,GSt.new O6.C hb2 []⟩,?_⟩
 rintro au lu cu x h7 ⟨au',cu',s,us,hx1,hs,hu,hr,U⟩;simp only[uJ,uP,uH,pF,vW]at hx1;obtain⟨⟨rfl,rfl,rfl⟩,rfl⟩:=hx1;have fin:∀ {g:qaA} {av:Option Addr} {cv:Nat} {vs:List Int},GSt .i64 h0 h6 g b T code a c (.slice av vs.length cv) vs->vs.length<=400->(∀y∈vs,0<=y/\y<19)->∀(K0 K1:Kt) (e1 e2 e3 e4 e6 e7 e8 e10 e11 e12:Value),hdS.wp oPP S yb (Lp h0 h b T code a c 60000) [.pointer (some ⟨b,0,none⟩),e1,e2,e3,e4,.slice ab2 bs2.length cb2,e6,e7,e8,.slice ao ops.length co,e10,e11,e12,.slice av vs.length cv] g [K0,K1]:=fun V hv hvr K0 K1 e1 e2 e3 e4 e6 e7 e8 e10 e11 e12=>
  zaD hi H hl (B6.step H V.C V.F) oz2 (by simp at hz1 hz2;omega) (O6'.step H V.C V.F) hol ho hO hI (V.base B6.F B6.C.held) hv hvr K0 K1 e1 e2 e3 e4 e6 e7 e8 e10 e11 e12
 refine⟨fun hlt=>?_,fun hge=>?_⟩
 ·have w1:IntKind.i64.wrap ((s:Int)+1)=((s+1:Nat):Int):=zr;rw[w1];refine(xP hi U.C hl 12).mono ?_;rintro _ h8 ⟨t,rfl,C8,f8⟩;have U8:=U.cur O6.C C8 f8;have R8:=(O6'.step H U8.C U8.F).rd;refine⟨_,rfl,?_⟩;refine⟨fun us h'=>∃(t:Bool) (j:Nat),us=[.bool t,.int .i64 j]/\j<=ops.length/\h'=h8,fun us _=>ops.length-(toInt (us.getD 1 undef)).toNat,⟨t,0,rfl,by omega,rfl⟩,?_⟩;rintro t' y h9 ⟨t2,j,hx2,hj,rfl⟩;simp only[uJ,uP,Value.bool.injEq,pF,vW]at hx2;obtain⟨rfl,rfl⟩:=hx2;have w2:IntKind.i64.wrap ((j:Int)+1)=((j+1:Nat):Int):=zr;rw[w2];have meas:19-(toInt (Value.int .i64 ((s+1:Nat):Int))).toNat<19-(toInt (Value.int .i64 (s:Int))).toNat:=by rw[toInt_int,toInt_int];omega
  refine⟨fun hlt2=>?_,fun hge2=>⟨fun ht b3 hb3=>?_,fun ht _=>?_⟩⟩
  ·have hjl:j<ops.length:=by omega
   obtain⟨_,n1,p1,p2,_,_⟩:=R8.get hjl;have mj:ops.length-(toInt (Value.int .i64 ((j+1:Nat):Int))).toNat<ops.length-(toInt (Value.int .i64 (j:Int))).toNat:=by rw[toInt_int,toInt_int];omega
   refine⟨fun _=>⟨n1,by omega,hlt2,_,_,_,by rw[vN];exact p1,rfl,rfl,by omega,ops[j].s,by simpa[zu]using p2,fun _=>⟨⟨_,j+1,rfl,by omega,rfl⟩,mj⟩⟩,fun _ _=>⟨⟨_,j+1,rfl,by omega,rfl⟩,mj⟩⟩
  ·refine GSt.app hi O6.C U8 (by omega) (by omega) hb3 fun a9 c9 h9 U9 _=>?_
   simp only[zd,zc,ze];exact fun _=>⟨⟨_,_,s+1,_,rfl,by omega,by simp;omega,Is (p:=fun y=>0<=y/\y<((s+1:Nat):Int)) (fun y hy=>by have:=hr y hy;omega),U9⟩,meas⟩
  ·exact⟨⟨_,_,s+1,us,rfl,by omega,by omega,fun y hy=>by have:=hr y hy;omega,U8⟩,meas⟩
 ·have hr19:∀y∈us,0<=y/\y<19:=fun y hy=>by have:=hr y hy;omega
  refine⟨fun h1=>?_,fun _ _=>fin U (by omega) hr19 _ _ _ _ _ _ _ _ _ _ _ _⟩;have h1:us.length=1:=by simp at h1;omega
  obtain⟨_,n1,p1⟩:=U.cell (show 0<us.length by omega);have hr0:=hr19 us[0] (uX _);have ld:∀ {g:qaA},(∀y,zh (.slice au us.length cu)=some y->g y=h7 y)->zj g ((au.getD default).add (Int.toNat 0*1))=some (.int .i64 us[0]):=fun f=>by
   have:=(xR (U.P.keep f) (show 0<us.length by omega)).2.2;simpa[add_add]using this
  have ld0:∀ {g:qaA},(∀y,zh (.slice au us.length cu)=some y->g y=h7 y)->zj g (((au.getD default).add (Int.toNat 0*1)).add 0)=some (.int .i64 us[0]):=fun f=>by rw[add_add,uB];exact ld f
  have same0:∀y,zh (.slice au us.length cu)=some y->h7 y=h7 y:=fun _ _=>rfl
  obtain⟨q,hq,q0,q1⟩:∃q,q=(IntKind.i64.wrap (us[0]+1)).tmod 19/\0<=q/\q<19:=⟨_,rfl,by rw[i64_in _ (by omega),uA (by omega)];omega,by rw[i64_in _ (by omega),uA (by omega)];omega⟩;have two:∀y∈([]:List Int)++[us[0],q],0<=y/\y<19:=fun y hy=>by
   simp only[vH,uM,uO,pM]at hy;rcases hy with rfl | rfl <;> omega
  refine⟨n1,rfl,by omega,us[0],ld0 same0,n1,rfl,by omega,us[0],ld0 same0,?_⟩;rw[<-hq];refine⟨fun b3 hb3=>?_,fun b3 hb3=>?_⟩
  ·have s3:qaB h7 (upd h7 b3 (.cells #[] 2)):=Sub.zC hb3;have V3:GSt .i64 h0 h7 (upd h7 b3 (.cells #[] 2)) b T code a c (.slice (some ⟨b3,0,none⟩) 0 0) []:=GSt.new U.C hb3 [];have k3:∀y,zh (.slice au us.length cu)=some y->upd h7 b3 (.cells #[] 2) y=h7 y:=fun y hy=>sub_eq s3 (U.P.held y hy)
   refine⟨fun p hp=>?_,fun b4 hb4=>?_⟩
   ·simp only[uM,uO,pM]at hp;rcases hp with rfl | rfl <;> (simp only[Ex.ev,coerce,toInt_int,zc,ze,zd,zf,Cst.val,vA,vB,vH];exact ld k3)
   have s4:qaB (upd h7 b3 (.cells #[] 2)) (upd (upd h7 b3 (.cells #[] 2)) b4 (.cells #[.int .i64 us[0],.int .i64 q] 2)):=Sub.zC hb4;have k4:∀y,zh (.slice au us.length cu)=some y->upd (upd h7 b3 (.cells #[] 2)) b4 (.cells #[.int .i64 us[0],.int .i64 q] 2) y=h7 y:=fun y hy=>sub_eq (s3.trans s4) (U.P.held y hy)
   refine⟨fun p hp=>?_,?_⟩
   ·simp only[uM,uO,pM]at hp;rcases hp with rfl;simp only[Ex.ev,coerce,toInt_int,zc,ze,zd,zf,Cst.val,vA,vB,vH];exact ld k4
   refine GSt.apps hi U.C V3 (zs:=[us[0],q]) s4 (zo.new (xs:=[us[0],q])) (by omega) (by simp) fun a9 c9 h9 V9 kp9=>?_
   have k9:∀y,zh (.slice au us.length cu)=some y->h9 y=h7 y:=fun y hy=>by
    rw[kp9 y (by rw[k4 y hy];exact U.P.held y hy) (fun e=>by cases e;exact U.P.held _ hy hb3),k4 y hy]
   simp only[zd,zc,ze];refine⟨fun p hp=>?_,fun _=>?_⟩
   ·simp only[uM,uO,pM]at hp;rcases hp with rfl;simp only[Ex.ev,coerce,toInt_int,zc,ze,zd,zf,Cst.val,vA,vB,vH,uC,uG,uD];exact ld k9
   ·exact fun _=>fin (V9.base U.F U.C.held) (by simp) two _ _ _ _ _ _ _ _ _ _ _ _
  ·have s3:qaB h7 (upd h7 b3 (.cells #[.int .i64 us[0],.int .i64 q] 2)):=Sub.zC hb3;have k3:∀y,zh (.slice au us.length cu)=some y->upd h7 b3 (.cells #[.int .i64 us[0],.int .i64 q] 2) y=h7 y:=fun y hy=>sub_eq s3 (U.P.held y hy)
   refine⟨fun p hp=>?_,fun b4 hb4=>?_⟩
   ·simp only[uM,uO,pM]at hp;rcases hp with rfl;simp only[Ex.ev,coerce,toInt_int,zc,ze,zd,zf,Cst.val,vA,vB,vH];exact ld k3
   have C3:=U.C.mono s3;have s4:qaB (upd h7 b3 (.cells #[.int .i64 us[0],.int .i64 q] 2)) (upd (upd h7 b3 (.cells #[.int .i64 us[0],.int .i64 q] 2)) b4 (.cells #[] 2)):=Sub.zC hb4;have V4:GSt .i64 h0 (upd h7 b3 (.cells #[.int .i64 us[0],.int .i64 q] 2)) (upd (upd h7 b3 (.cells #[.int .i64 us[0],.int .i64 q] 2)) b4 (.cells #[] 2)) b T code a c (.slice (some ⟨b4,0,none⟩) 0 0) []:=GSt.new C3 hb4 [];have k4:∀y,zh (.slice au us.length cu)=some y->upd (upd h7 b3 (.cells #[.int .i64 us[0],.int .i64 q] 2)) b4 (.cells #[] 2) y=h7 y:=fun y hy=>sub_eq (s3.trans s4) (U.P.held y hy)
   refine⟨fun p hp=>?_,?_⟩
   ·simp only[uM,uO,pM]at hp;rcases hp with rfl;simp only[Ex.ev,coerce,toInt_int,zc,ze,zd,zf,Cst.val,vA,vB,vH];exact ld k4
   refine GSt.apps hi C3 V4 (zs:=[us[0],q]) (fun _ _ e=>e) ((zo.new (xs:=[us[0],q])).sub s4) (by omega) (by simp) fun a9 c9 h9 V9 kp9=>?_
   have k9:∀y,zh (.slice au us.length cu)=some y->h9 y=h7 y:=fun y hy=>by
    rw[kp9 y (by rw[k4 y hy];exact U.P.held y hy) (fun e=>by cases e;have:=k3 _ hy;rw[hb4]at this;exact U.P.held _ hy this.symm),k4 y hy]
   simp only[zd,zc,ze];refine⟨fun p hp=>?_,fun _=>?_⟩
   ·simp only[uM,uO,pM]at hp;rcases hp with rfl;simp only[Ex.ev,coerce,toInt_int,zc,ze,zd,zf,Cst.val,vA,vB,vH,uC,uG,uD];exact ld k9
   ·exact fun _=>fin (V9.base (fun y hy hne=>by rw[sub_eq s3 (by rw[U.F y hy hne];exact hy),U.F y hy hne]) C3.held) (by simp) two _ _ _ _ _ _ _ _ _ _ _ _
end
end
end Go.Proofs.YtopmdepgpabipaaGreatDoor
